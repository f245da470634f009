/- Plain proofs, part 1. -/
import Derived.Test.YtnojdbmhfbhdjaaGreatGiQA
import Derived.Test.YtnojdbmhfbhdjaaGreatGiXS
set_option linter.unusedVariables false
set_option linter.unusedSimpArgs false
set_option maxRecDepth 100000
namespace Go.Ab.Gi
open Go.Ab
structure fZ (B C:BT):Prop where
 len:C.1.length=B.1.length
 sum:qG (fun i=>(C.1.getD i ad).1) B.1.length=qG (fun i=>(B.1.getD i ad).1) B.1.length
 cred:∀i,i<B.1.length→(C.1.getD i ad).2.1=(B.1.getD i ad).2.1
 bil:C.2.1=B.2.1
 mul:C.2.2.1=B.2.2.1
 fell:∀i,i<B.1.length→(C.1.getD i ad).1<(B.1.getD i ad).1→0≤(C.1.getD i ad).1+(C.1.getD i ad).2.1
theorem fZ.refl B:fZ B B:=⟨rfl,rfl,by simp,rfl,rfl,by simp⟩
theorem fZ.trans {B C D}(h:fZ B C)(g:fZ C D):fZ B D:=
 ⟨g.len.trans h.len,by have:=g.sum;rw[h.len] at this;exact this.trans h.sum,fun i hi=>(g.cred i (by rw[h.len];exact hi)).trans (h.cred i hi),g.bil.trans h.bil,g.mul.trans h.mul,fun i hi=>by
  have h1:=h.fell i hi;have h2:=g.fell i (by rw[h.len];exact hi);have h3:=g.cred i (by rw[h.len];exact hi);omega⟩
theorem yQv i:∀{l},(∀p∈l,0≤p.2.2.2.1)→0≤zP (gB i) l+(zP (gN i) l+zP (gR i) l)
 |[],_=>Int.le_refl _
 |p::l,h=>by
  have h1:=yQv i fun q hq=>h q (List.mem_cons_of_mem _ hq)
  have h2:=h p (by simp);have h3:0≤gB i p+(gN i p+gR i p):=by
   unfold gB gN gR;omega
  show 0≤gB i p+zP (gB i) l+(gN i p+zP (gN i) l+(gR i p+zP (gR i) l));omega
theorem vTk {a a' b p p' m l}(x:uD a.length a p l a' p')(hf:xQ a b m p l=true)(hl:∀q∈l,yN a.length q){i}(hi:i<a.length):
  (a'.getD i ad).1<(a.getD i ad).1→0≤(a'.getD i ad).1+(a'.getD i ad).2.1:=by
 have h1:=yQv i (l:=l) fun q hq=>by have:=(hl q hq).a1;omega
 unfold xQ at hf;rw[aR] at hf;have h2:=wI.1 hf.2 i hi;unfold hY at h2;rw[x.acct i hi];grind
theorem yLx {B}(h:qR B){l}(hf:xV B l=true){r}(hp:sM B.1 B.2.1 B.2.2.1 B.2.2.2 l r):fZ B (r.1,r.2.1,r.2.2.1,r.2.2.2.1):=by
 have hs:=(QB h hp).1;by_cases c:wH B.1.length l
 ·obtain⟨a',p',x,e⟩:=hp.1 c;cases hi:kP a' B.2.1 B.2.2.1 p' with
  |false=>rw[hi] at e;subst e;exact fZ.refl B
  |true=>
   rw[hi] at e;subst e;exact⟨x.al,hs,fun i bJ=>by show(a'.getD i ad).2.1=_;rw[x.acct i bJ],rfl,rfl,fun i bJ=>vTk x hf c.1 bJ⟩
 ·rw[hp.2 c];exact fZ.refl B
theorem vF1 {k}(hk:100<k){B C}(h:qR B){l}(hl:l.length≤80)(hg:iG k B l=some C):fZ B C:=by
 obtain⟨r,h1,h3⟩:=P5 hk h hl;unfold iG at hg;rw[h1] at hg;simp only at hg;cases hc:decide (r.2.2.2.2=0)&&xV B l with
 |false=>simp_all
 |true=>
  rw[hc] at hg;simp  at hg;subst hg;rw[aR] at hc;exact yLx h hc.2 h3
theorem hZ.keptC {k}(hk:100<k){t B C l done m}(h:hZ k t B l done C m)(hb:qR B):fZ B C:=by
 induction h with
 |stop _=>exact fZ.refl _
 |@step B C D l m done p h h' ih=>
  have hg:=(B9 h).2;exact(vF1 hk hb (by simp) hg).trans (ih (sU hk hb (by simp) hg).1)
theorem jV.keptC {k}(hk:100<k){t B C l done m}(h:jV k t B l done C m)(hb:qR B):fZ B C:=by
 induction h with
 |stop _=>exact fZ.refl _
 |@step B C D l m done p q h h' ih=>
  have hg:=(QF h).2.2.2;exact(vF1 hk hb (by simp) hg).trans (ih (sU hk hb (by simp) hg).1)
theorem hZ.bk {k}(hk:100<k){t B C l done m}(h:hZ k t B l done C m)(hb:qR B):qR C:=by
 induction h with
 |stop _=>exact hb
 |step h h' ih=>exact ih (sU hk hb (by simp) (B9 h).2).1
theorem jV.bk {k}(hk:100<k){t B C l done m}(h:jV k t B l done C m)(hb:qR B):qR C:=by
 induction h with
 |stop _=>exact hb
 |step h h' ih=>exact ih (sU hk hb (by simp) (QF h).2.2.2).1
theorem mr.keptC {k}(hk:100<k){t B C l done m}(h:mr k t B l done C m)(hb:qR B):fZ B C:=by
 induction h with
 |stop h1 _=>exact h1.keptC hk hb
 |step h1 h2 ne h' ih=>
  have b1:=h1.bk hk hb;exact((h1.keptC hk hb).trans (h2.keptC hk b1)).trans (ih (h2.bk hk b1))
theorem vOq {k}(hk:200≤k){B}(hb:qR B){l:List zH}(hl:∀q∈l,yN B.1.length q)(bQ:l.length≤64) t {C:BT}{m done:List zH}(hr:Cd k B.1 B.2.1 B.2.2.1 B.2.2.2 l t=some (C.1,C.2.1,C.2.2.1,C.2.2.2,m,done)):fZ B C:=by
 obtain⟨f,n,h,hn⟩:=ZE hb hl bQ t;have rW:=ya l t;have cP:=xY (vA l t) f;have QM:=cP.length_le;obtain⟨r,h1,h3⟩:=P5 (k:=k) (by omega) hb (l:=vJ (vA l t) f) (by omega);have g1:=ZQ (k:=k) (by omega) hb hl bQ t (by omega) h h1;unfold GC at g1;rw[g1] at hr;cases c:decide (r.2.2.2.2=0) with
 |false=>
  rw[c] at hr;simp  at hr;obtain⟨e1,e2,e3,e4,_⟩:=hr;have:B=C:=by grind
  rw[←this];exact fZ.refl B
 |true=>
  have:(r.1,r.2.1,r.2.2.1,r.2.2.2.1)=C:=by grind
  rw[←this];refine yLx hb ?_ h3;have hw:=LV (LW (t:=t) hl) (by omega) f;have hs:=Zz.1 h.final;unfold xV xQ;rw[BS.2 hw.1,aa hw.2];simp;rw[wI];intro j hj;have:=hs j hj;unfold uP at this;simp_all
theorem vXr {C D:BT}{m n d e:List zH}(h:(C.1,C.2.1,C.2.2.1,C.2.2.2,m,d)=(D.1,D.2.1,D.2.2.1,D.2.2.2,n,e)):C=D∧m=n∧d=e:=by
 grind
theorem vEo {k}(hk:200≤k){B}(hb:qR B){l}(hd:qK l)(hl:∀q∈l,yN B.1.length q)(bQ:l.length≤64) t all {X:BT}{mx dx:List zH}
  (hr:yc k B.1 B.2.1 B.2.2.1 B.2.2.2 l t all=some (X.1,X.2.1,X.2.2.1,X.2.2.2,mx,dx)):fZ B X:=by
 obtain⟨C,m,d,f1,f2,f3,f4,f5⟩:=GO hk hb hd (by omega) t;have q1:=f2.keptC (by omega) hb;have p1:=f2.perm hd;have l1:=p1.length_eq;rw[ay] at l1;unfold yc at hr;rw[f1] at hr;simp only[ae] at hr;cases all with
 |false=>
  grind
 |true=>
  have hm:qK m:=List.Pairwise.sublist f5 hd;have OO:∀q∈m,yN C.1.length q:=fun q hq=>by grind
  obtain⟨D,n,x,g1,g2,g3,g4,g5,g6⟩:=ZR hk f3 hm OO (by omega) t;have q2:=vOq hk f3 OO (by omega) t g1;have l2:=g5.length_eq;rw[ay] at l2;rw[g1] at hr;simp only[ae] at hr;cases x with
  |nil=>
   grind
  |cons p x=>
   have e1:decide ((((p::x).length:Nat):Int)=0)=false:=by grind
   rw[e1] at hr;simp only[ak] at hr;have hn:qK n:=List.Pairwise.sublist g4 hm;obtain⟨E,o,y,k1,k2,k3,k4,k5⟩:=GO hk g2 hn (by omega) t;have q3:=k2.keptC (by omega) g2;have p3:=k2.perm hn;have l3:=p3.length_eq;rw[ay] at l3;have r1:zM (d.length+(p::x).length) 56=true:=by grind
   have r2:zM ((d++(p::x)).length+y.length) 56=true:=by grind
   rw[k1] at hr;simp only[ae,r1,r2,ai] at hr;have rZ:some (E.1,E.2.1,E.2.2.1,E.2.2.2,o,d++(p::x)++y)=some (X.1,X.2.1,X.2.2.1,X.2.2.2,mx,dx):=hr;rw[←(vXr (Option.some.inj rZ)).1];exact(q1.trans q2).trans q3
theorem ZW {k}(hk:200≤k){B}(hb:qR B){m}(hd:qK m)(hm:∀q∈m,yN B.1.length q)(bQ:m.length≤64) pa (sa:List (Int×Int)) cu cl pe t (ht:0≤t∧t<1099511627776)(Ma:pe≠0) pr ho ids to:
  ∃(C:BT) (m':List zH) (ov:Bool) (o:List yI),yh k pa sa cu cl pe t B.1 B.2.1 B.2.2.1 B.2.2.2 pr ho m ids to false=some (t+1,C.1,C.2.1,C.2.2.1,C.2.2.2,pr,ho,m',ids,to,ov,o)∧ZV t cl B C m m' ov o∧fZ B C∧(ov=false→fW k C (wE m' (t+1))=none)∧
   ((ov=true∧m'=[]∧o=m.map (wP 22)++iX B B.1.length∧C=B)∨∃l d n,o=l.map (wP 21)++vT d∧List.Perm (l++n) m∧List.Perm (d++m') n∧ov=false):=by
 have ie:=hb.n6;have w:zA (t+1)=t+1:=zO (by omega) (by omega);unfold yh Cg;simp only[w,ak,ae];cases hc:decide (t+1=cl) with
 |true=>
  simp only[ai];rw[yL5 ie hk (by omega)];simp only[ae];refine⟨B,[],true,_,rfl,⟨hb,rfl,List.nil_sublist m,hc.symm,fun _=>rfl,(fun e=>by cases e),(fun p hp=>by cases hp),fun p hp _=>?_,fun q hq=>?_,?_⟩,fZ.refl B,(fun e=>by cases e),.inl ⟨rfl,rfl,rfl,rfl⟩⟩
  ·rw[Cf,(GU (.inr rfl) hd).1 hp,yX0]
  ·rw[Cf,(GU (.inr rfl) hd).2 hq,yX0]
  ·rw[ay,List.length_map];unfold iX;rw[List.length_map,List.length_range];simp;omega
 |false=>
  simp only[ak];rw[yXr hk (by omega)];simp only[ae];have hs:∃x,G1 k pa sa cu cl pe (t+1)=some x:=by
   unfold G1;cases decide (t+1>0) with
   |false=>exact⟨_,rfl⟩
   |true=>
    cases decide (t+1<cl) with
    |false=>exact⟨_,rfl⟩
    |true=>
     have:decide (pe=0)=false:=ab Ma;rw[this];exact⟨_,rfl⟩
  obtain⟨x,hx⟩:=hs;rw[hx];simp only[ae];have cP:List.Sublist (m.filter (fun p=> !vD (t+1) p)) m:=List.filter_sublist;have dz:=cP.length_le;have sY:qK (m.filter (fun p=> !vD (t+1) p)):=List.Pairwise.sublist cP hd;obtain⟨C,m',d,f1,f2,f3,f4,f5,f6,f7⟩:=vLp hk hb sY (fun q hq=>hm q (cP.subset hq)) (by omega) (t+1) x;have hlen:=f5.length_eq;rw[ay] at hlen;have hSt:uR k (t+1) B.1 B.2.1 B.2.2.1 B.2.2.2 pr ho (m.filter (fun p=> !vD (t+1) p)) ids to false x=some (t+1,C.1,C.2.1,C.2.2.1,C.2.2.2,pr,ho,m',ids,to,false,vT d):=by
   unfold uR;rw[f1];simp only[ae];rw[yZ7 (by omega) (by omega)];rfl
  rw[hSt];have agS:(m.filter (vD (t+1))).length+(m.filter (fun p=> !vD (t+1) p)).length=m.length:=by
   rw[←List.countP_eq_length_filter,←List.countP_eq_length_filter];have:=List.length_eq_countP_add_countP (vD (t+1)) (l:=m);simp only[Bool.not_eq_true,Bool.decide_eq_false] at this;exact this.symm
  have Ek:=GP d;have hr:zM (((m.filter (vD (t+1))).map (wP 21)).length+(vT d).length) 64=true:=qE (by rw[List.length_map];omega) (by rw[List.length_map];omega);simp only[ae,hr,ai];have hdd:qK (d++m'):=sY.perm f5;have uS:qK d:=(List.pairwise_append.1 hdd).1;have hdm:∀p∈d,p∈m.filter (fun p=> !vD (t+1) p):=by grind
  have nf:∀p∈d,yN B.1.length p:=fun p hp=>hm p (cP.subset (hdm p hp))
  have uT:qK (m.filter (vD (t+1))):=hd.filter _;have yi:∀p∈m,vD (t+1) p=false→∀q∈m.filter (vD (t+1)),q.1≠p.1:=by
   intro p hp hl q hq e;have h1:=List.mem_filter.1 hq;have:=hd.eq_of h1.1 hp e;subst this;rw[hl] at h1;exact absurd h1.2 (by simp)
  refine⟨C,m',false,_,rfl,⟨f2,f3,f4.trans cP,hc.symm,(fun e=>by cases e),fun _ p hp=>?_,fun p hp=>?_,fun p hp hn=>?_,fun q hq=>?_,?_⟩,vEo hk hb sY (fun q hq=>hm q (cP.subset hq)) (by omega) (t+1) x f1,(fun _=>f6),.inr ⟨m.filter (vD (t+1)),d,m.filter (fun p=> !vD (t+1) p),rfl,List.filter_append_perm _ _,f5,rfl⟩⟩
  ·have:=(List.mem_filter.1 (f4.subset hp)).2
   simpa using this
  ·have h1:=List.mem_filter.1 (f4.subset hp);have hl:vD (t+1) p=false:=by simpa using h1.2
   rw[Cf,(GU (.inl rfl) uT).2 (yi p h1.1 hl),(QR uS nf).2 (hdd.not_in (l:=d) hp)]
  ·cases hl:vD (t+1) p with
   |true=>
    have h1:p∈m.filter (vD (t+1)):=List.mem_filter.2 ⟨hp,hl⟩;have h2:∀q∈d,q.1≠p.1:=by
     grind
    rw[Cf,(GU (.inl rfl) uT).1 h1,(QR uS nf).2 h2]
   |false=>
    have h1:p∈m.filter (fun p=> !vD (t+1) p):=List.mem_filter.2 ⟨hp,by rw[hl];rfl⟩;have h2:p∈d:=by
     rcases List.mem_append.1 (f5.symm.subset h1) with h|h
     ·exact h
     ·exact absurd h hn
    rw[Cf,(GU (.inl rfl) uT).2 (yi p hp hl),(QR uS nf).1 h2]
  ·rw[Cf,(GU (.inl rfl) uT).2 (by grind),(QR uS nf).2 (fun p hp=>hq p (cP.subset (hdm p hp)))]
  ·rw[ay,List.length_map];simp;omega
abbrev jL:=EQ
abbrev qP:=Int×List og×Int×Int×Int
abbrev jF:=Int×Int×Int×Int×Int×Int×Int
abbrev ZX:=Int×List og×Int×Int×Int×Int×List qY×jL×AC×jL×AC×jL×List zH×AC×Int×Bool×Int×List yI
structure qD where
 t:Int
 B:BT
 pr:AC
 ho:jL
 m:List zH
 ids:AC
 to:Int
 ov:Bool
abbrev sZ:=Int×List qY×jL×AC×jL×AC×jL×List zH×AC×Int×Bool
def qD.st (s:qD):sZ:=(s.t,s.B.1,s.B.2.1,s.B.2.2.1,s.B.2.2.2,s.pr,s.ho,s.m,s.ids,s.to,s.ov)
def dk (r:qP)(s:qD)(who:Int)(l:List yI):ZX:=(r.1,r.2.1,r.2.2.1,r.2.2.2.1,r.2.2.2.2,s.t,s.B.1,s.B.2.1,s.B.2.2.1,s.B.2.2.2,s.pr,s.ho,s.m,s.ids,s.to,s.ov,who,l)
structure wT (r:qP):Prop where
 pa:1≤r.1∧r.1≤6
 n3:r.2.1.length≤3
 price:∀i,i<r.2.1.length→0≤(r.2.1.getD i uL).1∧(r.2.1.getD i uL).1≤1048576
 cut:∀i,i<r.2.1.length→0≤(r.2.1.getD i uL).2∧(r.2.1.getD i uL).2≤10000
 cu:0≤r.2.2.1∧r.2.2.1≤r.2.2.2.1
 cl:1≤r.2.2.2.1∧r.2.2.2.1≤1048576
 pe:1≤r.2.2.2.2∧r.2.2.2.2≤1048576
def ng (m:List zH):Prop:=List.Pairwise (fun p q=>wB p q=true) m
structure kU (n:Nat) (m:List zH) (ids:AC):Prop where
 dist:qK m
 len:m.length≤40
 sort:ng m
 may:∀p∈m,yN n p
 time:∀p∈m,0≤p.2.2.2.2.2.1∧p.2.2.2.2.2.1≤p.2.2.2.2.2.2∧p.2.2.2.2.2.2≤1048576
 were:∀p∈m,p.1∈ids
 asc:qp ids
 pos:∀x∈ids,1≤x
 idl:ids.length≤200
structure yD (r:qP) (s:qD):Prop where
 tk:0≤s.t∧s.t≤r.2.2.2.1
 bk:qR s.B
 n:(s.B.1.length:Int)=r.1
 hol:s.ho.length=s.B.1.length
 laid:∀i,i<s.B.1.length→kh r.2.1 s.pr (s.ho.getD i [])
 cred:∀i,i<s.B.1.length→(s.B.1.getD i ad).2.1=gG r.2.1 s.pr (s.ho.getD i [])
 most:∀i,i<s.B.1.length→(s.B.1.getD i ad).2.1≤1152921504606846976
 waits:kU s.B.1.length s.m s.ids
 sum:qG (fun i=>(s.B.1.getD i ad).1) s.B.1.length=s.to
 tot:0≤s.to∧s.to≤1152921504606846976
 over:s.ov=decide (s.t=r.2.2.2.1)
 none:s.ov=true→s.m=[]
theorem nh k a b c:vH k a b c=some (decide (a≥b)&&decide (a≤c)):=by
 unfold vH;grind
theorem nN {α:Type} c (a b:α):(bif c then some a else some b)=some (bif c then a else b):=by grind
def kV (pa t:Int)(p:zH):Bool:=
 decide (p.2.1≥0)&&decide (p.2.1<pa)&&(decide (p.2.2.1≥0)&&decide (p.2.2.1<pa)&&(decide (p.1≥1)&&(decide (p.2.2.2.1≥1)&&(decide (p.2.2.2.1≤1099511627776)&&(decide (p.2.2.2.2.1≥1)&&(!decide (p.2.1=p.2.2.1)&&(decide (p.2.2.2.2.1≤3)&&(decide (p.2.2.2.2.2.1≥0)&&(decide (p.2.2.2.2.2.1≤p.2.2.2.2.2.2)&&(decide (p.2.2.2.2.2.2≥t)&&decide (p.2.2.2.2.2.2≤1048576)))))))))))
theorem ZY k (r:qP) w:Mb k r w=some (decide (w≥0)&&decide (w<r.1)):=by
 unfold Mb;grind
theorem ZZ k (r:qP) t (p:zH):QT k r t p=some (kV r.1 t p):=by
 unfold QT kV;simp[ZY,nN]
def qy (cu cl t c:Int):Int:=bif decide (t≥cl) then 7 else bif decide (c=3)&&decide (t≥cu) then 7 else 0
theorem vGk k (r:qP) t c:Ch k r t c=some (qy r.2.2.1 r.2.2.2.1 t c):=by
 unfold Ch qy;grind
def ni (r:qP)(t:Int)(p:zH):Int:=bif !kV r.1 t p then 1 else qy r.2.2.1 r.2.2.2.1 t p.2.2.2.2.1
theorem Z0 k (r:qP) t (p:zH):G2 k r t p=some (ni r t p):=by
 unfold G2 ni;rw[ZZ];simp[vGk];grind
def ga (who:Int)(f:jF):zH:=(f.2.1,who,f.2.2)
def iY (r:qP)(s:qD)(who:Int)(f:jF):Int×List zH×AC:=
 bif !(decide (f.2.2.1≥0)&&decide (f.2.2.1≤r.1-1)) then(1,s.m,s.ids)
 else bif !(decide (f.2.2.2.2.1≥1)&&decide (f.2.2.2.2.1≤3)) then(1,s.m,s.ids)
 else bif !decide (ni r s.t (ga who f)=0) then(ni r s.t (ga who f),s.m,s.ids)
 else bif decide (f.2.1∈s.ids) then(6,s.m,s.ids)
 else bif decide (200≤s.ids.length) then(3,s.m,s.ids)
 else bif (vU s.m f.2.1).isSome then(6,s.m,s.ids)
 else bif decide (40≤s.m.length) then(3,s.m,s.ids)
 else(0,pv s.m (ga who f),qq s.ids f.2.1)
theorem vN9 {k}(hk:1000≤k){r}(hr:wT r){s}(h:kU s.B.1.length s.m s.ids) who l f:
  ∃d,QU k (dk r s who l) f.2=some ((iY r s who f).1,d)∧((iY r s who f).1=0→d=dk r {s with m:=(iY r s who f).2.1,ids:=(iY r s who f).2.2} who l):=by
 have hp:=hr.pa;have hi:=h.idl;have hm:=h.len;have w1:zA (r.1-1)=r.1-1:=zO (by omega) (by omega);have eD:QU k (dk r s who l) f.2=(vH k f.2.2.1 0 (zA (r.1-1))).bind fun x0=>
  bif !x0 then some (1,dk r s who l)
  else(vH k f.2.2.2.2.1 1 3).bind fun x1=>
  bif !x1 then some (1,dk r s who l)
  else(G2 k r s.t (ga who f)).bind fun x2=>
  bif !(decide (x2=0)) then some (x2,dk r s who l)
  else(Gj k s.ids f.2.1).bind fun x3=>
  bif !(decide (x3.2=0)) then some (x3.2,dk r s who l)
  else(xT k s.m (ga who f)).bind fun x4=>
  bif !(decide (x4.2=0)) then some (x4.2,dk r s who l)
  else some (0,dk r {s with m:=x4.1,ids:=x3.1} who l):=rfl
 rw[eD,nh,nh,Z0,w1,Zm (by omega) (by omega) h.asc,Zc (by omega) (by omega) (by unfold qT;omega)];simp only[ae];unfold iY;cases decide (f.2.2.1≥0)&&decide (f.2.2.1≤r.1-1) with
 |false=>exact by simp
 |true=>
 cases decide (f.2.2.2.2.1≥1)&&decide (f.2.2.2.2.1≤3) with
 |false=>exact by simp
 |true=>
 by_cases hc:ni r s.t (ga who f)=0
 ·rw[aa hc];by_cases h1:f.2.1∈s.ids
  ·rw[aa h1];exact by simp
  ·rw[ab h1];by_cases h2:200≤s.ids.length
   ·rw[aa h2];exact by simp
   ·rw[ab h2];have e1:(ga who f).1=f.2.1:=rfl;rw[e1];cases(vU s.m f.2.1).isSome with
    |true=>exact by simp
    |false=>
     by_cases h3:40≤s.m.length
     ·rw[aa h3];exact by simp
     ·rw[ab h3];exact by simp
 ·rw[ab hc];exact by simp
def nj (who kd a:Int):yI:=(who,kd,a,0,0,0,0,0)
theorem yQ3 {k l}(hl:l.length≤1000) r s who kd a:yj k (dk r s who l) kd [a]=some (dk r s who (l++[nj who kd a])):=by
 have e:yj k (dk r s who l) kd [a]=bif zM (l.length+1) 64 then some (dk r s who (l++[nj who kd a])) else none:=rfl
 rw[e,qE (by omega) (by omega)];rfl
def kW (r:qP)(s:qD)(who:Int)(f:jF):Int×List zH×List yI:=match vU s.m f.2.1 with
 |none=>(4,s.m,[])
 |some x=>
  bif !decide ((s.m.getD x pd).2.1=who) then(4,s.m,[])
  else bif decide (f.1=2) then(0,yK s.m x,[nj who 20 f.2.1])
  else bif decide (f.1 = 4) then (bif !(decide (f.2.2.1≥1)&&decide (f.2.2.1≤3)) then(1,s.m,[])
   else bif !decide (qy r.2.2.1 r.2.2.2.1 s.t f.2.2.1=0) then(qy r.2.2.1 r.2.2.2.1 s.t f.2.2.1,s.m,[])
   else(0,pv (yK s.m x) ((s.m.getD x pd).1,(s.m.getD x pd).2.1,(s.m.getD x pd).2.2.1,(s.m.getD x pd).2.2.2.1,f.2.2.1,(s.m.getD x pd).2.2.2.2.2.1,(s.m.getD x pd).2.2.2.2.2.2),[]))
  else bif decide (f.2.2.1=0) then(0,LD (yK s.m x) (s.m.getD x pd),[])
  else bif decide (f.2.2.1=1) then(0,pv (yK s.m x) (s.m.getD x pd),[])
  else(1,s.m,[])
theorem vTd {k}(hk:1000≤k){r s}(h:kU s.B.1.length s.m s.ids) who {l}(hl:l.length≤1000)(f:jF):
  ∃d,Ck k (dk r s who l) f=some ((kW r s who f).1,d)∧((kW r s who f).1=0→d=dk r {s with m:=(kW r s who f).2.1} who (l++(kW r s who f).2.2)):=by
 have hm:=h.len;have oU:qT s.m:=by unfold qT;omega
 have eD : Ck k (dk r s who l) f = ((pt k s.m f.2.1).bind fun x0=>
   bif decide (x0<0) then some (((0,0,0,0,0,0,0):zH),(4:Int))
   else bif zB x0 s.m.length then (bif !(decide ((s.m.getD x0.toNat (0,0,0,0,0,0,0)).2.1=who)) then some ((0,0,0,0,0,0,0),4)
    else bif zB x0 s.m.length then some ((s.m.getD x0.toNat (0,0,0,0,0,0,0)),0)
    else none)
   else none).bind fun x0=>
  bif !(decide (x0.2=0)) then some (x0.2,dk r s who l)
  else bif decide (f.1 = 2) then ((qo k s.m f.2.1).bind fun x1=>
   (yj k (dk r {s with m:=x1.1} who l) 20 [f.2.1]).bind fun x2=>
   some (x1.2.2.2.2.2.2.2.2,x2))
  else bif decide (f.1 = 4) then ((vH k f.2.2.1 1 3).bind fun x3=>
   bif !x3 then some (1,dk r s who l)
   else(Ch k r s.t f.2.2.1).bind fun x4=>
   bif !(decide (x4=0)) then some (x4,dk r s who l)
   else(Gd k s.m f.2.1 f.2.2.1).bind fun x5=>
   some (x5.2,dk r {s with m:=x5.1} who l))
  else bif decide (f.2.2.1 = 0) then ((Gg k s.m f.2.1).bind fun x6=>
   some (x6.2,dk r {s with m:=x6.1} who l))
  else bif decide (f.2.2.1 = 1) then ((Ge k s.m f.2.1).bind fun x7=>
   some (x7.2,dk r {s with m:=x7.1} who l))
  else some (1,dk r s who l):=rfl
 rw[eD,F5 (by omega) (by omega)];unfold kW fm;cases hx:vU s.m f.2.1 with
 |none=>exact by simp
 |some x=>
  have dw:=kQ hx;have e1:decide ((x:Int)<0)=false:=by simp
  simp only[ae,e1,ak,zY,aa dw.1,ai,ao];by_cases hw:(s.m.getD x (0,0,0,0,0,0,0)).2.1=who
  ·have xq:(s.m.getD x pd).2.1=who:=hw;rw[aa hw];by_cases h2:f.1=2
   ·rw[aa h2];simp only[ai,B5 (show s.m.length<k by omega) oU,ae,yQ3 hl];unfold iF;rw[hx];exact by simp
   ·rw[ab h2];simp only[ak];by_cases h4:f.1=4
    ·rw[aa h4];simp only[ai,nh,ae,vGk,vRz (show 3≤k by omega) (by grind) oU h.dist hm hx];cases decide (f.2.2.1≥1)&&decide (f.2.2.1≤3) with
     |false=>exact by simp
     |true=>
      simp only[az,ak];by_cases hc:qy r.2.2.1 r.2.2.2.1 s.t f.2.2.1=0
      all_goals simp_all
    ·rw[ab h4];simp only[ak];by_cases h0:f.2.2.1=0
     ·rw[aa h0];simp only[ai,vLw (show 3≤k by omega) (by grind) oU hx,ae];exact by simp
     ·rw[ab h0];simp only[ak];by_cases h1:f.2.2.1=1
      ·rw[aa h1];simp only[ai,Zf (show 3≤k by omega) (by grind) oU h.dist hm hx,ae];exact by simp
      ·rw[ab h1];exact by simp
  ·have xq:¬(s.m.getD x pd).2.1=who:=hw;rw[ab hw];exact by simp
def Z1 (s:qD)(a:List qY)(b:jL)(m:AC):qD:={s with B:=(a,b,m,s.B.2.2.2)}
def kX (r:qP)(s:qD)(who:Int)(f:jF):Int×qD:=
 bif decide (f.1 = 5) then (bif !((decide (f.2.1≥0)&&decide (f.2.1≤r.1-1))&& !decide (f.2.1=who)) then(1,s)
  else bif !(decide (f.2.2.1≥-1)&&decide (f.2.2.1≤1152921504606846976)) then(1,s)
  else(0,Z1 s s.B.1 (s.B.2.1.set who.toNat ((s.B.2.1.getD who.toNat []).set f.2.1.toNat f.2.2.1)) s.B.2.2.1))
 else bif decide (f.1 = 6) then (bif !(decide (f.2.1≥-1)&&decide (f.2.1≤1152921504606846976)) then(1,s)
  else(0,Z1 s s.B.1 s.B.2.1 (s.B.2.2.1.set who.toNat f.2.1)))
 else bif !(decide (f.2.1≥0)&&decide (f.2.1≤1152921504606846976)) then(1,s)
 else(0,Z1 s (s.B.1.set who.toNat ((s.B.1.getD who.toNat ad).1,(s.B.1.getD who.toNat ad).2.1,f.2.1)) s.B.2.1 s.B.2.2.1)
theorem vKk {k}(hk:1000≤k){r}(hr:wT r){s}(hb:qR s.B)(hn:(s.B.1.length:Int)=r.1){who}(hw:0≤who∧who<r.1) l (f:jF):
    ∃d,Cl k (dk r s who l) f=some ((kX r s who f).1,d)∧((kX r s who f).1=0→d=dk r (kX r s who f).2 who l):=by
  have hp:=hr.pa;have w1:zA (r.1-1)=r.1-1:=zO (by omega) (by omega);obtain⟨w,rfl⟩:=Int.eq_ofNat_of_zero_le hw.1;have gH:w<s.B.1.length:=by omega
  have eD:Cl k (dk r s w l) f=(gF k s.B.1 s.B.2.1 s.B.2.2.1 s.B.2.2.2).bind fun x0=>
    bif decide (f.1 = 5) then (((vH k f.2.1 0 (zA (r.1-1))).bind fun x0=>bif x0 then some (!(decide (f.2.1=(w:Int)))) else some false).bind fun x1=>
      bif !x1 then some (1,dk r s w l)
      else(vH k f.2.2.1 (-1) 1152921504606846976).bind fun x2=>
      bif !x2 then some (1,dk r s w l)
      else bif zB (w : Int) x0.2.1.length then (bif zB f.2.1 (x0.2.1.getD (w:Int).toNat []).length then
        some (0,dk r {s with B:=(x0.1,(x0.2.1.set (w:Int).toNat ((x0.2.1.getD (w:Int).toNat []).set f.2.1.toNat f.2.2.1)),x0.2.2.1,x0.2.2.2)} w l)
       else none)
      else none)
    else bif decide (f.1 = 6) then ((vH k f.2.1 (-1) 1152921504606846976).bind fun x3=>
      bif !x3 then some (1,dk r s w l)
      else bif zB (w:Int) x0.2.2.1.length then some (0,dk r {s with B:=(x0.1,x0.2.1,(x0.2.2.1.set (w:Int).toNat f.2.1),x0.2.2.2)} w l)
      else none)
    else(vH k f.2.1 0 1152921504606846976).bind fun x4=>
    bif !x4 then some (1,dk r s w l)
    else bif zB (w:Int) x0.1.length then some (0,dk r {s with B:=((x0.1.set (w:Int).toNat ((x0.1.getD (w:Int).toNat (0,0,0)).1,(x0.1.getD (w:Int).toNat (0,0,0)).2.1,f.2.1)),x0.2.1,x0.2.2.1,x0.2.2.2)} w l)
    else none:=rfl
  rw[eD,KY (by omega) hb.toSized,w1];simp only[ae,nh,zY,ao];unfold kX;rw[ao];by_cases h5:f.1=5
  · rw[aa h5];simp only[ai];cases hc:decide (f.2.1≥0)&&decide (f.2.1≤r.1-1) with
    |false=>exact by simp
    |true=>
      simp  at hc;cases decide (f.2.1=(w:Int)) with
      |true=>exact by simp
      |false=>
        cases decide (f.2.2.1≥-1)&&decide (f.2.2.1≤1152921504606846976) with
        |false=>exact by simp
        |true=>
          have b1:decide (w<s.B.2.1.length)=true:=aa (by rw[hb.bl];exact gH);have b2:zB f.2.1 (s.B.2.1.getD w []).length=true:=wU hc.1 (by rw[hb.br w gH];omega);simp only[ai,ae,bO,az,ak,b1,b2,Bool.and_self];exact⟨_,rfl,fun _=>rfl⟩
  · rw[ab h5];simp only[ak];by_cases h6:f.1=6
    · rw[aa h6];cases decide (f.2.1≥-1)&&decide (f.2.1≤1152921504606846976) with
      |false=>exact by simp
      |true=>
        have b1:decide (w<s.B.2.2.1.length)=true:=aa (by rw[hb.ml];exact gH);simp only[ai,az,ak,b1];exact⟨_,rfl,fun _=>rfl⟩
    · rw[ab h6];cases decide (f.2.1≥0)&&decide (f.2.1≤1152921504606846976) with
      |false=>exact by simp
      |true=>
        have b1:decide (w<s.B.1.length)=true:=by grind
        simp only[ai,az,ak,b1];exact⟨_,rfl,fun _=>rfl⟩
def G3 (s:qD)(w:Nat)(h:AC)(n:Int):Int×qD:=
 bif decide (n>1152921504606846976) then(8,s)
 else bif decide (n<(s.B.1.getD w ad).2.1)&&decide ((s.B.1.getD w ad).1+n<0) then(9,s)
 else(0,{s with B:=(s.B.1.set w ((s.B.1.getD w ad).1,n,(s.B.1.getD w ad).2.2),s.B.2.1,s.B.2.2.1,s.B.2.2.2),ho:=s.ho.set w h})
def kY (r:qP)(s:qD)(who a many:Int):Int×qD:=
 bif !(decide (a≥0)&&decide (a≤(r.2.1.length:Int)-1)) then(1,s)
 else bif !(decide (many≥0)&&decide (many≤1099511627776)) then(1,s)
 else G3 s who.toNat ((s.ho.getD who.toNat []).set a.toNat many) (gG r.2.1 s.pr ((s.ho.getD who.toNat []).set a.toNat many))
theorem kh.set {sa pr h}(L:kh sa pr h){i}(hi:i<sa.length){v}(hv:0≤v∧v≤1099511627776):kh sa pr (h.set i v):=
 ⟨L.n3,L.pl,by rw[List.length_set];exact L.hl,L.cut,L.price,fun j hj=>by
  rw[fH];split
  ·exact hv
  ·exact L.hold j hj⟩
theorem kh.setP {sa pr h}(L:kh sa pr h){i}(hi:i<sa.length){v}(hv:0≤v∧v≤1048576):kh sa (pr.set i v) h:=
 ⟨L.n3,by rw[List.length_set];exact L.pl,L.hl,L.cut,fun j hj=>by
  rw[fH];split
  ·exact hv
  ·exact L.price j hj,L.hold⟩
theorem Z2 {k}{l:jL}(hl:l.length≤1000):G4 k l=some l:=by
 unfold G4;rw[qE (by omega) (by omega)];rfl
theorem vPq {k}(hk:1000≤k){r}(hr:wT r){s}(h:yD r s){who}(hw:0≤who∧who<r.1) l a many:
    ∃d,QV k (dk r s who l) a many=some ((kY r s who a many).1,d)∧((kY r s who a many).1=0→d=dk r (kY r s who a many).2 who l):=by
  have hp:=hr.pa;have h3:=hr.n3;have hn:=h.n;have ie:=h.bk.n6;have hol:=h.hol;have w1:zA ((r.2.1.length:Int)-1)=(r.2.1.length:Int)-1:=zO (by omega) (by omega);obtain⟨w,rfl⟩:=Int.eq_ofNat_of_zero_le hw.1;have gH:w<s.B.1.length:=by omega
  have eD:QV k (dk r s w l) a many=((vH k a 0 (zA ((r.2.1.length:Int)-1))).bind fun x0=>some x0).bind fun x0=>
    bif !x0 then some (1,dk r s w l)
    else(vH k many 0 1099511627776).bind fun x1=>
    bif !x1 then some (1,dk r s w l)
    else(G4 k s.ho).bind fun x2=>
    bif zB (w : Int) x2.length then ((qu k (x2.getD (w:Int).toNat []) a many).bind fun x3=>
      bif zB (w:Int) x2.length then(
       bif zB (w : Int) (x2.set (w : Int).toNat x3).length then ((mY k r.2.1 s.pr ((x2.set (w:Int).toNat x3).getD (w:Int).toNat [])).bind fun x4=>
        bif zB (w : Int) s.B.1.length then (bif !x4.2 then some (8,dk r s w l)
         else bif decide (x4.1>1152921504606846976) then some (8,dk r s w l)
         else bif decide (x4.1 < (s.B.1.getD (w : Int).toNat (0, 0, 0)).2.1) then (bif decide ((zA ((s.B.1.getD (w:Int).toNat (0,0,0)).1+x4.1))<0) then some (9,dk r s w l)
          else(gF k s.B.1 s.B.2.1 s.B.2.2.1 s.B.2.2.2).bind fun x5=>
          bif zB (w:Int) x5.1.length then
           some (0,dk r {s with B:=((x5.1.set (w:Int).toNat ((x5.1.getD (w:Int).toNat (0,0,0)).1,x4.1,(x5.1.getD (w:Int).toNat (0,0,0)).2.2)),x5.2.1,x5.2.2.1,x5.2.2.2),ho:=x2.set (w:Int).toNat x3} w l)
          else none)
         else(gF k s.B.1 s.B.2.1 s.B.2.2.1 s.B.2.2.2).bind fun x6=>
         bif zB (w:Int) x6.1.length then
          some (0,dk r {s with B:=((x6.1.set (w:Int).toNat ((x6.1.getD (w:Int).toNat (0,0,0)).1,x4.1,(x6.1.getD (w:Int).toNat (0,0,0)).2.2)),x6.2.1,x6.2.2.1,x6.2.2.2),ho:=x2.set (w:Int).toNat x3} w l)
         else none)
        else none)
       else none)
      else none)
    else none:=rfl
  rw[eD,w1,nh,nh,KY (by omega) h.bk.toSized,Z2 (by omega)];simp only[ae,zY,ao];unfold kY;simp only[ao];cases hc:decide (a≥0)&&decide (a≤(r.2.1.length:Int)-1) with
  |false=>exact by simp
  |true=>
  simp only[aR,aZ] at hc;cases hm:decide (many≥0)&&decide (many≤1099511627776) with
  |false=>exact by simp
  |true=>
  obtain⟨i,rfl⟩:=Int.eq_ofNat_of_zero_le hc.1;have hi:i<r.2.1.length:=by omega
  have L:=h.laid w gH;have L2:=L.set hi (v:=many) (by grind);have b1:decide (w<s.ho.length)=true:=by grind
  have b2:decide (w<s.B.1.length)=true:=aa gH;have mv:qu k (s.ho.getD w []) (i:Int) many=some ((s.ho.getD w []).set i many):=by
    have:=vF7 (k:=k) (l:=s.ho.getD w []) (by rw[L.hl];omega) (i:=(i:Int)) (by omega) (by rw[L.hl];omega) many;simp_all
  have Md:(s.ho.set w ((s.ho.getD w []).set i many)).getD w []=(s.ho.getD w []).set i many:=by
    rw[fH,if_pos ⟨rfl,by omega⟩]
  have hv:=Zu (k:=k) L2 (by omega);have hb:=h.bk.nums.bal w gH;have Bb:=Gr L2;simp only[az,ak,b1,ai,mv,ae,List.length_set,Md,hv,b2,ao];clear hv L2 Md eD;generalize gG r.2.1 s.pr ((s.ho.getD w []).set i many)=n at Bb⊢;unfold G3;cases Z3:decide (n>1152921504606846976) with
  |true=>exact by simp
  |false=>
    have h8:¬n>1152921504606846976:=gZ Z3;have w2:zA ((s.B.1.getD w (0,0,0)).1+n)=(s.B.1.getD w (0,0,0)).1+n:=zO (by have:=hb.1;simp only[ad] at this;omega) (by have:=hb.2;simp only[ad] at this;omega);simp only[w2,ak];cases decide (n<(s.B.1.getD w (0,0,0)).2.1) with
    |false=>exact by simp
    |true=>
      cases decide ((s.B.1.getD w (0,0,0)).1+n<0) with
      |true=>exact by simp
      |false=>exact by simp
def jU (a:qY)(n:Int):qY×Int:=bif fJ (a.1+n,a.2.1,a.2.2) then((a.1+n,a.2.1,a.2.2),0) else(a,8)
theorem yL4 {k}{a:qY}(ha:-4611686018427387904<a.1∧a.1<4611686018427387904){n}(hn:-1099511627776≤n∧n≤1099511627776):Me k a n=some (jU a n):=by
 have ag5:QW k a.1 n=some (a.1+n,true):=by
  unfold QW;have w1:n>0→zA (9223372036854775807-n)=9223372036854775807-n:=fun h=>zO (by omega) (by omega)
  have w2:n<0→zA (-9223372036854775808-n)= -9223372036854775808-n:=fun h=>zO (by omega) (by omega)
  have w3:zA (a.1+n)=a.1+n:=zO (by omega) (by omega);grind
 unfold Me jU;simp[yV3];grind
abbrev om:=Int×jF
theorem Z4 k kd:∃n,uA k kd=some n∧-1≤n∧n≤6:=by
 have c:∀(b:Bool) (x y:Option Int),(∃n,x=some n∧-1≤n∧n≤6)→(∃n,y=some n∧-1≤n∧n≤6)→∃n,(bif b then x else y)=some n∧-1≤n∧n≤6:=by
  simp_all
 iterate 23 (refine c _ _ _ (by simp) ?_)
 simp
theorem yY1 {k}{s:AC}(hs:s.length≤6):∀n i,s.length<i+n→i≤s.length→∃x,mw k n s (s.length:Int) (i:Int)=some x
 |0,i,h,g=>by omega
 |n+1,i,h,g=>by
  show∃x,lE k (mw k n) s (s.length:Int) (i:Int)=some x;unfold lE;by_cases hi:i<s.length
  ·simp only[qS,aa hi,zY,ao];cases decide (s.getD i 0=0) with
   |false=>simp
   |true=>
    rw[qB hi (by omega)];exact yY1 hs n (i+1) (by omega) hi
  ·simp only[qS,ab hi];simp
theorem QX {k}(hk:10≤k)(f:jF):∃b,kZ k f=some b:=by
 unfold kZ;obtain⟨n,h1,h2,h3⟩:=Z4 k f.1;rw[h1];simp;by_cases h0:n<0
 ·simp_all
 ·rw[ab h0,aa (by grind),aa h3];have hl:(qM [f.2.1,f.2.2.1,f.2.2.2.1,f.2.2.2.2.1,f.2.2.2.2.2.1,f.2.2.2.2.2.2] n.toNat (6-n.toNat)).length≤6:=by
   unfold qM;simp
  obtain⟨x,hx⟩:=yY1 (k:=k) hl k 0 (by omega) (by simp);rw[show((0:Nat):Int)=0 from rfl] at hx;rw[hx];cases x<;>exact by simp
theorem Z5 k a:QY k a=some (decide (a≥10)&&decide (a≤14)):=by
 unfold QY;grind
theorem Z6 k a:Mh k a=some (decide (a≥1)&&decide (a≤14)):=by
 unfold Mh;grind
def vGd (A B C D E F G b o:Bool):Int:=
 bif !(D&&C) then 5 else bif !b then 5 else bif B&&C then(bif !E then 5 else bif o&& !G then 7 else 0) else bif !(A&&F) then 5 else bif o&& !G then 7 else 0
theorem Z7:∀{A B C D E F G b o},vGd A B C D E F G b o=0→(D&&C&&((B&&E)||(!B&&A&&F))&&(!o||G))=true:=by
 intro A B C D E F G b o h;cases A<;>cases B<;>cases C<;>cases D<;>cases E<;>cases F<;>cases G<;>cases b<;>cases o<;>first|rfl|exact absurd h (by decide)
theorem vRo {k}(hk:10≤k)(r:qP)(s:qD)(c:om):∃b,yk k r s.st c=some (vGd (decide (c.1≥0)) (decide (c.2.1≥10)) (decide (c.2.1≤14)) (decide (c.2.1≥1)) (decide (c.1= -1)) (decide (c.1<r.1)) (decide (c.2.1=9)) b s.ov):=by
 unfold yk;rw[Z5,Z6];obtain⟨b,hb⟩:=QX hk c.2;rw[hb];have eo:s.st.2.2.2.2.2.2.2.2.2.2=s.ov:=rfl;rw[eo];refine⟨b,?_⟩;generalize decide (c.1≥0)=A;generalize decide (c.2.1≥10)=B;generalize decide (c.2.1≤14)=C;generalize decide (c.2.1≥1)=D;generalize decide (c.1= -1)=E;generalize decide (c.1<r.1)=F;generalize decide (c.2.1=9)=G;generalize s.ov=o;cases A<;>cases B<;>cases C<;>cases D<;>cases E<;>cases F<;>cases G<;>cases b<;>cases o<;>rfl
theorem vL1 {k}(hk:10≤k)(r:qP)(s:qD)(c:om):∃e,yk k r s.st c=some e∧
  (e=0→((10≤c.2.1∧c.2.1≤14∧c.1= -1)∨(1≤c.2.1∧c.2.1≤9∧0≤c.1∧c.1<r.1))∧(s.ov=true→c.2.1=9)):=by
 obtain⟨b,hb⟩:=vRo hk r s c;refine⟨_,hb,fun e=>?_⟩;have:=Z7 e;grind
def vC (f:jF):AC:=[f.2.1,f.2.2.1,f.2.2.2.1,f.2.2.2.2.1,f.2.2.2.2.2.1,f.2.2.2.2.2.2]
theorem ySi {k:Nat}{s:AC}:∀(n i:Nat),s.length≤6→mw k n s (s.length:Int) (i:Int)=some (.inl ())→∀j,i≤j→j<s.length→s.getD j 0=0
 |0,i,_,h,_,_,_=>by cases h
 |n+1,i,h6,h,j,h1,h2=>by
  have h:lE k (mw k n) s (s.length:Int) (i:Int)=some (.inl ()):=h;unfold lE at h;have hi:i<s.length:=by omega
  rw[aa (show(i:Int)<s.length by omega),zY,aa hi,ao] at h;simp only[ai] at h;cases hz:decide (s.getD i 0=0) with
  |false=>rw[hz] at h;cases h
  |true=>
   rw[hz] at h;simp only[az,ak] at h;rw[qB hi (by omega)] at h;by_cases e:j=i
   ·subst e;exact uz hz
   ·exact ySi n (i+1) h6 h j (by omega) h2
theorem QZ {k:Nat}{f:jF}(h:kZ k f=some true):0≤yG f.1∧∀j,(yG f.1).toNat≤j→j<6→(vC f).getD j 0=0:=by
 unfold kZ at h;rw[KD,ae] at h;have hm:=xG f.1;by_cases h0:yG f.1<0
 ·rw[aa h0] at h;cases h
 ·rw[ab h0,aa (show(0:Int)≤yG f.1 by omega),aa hm] at h;simp only[ak,Bool.and_self,ai] at h;refine⟨by omega,fun j h1 h2=>?_⟩;have hs:qM [f.2.1,f.2.2.1,f.2.2.2.1,f.2.2.2.2.1,f.2.2.2.2.2.1,f.2.2.2.2.2.2] (yG f.1).toNat (6-(yG f.1).toNat)=(vC f).drop (yG f.1).toNat:=by
   unfold qM;show List.take _ ((vC f).drop _)=_;exact List.take_of_length_le (by rw[List.length_drop];show 6-_≤_;omega)
  rw[hs] at h;have hl:((vC f).drop (yG f.1).toNat).length=6-(yG f.1).toNat:=by rw[List.length_drop];rfl
  cases hz:mw k k ((vC f).drop (yG f.1).toNat) (((vC f).drop (yG f.1).toNat).length:Int) 0 with
  |none=>rw[hz] at h;cases h
  |some z=>
   rw[hz] at h;cases z with
   |inr b=>
    exfalso;have key:∀(n i:Nat) (b:Bool),mw k n ((vC f).drop (yG f.1).toNat) (((vC f).drop (yG f.1).toNat).length:Int) (i:Int)=some (.inr b)→i≤6→b=false:=by
     intro n
     induction n with
     |zero=>intro i b h;cases h
     |succ n ih=>
      intro i b h h6;have h:lE k (mw k n) _ _ _=some (.inr b):=h;unfold lE at h;by_cases hi:i<((vC f).drop (yG f.1).toNat).length
      ·rw[aa (by omega),zY,aa hi] at h;simp only[ai] at h;cases hz:decide (((vC f).drop (yG f.1).toNat).getD (i:Int).toNat 0=0) with
       |false=>rw[hz] at h;cases h;rfl
       |true=>
        rw[hz] at h;simp only[az,ak] at h;rw[qB hi (by omega)] at h;exact ih (i+1) b h (by omega)
      ·rw[ab (by omega)] at h;cases h
    have:=key k 0 b hz (by omega);subst this;cases h
   |inl u=>
    have:=ySi (k:=k) k 0 (by omega) hz (j-(yG f.1).toNat) (Nat.zero_le _) (by omega);rw[bY,List.getElem?_drop] at this;rw[bY,←this]
    congr 2
    omega
theorem vMu {k:Nat}(hk:10≤k){f:jF}(h0:0≤yG f.1)(hz:∀j,(yG f.1).toNat≤j→j<6→(vC f).getD j 0=0):kZ k f=some true:=by
 have hm:=xG f.1;unfold kZ;rw[KD,ae,ab (by omega),aa (show(0:Int)≤yG f.1 by omega),aa hm];simp only[ak,Bool.and_self,ai];have hs:qM [f.2.1,f.2.2.1,f.2.2.2.1,f.2.2.2.2.1,f.2.2.2.2.2.1,f.2.2.2.2.2.2] (yG f.1).toNat (6-(yG f.1).toNat)=(vC f).drop (yG f.1).toNat:=by
  unfold qM;show List.take _ ((vC f).drop _)=_;exact List.take_of_length_le (by rw[List.length_drop];show 6-_≤_;omega)
 rw[hs];have hl:((vC f).drop (yG f.1).toNat).length=6-(yG f.1).toNat:=by rw[List.length_drop];rfl
 have hg:∀i,i<((vC f).drop (yG f.1).toNat).length→((vC f).drop (yG f.1).toNat).getD i 0=0:=fun i hi=>by
  have:=hz ((yG f.1).toNat+i) (by omega) (by omega);rw[bY] at this;rw[bY,List.getElem?_drop];exact this
 generalize (vC f).drop (yG f.1).toNat=s at hl hg⊢;have := fk (L := fun n i => mw k n s (s.length : Int) i) (N := s.length) (fun _ => true) (.inl ()) (.inr false) (fun n=>by
  show lE k _ s (s.length:Int) (s.length:Int)=_;unfold lE;rw[ab (Int.lt_irrefl _)];rfl) (fun n i hi=>by
  show lE k _ s (s.length:Int) (i:Int)=_;unfold lE;rw[aa (show(i:Int)<s.length by omega),zY,aa hi,ao,hg i hi,qB hi (by omega)];rfl) (n:=k) (by omega)
 rw[show zZ (fun _=>true) s.length 0=true from wI.2 fun _ _=>rfl] at this;exact(congrArg (fun z=>Option.bind z _) this).trans rfl
theorem vGs:∀(n:Nat) (b:AC),ph (ez n b)
 |0,_=>fun x hx=>absurd hx List.not_mem_nil
 |n+1,b=>fun x hx=>by
  have hx:x∈fU (b.take 8)::ez n (b.drop 8):=hx;rcases List.mem_cons.1 hx with rfl|hx
  ·unfold fU;exact⟨XM _,XN _⟩
  ·exact vGs n _ x hx
theorem vV3 {k:Nat}(hk:10≤k){b:AC}(h:(lA b).2=0):kZ k (lA b).1=some true∧ph (vC (lA b).1):=by
 unfold lA at h⊢;by_cases h1:b=[]
 ·rw[if_pos h1] at h;cases h
 ·rw[if_neg h1] at h⊢;by_cases h2:(eQ (b.drop 1)).2≠0∨((eQ (b.drop 1)).1.length:Int)≠yG (zA (b.getD 0 0))
  ·rw[if_pos h2] at h;cases h
  ·rw[if_neg h2];have h3:((eQ (b.drop 1)).1.length:Int)=yG (zA (b.getD 0 0)):=Decidable.byContradiction fun e=>h2 (.inr e)
   have h4:ph (eQ (b.drop 1)).1:=by
    unfold eQ;split
    ·exact vGs _ _
    ·exact fun x hx=>absurd hx List.not_mem_nil
   generalize (eQ (b.drop 1)).1=l at h3 h4;have hg:∀j,j<6→(vC (zA (b.getD 0 0),l.getD 0 0,l.getD 1 0,l.getD 2 0,l.getD 3 0,l.getD 4 0,l.getD 5 0)).getD j 0=l.getD j 0:=fun j hj=>by
    have:j=0∨j=1∨j=2∨j=3∨j=4∨j=5:=by omega
    rcases this with rfl|rfl|rfl|rfl|rfl|rfl<;>rfl
   refine⟨vMu hk (by show 0≤yG (zA (b.getD 0 0));omega) (fun j h5 h6=>?_),fun x hx=>?_⟩
   ·have h5:(yG (zA (b.getD 0 0))).toNat≤j:=h5;rw[hg j h6,bY,List.getElem?_eq_none (by omega)];rfl
   ·obtain⟨j,hj,rfl⟩:=List.mem_iff_getElem.1 hx;have hj6:j<6:=hj;have:=hg j hj6;rw[bY,List.getElem?_eq_getElem hj] at this;have:(vC (zA (b.getD 0 0),l.getD 0 0,l.getD 1 0,l.getD 2 0,l.getD 3 0,l.getD 4 0,l.getD 5 0))[j]=l.getD j 0:=this;show-9223372036854775808≤(vC (zA (b.getD 0 0),l.getD 0 0,l.getD 1 0,l.getD 2 0,l.getD 3 0,l.getD 4 0,l.getD 5 0))[j]∧(vC (zA (b.getD 0 0),l.getD 0 0,l.getD 1 0,l.getD 2 0,l.getD 3 0,l.getD 4 0,l.getD 5 0))[j]<9223372036854775808;rw[this];by_cases sg:j<l.length
    ·rw[bY,List.getElem?_eq_getElem sg];exact h4 _ (List.getElem_mem sg)
    ·rw[bY,List.getElem?_eq_none (by omega)];show(-9223372036854775808:Int)≤0∧(0:Int)<9223372036854775808;omega
theorem yIv x:yP .i64 x 4294967295=x%4294967296:=vCo 32 (by omega) x
theorem yI4 x:shr .i64 x 32=x/4294967296:=by
 show x.fdiv (2^(min 32 64))=_;grind
theorem Z8 x:shl .i64 x 32=zA (x*4294967296):=rfl
theorem Z9 (x y:Int):yC false x y=max x y:=by
 unfold yC;by_cases h:y>x
 ·rw[aa h];show y=_;omega
 ·rw[ab h];show x=_;omega
theorem vPj (x y:Int):yC true x y=min x y:=by
 unfold yC;by_cases h:y<x
 ·rw[aa h];show y=_;omega
 ·rw[ab h];show x=_;omega
section
variable {k:Nat} {ro sx sy cA cK op:Int} {x y b:AC} {ar:Bool}
theorem vTf (hx:0≤sx∧sx≤(x.length:Int))(hy:0≤sy∧sy≤(y.length:Int))(lx:x.length≤1000000)(ly:y.length≤1000000)(hk:cK<9223372036854775808):
  eW k (ro,x,sx,y,sy,cA,cK,ar,false,op)=some (false,(ro,x,sx,y,sy,cA,cK,ar,false,zA (op+1)))∨
  (ar=true∧∃a c:Nat,sx≤(a:Int)∧a≤x.length∧sy≤(c:Int)∧c≤y.length∧eW k (ro,x,sx,y,sy,cA,cK,ar,false,op)=some (true,(ro,x.take a,(a:Int),y.take c,(c:Int),cA,cK,ar,true,op))):=by
 cases ar with
 |false=>exact .inl rfl
 |true=>
 by_cases h:op<cA
 ·left;unfold eW;dsimp only;rw[az,ak,aa h];rfl
 ·right;refine⟨rfl,?_⟩;obtain⟨a,ha⟩:∃a:Nat,sx+min (max cK 0) ((x.length:Int)-sx)=(a:Int):=⟨(sx+min (max cK 0) ((x.length:Int)-sx)).toNat,by omega⟩;obtain⟨c,hc⟩:∃c:Nat,sy+min (max cK 0-min (max cK 0) ((x.length:Int)-sx)) ((y.length:Int)-sy)=(c:Int):=⟨(sy+min (max cK 0-min (max cK 0) ((x.length:Int)-sx)) ((y.length:Int)-sy)).toNat,by omega⟩;refine⟨a,c,by omega,by omega,by omega,by omega,?_⟩;have w1:zA ((x.length:Int)-sx)=(x.length:Int)-sx:=zO (by omega) (by omega);have w2:zA ((y.length:Int)-sy)=(y.length:Int)-sy:=zO (by omega) (by omega);have w3:zA (max cK 0-min (max cK 0) ((x.length:Int)-sx))=max cK 0-min (max cK 0) ((x.length:Int)-sx):=zO (by omega) (by omega);have w4:zA (sx+min (max cK 0) ((x.length:Int)-sx))=(a:Int):=by rw[ha];exact zO (by omega) (by omega)
  have w5:zA (sy+min (max cK 0-min (max cK 0) ((x.length:Int)-sx)) ((y.length:Int)-sy))=(c:Int):=by rw[hc];exact zO (by omega) (by omega)
  unfold eW;dsimp only;simp only[Z9,vPj,w1,w2,w3,w4,w5];rw[az,ak,ab h,ak,aa (show(0:Int)≤(a:Int) by omega),aa (show(a:Int)≤(x.length:Int) by omega),aa (show(0:Int)≤(c:Int) by omega),aa (show(c:Int)≤(y.length:Int) by omega)];simp only[Bool.and_self,ai,ao,Nat.sub_zero]
end
structure vL6 (D:wJ):Prop where
 x:D.2.2.1=(D.2.1.length:Int)
 y:D.2.2.2.2.1=(D.2.2.2.1.length:Int)
 room:0≤D.1∧D.1≤200000
 lx:(D.2.1.length:Int)≤D.1
 ly:(D.2.2.2.1.length:Int)≤D.1
 ck:D.2.2.2.2.2.2.1<9223372036854775808
def eX (D:wJ):Bool:=D.2.2.2.2.2.2.2.2.1
def yUm (D:wJ):Bool:=D.2.2.2.2.2.2.2.1
structure ag6 (D D':wJ) (i:Int) (c:AC) (dn:Bool):Prop where
 clean:vL6 D'
 room:D'.1=D.1
 it:ke D' i=c
 oth:ke D' (1-i)=ke D (1-i)
 dn:eX D'=dn
 ar:yUm D'=yUm D
structure JU (k:Nat) (l:AC):Prop where
 n:l.length<k
 m:l.length≤100000
 w:ph l
theorem vD9 s:yJ (iV s)=fV [s.1,s.2.2.2.2.2.2.2.2.2.1,bif s.2.2.2.2.2.2.2.2.2.2 then 1 else 0,(s.2.1.length:Int),(s.2.2.1.length:Int),(s.2.2.2.1.length:Int),(s.2.2.2.2.1.length:Int),(s.2.2.2.2.2.2.1.length:Int),(s.2.2.2.2.2.2.2.1.length:Int)]++
  (yJ (s.2.1.map lB)++(yJ s.2.2.1++(fV s.2.2.2.1++(yJ s.2.2.2.2.1++(fV s.2.2.2.2.2.1++(yJ s.2.2.2.2.2.2.1++(yJ (s.2.2.2.2.2.2.2.1.map lC)++(fV s.2.2.2.2.2.2.2.2.1++[])))))))):=by
 simp[iV,yJ]
theorem aaa n (i:Nat)(hi:i≤7):IntKind.wrap .u8 (shr .u64 (IntKind.wrap .u64 n) (IntKind.wrap .u64 (8*(i:Int))))=vE n i:=by
 rw[yNd n i hi];have e:∀x:Int,∀j:Nat,j≤56→shr .u64 x (j:Int)=x/2^j:=fun x j hj=>by
  unfold shr;rw[ao,Nat.min_eq_left (show j≤IntKind.bits .u64 from Nat.le_trans hj (by decide)),Int.fdiv_eq_ediv_of_nonneg _ (by grind)]
 have w:IntKind.wrap .u64 (8*(i:Int))=((8*i:Nat):Int):=by
  rw[ET];omega
 rw[w,e _ _ (by omega),ET,KF];have:i=0∨i=1∨i=2∨i=3∨i=4∨i=5∨i=6∨i=7:=by omega
 rcases this with rfl|rfl|rfl|rfl|rfl|rfl|rfl|rfl<;>(omega)<;>omega
theorem aab {k l}(j:Nat)(hj:j<l.length)(hl:l.length≤1000000):∀c n,c<n→c≤8→∀r:AC,r.length+c≤100000000→Mi k n l (j:Int) (8*(c:Int)-8) r=some (l,(j:Int),r++(wZ (l.getD j 0)).drop (8-c)):=by
 intro c
 induction c with
 |zero=>
  intro n h1 _ r hr;obtain⟨n,rfl⟩:∃m,n=m+1:=⟨n-1,by omega⟩;rw[show(wZ (l.getD j 0)).drop (8-0)=[] from rfl,List.append_nil];rfl
 |succ c ih=>
  intro n h1 h2 r hr;obtain⟨n,rfl⟩:∃m,n=m+1:=⟨n-1,by omega⟩;have g:=ih n (by omega) (by omega) (r++[vE (l.getD j 0) c]) (by grind);show Q0 k (Mi k n) l _ _ r=_;unfold Q0;have e8:8*((c+1:Nat):Int)-8=8*(c:Int):=by omega
  have w:IntKind.wrap .u64 (8*(c:Int))=8*(c:Int):=by rw[ET];omega
  rw[e8,aa (by omega),ai,wU (by omega) (by omega),ai];rw[show decide (IntKind.wrap .u64 (8*(c:Int))<0)=false from by grind,bO,ai,qE (by omega) (by omega),ai,ao];rw[aaa _ _ (by omega),show zA (8*(c:Int)-8)=8*(c:Int)-8 by rw[zO (by omega) (by omega)],g,List.append_assoc];have:c=0∨c=1∨c=2∨c=3∨c=4∨c=5∨c=6∨c=7:=by omega
  rcases this with rfl|rfl|rfl|rfl|rfl|rfl|rfl|rfl<;>rfl
theorem G5 {k}(hk:9≤k){l}(hl:l.length≤1000000)(pO:l.length<k):yl k l=some (vN l):=by
 have all:∀(c n j:Nat),j+c=l.length→c<n→Cm k n l (j:Int) (vN (l.take j))=some (vN l):=by
  intro c
  induction c with
  |zero=>
   intro n j h1 h2;obtain⟨n,rfl⟩:∃m,n=m+1:=⟨n-1,by omega⟩;show G6 k (Cm k n) l _ _=_;unfold G6;rw[ab (by omega),List.take_of_length_le (by omega)];rfl
  |succ c ih=>
   intro n j h1 h2;obtain⟨n,rfl⟩:∃m,n=m+1:=⟨n-1,by omega⟩;have hj:j<l.length:=by omega
   have g:=ih n (j+1) (by omega) (by omega);have hlen:(vN (l.take j)).length=8*j:=by rw[nX,bP];omega
   have g1:=aab (k:=k) j hj hl 8 k (by omega) (by omega) (vN (l.take j)) (by omega);rw[show(8*((8:Nat):Int)-8)=56 from rfl] at g1;show G6 k (Cm k n) l _ _=_;unfold G6;rw[aa (by omega),ai,g1,ae];rw[qB hj (by omega)];have e:vN (l.take (j+1))=vN (l.take j)++(wZ (l.getD j 0)).drop (8-8):=by
    rw[←fG l j 0 hj];simp[vN]
   rw[e] at g;exact g
 unfold yl;have:=all l.length k 0 (by omega) (by omega);have this:Cm k k l 0 []=some (vN l):=this;rw[this];rfl
theorem Cn {k}(hk:9≤k){l}(hl:l.length≤1000000)(pO:l.length<k):ki k l=some (fV l):=by
 unfold ki;rw[G5 hk (by simp) (by grind),ae,G5 hk hl pO,ae,qE (by simp[nX];omega) (by simp[nX];omega),ai];rfl
theorem yB3 {k}(hk:1000≤k){l}(h:jA l):pB k l=some (yJ l):=by
 have hn:=h.n;unfold pB;obtain ⟨s, h1, h2⟩ := yZ (L := fun n i (s : AC) => G7 k n l i s) (N := l.length) (fun s => s) (fun i s => s = yJ (l.take i)) (fun n s _=>by
  show G8 k (G7 k n) l _ s=_;unfold G8;simp) (fun n i s hi hs=>by
  refine⟨s++fV (l.getD i []),?_,by rw[hs,yMs hi]⟩;show G8 k (G7 k n) l (i:Int) s=_;unfold G8;have hr:=h.r _ (jY (d:=[]) hi);have pU:s.length≤8000*1000:=by
   have:=KG (l:=l.take i) fun x hx=>h.r x (by grind)
   grind
  rw[aa (by omega),ai,wU (by omega) (by omega),ai,ao,Cn (by omega) (by omega) (by omega),ae,
   qE (by rw[sL];omega) (by rw[sL];omega),ai,qB (N:=l.length) hi (by omega)]) (n:=k) (s:=[]) (by omega) rfl
 simp_all
theorem qYh a b:yJ (a++b)=yJ a++yJ b:=by simp[yJ]
theorem aac {k}(hk:1000≤k){s:xH}{b1:List (Int×Int×Int)×EQ×AC×EQ}(hl:b1.1.length≤900) r (hr:r.length≤100000000):uU k k 0 s b1 r=some (s,b1,r++yJ (b1.1.map lB)):=by
 obtain ⟨t, h1, h2⟩ := yZ (L := fun n i (t : AC) => uU k n i s b1 t) (N := b1.1.length) (fun t => (s, b1, t)) (fun i t => t = r ++ yJ ((b1.1.take i).map lB)) (fun n t _=>by
  show G9 k (uU k n) _ s b1 t=_;unfold G9;simp) (fun n i t hi ht=>by
  refine⟨t++fV (lB (b1.1.getD i (0,0,0))),?_,by rw[ht,List.append_assoc,←PF lB (0,0,0) hi,qYh];rfl⟩;show G9 k (uU k n) (i:Int) s b1 t=_;unfold G9;have hlen:t.length≤100000000+8000*900:=by
   have:=KG (l:=(b1.1.take i).map lB) fun x hx=>by
    obtain⟨y,_,rfl⟩:=List.mem_map.1 hx;show 3≤900
    decide
   grind
  rw[aa (by omega),ai,wU (by omega) (by omega),ai,ai,ai];have aT:=Cn (k:=k) (by omega) (l:=lB (b1.1.getD i (0,0,0))) (by show 3≤1000000;decide) (by show 3<k;omega);refine(congrArg (fun z=>Option.bind z _) aT).trans ?_;have h32:(fV (lB (b1.1.getD i (0,0,0)))).length=32:=rfl;simp only[ae];rw[qE (by omega) (by omega),ai,qB (N:=b1.1.length) hi (by omega)]) (n:=k) (s:=r) (by omega) (by simp[yJ])
 simp_all
theorem aad {k}(hk:1000≤k){s:xH}(hl:s.2.2.2.2.2.2.2.1.length≤900) r (hr:r.length≤100000000):uV k k 0 s r=some (s,r++yJ (s.2.2.2.2.2.2.2.1.map lC)):=by
 obtain ⟨t, h1, h2⟩ := yZ (L := fun n i (t : AC) => uV k n i s t) (N := s.2.2.2.2.2.2.2.1.length) (fun t => (s, t)) (fun i t => t = r ++ yJ ((s.2.2.2.2.2.2.2.1.take i).map lC)) (fun n t _=>by
  show Ha k (uV k n) _ s t=_;unfold Ha;simp) (fun n i t hi ht=>by
  refine⟨t++fV (lC (s.2.2.2.2.2.2.2.1.getD i (0,0,0,0,0,0,0))),?_,by rw[ht,List.append_assoc,←PF lC (0,0,0,0,0,0,0) hi,qYh];rfl⟩;show Ha k (uV k n) (i:Int) s t=_;unfold Ha;have hlen:t.length≤100000000+8000*900:=by
   have:=KG (l:=(s.2.2.2.2.2.2.2.1.take i).map lC) fun x hx=>by
    obtain⟨y,_,rfl⟩:=List.mem_map.1 hx;show 7≤900
    decide
   grind
  rw[aa (by omega),ai,wU (by omega) (by omega),ai];have aT:=Cn (k:=k) (by omega) (l:=lC (s.2.2.2.2.2.2.2.1.getD i (0,0,0,0,0,0,0))) (by show 7≤1000000;decide) (by show 7<k;omega);refine(congrArg (fun z=>Option.bind z _) aT).trans ?_;have bQ:(fV (lC (s.2.2.2.2.2.2.2.1.getD i (0,0,0,0,0,0,0)))).length=64:=rfl;simp only[ae];rw[qE (by omega) (by omega),ai,qB (N:=s.2.2.2.2.2.2.2.1.length) hi (by omega)]) (n:=k) (s:=r) (by omega) (by simp[yJ])
 simp_all
theorem vDo {k}(hk:1000≤k){s}(h:jA (iV s)):oq k s=some (yJ (iV s)):=by
  have hn:=h.n;have Eh:=h.n;have hr:=h.r;have bn:=KG hr;have eq:=vD9 s;obtain⟨S,hS⟩:∃S,yJ (iV s)=S:=⟨_,rfl⟩;rw[hS] at eq bn⊢;obtain⟨t,ac,bi,mu,po,pr,ho,pa,ids,to,ov⟩:=s;have dp : ∀ x, (x ∈ bi ∨ x = mu ∨ x ∈ po ∨ x = pr ∨ x ∈ ho ∨ x = ids) → x.length ≤ 900 := fun x hx => hr x (by
    simp only[iV,List.mem_append,List.mem_singleton];rcases hx with h|h|h|h|h|h<;>simp[h])
  simp only[iV,ay,List.length_cons,List.length_nil,List.length_map] at hn;dsimp only at eq;have l1:=congrArg List.length eq;simp only[ay] at l1;have fb:jA bi:=⟨by omega,fun x hx=>dp x (.inl hx)⟩;have fp:jA po:=⟨by omega,fun x hx=>dp x (.inr (.inr (.inl hx)))⟩;have fh:jA ho:=⟨by omega,fun x hx=>dp x (.inr (.inr (.inr (.inr (.inl hx)))))⟩;have hmu:=dp mu (.inr (.inl rfl));have pj:=dp pr (.inr (.inr (.inr (.inl rfl))));have kE:=dp ids (.inr (.inr (.inr (.inr (.inr rfl)))));have go : ∀ (o : Int), ((ki k [t,to,o,(ac.length:Int),(bi.length:Int),(mu.length:Int),(po.length:Int),(ho.length:Int),(pa.length:Int)]).bind fun x0=>
      (uU k k 0 (t,ac,bi,mu,po,pr,ho,pa,ids,to,ov) (ac,bi,mu,po) x0).bind fun z=>
      (pB k z.2.1.2.1).bind fun x2=>
      bif zM (z.2.2.length + x2.length) 1 then ((ki k z.2.1.2.2.1).bind fun x3=>
       bif zM ((z.2.2 ++ x2).length + x3.length) 1 then ((pB k z.2.1.2.2.2).bind fun x4=>
        bif zM (((z.2.2 ++ x2) ++ x3).length + x4.length) 1 then ((ki k z.1.2.2.2.2.2.1).bind fun x5=>
         bif zM ((((z.2.2 ++ x2) ++ x3) ++ x4).length + x5.length) 1 then ((pB k z.1.2.2.2.2.2.2.1).bind fun x6=>
          bif zM (((((z.2.2 ++ x2) ++ x3) ++ x4) ++ x5).length + x6.length) 1 then ((uV k k 0 z.1 (((((z.2.2++x2)++x3)++x4)++x5)++x6)).bind fun z1=>
           (ki k z1.1.2.2.2.2.2.2.2.2.1).bind fun x8=>
           bif zM (z1.2.length+x8.length) 1 then some (z1.2++x8)
           else none)
          else none)
         else none)
        else none)
       else none)
      else none)=some (fV [t,to,o,(ac.length:Int),(bi.length:Int),(mu.length:Int),(po.length:Int),(ho.length:Int),(pa.length:Int)]++(yJ (ac.map lB)++(yJ bi++(fV mu++(yJ po++(fV pr++(yJ ho++(yJ (pa.map lC)++(fV ids++[]))))))))):=fun o=>by
    have h9:(fV [t,to,o,(ac.length:Int),(bi.length:Int),(mu.length:Int),(po.length:Int),(ho.length:Int),(pa.length:Int)]).length=80:=rfl;have h9':(fV [t,to,bif ov then 1 else 0,(ac.length:Int),(bi.length:Int),(mu.length:Int),(po.length:Int),(ho.length:Int),(pa.length:Int)]).length=80:=rfl;rw[h9'] at l1;rw[Cn (by omega) (by simp) (by simp;omega)];simp only[ae];rw[aac hk (by show ac.length≤900;omega) _ (by omega)];simp only[ae];rw[yB3 hk fb,ae,qE (by simp only[ay];omega) (by simp only[ay];omega),ai];rw[Cn (by omega) (by omega) (by omega),ae,qE (by simp only[ay];omega) (by simp only[ay];omega),ai];rw[yB3 hk fp,ae,qE (by simp only[ay];omega) (by simp only[ay];omega),ai];rw[Cn (by omega) (by omega) (by omega),ae,qE (by simp only[ay];omega) (by simp only[ay];omega),ai];rw[yB3 hk fh,ae,qE (by simp only[ay];omega) (by simp only[ay];omega),ai];rw[aad hk (by show pa.length≤900;omega) _ (by simp only[ay];omega)];simp only[ae];rw[Cn (by omega) (by omega) (by omega),ae,qE (by simp only[ay];omega) (by simp only[ay];omega),ai];simp only[List.append_assoc,List.append_nil]
  rw[eq];unfold oq;cases ov with
  |false=>exact go 0
  |true=>exact go 1
def qX (D:wJ):jG:=(D.2.1,D.2.2.2.1,D.2.2.1,D.2.2.2.2.1,D.1,D.2.2.2.2.2.2.2.2.2,D.2.2.2.2.2.1,D.2.2.2.2.2.2.1,D.2.2.2.2.2.2.2.1,D.2.2.2.2.2.2.2.2.1)
def gb (L:vS):vS:=(L.2.1,L.1,L.2.2.1,L.2.2.2)
def mp {α:Type}(z:α×wJ):α×jG:=(z.1,qX z.2)
def Hb {α:Type}(z:α×vS×wJ):α×vS×jG:=(z.1,gb z.2.1,qX z.2.2)
theorem vNz {α β:Type}(f:α→β) c a b:Option.map f (bif c then a else b)=bif c then Option.map f a else Option.map f b:=by
 grind
theorem Q1 k D:uW k (qX D)=(eW k D).map mp:=by
 unfold uW eW;simp[vNz];rfl
theorem yKd {k}{D D':wJ}{c}(h:eW k D=some (c,D')):D'.2.1.length≤D.2.1.length∧D'.2.2.2.1.length≤D.2.2.2.1.length:=by
 unfold eW at h;grind
theorem Q2 {k D i}(hi:i=0∨i=1){b}(hx:D.2.1.length≤1000000)(hy:D.2.2.2.1.length≤1000000)(hb:b.length≤1000000):ym k (qX D) i b=(mn k D i b).map mp:=by
 show(bif eX D then _ else _)=Option.map mp (bif eX D then _ else _);cases eX D with
 |true=>rfl
 |false=>
  have hl:=@yKd k D;rcases hi with rfl|rfl
  · show(bif decide ((b.length:Int)>zA (D.1-(D.2.1.length:Int))) then _ else(uW k (qX D)).bind _)=Option.map mp (bif decide ((b.length:Int)>zA (D.1-(D.2.1.length:Int))) then _ else(eW k D).bind _);cases decide ((b.length:Int)>zA (D.1-(D.2.1.length:Int))) with
    |true=>rfl
    |false=>
     rw[Q1];cases hq:eW k D with
     |none=>rfl
     |some z=>
      obtain⟨c,D'⟩:=z;cases c with
      |true=>rfl
      |false=>
       have:=hl hq;show(bif zM (0+D'.2.1.length) 1 then(bif zM (D'.2.1.length+b.length) 1 then _ else none) else none)=Option.map mp (bif zM (D'.2.1.length+b.length) 1 then _ else none);rw[qE (n:=0+D'.2.1.length) (by omega) (by omega),qE (n:=D'.2.1.length+b.length) (by omega) (by omega)];rfl
  · show(bif decide ((b.length:Int)>zA (D.1-(D.2.2.2.1.length:Int))) then _ else(uW k (qX D)).bind _)=Option.map mp (bif decide ((b.length:Int)>zA (D.1-(D.2.2.2.1.length:Int))) then _ else(eW k D).bind _);cases decide ((b.length:Int)>zA (D.1-(D.2.2.2.1.length:Int))) with
    |true=>rfl
    |false=>
     rw[Q1];cases hq:eW k D with
     |none=>rfl
     |some z=>
      obtain⟨c,D'⟩:=z;cases c with
      |true=>rfl
      |false=>
       have:=hl hq;show(bif zM (0+D'.2.2.2.1.length) 1 then(bif zM (D'.2.2.2.1.length+b.length) 1 then _ else none) else none)=Option.map mp (bif zM (D'.2.2.2.1.length+b.length) 1 then _ else none);rw[qE (n:=0+D'.2.2.2.1.length) (by omega) (by omega),qE (n:=D'.2.2.2.1.length+b.length) (by omega) (by omega)];rfl
theorem yA0 k D:yn k (qX D)=(nW k D).map mp:=by
 show(bif eX D then _ else _)=Option.map mp (bif eX D then _ else _);cases eX D with
 |true=>rfl
 |false=>
  rw[Q1];cases eW k D with
  |none=>rfl
  |some z=>
   obtain⟨c,D'⟩:=z;cases c<;>rfl
theorem aae k D {i}(hi:i=0∨i=1):qOq k (qX D) i=(Hc k D i).map mp:=by
 show(bif eX D then _ else _)=Option.map mp (bif eX D then _ else _);cases eX D with
 |true=>rfl
 |false=>
  rcases hi with rfl|rfl
  all_goals
   rw[Q1];cases eW k D with
   |none=>rfl
   |some z=>
    obtain⟨c,D'⟩:=z;cases c<;>rfl
theorem vM7 {k}{D D':wJ}{i e}(hi:i=0∨i=1)(h:Hc k D i=some (e,D')):D'.2.1.length≤D.2.1.length∧D'.2.2.2.1.length≤D.2.2.2.1.length:=by
 have h:(bif eX D then some (11,D) else _)=some (e,D'):=h;cases hd:eX D with
 |true=>
  simp_all
 |false=>
  rw[hd] at h;have hl:=@yKd k D;cases hq:eW k D with
  |none=>
   rcases hi with rfl|rfl
   all_goals
    have h:(eW k D).bind _=some (e,D'):=h;simp_all
  |some z=>
   rcases hi with rfl|rfl
   all_goals
    have h:(eW k D).bind _=some (e,D'):=h;grind
theorem yLq {k b}(hb:b.length≤60000):Mk k b=some (mo b,true):=by
 unfold Mk;rw[ab (by omega),ak,qE (by omega) (by omega),ai];have e1:IntKind.wrap .u8 (zA (Int.tdiv (b.length:Int) 256))=IntKind.wrap .u8 (shr .i64 (b.length:Int) 8):=by
  have:Int.tdiv (b.length:Int) 256=((b.length/256:Nat):Int):=rfl;have h2:shr .i64 (b.length:Int) 8=(b.length:Int)/256:=by
   unfold shr;rw[Int.fdiv_eq_ediv_of_nonneg _ (by grind)];rfl
  rw[this,zO (by omega) (by omega),h2];rfl
 have e2:IntKind.wrap .u8 (Int.tmod (b.length:Int) 256)=IntKind.wrap .u8 (b.length:Int):=by
  have:Int.tmod (b.length:Int) 256=((b.length%256:Nat):Int):=rfl;rw[this,KF,KF];omega
 rw[e1,e2];rfl
theorem vDv {k:Nat}(hk:9≤k){D:wJ}{i:Int}(hi:i=0∨i=1){g:Int}{b:AC}(hx:D.2.1.length≤1000000)(hy:D.2.2.2.1.length≤1000000)(hb:b.length≤50000):Hd k (qX D) g i b=(yo k D i g b).map mp:=by
  have hlen:(mo (wZ g++b)).length=b.length+10:=by rw[PH,ay];show 8+b.length+2=_;omega
  unfold Hd yo;have hl:(wZ g++b).length≤60000:=by rw[ay];show 8+b.length≤_;omega
  rw[ES hk [g] (by simp) (by simp;omega),G5 hk (by simp) (by simp;omega)];simp only[ae];rw[show vN [g]=wZ g by simp[vN]];rw[qE (by show(8+b.length)*1≤_;omega) (by show 8+b.length≤_;omega),PE,if_pos hl,yLq hl];simp only[ai,ak,ae,az];rw[show qZ5 k (qX D)=some D.1 from rfl,show Q3 k D=some D.1 from rfl];simp only[ae];cases decide (((mo (wZ g++b)).length:Int)>D.1)<;>cases decide (g>4611686018427387904)<;>try rfl
  simp only[ak];rw[aae k D hi];have hw:=@vM7 k D;cases hq:Hc k D i with
  |none=>rfl
  |some z=>
   obtain⟨e,D1⟩:=z;have hw:=hw hi hq;show(bif decide (e=0) then(ym k (qX D1) i (mo (wZ g++b))).bind _ else _)=Option.map mp (bif !(decide (e=0)) then _ else(mn k D1 i (mo (wZ g++b))).bind _);cases he:decide (e=0) with
   |false=>
    show(bif decide (e=0) then _ else _)=_;rw[he];rfl
   |true=>
    rw[Q2 hi (by omega) (by omega) (by omega)];cases mn k D1 i (mo (wZ g++b)) with
    |none=>rfl
    |some z=>
     obtain⟨e,D2⟩:=z;show(bif decide (e=0) then(yn k (qX D2)).bind _ else _)=Option.map mp (bif !(decide (e=0)) then _ else(nW k D2).bind _);rw[yA0];cases decide (e=0) with
     |false=>rfl
     |true=>cases nW k D2<;>rfl
theorem aaf {k:Nat}{L:vS}(hs:L.1=0∨L.1=1){D:wJ}{b:AC}(hx:D.2.1.length≤1000000)(hy:D.2.2.2.1.length≤1000000)(hb:b.length≤60000):yp k (gb L) (qX D) b=(yq k L D b).map Hb:=by
  have hlen:=PH b;obtain⟨m,g,n,st⟩:=L;unfold yp yq;rw[PE,if_pos hb,yLq hb];show(bif st then _ else(ym k (qX D) m (mo b)).bind _)=Option.map Hb (bif st then _ else(mn k D m (mo b)).bind _);cases st with
  |true=>rfl
  |false=>
   rw[Q2 hs hx hy (by omega)];cases mn k D m (mo b) with
   |none=>rfl
   |some z=>
    obtain⟨e,D1⟩:=z;show(bif decide (e=3) then _ else bif decide (e=0) then(yn k (qX D1)).bind _ else bif decide (e=0) then _ else _)=Option.map Hb (bif decide (e=3) then _ else bif decide (e=0) then(nW k D1).bind _ else bif decide (e=0) then _ else _);rw[yA0];cases decide (e=3) with
    |true=>rfl
    |false=>
     cases decide (e=0) with
     |false=>rfl
     |true=>
      cases nW k D1 with
      |none=>rfl
      |some z=>
       obtain⟨e,D2⟩:=z;show(bif decide (e=0) then _ else _)=Option.map Hb (bif decide (e=0) then _ else _);cases decide (e=0)<;>rfl
theorem vK6 {k:Nat}(hk:9≤k){L:vS}(hs:L.1=0∨L.1=1){D:wJ}{b:AC}(hx:D.2.1.length≤1000000)(hy:D.2.2.2.1.length≤1000000)(hb:b.length≤50000):pC k (gb L) (qX D) b=(ot k L D b).map Hb:=by
  unfold pC ot;have e2:zA (1-L.1)=1-L.1:=zO (by omega) (by omega);show(Hd k (qX D) (zA (L.2.1+1)) (zA (1-L.1)) b).bind _=_;rw[e2,vDv hk (by omega) hx hy hb];cases yo k D (1-L.1) (zA (L.2.1+1)) b with
  |none=>rfl
  |some z=>
   obtain⟨e,D1⟩:=z;show(bif decide (e=0) then some (e,(zA (L.2.1+1),zA (1-L.1),0,false),qX D1) else _)=Option.map Hb (bif decide (e=0) then some (e,(1-L.1,zA (L.2.1+1),0,false),D1) else _);rw[e2];cases decide (e=0)<;>rfl
structure gI (D:wJ):Prop where
 x:0≤D.2.2.1∧D.2.2.1≤(D.2.1.length:Int)
 y:0≤D.2.2.2.2.1∧D.2.2.2.2.1≤(D.2.2.2.1.length:Int)
 room:0≤D.1∧D.1≤200000
 lx:(D.2.1.length:Int)≤D.1
 ly:(D.2.2.2.1.length:Int)≤D.1
 ck:D.2.2.2.2.2.2.1<9223372036854775808
theorem He {D}(h:gI D):D.2.1.length≤1000000∧D.2.2.2.1.length≤1000000:=by
 have h1:=h.lx;have h2:=h.ly;have h3:=h.room;omega
theorem yBz {k:Nat}{D:wJ}(h:gI D)(hu:eX D=false):∃c D',eW k D=some (c,D')∧gI D'∧D'.1=D.1∧(c=false→eX D'=false∧D'.2.1=D.2.1∧D'.2.2.2.1=D.2.2.2.1):=by
 have hl:=He h;obtain⟨ro,x,sx,y,sy,cA,cK,ar,dn,op⟩:=D;obtain⟨h1,h2,h3,h4,h5,h6⟩:=h;have hu:dn=false:=hu;subst hu;have h1:0≤sx∧sx≤(x.length:Int):=h1;have h2:0≤sy∧sy≤(y.length:Int):=h2;have h4:(x.length:Int)≤ro:=h4;have h5:(y.length:Int)≤ro:=h5;have hl:x.length≤1000000∧y.length≤1000000:=hl;rcases vTf (k:=k) (ar:=ar) (op:=op) (cA:=cA) (ro:=ro) h1 h2 hl.1 hl.2 h6 with q|⟨_,a,c,q1,q2,q3,q4,q⟩
 · exact⟨false,_,q,⟨h1,h2,h3,h4,h5,h6⟩,rfl,fun _=>⟨rfl,rfl,rfl⟩⟩
 · have e1:(x.take a).length=a:=by rw[bP];omega
   have e2:(y.take c).length=c:=by rw[bP];omega
   exact⟨true,_,q,⟨⟨by show(0:Int)≤a;omega,by show(a:Int)≤((x.take a).length:Int);omega⟩,⟨by show(0:Int)≤c;omega,by show(c:Int)≤((y.take c).length:Int);omega⟩,h3,by show((x.take a).length:Int)≤ro;omega,by show((y.take c).length:Int)≤ro;omega,h6⟩,rfl,fun h=>nomatch h⟩
def Op (r:Option (Int×wJ))(D:wJ):Prop:=∃e D',r=some (e,D')∧gI D'∧D'.1=D.1∧(e≠11→eX D'=false)
theorem yP3 {k:Nat}{D:wJ}(h:gI D)(hu:eX D=false):Op (nW k D) D:=by
 obtain⟨c,D',f1,f2,f3,f4⟩:=yBz (k:=k) h hu;unfold nW;rw[show qz k D=some false from congrArg some hu,ae,ak,f1];cases c with
 |true=>exact⟨11,D',rfl,f2,f3,fun h=>absurd rfl h⟩
 |false=>exact⟨0,_,rfl,⟨⟨by show(0:Int)≤(D'.2.1.length:Int);omega,Int.le_refl _⟩,⟨by show(0:Int)≤(D'.2.2.2.1.length:Int);omega,Int.le_refl _⟩,f2.room,f2.lx,f2.ly,f2.ck⟩,f3,fun _=>(f4 rfl).1⟩
theorem aag {k:Nat}{D:wJ}(h:gI D)(hu:eX D=false){i:Int}(hi:i=0∨i=1):Op (Hc k D i) D:=by
 obtain⟨c,D',f1,f2,f3,f4⟩:=yBz (k:=k) h hu;have hr:=f2.room;rcases hi with rfl|rfl
 all_goals
  show Op ((qz k D).bind _) D;rw[show qz k D=some false from congrArg some hu];show Op ((eW k D).bind _) D;rw[f1];cases c with
  |true=>exact⟨11,D',rfl,f2,f3,fun h=>absurd rfl h⟩
  |false=>first
    |exact⟨0,_,rfl,⟨⟨Int.le_refl _,Int.le_refl _⟩,f2.y,f2.room,hr.1,f2.ly,f2.ck⟩,f3,fun _=>(f4 rfl).1⟩
    |exact⟨0,_,rfl,⟨f2.x,⟨Int.le_refl _,Int.le_refl _⟩,f2.room,f2.lx,hr.1,f2.ck⟩,f3,fun _=>(f4 rfl).1⟩
theorem yNw {k:Nat}{D:wJ}(h:gI D)(hu:eX D=false){i:Int}(hi:i=0∨i=1){b:AC}(hb:b.length≤1000000):Op (mn k D i b) D:=by
 obtain⟨c,D',f1,f2,f3,f4⟩:=yBz (k:=k) h hu;have hl:=He h;have dO:=He f2;have hx:=f2.x;have hy:=f2.y;have hr:=h.room;have hlx:=h.lx;have hly:=h.ly;rcases hi with rfl|rfl
 · show Op ((qz k D).bind _) D;rw[show qz k D=some false from congrArg some hu];show Op (bif decide ((b.length:Int)>zA (D.1-(D.2.1.length:Int))) then _ else(eW k D).bind _) D;rw[zO (by omega) (by omega),f1];by_cases q:(b.length:Int)>D.1-(D.2.1.length:Int)
   · rw[aa q];exact⟨3,D,rfl,h,rfl,fun _=>hu⟩
   rw[ab q];cases c with
   |true=>exact⟨11,D',rfl,f2,f3,fun h=>absurd rfl h⟩
   |false=>
    have f5:=(f4 rfl).2.1;show Op (bif zM (D'.2.1.length+b.length) 1 then _ else none) D;rw[qE (by omega) (by omega)];refine⟨0,_,rfl,⟨⟨hx.1,?_⟩,hy,f2.room,?_,f2.ly,f2.ck⟩,f3,fun _=>(f4 rfl).1⟩
    · show D'.2.2.1≤((D'.2.1++b).length:Int);rw[ay];omega
    · show((D'.2.1++b).length:Int)≤D'.1;rw[ay,f5,f3];omega
 · show Op ((qz k D).bind _) D;rw[show qz k D=some false from congrArg some hu];show Op (bif decide ((b.length:Int)>zA (D.1-(D.2.2.2.1.length:Int))) then _ else(eW k D).bind _) D;rw[zO (by omega) (by omega),f1];by_cases q:(b.length:Int)>D.1-(D.2.2.2.1.length:Int)
   · rw[aa q];exact⟨3,D,rfl,h,rfl,fun _=>hu⟩
   rw[ab q];cases c with
   |true=>exact⟨11,D',rfl,f2,f3,fun h=>absurd rfl h⟩
   |false=>
    have f5:=(f4 rfl).2.2;show Op (bif zM (D'.2.2.2.1.length+b.length) 1 then _ else none) D;rw[qE (by omega) (by omega)];refine⟨0,_,rfl,⟨hx,⟨hy.1,?_⟩,f2.room,f2.lx,?_,f2.ck⟩,f3,fun _=>(f4 rfl).1⟩
    · show D'.2.2.2.2.1≤((D'.2.2.2.1++b).length:Int);rw[ay];omega
    · show((D'.2.2.2.1++b).length:Int)≤D'.1;rw[ay,f5,f3];omega
def nk (b:AC):AC×AC×Bool:=
 if b.length<8∨fU (b.take 8)<0∨fU (b.take 8)>((b.length-8)/8:Nat) then([],[],false)
 else(ez (fU (b.take 8)).toNat (b.drop 8),b.drop (8+8*(fU (b.take 8)).toNat),true)
theorem vDi:∀m b,ez m (b.take (8*m))=ez m b
 |0,_=>rfl
 |m+1,b=>by
  show fU _::_=fU _::_;rw[List.take_take,List.drop_take,Nat.min_eq_left (by omega),show 8*(m+1)-8=8*m by omega,vDi m]
theorem yLj b:-9223372036854775808≤fU b∧fU b<9223372036854775808:=⟨XM _,XN _⟩
theorem vUq {k}(hk:9≤k){b}(h:b.length=8):sJ k b=some ([fU b],0):=by
 rw[XR hk (by omega) (by omega)];unfold eQ;rw[h];show some (([fU (b.take 8)]:AC),(0:Int))=_;grind
theorem qR3 {k}(hk:9≤k){b m}(h:b.length=8*m)(hm:m<k)(pc:m≤1000000):sJ k b=some (ez m b,0)∧xF k b=some (ez m b,0):=by
 rw[XR hk (by omega) (by omega),vC8 hk (by omega) (by omega)];unfold eQ;simp_all
theorem aah {k}(hk:9≤k){b}(hb:b.length≤8*k)(bg:b.length≤1000000):Q4 k b=some (nk b)∧Q5 k b=some (nk b):=by
 have hd:(List.drop 8 b).length=b.length-8:=List.length_drop;unfold Q4 Q5 nk;by_cases h0:b.length<8
 · rw[aa (by omega),if_pos (.inl h0)];exact⟨rfl,rfl⟩
 have ht:(b.take 8).length=8:=by rw[bP];omega
 rw[ab (by omega),aa (by omega),vUq hk ht,yVl hk _ ht];have hn:=yLj (b.take 8);generalize fU (b.take 8)=n at hn;simp only[ak,ai,ae];simp only[ai,List.getD_cons_zero];by_cases h1:n<0
 · rw[aa h1,if_pos (.inr (.inl h1))];exact⟨rfl,rfl⟩
 have w1:zA (Int.tdiv ((List.drop 8 b).length:Int) 8)=((b.length-8)/8:Nat):=by
  rw[hd];show zA (((b.length-8)/8:Nat):Int)=_;rw[zO (by omega) (by omega)]
 have w2:zA (Int.tdiv (zA ((b.length:Int)-8)) 8)=((b.length-8)/8:Nat):=by
  rw[zO (x:=(b.length:Int)-8) (by omega) (by omega),show(b.length:Int)-8=((b.length-8:Nat):Int) by omega];show zA (((b.length-8)/8:Nat):Int)=_;rw[zO (by omega) (by omega)]
 rw[ab h1,w1,w2];simp only[ak];by_cases h2:n>((b.length-8)/8:Nat)
 · rw[aa h2,if_pos (.inr (.inr h2))];exact⟨rfl,rfl⟩
 obtain⟨m,rfl⟩:∃m:Nat,n=m:=⟨n.toNat,by omega⟩;have e1:zA (8*(m:Int))=((8*m:Nat):Int):=by rw[zO (by omega) (by omega)];omega
 have e2:zA (8+((8*m:Nat):Int))=((8+8*m:Nat):Int):=by rw[zO (by omega) (by omega)];omega
 rw[ab h2,if_neg (by omega),e1,e2];simp only[ak,ao];have s1:qM b 8 (8+8*m-8)=(b.drop 8).take (8*m):=by unfold qM;rw[show 8+8*m-8=8*m by omega]
 have hl:((b.drop 8).take (8*m)).length=8*m:=by rw[bP,hd];omega
 have hg:=qR3 hk hl (by omega) (by omega);rw[s1,hg.1,hg.2,vDi,aa (by omega),aa (by omega),aa (by omega),aa (by omega),aa (by omega),List.drop_drop];exact⟨rfl,rfl⟩
theorem yYs {b}(hb:b.length≤1000000):(nk b).2.1.length≤b.length∧((nk b).2.2=true→8*((nk b).1.length+1)+(nk b).2.1.length=b.length):=by
 unfold nk;split
 · simp
 · rw[Pv,List.length_drop];omega
def kj (st:wW):AC×wW:=((nk st.1).1,(nk st.1).2.1,st.2&&(nk st.1).2.2)
def gd (n:Nat)(st:wW):AC×wW:=if(kj st).1.length=n then kj st else(List.replicate n 0,(kj st).2.1,false)
def Hf (st:wW):(Int×Int×Int)×wW:=(((gd 3 st).1.getD 0 0,(gd 3 st).1.getD 1 0,(gd 3 st).1.getD 2 0),(gd 3 st).2)
def Hg (st:wW):(Int×Int×Int×Int×Int×Int×Int)×wW:=
 (((gd 7 st).1.getD 0 0,(gd 7 st).1.getD 1 0,(gd 7 st).1.getD 2 0,(gd 7 st).1.getD 3 0,(gd 7 st).1.getD 4 0,(gd 7 st).1.getD 5 0,(gd 7 st).1.getD 6 0),(gd 7 st).2)
def vZ (st:wW):wW:=(st.1,!st.2)
theorem Co n st:(gd n st).1.length=n:=by
 unfold gd;grind
theorem Hh {k}(hk:9≤k){st:wW}(hb:st.1.length≤8*k)(bg:st.1.length≤1000000):yr k (vZ st)=some ((kj st).1,vZ (kj st).2)∧yt k st=some (kj st):=by
 obtain⟨b,ok⟩:=st;have h:=aah hk hb bg;unfold yr yt;rw[show(vZ (b,ok)).1=b from rfl,h.1,h.2];cases ok<;>exact⟨rfl,rfl⟩
theorem Mm {k}(hk:9≤k){st:wW}(hb:st.1.length≤8*k)(bg:st.1.length≤1000000){n:Nat}(hn:oZ (n:Int) (n:Int) 8=true):uX k (vZ st) (n:Int)=some ((gd n st).1,vZ (gd n st).2)∧uY k st (n:Int)=some (gd n st):=by
 have h:=Hh hk hb bg;unfold uX uY gd;rw[h.1,h.2];simp only[ae];by_cases e:(kj st).1.length=n
 · rw[aa (by omega),if_pos e];exact⟨rfl,rfl⟩
 · rw[ab (by omega),if_neg e,hn];exact⟨rfl,rfl⟩
structure yO {α:Type} (f:α→AC) (s:wW→α×wW):Prop where
 le:∀st:wW,st.1.length≤1000000→(s st).2.1.length≤st.1.length
 ok:∀st:wW,st.1.length≤1000000→(s st).2.2=true→st.2=true∧8*((f (s st).1).length+1)+(s st).2.1.length=st.1.length
theorem np:yO (fun x=>x) kj:=⟨fun st h=>(yYs h).1,fun st h e=>by
 have e:(st.2&&(nk st.1).2.2)=true:=e;rw[aR] at e;exact⟨e.1,(yYs h).2 e.2⟩⟩
theorem Hi n:yO (fun x=>x) (gd n):=by
 refine⟨fun st h=>?_,fun st h=>?_⟩<;>unfold gd<;>split
 · exact np.le st h
 · exact np.le st h
 · exact np.ok st h
 · exact fun e=>nomatch e
theorem qY1:yO lB Hf:=⟨fun st h=>(Hi 3).le st h,fun st h e=>by
 have:=(Hi 3).ok st h e;rw[Co] at this;exact this⟩
theorem yC2:yO lC Hg:=⟨fun st h=>(Hi 7).le st h,fun st h e=>by
 have:=(Hi 7).ok st h e;rw[Co] at this;exact this⟩
def eY {α:Type}(step:wW→α×wW):Nat→Int→wW→List α→wW×List α
 |0,_,st,r=>(st,r)
 |m+1,n,st,r=>if 0<n∧st.2=true then eY step m (n-1) (step st).2 (r++[(step st).1]) else(st,r)
def ta (st:wW):Nat:=if st.2 then st.1.length/8+1 else 0
theorem Cp {α β:Type}{f:α→AC}{step:wW→α×wW}(hw:yO f step){L:Nat→Int→wW→List α→Option β}{e:wW→List α→β}{ix:Int→Int}{N:Int}{B:Nat}(hB:B≤1000000)
  (hs:∀m n st r,0<n→n≤N→st.2=true→st.1.length≤B→r.length≤1000000→L (m+1) (ix n) st r=L m (ix (n-1)) (step st).2 (r++[(step st).1]))
  (he:∀m n st r,¬(0<n∧st.2=true)→L (m+1) (ix n) st r=some (e st r)):
  ∀m n st r,n≤N→ta st<m→st.1.length≤B→r.length+ta st≤1000001→L m (ix n) st r=some (e (eY step m n st r).1 (eY step m n st r).2)
 |0,n,st,r,h1,h2,h3,h4=>absurd h2 (Nat.not_lt_zero _)
 |m+1,n,st,r,h1,h2,h3,h4=>by
  unfold eY;by_cases h:0<n∧st.2=true
  · have hm:ta st=st.1.length/8+1:=by unfold ta;rw[h.2];rfl
    have hle:=hw.le st (by omega);have bd:ta (step st).2<ta st:=by
     rw[hm];unfold ta;cases hq:(step st).2.2 with
     |false=>exact Nat.succ_pos _
     |true=>
      have:=(hw.ok st (by omega) hq).2;show(step st).2.1.length/8+1<_;omega
    rw[if_pos h,hs m n st r h.1 h1 h.2 h3 (by omega)];exact Cp hw hB hs he m (n-1) _ _ (by omega) (by omega) (by omega) (by rw[ay];show r.length+1+_≤_;omega)
  · rw[if_neg h];exact he m n st r h
theorem Hj {α:Type}{f:α→AC}{step:wW→α×wW}(hw:yO f step):∀m n st r,st.1.length≤1000000→
  (eY step m n st r).1.1.length≤st.1.length∧((eY step m n st r).1.2=true→st.2=true∧(yJ ((eY step m n st r).2.map f)).length+(eY step m n st r).1.1.length=(yJ (r.map f)).length+st.1.length)
 |0,n,st,r,_=>⟨Nat.le_refl _,fun h=>⟨h,rfl⟩⟩
 |m+1,n,st,r,hl=>by
  unfold eY;split
  · have h1:=hw.le st hl;have h2:=hw.ok st hl;have h3:=Hj hw m (n-1) (step st).2 (r++[(step st).1]) (by omega);refine⟨by omega,fun h=>?_⟩;have h4:=h3.2 h;have h5:=h2 h4.1;have e:(yJ ((r++[(step st).1]).map f)).length=(yJ (r.map f)).length+8*((f (step st).1).length+1):=by
     rw[List.map_append,qYh,ay,←sL];simp[yJ]
    exact⟨h5.1,by omega⟩
  · exact⟨Nat.le_refl _,fun h=>⟨h,rfl⟩⟩
theorem yLm {l}(h:(yJ l).length≤7200):jA l:=by
 have key:∀l,8*l.length≤(yJ l).length∧∀x∈l,8*x.length≤(yJ l).length:=fun l=>by
  induction l with
  |nil=>exact⟨Nat.zero_le _,fun x hx=>absurd hx List.not_mem_nil⟩
  |cons a l ih=>
   have e:(yJ (a::l)).length=8*(a.length+1)+(yJ l).length:=by
    rw[←sL];simp[yJ]
   rw[e];refine⟨by rw[List.length_cons];omega,fun x hx=>?_⟩;rcases List.mem_cons.1 hx with rfl|hx
   · omega
   · have:=ih.2 x hx;omega
 have hk:=key l;exact⟨by omega,fun x hx=>by have:=hk.2 x hx;omega⟩
theorem qVy x (s:Nat)(h:s≤62):shr .i64 x (s:Int)=x/2^s:=by
 have e:shr .i64 x (s:Int)=x.fdiv (2^(min (s:Int).toNat 64)):=rfl;grind
theorem tc x:shr .i64 x 16=x/65536:=qVy x 16 (by decide)
theorem yZb x:shr .i64 x 32=x/4294967296:=qVy x 32 (by decide)
theorem yU6 x:shr .i64 x 48=x/281474976710656:=qVy x 48 (by decide)
theorem vYp x:shr .i64 x 0=x:=by grind
theorem uZ x:yP .i64 x 65535=x%65536:=vCo 16 (by decide) x
theorem Q6 m (hm:m≤62){x y}(hx:0≤x)(hy:0≤y∧y<2^m)(hs:x*2^m+y<9223372036854775808):wR .i64 (x*2^m) y=x*2^m+y:=by
 obtain⟨a,rfl⟩:=Int.eq_ofNat_of_zero_le hx;obtain⟨b,rfl⟩:=Int.eq_ofNat_of_zero_le hy.1;have hp:(2:Int)^m=((2^m:Nat):Int):=by simp
 rw[hp] at hs hy⊢;have e1:(a:Int)*((2^m:Nat):Int)=((a*2^m:Nat):Int):=by simp
 rw[e1] at hs⊢;have hb:b<2^m:=by omega
 unfold wR tG;have Mn:IntKind.i64.bits=64:=rfl;have e2:(BitVec.ofInt IntKind.i64.bits ((a*2^m:Nat):Int)|||BitVec.ofInt IntKind.i64.bits (b:Int)).toNat=a*2^m+b:=by
  rw[BitVec.toNat_or,BitVec.ofInt_natCast,BitVec.ofInt_natCast,BitVec.toNat_ofNat,BitVec.toNat_ofNat,Mn,Nat.mod_eq_of_lt (by omega),Nat.mod_eq_of_lt (by omega)];have:=Nat.shiftLeft_add_eq_or_of_lt hb a;rw[Nat.shiftLeft_eq] at this;exact this.symm
 rw[e2];exact zO (by omega) (by omega)
def V9 (l0 l1 l2 l3 l4 l5 l6 l7 l8:Int):Int:=l0+65536*(l1+65536*(l2+65536*(l3+65536*(l4+65536*(l5+65536*(l6+65536*(l7+65536*l8)))))))
theorem vUi (l0 l1 l2 l3 l4 l5 l6 l7 l8:Int){c1 c2 c3 c4 c5 c6 c7 c8:Int}(h1:c1=zA (l1+shr .i64 l0 16))(h2:c2=zA (l2+shr .i64 c1 16))(h3:c3=zA (l3+shr .i64 c2 16))(h4:c4=zA (l4+shr .i64 c3 16))(h5:c5=zA (l5+shr .i64 c4 16))(h6:c6=zA (l6+shr .i64 c5 16))(h7:c7=zA (l7+shr .i64 c6 16))(h8:c8=zA (l8+shr .i64 c7 16)):
  Hk 1000 [l0,l1,l2,l3,l4,l5,l6,l7,l8]=some [yP .i64 l0 65535,yP .i64 c1 65535,yP .i64 c2 65535,yP .i64 c3 65535,yP .i64 c4 65535,yP .i64 c5 65535,yP .i64 c6 65535,yP .i64 c7 65535,c8]:=by
 subst h8;subst h7;subst h6;subst h5;subst h4;subst h3;subst h2;subst h1
 kernel_rfl
theorem yPs {l0 l1 l2 l3 l4 l5 l6 l7 l8:Int}(g0:0≤l0∧l0≤1099511627776)(g1:0≤l1∧l1≤1099511627776)(g2:0≤l2∧l2≤1099511627776)(g3:0≤l3∧l3≤1099511627776)(g4:0≤l4∧l4≤1099511627776)(g5:0≤l5∧l5≤1099511627776)(g6:0≤l6∧l6≤1099511627776)(g7:0≤l7∧l7≤1099511627776)(g8:0≤l8∧l8≤1099511627776):∃d0 d1 d2 d3 d4 d5 d6 d7 d8,
  Hk 1000 [l0,l1,l2,l3,l4,l5,l6,l7,l8]=some [d0,d1,d2,d3,d4,d5,d6,d7,d8]∧V9 d0 d1 d2 d3 d4 d5 d6 d7 d8=V9 l0 l1 l2 l3 l4 l5 l6 l7 l8∧(0≤d0∧d0<65536)∧(0≤d1∧d1<65536)∧(0≤d2∧d2<65536)∧(0≤d3∧d3<65536)∧(0≤d4∧d4<65536)∧(0≤d5∧d5<65536)∧(0≤d6∧d6<65536)∧(0≤d7∧d7<65536)∧0≤d8:=by
 obtain⟨c1,nT⟩:∃c,c=l1+l0/65536:=⟨_,rfl⟩;have b1:0≤c1∧c1≤2199023255552:=by omega
 have h1:c1=zA (l1+shr .i64 l0 16):=by rw[tc,←nT,zO (by omega) (by omega)]
 obtain⟨c2,dq⟩:∃c,c=l2+c1/65536:=⟨_,rfl⟩;have b2:0≤c2∧c2≤2199023255552:=by omega
 have h2:c2=zA (l2+shr .i64 c1 16):=by rw[tc,←dq,zO (by omega) (by omega)]
 obtain⟨c3,dP⟩:∃c,c=l3+c2/65536:=⟨_,rfl⟩;have b3:0≤c3∧c3≤2199023255552:=by omega
 have h3:c3=zA (l3+shr .i64 c2 16):=by rw[tc,←dP,zO (by omega) (by omega)]
 obtain⟨c4,gY⟩:∃c,c=l4+c3/65536:=⟨_,rfl⟩;have b4:0≤c4∧c4≤2199023255552:=by omega
 have h4:c4=zA (l4+shr .i64 c3 16):=by rw[tc,←gY,zO (by omega) (by omega)]
 obtain⟨c5,mU⟩:∃c,c=l5+c4/65536:=⟨_,rfl⟩;have b5:0≤c5∧c5≤2199023255552:=by omega
 have h5:c5=zA (l5+shr .i64 c4 16):=by rw[tc,←mU,zO (by omega) (by omega)]
 obtain⟨c6,EE⟩:∃c,c=l6+c5/65536:=⟨_,rfl⟩;have b6:0≤c6∧c6≤2199023255552:=by omega
 have h6:c6=zA (l6+shr .i64 c5 16):=by rw[tc,←EE,zO (by omega) (by omega)]
 obtain⟨c7,EF⟩:∃c,c=l7+c6/65536:=⟨_,rfl⟩;have b7:0≤c7∧c7≤2199023255552:=by omega
 have h7:c7=zA (l7+shr .i64 c6 16):=by rw[tc,←EF,zO (by omega) (by omega)]
 obtain⟨c8,hc8⟩:∃c,c=l8+c7/65536:=⟨_,rfl⟩;have b8:0≤c8∧c8≤2199023255552:=by omega
 have h8:c8=zA (l8+shr .i64 c7 16):=by rw[tc,←hc8,zO (by omega) (by omega)]
 have run:=vUi l0 l1 l2 l3 l4 l5 l6 l7 l8 h1 h2 h3 h4 h5 h6 h7 h8;simp only[uZ] at run;refine⟨_,_,_,_,_,_,_,_,_,run,?_,⟨Int.emod_nonneg _ (by decide),Int.emod_lt_of_pos _ (by decide)⟩,⟨Int.emod_nonneg _ (by decide),Int.emod_lt_of_pos _ (by decide)⟩,⟨Int.emod_nonneg _ (by decide),Int.emod_lt_of_pos _ (by decide)⟩,⟨Int.emod_nonneg _ (by decide),Int.emod_lt_of_pos _ (by decide)⟩,⟨Int.emod_nonneg _ (by decide),Int.emod_lt_of_pos _ (by decide)⟩,⟨Int.emod_nonneg _ (by decide),Int.emod_lt_of_pos _ (by decide)⟩,⟨Int.emod_nonneg _ (by decide),Int.emod_lt_of_pos _ (by decide)⟩,⟨Int.emod_nonneg _ (by decide),Int.emod_lt_of_pos _ (by decide)⟩,b8.1⟩;unfold V9;clear run h1 h2 h3 h4 h5 h6 h7 h8;omega
theorem aai l0 l1 l2 l3 l4 l5 l6 l7 l8 n:Q7 1000 [l0,l1,l2,l3,l4,l5,l6,l7,l8] n=Hk 1000 [zA (l0*n),zA (l1*n),zA (l2*n),zA (l3*n),zA (l4*n),zA (l5*n),zA (l6*n),zA (l7*n),zA (l8*n)]:=by
 have e:Q8 1000 1000 n 0 [l0,l1,l2,l3,l4,l5,l6,l7,l8]=some [zA (l0*n),zA (l1*n),zA (l2*n),zA (l3*n),zA (l4*n),zA (l5*n),zA (l6*n),zA (l7*n),zA (l8*n)]:=by kernel_rfl
 unfold Q7;simp_all
theorem aaj l0 l1 l2 l3 l4 l5 l6 l7 l8 n:V9 l0 l1 l2 l3 l4 l5 l6 l7 l8*n=V9 (l0*n) (l1*n) (l2*n) (l3*n) (l4*n) (l5*n) (l6*n) (l7*n) (l8*n):=by
 unfold V9;grind
theorem vQt l0 l1 l2 l3 l4 l5 l6 l7 l8 {x0 x1 x2 x3 x4 x5 x6 x7 x8 r0 r1 r2 r3 r4 r5 r6 r7 r8 r9}(h8:x8=zA (shl .i64 r9 16+l8))(h7:x7=zA (shl .i64 r8 16+l7))(h6:x6=zA (shl .i64 r7 16+l6))(h5:x5=zA (shl .i64 r6 16+l5))(h4:x4=zA (shl .i64 r5 16+l4))(h3:x3=zA (shl .i64 r4 16+l3))(h2:x2=zA (shl .i64 r3 16+l2))(h1:x1=zA (shl .i64 r2 16+l1))(h0:x0=zA (shl .i64 r1 16+l0))(h9:r9=0)(k8:r8=Int.tmod x8 10000)(k7:r7=Int.tmod x7 10000)(k6:r6=Int.tmod x6 10000)(k5:r5=Int.tmod x5 10000)(k4:r4=Int.tmod x4 10000)(k3:r3=Int.tmod x3 10000)(k2:r2=Int.tmod x2 10000)(k1:r1=Int.tmod x1 10000)(k0:r0=Int.tmod x0 10000):
  Mo 1000 1000 10000 0 8 [l0,l1,l2,l3,l4,l5,l6,l7,l8]=some [zA (Int.tdiv x0 10000),zA (Int.tdiv x1 10000),zA (Int.tdiv x2 10000),zA (Int.tdiv x3 10000),zA (Int.tdiv x4 10000),zA (Int.tdiv x5 10000),zA (Int.tdiv x6 10000),zA (Int.tdiv x7 10000),zA (Int.tdiv x8 10000)]:=by
 subst h0;subst k1;subst h1;subst k2;subst h2;subst k3;subst h3;subst k4;subst h4;subst k5;subst h5;subst k6;subst h6;subst k7;subst h7;subst k8;subst h8;subst h9
 kernel_rfl
def u9 (b:AC):Prop:=∀x∈b,0≤x∧x<256
theorem aak {x y}(hx:0≤x∧x<256)(hy:0≤y∧y<256):wR .i64 (shl .i64 (zA x) 8) (zA y)=x*256+y∧zA (zA (zA x*256)+zA y)=x*256+y:=by
 rw[zO (x:=x) (by omega) (by omega),zO (x:=y) (by omega) (by omega)];refine⟨?_,by rw[zO (x:=x*256) (by omega) (by omega),zO (by omega) (by omega)]⟩;have e:shl .i64 x 8=x*2^8:=by
  show zA (x*2^8)=_;exact zO (by omega) (by omega)
 rw[e,Q6 8 (by decide) hx.1 (by omega) (by omega)];omega
theorem yZc {k B}:∀n b r,b.length<2*n→u9 b→b.length≤B→B≤1000000→r.length+b.length≤2000000→(∀x∈r,x.length≤B)→
  ∃t l,Mp k n b r=some (t,l)∧Mq k n b r=some (t,l)∧(∀x∈l,x.length≤B)∧l.length≤r.length+b.length
 |n+1,b,r,h,h8,hB,fD,hr,hx=>by
  show∃t l,Q9 k (Mp k n) b r=_∧Ra k (Mq k n) b r=_∧_;unfold Q9 Ra;by_cases h2:b.length<2
  · rw[ab (by omega)];exact by grind
  have l2:=aak (h8 (b.getD 0 0) (jY (by omega))) (h8 (b.getD 1 0) (jY (by omega)));have b0:=h8 (b.getD 0 0) (jY (by omega));have b1:=h8 (b.getD 1 0) (jY (by omega));rw[aa (by omega),wU (by omega) (by omega),wU (by omega) (by omega),l2.1,l2.2];obtain⟨m,hm⟩:∃m:Nat,b.getD 0 0*256+b.getD 1 0=m:=⟨(b.getD 0 0*256+b.getD 1 0).toNat,by omega⟩;rw[hm];simp only[ai];by_cases h3:(m:Int)>60000
  · rw[aa h3];exact by grind
  rw[ab h3,zO (x:=(b.length:Int)-2) (by omega) (by omega)];by_cases h4:(m:Int)>(b.length:Int)-2
  · rw[aa h4];exact by grind
  have e:zA (2+(m:Int))=((2+m:Nat):Int):=by rw[zO (by omega) (by omega)];omega
  rw[ab h4,e,aa (by omega),aa (by omega),aa (by omega),ao];have hs:(qM b 2 (2+m-2)).length≤B:=by
   unfold qM;rw[bP,List.length_drop];omega
  rw[qE (by omega) (by omega),qE (n:=r.length+1) (by omega) (by omega)];simp only[ai];have hd:(b.drop (2+m)).length=b.length-(2+m):=List.length_drop;obtain ⟨t, l, a1, a2, a3, a4⟩ := yZc (k := k) (B := B) n (b.drop (2 + m)) (r ++ [qM b 2 (2 + m - 2)]) (by omega) (fun x hx => h8 x (by grind)) (by omega) fD (by rw [ay, hd]; show r.length + 1 + _ ≤ _; omega) (fun x h=>by
   grind)
  grind
structure qLu (B:Nat) (g:Int) (S:AC) (rows:EQ):Prop where
 g:(g=0∧S=[]∧rows=[])∨(1≤g∧g≤4611686018427387904)
 s:S.length≤B
 r:∀x∈rows,x.length≤B
 n:rows.length≤B
theorem Rb B:qLu B 0 [] []:=⟨by simp,by simp,by simp,by simp⟩
theorem vJ9 {k B}(hk:9≤k)(hB:B<2*k)(fD:B≤1000000){D i}(hi:i=0∨i=1)(hl:(ke D i).length≤B)(h8:u9 (ke D i)):
  ∃g S rows,Hl k D i=some (g,S,rows)∧Mr k (qX D) i=some (g,S,rows,decide (g>0))∧qLu B g S rows:=by
 have r1:yEl k D i=some (ke D i):=by
  rcases hi with rfl|rfl
  · have hl:D.2.1.length≤B:=hl;show(Cq k D.2.1).bind (fun x1=>some x1)=some D.2.1;unfold Cq;rw[qE (by omega) (by omega)];rfl
  · have hl:D.2.2.2.1.length≤B:=hl;show(Cq k D.2.2.2.1).bind (fun x1=>some x1)=some D.2.2.2.1;unfold Cq;rw[qE (by omega) (by omega)];rfl
 have r2:qTk k (qX D) i=some (ke D i):=by
  rcases hi with rfl|rfl
  · have hl:D.2.1.length≤B:=hl;show(bif zM (0+D.2.1.length) 1 then some D.2.1 else none)=some D.2.1;rw[qE (by omega) (by omega)];rfl
  · have hl:D.2.2.2.1.length≤B:=hl;show(bif zM (0+D.2.2.2.1.length) 1 then some D.2.2.2.1 else none)=some D.2.2.2.1;rw[qE (by omega) (by omega)];rfl
 obtain⟨t,l,s1,s2,s3,s4⟩:=yZc (k:=k) (B:=B) k (ke D i) [] (by omega) h8 hl fD (by show 0+_≤_;omega) (by simp);unfold Hl Mr qWp qRm;rw[r1,r2];simp only[ae];rw[s1,s2];simp only[ae];cases l with
 |nil=>exact⟨0,[],[],rfl,rfl,Rb B⟩
 |cons a l=>
  have hb:zB 0 (a::l).length=true:=wU (by omega) (by simp);rw[ab (by rw[List.length_cons];omega),hb];simp only[ai,ak,List.getD_cons_zero];by_cases h:a.length<8
  · rw[aa (by omega)];exact⟨0,[],[],rfl,rfl,Rb B⟩
  have ht:(List.take 8 a).length=8*1:=by rw[bP];omega
  have hg:=qR3 hk ht (by omega) (by decide);rw[ab (by omega),aa (by omega),hg.1,hg.2,aa (by rw[List.length_cons];omega)];have hw:ez 1 (List.take 8 a)=[fU ((List.take 8 a).take 8)]:=rfl;rw[hw];generalize fU ((List.take 8 a).take 8)=g;simp only[ai,ak,ae,List.getD_cons_zero];rw[show zB 0 ([g]:AC).length=true from rfl];simp only[ai];by_cases h1:g<1
  · rw[aa h1];exact⟨0,[],[],rfl,rfl,Rb B⟩
  by_cases h2:g>4611686018427387904
  · rw[ab h1,aa h2];exact⟨0,[],[],rfl,rfl,Rb B⟩
  rw[ab h1,ab h2];have hs:qM (a::l) 1 ((a::l).length-1)=l:=by
   unfold qM;show List.take _ l=l;exact by simp
  rw[hs];refine⟨g,a.drop 8,l,rfl,by rw[aa (by grind)];rfl,.inr (by omega),?_,by grind,?_⟩;all_goals grind
theorem aal {k B}(hk:9≤k)(hB:B<2*k)(fD:B≤1000000){D}(h0:(ke D 0).length≤B∧u9 (ke D 0))(h1:(ke D 1).length≤B∧u9 (ke D 1)):
  ∃g m S rows ok,Ms k D=some (g,m,S,rows,ok)∧Mt k (qX D)=some (g,m,S,rows,ok)∧(m=0∨m=1)∧qLu B g S rows∧(ok=true→1≤g):=by
 obtain⟨g,S,rows,a1,a2,a3⟩:=vJ9 hk hB fD (.inl rfl) h0.1 h0.2;obtain⟨g',S',JE,b1,b2,b3⟩:=vJ9 hk hB fD (.inr rfl) h1.1 h1.2;unfold Ms Mt;by_cases h:g>0
 · grind
 · by_cases h':g'>0
   · grind
   · obtain⟨rfl,rfl,rfl⟩:g=0∧S=[]∧rows=[]:=by
      rcases a3.g with q|q
      all_goals omega
     grind
structure td (L:vS) (D:wJ):Prop where
 half:gI D
 up:eX D=false
 side:L.1=0∨L.1=1
 gen:1≤L.2.1∧L.2.1≤4611686018427387904
 stale:L.2.2.2=false
theorem vB6 {k:Nat}{L:vS}{D:wJ}(h:td L D){b:AC}(hb:b.length≤60000):
  ∃e L' D',yq k L D b=some (e,L',D')∧yp k (gb L) (qX D) b=some (e,gb L',qX D')∧(e≠11→td L' D')∧gI D':=by
 have hl:=He h.half;have key:∃e L' D',yq k L D b=some (e,L',D')∧(e≠11→td L' D')∧gI D':=by
  have hlen:=PH b;unfold yq;rw[PE,if_pos hb,ae,h.stale];simp only[az,ak];obtain⟨e,D1,a1,a2,_,a4⟩:=yNw (k:=k) h.half h.up h.side (b:=mo b) (by omega);rw[a1];simp only[ae];by_cases h3:e=3
  · rw[aa h3];exact⟨10,L,D1,rfl,fun _=>⟨a2,a4 (by omega),h.side,h.gen,h.stale⟩,a2⟩
  by_cases h0:e=0
  · rw[ab h3,aa h0];obtain⟨f,D2,b1,b2,_,b4⟩:=yP3 (k:=k) a2 (a4 (by omega));simp only[ai,ak];rw[b1];simp only[ae];cases decide (f=0) with
    |true=>exact⟨f,_,D2,rfl,fun q=>⟨b2,b4 q,h.side,h.gen,rfl⟩,b2⟩
    |false=>exact⟨f,L,D2,rfl,fun q=>⟨b2,b4 q,h.side,h.gen,h.stale⟩,b2⟩
  · rw[ab h3,ab h0];exact⟨e,L,D1,rfl,fun q=>⟨a2,a4 q,h.side,h.gen,h.stale⟩,a2⟩
 obtain⟨e,L',D',h1,h2,h3⟩:=key;exact⟨e,L',D',h1,by rw[aaf h.side hl.1 hl.2 hb,h1];rfl,h2,h3⟩
theorem yR3 {k:Nat}(hk:9≤k){D:wJ}(h:gI D)(hu:eX D=false){i:Int}(hi:i=0∨i=1)(g:Int){b:AC}(hb:b.length≤50000):
  ∃e D',yo k D i g b=some (e,D')∧(e=0→g≤4611686018427387904)∧(e≠11→eX D'=false)∧gI D':=by
 have hlen:(mo (wZ g++b)).length=b.length+10:=by rw[PH,ay];show 8+b.length+2=_;omega
 unfold yo;rw[ES hk [g] (by simp) (by simp;omega),ae,show vN [g]=wZ g by simp[vN]];rw[qE (by show(8+b.length)*1≤_;omega) (by show 8+b.length≤_;omega),ai,PE,if_pos (by rw[ay];show 8+b.length≤_;omega),ae];simp only[az,ak];by_cases hg:g>4611686018427387904
 · rw[aa hg];exact⟨10,D,rfl,by omega,fun _=>hu,h⟩
 rw[ab hg,show Q3 k D=some D.1 from rfl];simp only[ae,ak];cases decide (((mo (wZ g++b)).length:Int)>D.1) with
 |true=>exact⟨10,D,rfl,by omega,fun _=>hu,h⟩
 |false=>
  obtain⟨e,D1,a1,a2,_,a4⟩:=aag (k:=k) h hu hi;simp only[ak];rw[a1];simp only[ae];by_cases h0:e=0
  · rw[aa h0];obtain⟨f,D2,b1,b2,_,b4⟩:=yNw (k:=k) a2 (a4 (by omega)) hi (b:=mo (wZ g++b)) (by omega);simp only[az,ak];rw[b1];simp only[ae];by_cases h1:f=0
    · rw[aa h1];obtain⟨f',D3,c1,c2,_,c4⟩:=yP3 (k:=k) b2 (b4 (by omega));simp only[az,ak];rw[c1];exact⟨f',D3,rfl,fun _=>by omega,c4,c2⟩
    · rw[ab h1];exact⟨f,D2,rfl,fun q=>absurd q h1,b4,b2⟩
  · rw[ab h0];exact⟨e,D1,rfl,fun q=>absurd q h0,a4,a2⟩
theorem yXf {k:Nat}(hk:9≤k){L:vS}{D:wJ}(hc:gI D)(hu:eX D=false)(hs:L.1=0∨L.1=1)(hg:1≤L.2.1∧L.2.1≤4611686018427387904){b:AC}(hb:b.length≤50000):
  ∃e L' D',ot k L D b=some (e,L',D')∧pC k (gb L) (qX D) b=some (e,gb L',qX D')∧(e=0→td L' D')∧(e≠0→L'=L)∧(e≠11→eX D'=false)∧gI D':=by
 have hl:=He hc;have e1:zA (1-L.1)=1-L.1:=zO (by omega) (by omega);have e2:zA (L.2.1+1)=L.2.1+1:=zO (by omega) (by omega);have key:∃e L' D',ot k L D b=some (e,L',D')∧(e=0→td L' D')∧(e≠0→L'=L)∧(e≠11→eX D'=false)∧gI D':=by
  obtain⟨e,D',h1,h2,h3,h4⟩:=yR3 hk hc hu (i:=1-L.1) (by omega) (L.2.1+1) hb;unfold ot;rw[e1,e2,h1];simp only[ae];by_cases h0:e=0
  · rw[aa h0];exact⟨e,_,D',rfl,fun _=>⟨h4,h3 (by omega),by show 1-L.1=0∨1-L.1=1;omega,by show 1≤L.2.1+1∧L.2.1+1≤_;have:=h2 h0;omega,rfl⟩,fun q=>absurd h0 q,h3,h4⟩
  · rw[ab h0];exact⟨e,L,D',rfl,fun q=>absurd q h0,fun _=>rfl,h3,h4⟩
 obtain⟨e,L',D',h1,h2⟩:=key;exact⟨e,L',D',h1,by rw[vK6 hk hs hl.1 hl.2 hb,h1];rfl,h2⟩
theorem yMr {k:Nat}(hk:9≤k){L:vS}{D:wJ}(h:td L D){b:AC}(hb:b.length≤50000):
  ∃e L' D',ot k L D b=some (e,L',D')∧pC k (gb L) (qX D) b=some (e,gb L',qX D')∧(e≠11→td L' D')∧gI D':=by
 obtain⟨e,L',D',h1,h2,h3,h4,h5,h6⟩:=yXf hk h.half h.up h.side h.gen hb;refine⟨e,L',D',h1,h2,fun q=>?_,h6⟩;by_cases h0:e=0
 · exact h3 h0
 · rw[h4 h0];exact⟨h6,h5 q,h.side,h.gen,h.stale⟩
theorem yPr:∀m b,∀x∈ez m b,x≤9223372036854775807
 |0,b=>nofun
 |m+1,b=>fun x hx=>by
  rcases List.mem_cons.1 hx with rfl|hx
  · have:=yLj (b.take 8);omega
  · exact yPr m _ x hx
theorem vYn n st i:(gd n st).1.getD i 0≤9223372036854775807:=by
 have key:∀l:AC,(∀x∈l,x≤9223372036854775807)→l.getD i 0≤9223372036854775807:=fun l h=>by
  by_cases hi:i<l.length
  all_goals simp_all
 refine key _ fun x hx=>?_
 unfold gd at hx;split at hx
 · have hx:x∈(nk st.1).1:=hx;unfold nk at hx;split at hx
   · simp_all
   · exact yPr _ _ x hx
 simp_all
theorem qRw {k st}(hb:st.1.length/8+2≤k)(bg:st.1.length≤1000000):ta st<k∧0+ta st≤1000001:=by
 unfold ta;grind
theorem qV6 {st:wW}{n:Int}(h:¬(0<n∧st.2=true)):decide (0<n)=false∨(decide (0<n)=true∧st.2=false):=by
 grind
theorem qZn {k}(hk:9≤k){st}(hb:st.1.length/8+2≤k)(bg:st.1.length≤1000000){n}(hn:n≤9223372036854775807):
  Hm k (vZ st) n=some ((eY kj k n st []).2,vZ (eY kj k n st []).1)∧Hn k st n=some ((eY kj k n st []).2,(eY kj k n st []).1):=by
 have hm:=qRw hb bg;have h1 := Cp np (L := fun m i st r => Ho k m i (vZ st) r) (e := fun st r => (vZ st, r)) (ix := fun i => i) (N := n) bg (fun m i s r h0 hN ok hB hr=>by
   show Hq k (Ho k m) i (vZ s) r=_;unfold Hq;rw[aa (by grind),show(vZ s).2=false by unfold vZ;simp_all,(Hh hk (by omega) (by omega)).1];rw[qE (by omega) (by omega),zO (by omega) (by omega)];rfl) (fun m i s r h=>by
   show Hq k (Ho k m) i (vZ s) r=_;unfold Hq;rcases qV6 h with h|⟨h,h'⟩
   · grind
   · rw[show decide (i>0)=true from h,show(vZ s).2=true by unfold vZ;simp_all];rfl) k n st [] (by simp) hm.1 (by simp) hm.2
 have h2 := Cp np (L := fun m i st r => Hr k m n i st r) (e := fun st r => (st, r)) (ix := fun i => n - i) (N := n) bg (fun m i s r h0 hN ok hB hr=>by
   show Hs k (Hr k m) n (n-i) s r=_;unfold Hs;rw[aa (by grind),ok,(Hh hk (by omega) (by omega)).2];rw[qE (by omega) (by omega),zO (by omega) (by omega),show n-i+1=n-(i-1) by omega];rfl) (fun m i s r h=>by
   show Hs k (Hr k m) n (n-i) s r=_;unfold Hs;grind) k n st [] (by simp) hm.1 (by simp) hm.2
 unfold Hm Hn;simp_all
theorem vWn {k}(hk:9≤k){st}(hb:st.1.length/8+2≤k)(bg:st.1.length≤1000000){s0 h}(h9:h.length=9){b0 b3:Int×Int×Bool}(hn:h.getD 3 0≤9223372036854775807):
  Cr k k s0 (h.getD 3 0) b0 (vZ st) h b3 []=some (s0,b0,vZ (eY Hf k (h.getD 3 0) st []).1,h,b3,(eY Hf k (h.getD 3 0) st []).2)∧Ct k k s0 0 b0 st h b3 []=some (s0,b0,(eY Hf k (h.getD 3 0) st []).1,h,b3,(eY Hf k (h.getD 3 0) st []).2):=by
 have hm:=qRw hb bg;obtain⟨n,en⟩:∃n,h.getD 3 0=n:=by simp
 have ho:zB 3 h.length=true:=by rw[h9];rfl
 have h1 := Cp qY1 (L := fun m i st r => Cr k m s0 i b0 (vZ st) h b3 r) (e := fun st r => (s0, b0, vZ st, h, b3, r)) (ix := fun i => i) (N := n) bg (fun m i s r h0 hN ok hB hr=>by
   show Ht k (Cr k m) s0 i b0 (vZ s) h b3 r=_;unfold Ht;rw[aa (by grind),show(vZ s).2=false by unfold vZ;simp_all,show uX k (vZ s) 3=_ from(Mm hk (n:=3) (by omega) (by omega) rfl).1];simp;rw[Co,qE (by omega) (by omega),zO (by omega) (by omega)];rfl) (fun m i s r g=>by
   show Ht k (Cr k m) s0 i b0 (vZ s) h b3 r=_;unfold Ht;rcases qV6 g with g|⟨g,g'⟩
   · grind
   · rw[show decide (i>0)=true from g,show(vZ s).2=true by unfold vZ;simp_all];rfl) k n st [] (by simp) hm.1 (by simp) hm.2
 have h2 := Cp qY1 (L := fun m i st r => Ct k m s0 i b0 st h b3 r) (e := fun st r => (s0, b0, st, h, b3, r)) (ix := fun i => n - i) (N := n) bg (fun m i s r h0 hN ok hB hr=>by
   show Hu k (Ct k m) s0 (n-i) b0 s h b3 r=_;unfold Hu;rw[ho,en,aa (by grind),ok,show uY k s 3=_ from(Mm hk (n:=3) (by omega) (by omega) rfl).2];simp;rw[Co,qE (by omega) (by omega),zO (by omega) (by omega),show n-i+1=n-(i-1) by omega];rfl) (fun m i s r g=>by
   show Hu k (Ct k m) s0 (n-i) b0 s h b3 r=_;unfold Hu;grind) k n st [] (by simp) hm.1 (by simp) hm.2
 simp_all
theorem vKg {k}(hk:9≤k){st}(hb:st.1.length/8+2≤k)(bg:st.1.length≤1000000){s0 h}(h9:h.length=9){b0 b3:Int×Int×Bool}{r3:List (Int×Int×Int)}{r4 r6 r8 r5 r7}(hn:h.getD 8 0≤9223372036854775807):
  Cu k k s0 (h.getD 8 0) b0 (vZ st) b3 r3 r4 r5 r6 r7 r8 []=some (s0,b0,vZ (eY Hg k (h.getD 8 0) st []).1,b3,r3,r4,r5,r6,r7,r8,(eY Hg k (h.getD 8 0) st []).2)∧
  Cv k k s0 0 b0 st h b3 r3 r4 r5 r6 r7 r8 []=some (s0,b0,(eY Hg k (h.getD 8 0) st []).1,b3,r3,r4,r5,r6,r7,r8,(eY Hg k (h.getD 8 0) st []).2):=by
 have hm:=qRw hb bg;obtain⟨n,en⟩:∃n,h.getD 8 0=n:=by simp
 have ho:zB 8 h.length=true:=by rw[h9];rfl
 have h1 := Cp yC2 (L := fun m i st r => Cu k m s0 i b0 (vZ st) b3 r3 r4 r5 r6 r7 r8 r) (e := fun st r => (s0, b0, vZ st, b3, r3, r4, r5, r6, r7, r8, r)) (ix := fun i => i) (N := n) bg (fun m i s r h0 hN ok hB hr=>by
   show Hv k (Cu k m) s0 i b0 (vZ s) b3 r3 r4 r5 r6 r7 r8 r=_;unfold Hv;rw[aa (by grind),show(vZ s).2=false by unfold vZ;simp_all,show uX k (vZ s) 7=_ from(Mm hk (n:=7) (by omega) (by omega) rfl).1];simp;rw[Co,qE (by omega) (by omega),zO (by omega) (by omega)];rfl) (fun m i s r g=>by
   show Hv k (Cu k m) s0 i b0 (vZ s) b3 r3 r4 r5 r6 r7 r8 r=_;unfold Hv;rcases qV6 g with g|⟨g,g'⟩
   · grind
   · rw[show decide (i>0)=true from g,show(vZ s).2=true by unfold vZ;simp_all];rfl) k n st [] (by simp) hm.1 (by simp) hm.2
 have h2 := Cp yC2 (L := fun m i st r => Cv k m s0 i b0 st h b3 r3 r4 r5 r6 r7 r8 r) (e := fun st r => (s0, b0, st, b3, r3, r4, r5, r6, r7, r8, r)) (ix := fun i => n - i) (N := n) bg (fun m i s r h0 hN ok hB hr=>by
   show Hw k (Cv k m) s0 (n-i) b0 s h b3 r3 r4 r5 r6 r7 r8 r=_;unfold Hw;rw[ho,en,aa (by grind),ok,show uY k s 7=_ from(Mm hk (n:=7) (by omega) (by omega) rfl).2];simp;rw[Co,qE (by omega) (by omega),zO (by omega) (by omega),show n-i+1=n-(i-1) by omega];rfl) (fun m i s r g=>by
   show Hw k (Cv k m) s0 (n-i) b0 s h b3 r3 r4 r5 r6 r7 r8 r=_;unfold Hw;grind) k n st [] (by simp) hm.1 (by simp) hm.2
 simp_all
theorem vYz {a b}(h:a.length≠b.length):oL a b=false:=by
 refine Bool.eq_false_iff.2 fun e=>h ?_
 have:=congrArg List.length (eq_of_beq e);unfold nD at this;simp_all
theorem vNs {k}(hk:1000≤k){b}(hb:b.length/8+2≤k)(bg:b.length≤7200):
  ∃(s:xH) (ok:Bool),Hy k b=some (s,ok)∧Hz k b=some (s,ok)∧s.2.2.2.2.2.2.2.1.length≤900∧s.2.2.2.2.2.2.2.2.1.length≤900:=by
 have vd:9≤k:=by omega
 unfold Hy Hz;have a0:=Mm vd (st:=(b,true)) (n:=9) (by show b.length≤8*k;omega) (by show b.length≤_;omega) rfl;have l0:=(Hi 9).le (b,true) (by show b.length≤_;omega);have o0:=(Hi 9).ok (b,true) (by show b.length≤_;omega);have e9:=Co 9 (b,true);have lt:=vYn 9 (b,true);rw[show uX k (b,false) 9=_ from a0.1,show uY k (b,true) 9=_ from a0.2];clear a0;generalize gd 9 (b,true)=x at*
 obtain⟨h,st0⟩:=x;dsimp only at*
 rw[e9] at o0;simp only[ae];have bo:∀i:Int,0≤i→i<9→zB i h.length=true:=fun i h1 h2=>wU h1 (by omega)
 rw[bo 0 (by decide) (by decide),bo 1 (by decide) (by decide),bo 2 (by decide) (by decide),bo 3 (by decide) (by decide)];simp only[ai];have a1:=vWn vd (st:=st0) (by omega) (by omega) (s0:=b) e9 (b0:=(0,0,false)) (b3:=(h.getD 0 0,h.getD 1 0,decide (h.getD 2 0=1))) (lt 3);have w1:=Hj qY1 k (h.getD 3 0) st0 [] (by omega);rw[a1.1,a1.2];clear a1;generalize eY Hf k (h.getD 3 0) st0 []=z at*
 obtain⟨J0,ac⟩:=z;simp only[ae] at*
 rw[bo 4 (by decide) (by decide)];simp only[ai];have a2:=qZn vd (st:=J0) (by omega) (by omega) (lt 4);have w2:=Hj np k (h.getD 4 0) J0 [] (by omega);rw[a2.1,a2.2];clear a2;generalize eY kj k (h.getD 4 0) J0 []=z at*
 obtain⟨xp,bi⟩:=z;simp only[ae] at*
 have a3:=Hh vd (st:=xp) (by omega) (by omega);have l3:=np.le xp (by omega);have o3:=np.ok xp (by omega);rw[a3.1,a3.2];clear a3;generalize kj xp=z at*
 obtain⟨mu,st3⟩:=z;simp only[ae] at*
 rw[bo 6 (by decide) (by decide)];simp only[ai];have a4:=qZn vd (st:=st3) (by omega) (by omega) (lt 6);have w4:=Hj np k (h.getD 6 0) st3 [] (by omega);rw[a4.1,a4.2];clear a4;generalize eY kj k (h.getD 6 0) st3 []=z at*
 obtain⟨Rc,po⟩:=z;simp only[ae] at*
 have a5:=Hh vd (st:=Rc) (by omega) (by omega);have l5:=np.le Rc (by omega);have o5:=np.ok Rc (by omega);rw[a5.1,a5.2];clear a5;generalize kj Rc=z at*
 obtain⟨pr,st5⟩:=z;simp only[ae] at*
 rw[bo 7 (by decide) (by decide)];simp only[ai];have a6:=qZn vd (st:=st5) (by omega) (by omega) (lt 7);have w6:=Hj np k (h.getD 7 0) st5 [] (by omega);rw[a6.1,a6.2];clear a6;generalize eY kj k (h.getD 7 0) st5 []=z at*
 obtain⟨st6,ho⟩:=z;simp only[ae] at*
 rw[bo 8 (by decide) (by decide)];simp only[ai];have a7:=vKg vd (st:=st6) (by omega) (by omega) (s0:=b) e9 (b0:=(0,0,false)) (b3:=(h.getD 0 0,h.getD 1 0,decide (h.getD 2 0=1))) (r3:=ac) (r4:=bi) (r5:=mu) (r6:=po) (r7:=pr) (r8:=ho) (lt 8);have w7:=Hj yC2 k (h.getD 8 0) st6 [] (by omega);rw[a7.1,a7.2];clear a7;generalize eY Hg k (h.getD 8 0) st6 []=z at*
 obtain⟨Re,pa⟩:=z;simp only[ae] at*
 have a8:=Hh vd (st:=Re) (by omega) (by omega);have l8:=np.le Re (by omega);have o8:=np.ok Re (by omega);rw[a8.1,a8.2];clear a8;generalize kj Re=z at*
 obtain⟨ids,c,ok⟩:=z;simp only[ae] at*
 cases ok with
 |false=>exact⟨_,_,rfl,rfl,Nat.zero_le _,Nat.zero_le _⟩
 |true=>
  have o8:=o8 rfl;have w7:=w7.2 o8.1;have w6:=w6.2 w7.1;have o5:=o5 w6.1;have w4:=w4.2 o5.1;have o3:=o3 w4.1;have w2:=w2.2 o3.1;have w1:=w1.2 w2.1;have o0:=o0 w1.1;obtain⟨s,es⟩:∃s:xH,s=(h.getD 0 0,ac,bi,mu,po,pr,ho,pa,ids,h.getD 1 0,decide (h.getD 2 0=1)):=⟨_,rfl⟩;have r0:(yJ []).length=0:=rfl;have tot:(yJ (iV s)).length+c.length=b.length:=by
   rw[vD9,es];simp only[ay,sL,List.map_id',List.map_nil,List.length_nil] at*
   have r9:∀a b c d e f g h i:Int,[a,b,c,d,e,f,g,h,i].length=9:=fun _ _ _ _ _ _ _ _ _=>rfl
   rw[r9];omega
  have few:jA (iV s):=yLm (by omega);have fn:=few.n;have fr:=few.r s.2.2.2.2.2.2.2.2.1 (by unfold iV;simp);have fp:s.2.2.2.2.2.2.2.1.length≤900:=by
   unfold iV at fn;simp only[ay,List.length_map] at fn;omega
  have hs:=yXm hk few;have hr:=vDo hk few;subst es;generalize yJ (iV _)=R at*
  cases hq:oL R b with
  |false=>
   refine⟨(0,[],[],[],[],[],[],[],[],0,false),false,(congrArg (fun z=>Option.bind z _) hs).trans ?_,?_,Nat.zero_le _,Nat.zero_le _⟩
   · show(bif !(oL R b) then _ else _)=_;rw[hq];rfl
   · show(bif decide ((c.length:Int)>0) then _ else _)=_;cases decide ((c.length:Int)>0) with
     |true=>rfl
     |false=>
      refine(congrArg (fun z=>Option.bind z _) hr).trans ?_;show(bif !(oL R b) then _ else _)=_;rw[hq];rfl
  |true=>
   have hc:c.length=0:=by
    refine Classical.byContradiction fun hc=>?_
    rw[vYz (by omega)] at hq;exact nomatch hq
   refine⟨_,true,(congrArg (fun z=>Option.bind z _) hs).trans ?_,?_,fp,fr⟩
   · show(bif !(oL R b) then _ else _)=_;rw[hq];rfl
   · show(bif decide ((c.length:Int)>0) then _ else _)=_;rw[hc];refine(congrArg (fun z=>Option.bind z _) hr).trans ?_;show(bif !(oL R b) then _ else _)=_;rw[hq];rfl
theorem Cw {α:Type}{d}(l:List α){i} h:l.getD i d=l[i]:=by
 simp_all
theorem vXf {m}(hd:qK m){i}(hi:i<m.length):fm m (m.getD i pd).1=(i:Int):=by
 obtain⟨x,hx⟩:=Qo (jY (d:=pd) hi);have h:=kQ hx;unfold fm;have:x=i:=by
  rcases Nat.lt_trichotomy x i with g|g|g
  ·have:=List.pairwise_iff_getElem.1 hd x i h.1 hi g;grind
  ·exact g
  ·have:=List.pairwise_iff_getElem.1 hd i x hi h.1 g;grind
 simp_all
abbrev vUj:=Int×List og×Int×Int×Int×Int×List qY×jL×AC×jL×AC×jL×List zH×AC×Int×Bool×Int
def gJ (r:qP)(s:qD)(who:Int):vUj:=(r.1,r.2.1,r.2.2.1,r.2.2.2.1,r.2.2.2.2,s.t,s.B.1,s.B.2.1,s.B.2.2.1,s.B.2.2.2,s.pr,s.ho,s.m,s.ids,s.to,s.ov,who)
def Rf (s:qD)(i:Nat)(a:qY)(to:Int):qD:={s with B:=(s.B.1.set i a,s.B.2.1,s.B.2.2.1,s.B.2.2.2),to:=to}
def Mu (s:qD)(i:Nat)(n:Int):Int×qD:=
 bif decide ((s.B.1.getD i ad).1+(s.B.1.getD i ad).2.1-(s.B.1.getD i ad).2.2<n) then(9,s)
 else bif decide (s.to-n<0) then(9,s)
 else bif !decide ((jU (s.B.1.getD i ad) (-n)).2=0) then((jU (s.B.1.getD i ad) (-n)).2,s)
 else bif decide (s.to-n>1152921504606846976) then(8,s)
 else(0,Rf s i (jU (s.B.1.getD i ad) (-n)).1 (s.to-n))
def Mv (s:qD)(i:Nat)(n:Int):Int×qD:=
 bif !decide ((jU (s.B.1.getD i ad) n).2=0) then((jU (s.B.1.getD i ad) n).2,s)
 else bif decide (s.to+n>1152921504606846976) then(8,s)
 else(0,Rf s i (jU (s.B.1.getD i ad) n).1 (s.to+n))
def la (r:qP)(s:qD)(kd to n:Int):Int×qD:=
 bif !(decide (to≥0)&&decide (to≤r.1-1)) then(1,s)
 else bif !(decide (n≥1)&&decide (n≤1099511627776)) then(1,s)
 else bif decide (kd=11) then Mu s to.toNat n else Mv s to.toNat n
theorem vZ2 {k}(hk:1000≤k){r}(hr:wT r){s}(h:yD r s) who kd to n:
    ∃d,HA k (gJ r s who) kd to n=some ((la r s kd to n).1,d)∧((la r s kd to n).1=0→d=dk r (la r s kd to n).2 who []):=by
  have hp:=hr.pa;have hn:=h.n;have ht:=h.tot;have w1:zA (r.1-1)=r.1-1:=zO (by omega) (by omega);have eD:HA k (gJ r s who) kd to n=(vH k to 0 (zA (r.1-1))).bind fun x0=>
    bif !x0 then some (1,dk r s who [])
    else(vH k n 1 1099511627776).bind fun x1=>
    bif !x1 then some (1,dk r s who [])
    else bif zB to s.B.1.length then ((HB k (s.B.1.getD to.toNat (0,0,0)) n).bind fun x2=>
      bif decide (kd = 11) then ((HC k (s.B.1.getD to.toNat (0,0,0)) n 3).bind fun x3=>
       (HD k (s.B.1.getD to.toNat (0,0,0)) 3).bind fun x4=>
       bif decide (x4<n) then some (9,dk r s who [])
       else bif decide ((zA (s.to-n))<0) then some (9,dk r s who [])
       else bif !(decide (x3.2=0)) then some (x3.2,dk r s who [])
       else bif decide ((zA (s.to-n))>1152921504606846976) then some (8,dk r s who [])
       else(gF k s.B.1 s.B.2.1 s.B.2.2.1 s.B.2.2.2).bind fun x5=>
       bif zB to x5.1.length then some (0,dk r {s with B:=(x5.1.set to.toNat x3.1,x5.2.1,x5.2.2.1,x5.2.2.2),to:=zA (s.to-n)} who [])
       else none)
      else bif !(decide (x2.2=0)) then some (x2.2,dk r s who [])
      else bif decide ((zA (s.to+n))>1152921504606846976) then some (8,dk r s who [])
      else(gF k s.B.1 s.B.2.1 s.B.2.2.1 s.B.2.2.2).bind fun x6=>
      bif zB to x6.1.length then some (0,dk r {s with B:=(x6.1.set to.toNat x2.1,x6.2.1,x6.2.2.1,x6.2.2.2),to:=zA (s.to+n)} who [])
      else none)
    else none:=rfl
  rw[eD,w1,nh,nh,KY (by omega) h.bk.toSized];simp only[ae];unfold la;cases hc:decide (to≥0)&&decide (to≤r.1-1) with
  |false=>exact by simp
  |true=>
  simp only[aR,aZ] at hc;cases hm:decide (n≥1)&&decide (n≤1099511627776) with
  |false=>exact by simp
  |true=>
  simp only[aR,aZ] at hm;obtain⟨i,rfl⟩:=Int.eq_ofNat_of_zero_le hc.1;have hi:i<s.B.1.length:=by omega
  have hb:=h.bk.nums.bal i hi;have kJ:=h.bk.nums.res i hi;have hcr:=h.most i hi;have aam:0≤(s.B.1.getD i ad).2.1:=by rw[h.cred i hi];exact Gr (h.laid i hi)
  have b0:zB (i:Int) s.B.1.length=true:=by rw[zY,aa hi]
  have Mw:HB k (s.B.1.getD i (0,0,0)) n=some (jU (s.B.1.getD i ad) n):=by
    unfold HB;rw[yL4 hb (by omega)];rfl
  have Mx:HC k (s.B.1.getD i (0,0,0)) n 3=some (jU (s.B.1.getD i ad) (-n)):=by
    unfold HC;rw[show zA (0-n)= -n by rw[zO (by omega) (by omega)];omega,yL4 hb (by omega)];simp
  have yu:HD k (s.B.1.getD i (0,0,0)) 3=some ((s.B.1.getD i ad).1+(s.B.1.getD i ad).2.1-(s.B.1.getD i ad).2.2):=by
    unfold HD;have d1:decide ((3:Int)=3)=true:=rfl;rw[d1,ai];have q1:zA ((s.B.1.getD i (0,0,0)).1+(s.B.1.getD i (0,0,0)).2.1)=(s.B.1.getD i ad).1+(s.B.1.getD i ad).2.1:=zO (by simp only[ad] at*;omega) (by simp only[ad] at*;omega);rw[q1];exact congrArg some (zO (by simp only[ad] at*;omega) (by simp only[ad] at*;omega))
  have q2:zA (s.to-n)=s.to-n:=zO (by omega) (by omega);have q3:zA (s.to+n)=s.to+n:=zO (by omega) (by omega);simp only[az,ak,b0,ai,ao,Mw,Mx,yu,ae,q2,q3];clear Mw Mx yu eD;cases decide (kd=11) with
  |true=>
    simp only[ai];unfold Mu;cases decide ((s.B.1.getD i ad).1+(s.B.1.getD i ad).2.1-(s.B.1.getD i ad).2.2<n) with
    |true=>exact by simp
    |false=>
    cases decide (s.to-n<0) with
    |true=>exact by simp
    |false=>
    cases hz:decide ((jU (s.B.1.getD i ad) (-n)).2=0) with
    |false=>exact by simp
    |true=>
    cases decide (s.to-n>1152921504606846976) with
    |true=>exact by simp
    |false=>exact⟨_,rfl,fun _=>rfl⟩
  |false=>
    simp only[ak];unfold Mv;cases hz:decide ((jU (s.B.1.getD i ad) n).2=0) with
    |false=>exact by simp
    |true=>
    cases decide (s.to+n>1152921504606846976) with
    |true=>exact by simp
    |false=>exact⟨_,rfl,fun _=>rfl⟩
def gK (sa:List og)(pr:AC)(ho:jL)(j:Nat):Int:=gG sa pr (ho.getD j [])
def vf (sa:List og)(pr:AC)(ho:jL)(a:List qY):List qY:=(List.range a.length).map fun j=>((a.getD j ad).1,gK sa pr ho j,(a.getD j ad).2.2)
def HE (r:qP)(s:qD)(pr:AC):Int×qD:=
 bif zZ (fun j=> !decide (gK r.2.1 pr s.ho j>1152921504606846976)) s.B.1.length 0 then(0,{s with B:=(vf r.2.1 pr s.ho s.B.1,s.B.2.1,s.B.2.2.1,s.B.2.2.2),pr:=pr}) else(8,s)
def ld (r:qP)(s:qD)(a p:Int):Int×qD:=
 bif !(decide (a≥0)&&decide (a≤(r.2.1.length:Int)-1)) then(1,s)
 else bif !(decide (p≥0)&&decide (p≤1048576)) then(1,s)
 else HE r s (s.pr.set a.toNat p)
theorem qQh sa pr ho a:(vf sa pr ho a).length=a.length:=by simp[vf]
theorem qN3 sa pr ho a {j}(hj:j<a.length):(vf sa pr ho a).getD j ad=((a.getD j ad).1,gK sa pr ho j,(a.getD j ad).2.2):=by
 unfold vf;simp_all
theorem vO7 {k:Nat}(hk:1000≤k){r:qP}{s:qD}(who:Int){pr:AC}(hL:∀i,i<s.B.1.length→kh r.2.1 pr (s.ho.getD i []))(hol:s.ho.length=s.B.1.length)(ie:s.B.1.length≤6):
  (zZ (fun j=> !decide (gK r.2.1 pr s.ho j>1152921504606846976)) s.B.1.length 0=true∧vg k k s.ho s.ho.length 0 (gJ r s who) pr s.B.1 s.B.2.1 s.B.2.2.1 s.B.2.2.2=some (.inl (gJ r s who,pr,vf r.2.1 pr s.ho s.B.1,s.B.2.1,s.B.2.2.1,s.B.2.2.2)))∨
  (zZ (fun j=> !decide (gK r.2.1 pr s.ho j>1152921504606846976)) s.B.1.length 0=false∧vg k k s.ho s.ho.length 0 (gJ r s who) pr s.B.1 s.B.2.1 s.B.2.2.1 s.B.2.2.2=some (.inr (8,gJ r s who))):=by
 rw[hol];have:=Lc (L:=fun n i (a:List qY)=>vg k n s.ho s.B.1.length i (gJ r s who) pr a s.B.2.1 s.B.2.2.1 s.B.2.2.2) (N:=s.B.1.length) (fun j=> !decide (gK r.2.1 pr s.ho j>1152921504606846976))
  (fun a=>.inl (gJ r s who,pr,a,s.B.2.1,s.B.2.2.1,s.B.2.2.2)) (.inr (8,gJ r s who))
  (fun i a => a.length = s.B.1.length ∧ ∀ j, j < s.B.1.length → a.getD j ad = if j < i then ((s.B.1.getD j ad).1, gK r.2.1 pr s.ho j, (s.B.1.getD j ad).2.2) else s.B.1.getD j ad) (fun n a _=>by
   show HF k _ s.ho s.B.1.length s.B.1.length (gJ r s who) pr a s.B.2.1 s.B.2.2.1 s.B.2.2.2=_;unfold HF;simp only [qS, ab (Nat.lt_irrefl _), ak]) (fun n i a hi ha=>by
   have hv:=Zu (k:=k) (hL i hi) (by omega);have aI:vg k (n+1) s.ho s.B.1.length i (gJ r s who) pr a s.B.2.1 s.B.2.2.1 s.B.2.2.2=bif decide (gK r.2.1 pr s.ho i>1152921504606846976) then some (.inr (8,gJ r s who)) else vg k n s.ho s.B.1.length ((i+1:Nat):Int) (gJ r s who) pr (a.set i ((a.getD i ad).1,gK r.2.1 pr s.ho i,(a.getD i ad).2.2)) s.B.2.1 s.B.2.2.1 s.B.2.2.2:=by
    show HF k _ s.ho s.B.1.length i (gJ r s who) pr a s.B.2.1 s.B.2.2.1 s.B.2.2.2=_;unfold HF;have iO:mY k (gJ r s who).2.1 pr (s.ho.getD i [])=some (gK r.2.1 pr s.ho i,true):=hv;simp only[qS,zY,ao,aa hi,aa (show i<s.ho.length by omega),aa (show i<a.length by rw[ha.1];exact hi),ai,iO,ae,az,ak,qB hi (show s.B.1.length<9223372036854775808 by omega)];rfl
   refine⟨fun ho=>?_,fun ho=>?_⟩
   ·have h1:decide (gK r.2.1 pr s.ho i>1152921504606846976)=false:=by simpa using ho
    refine⟨_,by rw[aI,h1];rfl,by rw[List.length_set];exact ha.1,fun j hj=>?_⟩;rw[fH];by_cases e:i=j
    ·subst e;rw[if_pos ⟨rfl,by rw[ha.1];exact hi⟩,if_pos (by omega),ha.2 i hi,if_neg (Nat.lt_irrefl _)]
    ·rw[if_neg (by omega),ha.2 j hj];by_cases h:j<i
     ·rw[if_pos h,if_pos (by omega)]
     ·rw[if_neg h,if_neg (by omega)]
   ·have h1:decide (gK r.2.1 pr s.ho i>1152921504606846976)=true:=by simpa using ho
    rw[aI,h1];rfl) s.B.1.length 0 k s.B.1 (by omega) (by omega) ⟨rfl,fun j _=>by rw[if_neg (Nat.not_lt_zero _)]⟩
 rcases this with⟨h1,a,h2,h3,h4⟩|⟨h1,h2⟩
 ·refine .inl ⟨h1,?_⟩;have e:a=vf r.2.1 pr s.ho s.B.1:=EK ad (by rw[h3,qQh]) fun j hj=>by
   rw[h3] at hj;rw[h4 j hj,if_pos hj,qN3 _ _ _ _ hj]
  rw[←e];exact h2
 ·exact .inr ⟨h1,h2⟩
theorem aan {k:Nat}(hk:1000≤k){r:qP}(hr:wT r){s:qD}(h:yD r s)(who a p:Int):
  ∃d,Rg k (gJ r s who) a p=some ((ld r s a p).1,d)∧((ld r s a p).1=0→d=dk r (ld r s a p).2 who []):=by
 have h3:=hr.n3;have ie:=h.bk.n6;have o9:=h.bk.n1;have w1:zA ((r.2.1.length:Int)-1)=(r.2.1.length:Int)-1:=zO (by omega) (by omega);have eD:Rg k (gJ r s who) a p=((vH k a 0 (zA ((r.2.1.length:Int)-1))).bind fun x0=>some x0).bind fun x0=>
  bif !x0 then some (1,dk r s who [])
  else(vH k p 0 1048576).bind fun x1=>
  bif !x1 then some (1,dk r s who [])
  else(qu k s.pr a p).bind fun x2=>
  (gF k s.B.1 s.B.2.1 s.B.2.2.1 s.B.2.2.2).bind fun x3=>
  (vg k k s.ho (s.ho.length:Int) 0 (gJ r s who) x2 x3.1 x3.2.1 x3.2.2.1 x3.2.2.2).bind fun z=>
  match z with
  |.inl z1=>some (0,(jH z1.1 (Cx z1 (z1.2.1,(qQ4 z1.1 [])))))
  |.inr z2=>some (jR z2 []):=rfl
 rw[eD,w1,nh,nh,KY (by omega) h.bk.toSized];simp only[ae];unfold ld;cases hc:decide (a≥0)&&decide (a≤(r.2.1.length:Int)-1) with
 |false=>exact⟨_,rfl,fun e=>by cases e⟩
 |true=>
 simp only[aR,aZ] at hc;cases hm:decide (p≥0)&&decide (p≤1048576) with
 |false=>exact⟨_,rfl,fun e=>by cases e⟩
 |true=>
 simp only[aR,aZ] at hm;obtain⟨i,rfl⟩:=Int.eq_ofNat_of_zero_le hc.1;have hi:i<r.2.1.length:=by omega
 have L0:=h.laid 0 (by omega);have mv:qu k s.pr (i:Int) p=some (s.pr.set i p):=by
  have:=vF7 (k:=k) (l:=s.pr) (by rw[L0.pl];omega) (i:=(i:Int)) (by omega) (by rw[L0.pl];omega) p;rw[ao] at this;exact this
 simp only[az,ak,mv,ae,ao];unfold HE;rcases vO7 (r:=r) (s:=s) hk who (pr:=s.pr.set i p) (fun j hj=>(h.laid j hj).setP hi ⟨by omega,by omega⟩) h.hol ie with⟨g1,g2⟩|⟨g1,g2⟩
 ·rw[g2,g1];exact⟨_,rfl,fun _=>rfl⟩
 ·rw[g2,g1];exact⟨_,rfl,fun e=>by cases e⟩
theorem My {q p}:wB q p=true↔q.2.1<p.2.1∨(q.2.1=p.2.1∧q.2.2.2.2.1≤p.2.2.2.2.1):=by
 unfold wB;simp
theorem yBr {q p}:iW q p=true↔q.2.1<p.2.1∨(q.2.1=p.2.1∧q.2.2.2.2.1<p.2.2.2.2.1):=by
 unfold iW;simp
theorem vDw {a b c}(h:wB a b=true)(g:wB b c=true):wB a c=true:=by
 rw[My] at*;omega
theorem aao {a b}(h:¬wB a b=true):wB b a=true:=by
 rw[My] at*;omega
theorem vVu {a b}(h:iW a b=true):wB a b=true:=by
 rw[yBr] at h;rw[My];omega
theorem aap {a b}(h:¬iW a b=true):wB b a=true:=by
 rw[yBr] at h;rw[My];omega
theorem yY9 f l (p:zH):List.Perm (l.takeWhile f++(p::l.dropWhile f)) (p::l):=by
 have:=List.perm_middle (a:=p) (l₁:=l.takeWhile f) (l₂:=l.dropWhile f);simp_all
theorem yHv {l:List zH}(hs:ng l)(p:zH)(f:zH→Bool)(h1:∀q,f q=true→wB q p=true)(h2:∀q,¬f q=true→wB p q=true):ng (l.takeWhile f++(p::l.dropWhile f)):=by
 have pU:=hs;unfold ng at hs pU⊢;rw[←List.takeWhile_append_dropWhile (p:=f) (l:=l)] at hs;obtain⟨a1,a2,a3⟩:=List.pairwise_append.1 hs;have htw:∀q∈l.takeWhile f,f q=true:=fun q hq=>List.all_eq_true.1 (List.all_takeWhile (p:=f) (l:=l)) q hq
 have hdw:∀q∈l.dropWhile f,wB p q=true:=by
  cases hd:l.dropWhile f with
  |nil=>intro q hq;cases hq
  |cons x m=>
   have hx:¬f x=true:=by
    have bx:l.dropWhile f≠[]:=by rw[hd];simp
    have:=List.head_dropWhile_not f bx;have e:(l.dropWhile f).head bx=x:=by simp only[hd,List.head_cons]
    rw[e] at this;simp[this]
   intro q hq;rcases List.mem_cons.1 hq with rfl|hq
   ·exact h2 _ hx
   ·rw[hd] at a2;exact vDw (h2 x hx) ((List.pairwise_cons.1 a2).1 q hq)
 refine List.pairwise_append.2 ⟨a1,List.pairwise_cons.2 ⟨hdw,a2⟩,fun a ha b hb=>?_⟩;rcases List.mem_cons.1 hb with rfl|hb
 ·exact h1 a (htw a ha)
 ·exact a3 a ha b hb
theorem qZf {l}(hs:ng l) p:ng (pv l p):=yHv hs p _ (by simp) (fun _ h=>aao h)
theorem vQ7 {l}(hs:ng l) p:ng (LD l p):=yHv hs p _ (fun _ h=>vVu h) (fun _ h=>aap h)
theorem qQx l p:List.Perm (pv l p) (p::l):=yY9 _ l p
theorem aaq l p:List.Perm (LD l p) (p::l):=yY9 _ l p
theorem ng.cut {l}(h:ng l) x:ng (yK l x):=List.Pairwise.sublist (uJ l x) h
theorem aar {l:AC}(ha:qp l){id:Int}(hn:id∉l):qp (qq l id):=by
 unfold qq;have rT:=ha;unfold qp at ha rT⊢;rw[←List.takeWhile_append_dropWhile (p:=fun x=>decide (x<id)) (l:=l)] at ha;obtain⟨a1,a2,a3⟩:=List.pairwise_append.1 ha;have htw:∀q∈l.takeWhile (fun x=>decide (x<id)),q<id:=fun q hq=>by simpa using List.all_eq_true.1 (List.all_takeWhile (p:=fun x=>decide (x<id)) (l:=l)) q hq
 have hdw:∀q∈l.dropWhile (fun x=>decide (x<id)),id<q:=by
  cases hd:l.dropWhile (fun x=>decide (x<id)) with
  |nil=>intro q hq;cases hq
  |cons x m=>
   have Bh:x∈l:=(List.dropWhile_sublist _).subset (by rw[hd];exact List.mem_cons_self ..);have hx:¬x<id:=by
    have bx:l.dropWhile (fun x=>decide (x<id))≠[]:=by rw[hd];simp
    have:=List.head_dropWhile_not (fun x=>decide (x<id)) bx;have e:(l.dropWhile (fun x=>decide (x<id))).head bx=x:=by simp only[hd,List.head_cons]
    rw[e] at this
    simpa using this
   have bx:x≠id:=fun e=>hn (e▸Bh)
   intro q hq;rcases List.mem_cons.1 hq with rfl|hq
   ·omega
   ·rw[hd] at a2;have:=(List.pairwise_cons.1 a2).1 q hq;omega
 refine List.pairwise_append.2 ⟨a1,List.pairwise_cons.2 ⟨hdw,a2⟩,fun a ha b hb=>?_⟩;rcases List.mem_cons.1 hb with rfl|hb
 ·exact htw a ha
 ·exact a3 a ha b hb
theorem vVf l id:List.Perm (qq l id) (id::l):=by
 have:=List.perm_middle (a:=id) (l₁:=l.takeWhile (fun x=>decide (x<id))) (l₂:=l.dropWhile (fun x=>decide (x<id)))
 rwa [List.takeWhile_append_dropWhile] at this
theorem kU.sub {n m m' ids}(h:kU n m ids)(hs:List.Sublist m' m):kU n m' ids:=
 ⟨List.Pairwise.sublist hs h.dist,by have:=hs.length_le;have:=h.len;omega,List.Pairwise.sublist hs h.sort,fun p hp=>h.may p (by grind),fun p hp=>h.time p (by grind),fun p hp=>h.were p (by grind),h.asc,h.pos,h.idl⟩
theorem kU.turn {n:Nat}{m:List zH}{ids:AC}(h:kU n m ids){x:Nat}(hx:x<m.length){p:zH}{m':List zH}(hp:List.Perm m' (p::yK m x))(hs:ng m')(h1:p.1=(m.getD x pd).1)
  (h2:yN n p) (h3:0≤p.2.2.2.2.2.1∧p.2.2.2.2.2.1≤p.2.2.2.2.2.2∧p.2.2.2.2.2.2≤1048576):kU n m' ids:=by
 have hc:=uJ m x;have hl:=oc hx;have hd:qK (p::yK m x):=by
  refine List.pairwise_cons.2 ⟨fun q hq=>?_,h.dist.cut x⟩;rw[h1];have hd:=h.dist;unfold qK at hd;rw[Qn m x pd hx] at hd;have LH:=List.pairwise_append.1 hd;have Ze:=List.pairwise_cons.1 LH.2.1;unfold yK at hq;rcases List.mem_append.1 hq with hq|hq
  ·exact fun e=>LH.2.2 _ hq _ (List.mem_cons_self ..) e.symm
  ·exact Ze.1 _ hq
 have hlen:=hp.length_eq;rw[List.length_cons] at hlen;refine⟨hd.perm hp,by have:=h.len;omega,hs,fun q hq=>?_,fun q hq=>?_,fun q hq=>?_,h.asc,h.pos,h.idl⟩;all_goals rcases List.mem_cons.1 (hp.subset hq) with rfl|pw
 ·exact h2
 ·exact h.may q (hc.subset pw)
 ·exact h3
 ·exact h.time q (hc.subset pw)
 ·rw[h1];exact h.were _ (jY hx)
 ·exact h.were q (hc.subset pw)
theorem vT4 {r:qP}{s:qD}(hr:wT r)(h:yD r s){who:Int}{f:jF}(h0:(iY r s who f).1=0):kU s.B.1.length (iY r s who f).2.1 (iY r s who f).2.2:=by
 have hw:=h.waits;have hn:=h.n;have ht:=h.tk;unfold iY at h0⊢;cases hc:decide (f.2.2.1≥0)&&decide (f.2.2.1≤r.1-1) with
 |false=>rw[hc] at h0;cases h0
 |true=>
 cases dq:decide (f.2.2.2.2.1≥1)&&decide (f.2.2.2.2.1≤3) with
 |false=>rw[hc,dq] at h0;cases h0
 |true=>
 cases dP:decide (ni r s.t (ga who f)=0) with
 |false=>rw[hc,dq,dP] at h0;exact absurd h0 (gZ dP)
 |true=>
 cases gY:decide (f.2.1∈s.ids) with
 |true=>rw[hc,dq,dP,gY] at h0;cases h0
 |false=>
 cases mU:decide (200≤s.ids.length) with
 |true=>rw[hc,dq,dP,gY,mU] at h0;cases h0
 |false=>
 cases EE:(vU s.m f.2.1).isSome with
 |true=>rw[hc,dq,dP,gY,mU,EE] at h0;cases h0
 |false=>
 cases EF:decide (40≤s.m.length) with
 |true=>rw[hc,dq,dP,gY,mU,EE,EF] at h0;cases h0
 |false=>
 show kU s.B.1.length (pv s.m (ga who f)) (qq s.ids f.2.1);have OK:f.2.1∉s.ids:=gZ gY;have hi:=gZ mU;have hm:=gZ EF;have Cy:=uz dP;have hip:kV r.1 s.t (ga who f)=true:=by
  unfold ni at Cy;cases hb:kV r.1 s.t (ga who f) with
  |true=>rfl
  |false=>rw[hb] at Cy;cases Cy
 unfold kV at hip;simp only[aR,aZ,Bool.not_eq_true',decide_eq_false_iff_not] at hip;obtain⟨⟨p1,p2⟩,⟨p3,p4⟩,p5,p6,p7,p8,p9,uv,p11,p12,p13,p14⟩:=hip;have yv:=qQx s.m (ga who f);have Rh:=vVf s.ids f.2.1;have hlen:=yv.length_eq;have qe:=Rh.length_eq;rw[List.length_cons] at hlen qe;have bZ:yN s.B.1.length (ga who f):=⟨p1,by omega,p3,by omega,p9,p6,p7,p8,uv⟩;have gz:∀x,x∈s.ids→x∈qq s.ids f.2.1:=fun x hx=>Rh.symm.subset (List.mem_cons_of_mem _ hx)
 have Mz:qK (ga who f::s.m):=List.pairwise_cons.2 ⟨fun q hq e=>OK (by have:=hw.were q hq;rw[←e] at this;exact this),hw.dist⟩;refine⟨Mz.perm yv,by omega,qZf hw.sort _,fun q hq=>?_,fun q hq=>?_,fun q hq=>?_,aar hw.asc OK,fun x hx=>?_,by omega⟩
 ·rcases List.mem_cons.1 (yv.subset hq) with rfl|pw
  ·exact bZ
  ·exact hw.may q pw
 ·rcases List.mem_cons.1 (yv.subset hq) with rfl|pw
  ·exact⟨p11,p12,p14⟩
  ·exact hw.time q pw
 ·rcases List.mem_cons.1 (yv.subset hq) with rfl|pw
  ·exact Rh.symm.subset (List.mem_cons_self ..)
  ·exact gz _ (hw.were q pw)
 ·rcases List.mem_cons.1 (Rh.subset hx) with rfl|pR
  ·exact p5
  ·exact hw.pos x pR
theorem vPe {r s}(h:yD r s){who f}(h0:(kW r s who f).1=0):kU s.B.1.length (kW r s who f).2.1 s.ids:=by
 have hw:=h.waits;unfold kW at h0⊢;cases hx:vU s.m f.2.1 with
 |none=>omega
 |some x=>
 rw[hx] at h0;have dw:=(kQ hx).1;have dp:s.m.getD x pd∈s.m:=by grind
 have hm:=hw.may _ dp;have ht:=hw.time _ dp;simp only at h0⊢;cases hc:decide ((s.m.getD x pd).2.1=who) with
 |false=>simp_all
 |true=>
 cases dq:decide (f.1=2) with
 |true=>exact hw.sub (uJ _ _)
 |false=>
 cases dP:decide (f.1=4) with
 |true=>
  cases gY:decide (f.2.2.1≥1)&&decide (f.2.2.1≤3) with
  |false=>simp_all
  |true=>
  cases mU:decide (qy r.2.2.1 r.2.2.2.1 s.t f.2.2.1=0) with
  |false=>simp_all
  |true=>
  simp  at gY;obtain⟨m1,m2,m3,m4,m5,m6,m7,m8,m9⟩:=hm;exact hw.turn dw (qQx _ _) (qZf (hw.sort.cut x) _) rfl ⟨m1,m2,m3,m4,m5,m6,m7,gY.1,gY.2⟩ ht
 |false=>
  cases gY:decide (f.2.2.1=0) with
  |true=>exact hw.turn dw (aaq _ _) (vQ7 (hw.sort.cut x) _) rfl hm ht
  |false=>
   cases mU:decide (f.2.2.1=1) with
   |true=>exact hw.turn dw (qQx _ _) (qZf (hw.sort.cut x) _) rfl hm ht
   |false=>simp_all
theorem vFv {n}(h:-1≤n∧n≤1152921504606846976):wV n=true:=by
 unfold wV;grind
theorem tf {a}:fJ a=true↔(-4611686018427387904<a.1∧a.1<4611686018427387904)∧(0≤a.2.1∧a.2.1≤2305843009213693952)∧(0≤a.2.2∧a.2.2≤2305843009213693952):=by
 unfold fJ;grind
theorem wS.setBil {a}{b:jL}{m}{p:jL}(h:wS a b m p){w i}(hw:w<a.length)(hi:i<a.length){n}(hn:-1≤n∧n≤1152921504606846976):wS a (b.set w ((b.getD w []).set i n)) m p:=
  { h with
    bl:=by rw[List.length_set];exact h.bl
    br:=fun j hj=>by
      rw[fH];split
      · rw[List.length_set];exact h.br w hw
      · exact h.br j hj
    bil:=fun j hj k hk=>by
      unfold cell;rw[fH];split
      · rw[fH];split
        · exact vFv hn
        · exact h.bil w hw k hk
      · exact h.bil j hj k hk}
theorem wS.setMul {a}{b:jL}{m}{p:jL}(h:wS a b m p) w {n}(hn:-1≤n∧n≤1152921504606846976):wS a b (m.set w n) p:=
  { h with
    ml:=by rw[List.length_set];exact h.ml
    mul:=fun j hj=>by
      rw[fH];split
      · exact vFv hn
      · exact h.mul j hj}
theorem wS.setAcct {a}{b:jL}{m}{p:jL}(h:wS a b m p){a'}(hl:a'.length=a.length)(ha:∀i,i<a.length→fJ (a'.getD i ad)=true):wS a' b m p where
 n1:=by rw[hl];exact h.n1
 n6:=by rw[hl];exact h.n6
 bl:=by rw[hl];exact h.bl
 br:=by rw[hl];exact h.br
 ml:=by rw[hl];exact h.ml
 pl:=by rw[hl];exact h.pl
 pr:=by rw[hl];exact h.pr
 mul:=by rw[hl];exact h.mul
 bil:=by rw[hl];exact h.bil
 acct:=by simp_all
 net:=by rw[hl];exact h.net
 turn:=by rw[hl];exact h.turn
theorem vMj {n g i}(hi:i<n) d:qG (fun j=>if j=i then g j+d else g j) n=qG g n+d:=by
 have e:qG (fun j=>if j=i then g j+d else g j) n=qG (fun j=>g j+(if j=i then d else 0)) n:=by grind
 rw[e,EJ,BK,if_pos hi]
theorem yD.books {r s}(h:yD r s){B}(hb:qR B)(hl:B.1.length=s.B.1.length)(qn:∀i,i<s.B.1.length→(B.1.getD i ad).1=(s.B.1.getD i ad).1)(hc:∀i,i<s.B.1.length→(B.1.getD i ad).2.1=(s.B.1.getD i ad).2.1):yD r {s with B:=B} where
 tk:=h.tk
 bk:=hb
 n:=by rw[hl];exact h.n
 hol:=by rw[hl];exact h.hol
 laid:=by rw[hl];exact h.laid
 cred:=by rw[hl];intro i hi;rw[hc i hi];exact h.cred i hi
 most:=by rw[hl];intro i hi;rw[hc i hi];exact h.most i hi
 waits:=by rw[hl];exact h.waits
 sum:=by rw[hl,sH qn];exact h.sum
 tot:=h.tot
 over:=h.over
 none:=h.none
theorem yD.queue {r s}(h:yD r s)(ho:s.ov=false){m ids}(hw:kU s.B.1.length m ids):yD r {s with m:=m,ids:=ids} where
 tk:=h.tk
 bk:=h.bk
 n:=h.n
 hol:=h.hol
 laid:=h.laid
 cred:=h.cred
 most:=h.most
 waits:=hw
 sum:=h.sum
 tot:=h.tot
 over:=h.over
 none:=by grind
theorem vKh {r:qP}{s:qD}(h:yD r s){who:Int}(hw:0≤who∧who<r.1){f:jF}(h0:(kX r s who f).1=0):yD r (kX r s who f).2:=by
 have hn:=h.n;have hb:wS s.B.1 s.B.2.1 s.B.2.2.1 s.B.2.2.2:=h.bk;obtain⟨w,rfl⟩:=Int.eq_ofNat_of_zero_le hw.1;have gH:w<s.B.1.length:=by omega
 unfold kX at h0⊢;cases hc:decide (f.1=5) with
 |true=>
  rw[hc] at h0;simp only[ai] at h0⊢;cases dq:decide (f.2.1≥0)&&decide (f.2.1≤r.1-1) with
  |false=>rw[dq] at h0;cases h0
  |true=>
  cases dP:decide (f.2.1=(w:Int)) with
  |true=>rw[dq,dP] at h0;cases h0
  |false=>
  cases gY:decide (f.2.2.1≥-1)&&decide (f.2.2.1≤1152921504606846976) with
  |false=>rw[dq,dP,gY] at h0;cases h0
  |true=>
  simp only[aR,aZ] at dq gY;exact h.books (B:=(s.B.1,s.B.2.1.set w ((s.B.2.1.getD w []).set f.2.1.toNat f.2.2.1),s.B.2.2.1,s.B.2.2.2)) (hb.setBil gH (by omega) (by grind)) rfl (by simp) (by simp)
 |false=>
  rw[hc] at h0;simp only[ak] at h0⊢;cases dq:decide (f.1=6) with
  |true=>
   rw[dq] at h0;simp only[ai] at h0⊢;cases dP:decide (f.2.1≥-1)&&decide (f.2.1≤1152921504606846976) with
   |false=>rw[dP] at h0;cases h0
   |true=>
   simp only[aR,aZ] at dP;exact h.books (B:=(s.B.1,s.B.2.1,s.B.2.2.1.set w f.2.1,s.B.2.2.2)) (hb.setMul w (by grind)) rfl (fun _ _=>rfl) (by simp)
  |false=>
   rw[dq] at h0;simp only[ak] at h0⊢;cases dP:decide (f.2.1≥0)&&decide (f.2.1≤1152921504606846976) with
   |false=>rw[dP] at h0;cases h0
   |true=>
   have hg:∀i,(s.B.1.set w ((s.B.1.getD w ad).1,(s.B.1.getD w ad).2.1,f.2.1)).getD i ad=if i=w then((s.B.1.getD w ad).1,(s.B.1.getD w ad).2.1,f.2.1) else s.B.1.getD i ad:=by grind
   refine h.books (B:=(s.B.1.set w ((s.B.1.getD w ad).1,(s.B.1.getD w ad).2.1,f.2.1),s.B.2.1,s.B.2.2.1,s.B.2.2.2)) (hb.setAcct (by rw[List.length_set]) fun i hi=>?_) (by simp) (fun i hi=>?_) (fun i hi=>?_)
   ·rw[hg];split
    ·have:=tf.1 (hb.acct w gH);rw[tf];grind
    ·exact hb.acct i hi
   all_goals grind
theorem aas {r}(hr:wT r){s}(h:yD r s){who}(hw:0≤who∧who<r.1){a many}(h0:(kY r s who a many).1=0):yD r (kY r s who a many).2:=by
  have hn:=h.n;have hb:wS s.B.1 s.B.2.1 s.B.2.2.1 s.B.2.2.2:=h.bk;obtain⟨w,rfl⟩:=Int.eq_ofNat_of_zero_le hw.1;have gH:w<s.B.1.length:=by omega
  have hol:=h.hol;unfold kY at h0⊢;simp only[ao] at h0⊢;cases hc:decide (a≥0)&&decide (a≤(r.2.1.length:Int)-1) with
  |false=>simp_all
  |true=>
  cases dq:decide (many≥0)&&decide (many≤1099511627776) with
  |false=>simp_all
  |true=>
  rw[hc,dq] at h0;simp only[az,ak] at h0⊢;simp  at hc dq;have L2:=(h.laid w gH).set (i:=a.toNat) (by omega) (v:=many) (by grind);have Bb:=Gr L2;obtain⟨n,bx⟩:∃n,n=gG r.2.1 s.pr ((s.ho.getD w []).set a.toNat many):=by simp
  rw[←bx] at h0 Bb⊢;unfold G3 at h0⊢;cases dP:decide (n>1152921504606846976) with
  |true=>simp_all
  |false=>
  cases gY:decide (n<(s.B.1.getD w ad).2.1)&&decide ((s.B.1.getD w ad).1+n<0) with
  |true=>simp_all
  |false=>
  have dP:=gZ dP;have hg:∀i,(s.B.1.set w ((s.B.1.getD w ad).1,n,(s.B.1.getD w ad).2.2)).getD i ad=if i=w then((s.B.1.getD w ad).1,n,(s.B.1.getD w ad).2.2) else s.B.1.getD i ad:=by grind
  have hgh:∀i,(s.ho.set w ((s.ho.getD w []).set a.toNat many)).getD i []=if i=w then(s.ho.getD w []).set a.toNat many else s.ho.getD i []:=by grind
  simp only[ak];have gL:(s.B.1.set w ((s.B.1.getD w ad).1,n,(s.B.1.getD w ad).2.2)).length=s.B.1.length:=by simp
  exact{
    tk:=h.tk
    bk:=hb.setAcct gL fun i hi=>by
      rw[hg];split
      · have:=tf.1 (hb.acct w gH);rw[tf];grind
      · exact hb.acct i hi
    n:=by simp_all
    hol:=by simp_all
    laid:=by
      rw[gL];intro i hi;rw[hgh];split
      · exact L2
      · exact h.laid i hi
    cred:=by
      rw[gL];intro i hi;rw[hg,hgh];split
      · exact bx
      · exact h.cred i hi
    most:=by
      rw[gL];intro i hi;rw[hg];split
      · show n≤_;omega
      · exact h.most i hi
    waits:=by rw[gL];exact h.waits
    sum:=by
      rw[gL,sH (h:=fun i=>(s.B.1.getD i ad).1) (by grind)];exact h.sum
    tot:=h.tot
    over:=h.over
    none:=h.none}
theorem vEq {r s}(h:yD r s){i}(hi:i<s.B.1.length){n}(hz:(jU (s.B.1.getD i ad) n).2=0)(ht:0≤s.to+n∧s.to+n≤1152921504606846976):
    yD r (Rf s i (jU (s.B.1.getD i ad) n).1 (s.to+n)):=by
  have hb:wS s.B.1 s.B.2.1 s.B.2.2.1 s.B.2.2.2:=h.bk;unfold jU at hz⊢;cases hc:fJ ((s.B.1.getD i ad).1+n,(s.B.1.getD i ad).2.1,(s.B.1.getD i ad).2.2) with
  |false=>simp_all
  |true=>
  simp only[ai];have hg:∀j,(s.B.1.set i ((s.B.1.getD i ad).1+n,(s.B.1.getD i ad).2.1,(s.B.1.getD i ad).2.2)).getD j ad=if j=i then((s.B.1.getD i ad).1+n,(s.B.1.getD i ad).2.1,(s.B.1.getD i ad).2.2) else s.B.1.getD j ad:=by grind
  have gL:(s.B.1.set i ((s.B.1.getD i ad).1+n,(s.B.1.getD i ad).2.1,(s.B.1.getD i ad).2.2)).length=s.B.1.length:=by simp
  unfold Rf;exact{
    tk:=h.tk
    bk:=hb.setAcct gL fun j hj=>by
      rw[hg];split
      · exact hc
      · exact hb.acct j hj
    n:=by rw[gL];exact h.n
    hol:=by rw[gL];exact h.hol
    laid:=by rw[gL];exact h.laid
    cred:=by
      rw[gL];intro j hj;rw[hg];split
      · rename_i e;rw[e];exact h.cred i hi
      · exact h.cred j hj
    most:=by
      rw[gL];intro j hj;rw[hg];split
      · exact h.most i hi
      · exact h.most j hj
    waits:=by rw[gL];exact h.waits
    sum:=by
      rw[gL,sH (h:=fun j=>if j=i then(s.B.1.getD j ad).1+n else(s.B.1.getD j ad).1) (by grind),vMj hi,h.sum]
    tot:=ht
    over:=h.over
    none:=h.none}
theorem vKy {r s}(h:yD r s){kd to n}(h0:(la r s kd to n).1=0):yD r (la r s kd to n).2∧(la r s kd to n).2.to=s.to+(if kd=11 then-n else n)∧(la r s kd to n).2.m=s.m∧(la r s kd to n).2.ids=s.ids∧(la r s kd to n).2.t=s.t:=by
 have hn:=h.n;have ht:=h.tot;unfold la at h0⊢;cases hc:decide (to≥0)&&decide (to≤r.1-1) with
 |false=>rw[hc] at h0;cases h0
 |true=>
 cases dq:decide (n≥1)&&decide (n≤1099511627776) with
 |false=>simp_all
 |true=>
 rw[hc,dq] at h0;simp  at hc dq;have hi:to.toNat<s.B.1.length:=by omega
 by_cases hk:kd=11
 ·rw[aa hk] at h0⊢;rw[if_pos hk];unfold Mu at h0⊢;cases dP:decide ((s.B.1.getD to.toNat ad).1+(s.B.1.getD to.toNat ad).2.1-(s.B.1.getD to.toNat ad).2.2<n) with
  |true=>rw[dP] at h0;cases h0
  |false=>
  cases gY:decide (s.to-n<0) with
  |true=>simp_all
  |false=>
  cases hz:decide ((jU (s.B.1.getD to.toNat ad) (-n)).2=0) with
  |false=>grind
  |true=>
  cases mU:decide (s.to-n>1152921504606846976) with
  |true=>grind
  |false=>
  have gY:=gZ gY;have:=vEq h hi (n:= -n) (by grind) (by omega);exact⟨this,rfl,rfl,rfl,rfl⟩
 ·rw[ab hk] at h0⊢;rw[if_neg hk];unfold Mv at h0⊢;cases hz:decide ((jU (s.B.1.getD to.toNat ad) n).2=0) with
  |false=>simp_all
  |true=>
  cases mU:decide (s.to+n>1152921504606846976) with
  |true=>simp_all
  |false=>
  have mU:=gZ mU;exact⟨vEq h hi (by grind) (by omega),rfl,rfl,rfl,rfl⟩
theorem vZ3 {r s}(h:yD r s){a p}(h0:(ld r s a p).1=0):yD r (ld r s a p).2:=by
  have hb:wS s.B.1 s.B.2.1 s.B.2.2.1 s.B.2.2.2:=h.bk;unfold ld at h0⊢;cases hc:decide (a≥0)&&decide (a≤(r.2.1.length:Int)-1) with
  |false=>simp_all
  |true=>
  cases dq:decide (p≥0)&&decide (p≤1048576) with
  |false=>simp_all
  |true=>
  simp  at hc dq;have hL:∀i,i<s.B.1.length→kh r.2.1 (s.pr.set a.toNat p) (s.ho.getD i []):=fun i hi=>(h.laid i hi).setP (by omega) (by grind)
  generalize s.pr.set a.toNat p=pr at*
  unfold HE at h0⊢;cases dP:zZ (fun j=> !decide (gK r.2.1 pr s.ho j>1152921504606846976)) s.B.1.length 0 with
  |false=>simp_all
  |true=>
  simp;have hle:∀i,i<s.B.1.length→gK r.2.1 pr s.ho i≤1152921504606846976:=fun i hi=>by
    have:=wI.1 dP i hi;simp_all
  have gL:=qQh r.2.1 pr s.ho s.B.1;have hg:=fun(j:Nat) (hj:j<s.B.1.length)=>qN3 r.2.1 pr s.ho s.B.1 hj
  exact{
    tk:=h.tk
    bk:=hb.setAcct gL fun i hi=>by
      rw[hg i hi];have:=tf.1 (hb.acct i hi);have h1:=Gr (hL i hi);rw[tf];exact⟨this.1,⟨h1,by grind⟩,this.2.2⟩
    n:=by rw[gL];exact h.n
    hol:=by rw[gL];exact h.hol
    laid:=by simp_all
    cred:=by
      rw[gL];intro i hi;rw[hg i hi];rfl
    most:=by
      simp_all
    waits:=by rw[gL];exact h.waits
    sum:=by
      rw[gL,sH (h:=fun i=>(s.B.1.getD i ad).1) (by grind)];exact h.sum
    tot:=h.tot
    over:=h.over
    none:=h.none}
theorem vh x:shl .i64 x 16=zA (x*65536):=rfl
theorem aat q0 q1 q2 q3 (h : decide (q3 ≥ 32768) = false) : ((HG 1000 1000 4 [q0,q1,q2,q3,0,0,0,0,0]).bind fun z1=>
 match z1 with
 | .inl z2 => bif zB 3 z2.length then (bif decide ((z2.getD 3 0)≥32768) then some ((0:Int),false)
   else bif zB 3 z2.length then (bif zB 2 z2.length then (bif zB 1 z2.length then (bif zB 0 z2.length then some ((wR .i64 (wR .i64 (wR .i64 (shl .i64 (z2.getD 3 0) 48) (shl .i64 (z2.getD 2 0) 32)) (shl .i64 (z2.getD 1 0) 16)) (z2.getD 0 0)),true)
      else none)
     else none)
    else none)
   else none)
  else none
 |.inr z3=>some (z3.1,z3.2))=some (wR .i64 (wR .i64 (wR .i64 (shl .i64 q3 48) (shl .i64 q2 32)) (shl .i64 q1 16)) q0,true):=by
  have e:HG 1000 1000 4 [q0,q1,q2,q3,0,0,0,0,0]=some (.inl [q0,q1,q2,q3,0,0,0,0,0]):=by rfl
  rw[e];simp only[ae];have e3:([q0,q1,q2,q3,0,0,0,0,0]:AC).getD 3 0=q3:=rfl;rw[e3,h];rfl
theorem vN6 {q0 q1 q2 q3}(h0:0≤q0∧q0<65536)(h1:0≤q1∧q1<65536)(h2:0≤q2∧q2<65536)(h3:0≤q3∧q3<32768):
  wR .i64 (wR .i64 (wR .i64 (shl .i64 q3 48) (shl .i64 q2 32)) (shl .i64 q1 16)) q0=q0+65536*(q1+65536*(q2+65536*q3)):=by
 have s3:shl .i64 q3 48=zA (q3*281474976710656):=rfl;have s2:shl .i64 q2 32=zA (q2*4294967296):=rfl;have s1:shl .i64 q1 16=zA (q1*65536):=rfl;rw[s3,s2,s1,zO (x:=q3*281474976710656) (by omega) (by omega),zO (x:=q2*4294967296) (by omega) (by omega),zO (x:=q1*65536) (by omega) (by omega)];have b1:=Q6 48 (by decide) (x:=q3) (y:=q2*4294967296) h3.1 (by omega) (by omega);have p48:(2:Int)^48=281474976710656:=rfl;rw[p48] at b1;have b2:=Q6 32 (by decide) (x:=q3*65536+q2) (y:=q1*65536) (by omega) (by omega) (by omega);have p32:(2:Int)^32=4294967296:=rfl;rw[p32] at b2;have b3:=Q6 16 (by decide) (x:=(q3*65536+q2)*65536+q1) (y:=q0) (by omega) (by omega) (by omega);grind
theorem vYv {l0 l1 l2 l3 l4 l5 l6 l7 l8}(g0:0≤l0∧l0<65536)(g1:0≤l1∧l1<65536)(g2:0≤l2∧l2<65536)(g3:0≤l3∧l3<65536)(g4:0≤l4∧l4<65536)(g5:0≤l5∧l5<65536)(g6:0≤l6∧l6<65536)(g7:0≤l7∧l7<65536)(g8:0≤l8∧l8≤0)(hV:V9 l0 l1 l2 l3 l4 l5 l6 l7 l8/10000≤1152921504606846976):Ri 1000 [l0,l1,l2,l3,l4,l5,l6,l7,l8] 10000=some (V9 l0 l1 l2 l3 l4 l5 l6 l7 l8/10000,true):=by
  obtain⟨r9,h9⟩:∃r:Int,r=0:=⟨_,rfl⟩;obtain⟨x8,hx8⟩:∃x,x=r9*65536+l8:=⟨_,rfl⟩;obtain⟨r8,hr8⟩:∃r,r=x8%10000:=⟨_,rfl⟩;obtain⟨q8,hq8⟩:∃q,q=x8/10000:=⟨_,rfl⟩;have v8:x8=10000*q8+r8∧0≤r8∧r8<10000∧0≤x8∧x8<655360000:=by omega
  have h8:x8=zA (shl .i64 r9 16+l8):=by rw[vh,zO (x:=r9*65536) (by omega) (by omega),←hx8,zO (by omega) (by omega)]
  have k8:r8=Int.tmod x8 10000:=by rw[Int.tmod_eq_emod_of_nonneg (by omega)];exact hr8
  have t8:zA (Int.tdiv x8 10000)=q8:=by rw[Int.tdiv_eq_ediv_of_nonneg (by omega),←hq8,zO (by omega) (by omega)]
  obtain⟨x7,hx7⟩:∃x,x=r8*65536+l7:=⟨_,rfl⟩;obtain⟨r7,hr7⟩:∃r,r=x7%10000:=⟨_,rfl⟩;obtain⟨q7,hq7⟩:∃q,q=x7/10000:=⟨_,rfl⟩;have v7:x7=10000*q7+r7∧0≤r7∧r7<10000∧0≤x7∧x7<655360000:=by omega
  have h7:x7=zA (shl .i64 r8 16+l7):=by rw[vh,zO (x:=r8*65536) (by omega) (by omega),←hx7,zO (by omega) (by omega)]
  have k7:r7=Int.tmod x7 10000:=by rw[Int.tmod_eq_emod_of_nonneg (by omega)];exact hr7
  have t7:zA (Int.tdiv x7 10000)=q7:=by rw[Int.tdiv_eq_ediv_of_nonneg (by omega),←hq7,zO (by omega) (by omega)]
  obtain⟨x6,Pl⟩:∃x,x=r7*65536+l6:=⟨_,rfl⟩;obtain⟨r6,hr6⟩:∃r,r=x6%10000:=⟨_,rfl⟩;obtain⟨q6,hq6⟩:∃q,q=x6/10000:=⟨_,rfl⟩;have v6:x6=10000*q6+r6∧0≤r6∧r6<10000∧0≤x6∧x6<655360000:=by omega
  have h6:x6=zA (shl .i64 r7 16+l6):=by rw[vh,zO (x:=r7*65536) (by omega) (by omega),←Pl,zO (by omega) (by omega)]
  have k6:r6=Int.tmod x6 10000:=by rw[Int.tmod_eq_emod_of_nonneg (by omega)];exact hr6
  have t6:zA (Int.tdiv x6 10000)=q6:=by rw[Int.tdiv_eq_ediv_of_nonneg (by omega),←hq6,zO (by omega) (by omega)]
  obtain⟨x5,hx5⟩:∃x,x=r6*65536+l5:=⟨_,rfl⟩;obtain⟨r5,hr5⟩:∃r,r=x5%10000:=⟨_,rfl⟩;obtain⟨q5,hq5⟩:∃q,q=x5/10000:=⟨_,rfl⟩;have v5:x5=10000*q5+r5∧0≤r5∧r5<10000∧0≤x5∧x5<655360000:=by omega
  have h5:x5=zA (shl .i64 r6 16+l5):=by rw[vh,zO (x:=r6*65536) (by omega) (by omega),←hx5,zO (by omega) (by omega)]
  have k5:r5=Int.tmod x5 10000:=by rw[Int.tmod_eq_emod_of_nonneg (by omega)];exact hr5
  have t5:zA (Int.tdiv x5 10000)=q5:=by rw[Int.tdiv_eq_ediv_of_nonneg (by omega),←hq5,zO (by omega) (by omega)]
  obtain⟨x4,hx4⟩:∃x,x=r5*65536+l4:=⟨_,rfl⟩;obtain⟨r4,hr4⟩:∃r,r=x4%10000:=⟨_,rfl⟩;obtain⟨q4,hq4⟩:∃q,q=x4/10000:=⟨_,rfl⟩;have v4:x4=10000*q4+r4∧0≤r4∧r4<10000∧0≤x4∧x4<655360000:=by omega
  have h4:x4=zA (shl .i64 r5 16+l4):=by rw[vh,zO (x:=r5*65536) (by omega) (by omega),←hx4,zO (by omega) (by omega)]
  have k4:r4=Int.tmod x4 10000:=by rw[Int.tmod_eq_emod_of_nonneg (by omega)];exact hr4
  have t4:zA (Int.tdiv x4 10000)=q4:=by rw[Int.tdiv_eq_ediv_of_nonneg (by omega),←hq4,zO (by omega) (by omega)]
  obtain⟨x3,hx3⟩:∃x,x=r4*65536+l3:=⟨_,rfl⟩;obtain⟨r3,hr3⟩:∃r,r=x3%10000:=⟨_,rfl⟩;obtain⟨q3,hq3⟩:∃q,q=x3/10000:=⟨_,rfl⟩;have v3:x3=10000*q3+r3∧0≤r3∧r3<10000∧0≤x3∧x3<655360000:=by omega
  have h3:x3=zA (shl .i64 r4 16+l3):=by rw[vh,zO (x:=r4*65536) (by omega) (by omega),←hx3,zO (by omega) (by omega)]
  have k3:r3=Int.tmod x3 10000:=by rw[Int.tmod_eq_emod_of_nonneg (by omega)];exact hr3
  have t3:zA (Int.tdiv x3 10000)=q3:=by rw[Int.tdiv_eq_ediv_of_nonneg (by omega),←hq3,zO (by omega) (by omega)]
  obtain⟨x2,Ea⟩:∃x,x=r3*65536+l2:=⟨_,rfl⟩;obtain⟨r2,si⟩:∃r,r=x2%10000:=⟨_,rfl⟩;obtain⟨q2,hq2⟩:∃q,q=x2/10000:=⟨_,rfl⟩;have v2:x2=10000*q2+r2∧0≤r2∧r2<10000∧0≤x2∧x2<655360000:=by omega
  have h2:x2=zA (shl .i64 r3 16+l2):=by rw[vh,zO (x:=r3*65536) (by omega) (by omega),←Ea,zO (by omega) (by omega)]
  have k2:r2=Int.tmod x2 10000:=by rw[Int.tmod_eq_emod_of_nonneg (by omega)];exact si
  have t2:zA (Int.tdiv x2 10000)=q2:=by rw[Int.tdiv_eq_ediv_of_nonneg (by omega),←hq2,zO (by omega) (by omega)]
  obtain⟨x1,dw⟩:∃x,x=r2*65536+l1:=⟨_,rfl⟩;obtain⟨r1,xd⟩:∃r,r=x1%10000:=⟨_,rfl⟩;obtain⟨q1,hq1⟩:∃q,q=x1/10000:=⟨_,rfl⟩;have v1:x1=10000*q1+r1∧0≤r1∧r1<10000∧0≤x1∧x1<655360000:=by omega
  have h1:x1=zA (shl .i64 r2 16+l1):=by rw[vh,zO (x:=r2*65536) (by omega) (by omega),←dw,zO (by omega) (by omega)]
  have k1:r1=Int.tmod x1 10000:=by rw[Int.tmod_eq_emod_of_nonneg (by omega)];exact xd
  have t1:zA (Int.tdiv x1 10000)=q1:=by rw[Int.tdiv_eq_ediv_of_nonneg (by omega),←hq1,zO (by omega) (by omega)]
  obtain⟨x0,hx0⟩:∃x,x=r1*65536+l0:=⟨_,rfl⟩;obtain⟨r0,tT⟩:∃r,r=x0%10000:=⟨_,rfl⟩;obtain⟨q0,hq0⟩:∃q,q=x0/10000:=⟨_,rfl⟩;have v0:x0=10000*q0+r0∧0≤r0∧r0<10000∧0≤x0∧x0<655360000:=by omega
  have h0:x0=zA (shl .i64 r1 16+l0):=by rw[vh,zO (x:=r1*65536) (by omega) (by omega),←hx0,zO (by omega) (by omega)]
  have k0:r0=Int.tmod x0 10000:=by rw[Int.tmod_eq_emod_of_nonneg (by omega)];exact tT
  have t0:zA (Int.tdiv x0 10000)=q0:=by rw[Int.tdiv_eq_ediv_of_nonneg (by omega),←hq0,zO (by omega) (by omega)]
  have run:=vQt l0 l1 l2 l3 l4 l5 l6 l7 l8 h8 h7 h6 h5 h4 h3 h2 h1 h0 h9 k8 k7 k6 k5 k4 k3 k2 k1 k0;rw[t0,t1,t2,t3,t4,t5,t6,t7,t8] at run;clear h0 k0 t0 h1 k1 t1 h2 k2 t2 h3 k3 t3 h4 k4 t4 h5 k5 t5 h6 k6 t6 h7 k7 t7 h8 k8 t8;have hv:10000*V9 q0 q1 q2 q3 q4 q5 q6 q7 q8+r0=V9 l0 l1 l2 l3 l4 l5 l6 l7 l8:=by unfold V9;omega
  have hq:V9 q0 q1 q2 q3 q4 q5 q6 q7 q8=V9 l0 l1 l2 l3 l4 l5 l6 l7 l8/10000:=by omega
  rw[←hq] at hV⊢;unfold V9 at hV;have z8:q8=0:=by omega
  have z7:q7=0:=by omega
  have z6:q6=0:=by omega
  have z5:q5=0:=by omega
  have z4:q4=0:=by omega
  have z3:q3<32768:=by omega
  rw[z4,z5,z6,z7,z8] at run;have eU:Ri 1000 [l0,l1,l2,l3,l4,l5,l6,l7,l8] 10000=(Mo 1000 1000 10000 0 8 [l0,l1,l2,l3,l4,l5,l6,l7,l8]).bind fun z=>(HG 1000 1000 4 z).bind fun z1=>
   match z1 with
   | .inl z2 => bif zB 3 z2.length then (bif decide ((z2.getD 3 0)≥32768) then some ((0:Int),false)
     else bif zB 3 z2.length then (bif zB 2 z2.length then (bif zB 1 z2.length then (bif zB 0 z2.length then some ((wR .i64 (wR .i64 (wR .i64 (shl .i64 (z2.getD 3 0) 48) (shl .i64 (z2.getD 2 0) 32)) (shl .i64 (z2.getD 1 0) 16)) (z2.getD 0 0)),true)
        else none)
       else none)
      else none)
     else none)
    else none
   |.inr z3=>some (z3.1,z3.2):=rfl
  rw[eU,run];simp only[ae];refine(aat q0 q1 q2 q3 (ab (by omega))).trans ?_;rw[vN6 ⟨by omega,by omega⟩ ⟨by omega,by omega⟩ ⟨by omega,by omega⟩ ⟨by omega,z3⟩];unfold V9;rw[z4,z5,z6,z7,z8];exact by simp
theorem aau (a b x0 x1 x2 x3:Int):Rj 1000 1000 b 0 [x0,x1,x2,x3] [0,0,0,0,0,0,0,0,0]=some [zA (0+zA (x0*yP .i64 (shr .i64 b 0) 65535)),zA (zA (0+zA (x0*yP .i64 (shr .i64 b 16) 65535))+zA (x1*yP .i64 (shr .i64 b 0) 65535)),zA (zA (zA (0+zA (x0*yP .i64 (shr .i64 b 32) 65535))+zA (x1*yP .i64 (shr .i64 b 16) 65535))+zA (x2*yP .i64 (shr .i64 b 0) 65535)),zA (zA (zA (zA (0+zA (x0*yP .i64 (shr .i64 b 48) 65535))+zA (x1*yP .i64 (shr .i64 b 32) 65535))+zA (x2*yP .i64 (shr .i64 b 16) 65535))+zA (x3*yP .i64 (shr .i64 b 0) 65535)),zA (zA (zA (0+zA (x1*yP .i64 (shr .i64 b 48) 65535))+zA (x2*yP .i64 (shr .i64 b 32) 65535))+zA (x3*yP .i64 (shr .i64 b 16) 65535)),zA (zA (0+zA (x2*yP .i64 (shr .i64 b 48) 65535))+zA (x3*yP .i64 (shr .i64 b 32) 65535)),zA (0+zA (x3*yP .i64 (shr .i64 b 48) 65535)),0,0]:=by kernel_rfl
theorem aav {x0 x1 x2 x3 y0 y1 y2 y3}:(x0+65536*x1+4294967296*x2+281474976710656*x3)*(y0+65536*y1+4294967296*y2+281474976710656*y3)=V9 (x0*y0) (x0*y1+x1*y0) (x0*y2+x1*y1+x2*y0) (x0*y3+x1*y2+x2*y1+x3*y0) (x1*y3+x2*y2+x3*y1) (x2*y3+x3*y2) (x3*y3) 0 0:=by
 have row:∀x:Int,x*(y0+65536*y1+4294967296*y2+281474976710656*y3)=x*y0+65536*(x*y1)+4294967296*(x*y2)+281474976710656*(x*y3):=by grind
 rw[Int.add_mul,Int.add_mul,Int.add_mul,Int.mul_assoc,Int.mul_assoc,Int.mul_assoc,row,row,row,row];unfold V9;omega
theorem aaw {a b}(ha:0≤a∧a≤1048576)(hb:0≤b∧b≤1099511627776):∃d0 d1 d2 d3 d4 d5 d6 d7 d8,
  Rk 1000 a b=some [d0,d1,d2,d3,d4,d5,d6,d7,d8]∧V9 d0 d1 d2 d3 d4 d5 d6 d7 d8=a*b∧(0≤d0∧d0<65536)∧(0≤d1∧d1<65536)∧(0≤d2∧d2<65536)∧(0≤d3∧d3<65536)∧(0≤d4∧d4<65536)∧(0≤d5∧d5<65536)∧(0≤d6∧d6<65536)∧(0≤d7∧d7<65536)∧d8=0:=by
 obtain⟨x0,hx0⟩:∃z,z=a%65536:=⟨_,rfl⟩;have yw:0≤x0∧x0≤65535:=by omega
 obtain⟨x1,dw⟩:∃z,z=a/65536%65536:=⟨_,rfl⟩;have yx:0≤x1∧x1≤65535:=by omega
 obtain⟨x2,Ea⟩:∃z,z=a/4294967296%65536:=⟨_,rfl⟩;have yy:0≤x2∧x2≤65535:=by omega
 obtain⟨x3,hx3⟩:∃z,z=a/281474976710656%65536:=⟨_,rfl⟩;have yz:0≤x3∧x3≤65535:=by omega
 obtain⟨y0,Vk⟩:∃z,z=b%65536:=⟨_,rfl⟩;have y8:0≤y0∧y0≤65535:=by omega
 obtain⟨y1,V3⟩:∃z,z=b/65536%65536:=⟨_,rfl⟩;have y9:0≤y1∧y1≤65535:=by omega
 obtain⟨y2,V4⟩:∃z,z=b/4294967296%65536:=⟨_,rfl⟩;have za:0≤y2∧y2≤65535:=by omega
 obtain⟨y3,hy3⟩:∃z,z=b/281474976710656%65536:=⟨_,rfl⟩;have zb:0≤y3∧y3≤65535:=by omega
 have ea:a=x0+65536*x1+4294967296*x2+281474976710656*x3:=by omega
 have eb:b=y0+65536*y1+4294967296*y2+281474976710656*y3:=by omega
 have dg:Rl 1000 a=some [x0,x1,x2,x3]:=by
  unfold Rl;rw[tc,yZb,yU6,uZ,uZ,uZ,uZ,←hx0,←dw,←Ea,←hx3]
 have run:=aau a b x0 x1 x2 x3;rw[vYp,tc,yZb,yU6,uZ,uZ,uZ,uZ,←Vk,←V3,←V4,←hy3] at run;have DT:=aav (x0:=x0) (x1:=x1) (x2:=x2) (x3:=x3) (y0:=y0) (y1:=y1) (y2:=y2) (y3:=y3);rw[←ea,←eb] at DT;have hm:=wF ha.1 ha.2 hb.1 hb.2;have m00:=wF yw.1 yw.2 y8.1 y8.2;have m01:=wF yw.1 yw.2 y9.1 y9.2;have m02:=wF yw.1 yw.2 za.1 za.2;have m03:=wF yw.1 yw.2 zb.1 zb.2;have m10:=wF yx.1 yx.2 y8.1 y8.2;have m11:=wF yx.1 yx.2 y9.1 y9.2;have m12:=wF yx.1 yx.2 za.1 za.2;have m13:=wF yx.1 yx.2 zb.1 zb.2;have m20:=wF yy.1 yy.2 y8.1 y8.2;have m21:=wF yy.1 yy.2 y9.1 y9.2;have m22:=wF yy.1 yy.2 za.1 za.2;have m23:=wF yy.1 yy.2 zb.1 zb.2;have m30:=wF yz.1 yz.2 y8.1 y8.2;have m31:=wF yz.1 yz.2 y9.1 y9.2;have m32:=wF yz.1 yz.2 za.1 za.2;have m33:=wF yz.1 yz.2 zb.1 zb.2;generalize x0*y0=z00 at*
 generalize x0*y1=Rm at*
 generalize x0*y2=MA at*
 generalize x0*y3=HH at*
 generalize x1*y0=MB at*
 generalize x1*y1=MC at*
 generalize x1*y2=Cz at*
 generalize x1*y3=CA at*
 generalize x2*y0=z20 at*
 generalize x2*y1=Rn at*
 generalize x2*y2=Ro at*
 generalize x2*y3=Rp at*
 generalize x3*y0=z30 at*
 generalize x3*y1=z31 at*
 generalize x3*y2=z32 at*
 generalize x3*y3=z33 at*
 rw[zO (x:=z00) (by omega) (by omega)] at run;rw[zO (x:=Rm) (by omega) (by omega)] at run;rw[zO (x:=MA) (by omega) (by omega)] at run;rw[zO (x:=HH) (by omega) (by omega)] at run;rw[zO (x:=MB) (by omega) (by omega)] at run;rw[zO (x:=MC) (by omega) (by omega)] at run;rw[zO (x:=Cz) (by omega) (by omega)] at run;rw[zO (x:=CA) (by omega) (by omega)] at run;rw[zO (x:=z20) (by omega) (by omega)] at run;rw[zO (x:=Rn) (by omega) (by omega)] at run;rw[zO (x:=Ro) (by omega) (by omega)] at run;rw[zO (x:=Rp) (by omega) (by omega)] at run;rw[zO (x:=z30) (by omega) (by omega)] at run;rw[zO (x:=z31) (by omega) (by omega)] at run;rw[zO (x:=z32) (by omega) (by omega)] at run;rw[zO (x:=z33) (by omega) (by omega)] at run;rw[zO (x:=0+z00) (by omega) (by omega)] at run;rw[zO (x:=0+Rm) (by omega) (by omega)] at run;rw[zO (x:=0+MA) (by omega) (by omega)] at run;rw[zO (x:=0+HH) (by omega) (by omega)] at run;rw[zO (x:=0+Rm+MB) (by omega) (by omega)] at run;rw[zO (x:=0+MA+MC) (by omega) (by omega)] at run;rw[zO (x:=0+HH+Cz) (by omega) (by omega)] at run;rw[zO (x:=0+CA) (by omega) (by omega)] at run;rw[zO (x:=0+MA+MC+z20) (by omega) (by omega)] at run;rw[zO (x:=0+HH+Cz+Rn) (by omega) (by omega)] at run;rw[zO (x:=0+CA+Ro) (by omega) (by omega)] at run;rw[zO (x:=0+Rp) (by omega) (by omega)] at run;rw[zO (x:=0+HH+Cz+Rn+z30) (by omega) (by omega)] at run;rw[zO (x:=0+CA+Ro+z31) (by omega) (by omega)] at run;rw[zO (x:=0+Rp+z32) (by omega) (by omega)] at run;rw[zO (x:=0+z33) (by omega) (by omega)] at run;obtain⟨d0,d1,d2,d3,d4,d5,d6,d7,d8,c1,c2,n0,n1,n2,n3,n4,n5,n6,n7,n8⟩:=yPs (l0:=0+z00) (l1:=0+Rm+MB) (l2:=0+MA+MC+z20) (l3:=0+HH+Cz+Rn+z30) (l4:=0+CA+Ro+z31) (l5:=0+Rp+z32) (l6:=0+z33) (l7:=0) (l8:=0) (by omega) (by omega) (by omega) (by omega) (by omega) (by omega) (by omega) (by omega) (by omega);refine⟨d0,d1,d2,d3,d4,d5,d6,d7,d8,?_,?_,n0,n1,n2,n3,n4,n5,n6,n7,?_⟩
 ·unfold Rk;rw[dg];simp only[ae];rw[run];simp only[ae];rw[c1];rfl
 ·rw[c2,DT];unfold V9;omega
 ·have:V9 d0 d1 d2 d3 d4 d5 d6 d7 d8=a*b:=by
   rw[c2,DT];unfold V9;omega
  unfold V9 at this;omega
theorem vVy {p m c:Int}(hp:0≤p∧p≤1048576)(hm:0≤m∧m≤1099511627776)(hc:0≤c∧c≤10000):Rq 1000 p m c=some (uK p m c,true):=by
 obtain⟨d0,d1,d2,d3,d4,d5,d6,d7,d8,e1,e2,n0,n1,n2,n3,n4,n5,n6,n7,n8⟩:=aaw hp hm;have yv:=wF hp.1 hp.2 hm.1 hm.2;have hn:0≤10000-c∧10000-c≤10000:=by omega
 have wn:zA (10000-c)=10000-c:=zO (by omega) (by omega);have hw:=yJ1 hp hm hc;unfold uK at hw⊢;have hpn:=wF yv.1 yv.2 hn.1 hn.2;have eV:=aaj d0 d1 d2 d3 d4 d5 d6 d7 d8 (10000-c);rw[e2] at eV;unfold Rq;rw[ab (show¬p<0 by omega),ab (show¬m<0 by omega),ab (show¬c<0 by omega),ab (show¬c>10000 by omega),e1,wn];simp only[ak,ae];rw[aai];generalize 10000-c=n at*
 have u0:=wF n0.1 (show d0≤65535 by omega) hn.1 hn.2;have u1:=wF n1.1 (show d1≤65535 by omega) hn.1 hn.2;have u2:=wF n2.1 (show d2≤65535 by omega) hn.1 hn.2;have u3:=wF n3.1 (show d3≤65535 by omega) hn.1 hn.2;have u4:=wF n4.1 (show d4≤65535 by omega) hn.1 hn.2;have u5:=wF n5.1 (show d5≤65535 by omega) hn.1 hn.2;have u6:=wF n6.1 (show d6≤65535 by omega) hn.1 hn.2;have u7:=wF n7.1 (show d7≤65535 by omega) hn.1 hn.2;have u8:0≤d8*n∧d8*n≤0:=by rw[n8,Int.zero_mul];omega
 generalize d0*n=t0 at*
 generalize d1*n=t1 at*
 generalize d2*n=t2 at*
 generalize d3*n=t3 at*
 generalize d4*n=t4 at*
 generalize d5*n=t5 at*
 generalize d6*n=t6 at*
 generalize d7*n=t7 at*
 generalize d8*n=t8 at*
 rw[zO (x:=t0) (by omega) (by omega),zO (x:=t1) (by omega) (by omega),zO (x:=t2) (by omega) (by omega),zO (x:=t3) (by omega) (by omega),zO (x:=t4) (by omega) (by omega),zO (x:=t5) (by omega) (by omega),zO (x:=t6) (by omega) (by omega),zO (x:=t7) (by omega) (by omega),zO (x:=t8) (by omega) (by omega)];obtain⟨e0,e1,e2,e3,e4,e5,e6,e7,e8,f1,f2,k0,k1,k2,k3,k4,k5,k6,k7,k8⟩:=yPs (l0:=t0) (l1:=t1) (l2:=t2) (l3:=t3) (l4:=t4) (l5:=t5) (l6:=t6) (l7:=t7) (l8:=t8) (by omega) (by omega) (by omega) (by omega) (by omega) (by omega) (by omega) (by omega) (by omega);rw[f1];simp only[ae];rw[←eV] at f2;have z8:e8≤0:=by unfold V9 at f2;omega
 rw[vYv k0 k1 k2 k3 k4 k5 k6 k7 ⟨k8,z8⟩ (by rw[f2];exact hw.2),f2];rfl
theorem yAy k x y:HI k x.1 x.2.1 x.2.2.1 x.2.2.2.1 x.2.2.2.2.1 x.2.2.2.2.2.1 x.2.2.2.2.2.2 y.1 y.2.1 y.2.2.1 y.2.2.2.1 y.2.2.2.2.1 y.2.2.2.2.2.1 y.2.2.2.2.2.2=some (wB x y):=by
 unfold HI wB;grind
theorem vXk k {a b}(ha:0≤a∧a≤4611686018427387904)(hb:0≤b∧b≤1152921504606846976):HJ k a b=some (a+b,true):=by
 unfold HJ;rw[zO (x:=a+b) (by omega) (by omega),zO (x:=9223372036854775807-b) (by omega) (by omega),ab (show¬a>9223372036854775807-b by omega),ab (show¬b<0 by omega)];simp
theorem qPe {sa pr h}(L:kh sa pr h):zc 1000 sa pr h=some (gG sa pr h,true):=by
 have h3:=L.n3;obtain ⟨s', g1, g2⟩ := yZ (L := fun n i (v : Int) => MD 1000 n sa pr h v i) (N := sa.length) (fun v => (.inl v : Int ⊕ Int × Bool)) (fun i v => v = qG (oh sa pr h) i) (fun n v _=>by
  show HK 1000 _ sa pr h v (sa.length:Int)=_;unfold HK;simp) (fun n i v hi hv=>by
  refine⟨v+oh sa pr h i,?_,by rw[hv];rfl⟩;show HK 1000 (MD 1000 n) sa pr h v (i:Int)=_;unfold HK;have hw:=LM L hi;have hb:=QA (g:=oh sa pr h) (n:=i) (fun j hj=>LM L (by omega));have ed:sa.getD i (0,0)=sa.getD i uL:=rfl;rw[aa (by grind),zY,zY,zY,aa hi,aa (show i<pr.length by rw[L.pl];exact hi),aa (show i<h.length by rw[L.hl];exact hi),ao,ed,vVy (L.price i hi) (L.hold i hi) (L.cut i hi)];simp only[ae];have e:uK (pr.getD i 0) (h.getD i 0) (sa.getD i uL).2=oh sa pr h i:=rfl;rw[e,vXk _ (by omega) hw,qB hi (by omega)];rfl) (n:=1000) (s:=0) (by omega) rfl
 unfold zc;rw[aa (show(pr.length:Int)=(sa.length:Int) by rw[L.pl]),aa (show(h.length:Int)=(sa.length:Int) by rw[L.hl]),g1,g2];rfl
theorem vZr (k:Nat){h l n:Int}(hh:-4503599627370496≤h∧h≤4503599627370496)(hl:0≤l∧l<4294967296)(hn:-9223372036854775808≤n∧n<9223372036854775808):
  Rr k h l n=some ((h*4294967296+l+n)/4294967296,(h*4294967296+l+n)%4294967296):=by
 unfold Rr;rw[yIv n,yI4 n,zO (x:=h+n/4294967296) (by omega) (by omega),zO (x:=l+n%4294967296) (by omega) (by omega),yI4,yIv,zO (by omega) (by omega)]
 congr 2
 ·omega
 ·omega
def HL (S:Int):Int×Bool:=if S/4294967296< -2147483648∨S/4294967296≥2147483648 then(0,false) else(S,true)
theorem vMc {k:Nat}{l:AC}(hk:l.length<k)(hl:l.length≤1000000)(hr:∀x∈l,-9223372036854775808≤x∧x<9223372036854775808):ME k l=some (HL (zP (fun x=>x) l)):=by
 obtain ⟨s, h1, h2⟩ := yZ (L := fun c i (s : Int × Int) => MF k c l i s.1 s.2) (N := l.length) (fun s => s) (fun i s => s = (zP (fun x => x) (l.take i) / 4294967296, zP (fun x => x) (l.take i) % 4294967296)) (fun c s hs=>by
   show HM k _ l l.length s.1 s.2=_;unfold HM;simp only [qS, ab (Nat.lt_irrefl _), ak]) (fun c i s hi hs=>by
   refine⟨(zP (fun x=>x) (l.take (i+1))/4294967296,zP (fun x=>x) (l.take (i+1))%4294967296),?_,rfl⟩;show HM k _ l i s.1 s.2=_;have hb:=BJ (g:=fun x:Int=>x) (A:=9223372036854775808) (l:=l.take i) fun x hx=>by have:=hr x (List.mem_of_mem_take hx);omega
   have hlen:((l.take i).length:Int)≤1000000:=by rw[bP];omega
   have Rs:((l.take i).length:Int)*9223372036854775808≤1000000*9223372036854775808:=by omega
   have e:zP (fun x=>x) (l.take (i+1))=zP (fun x=>x) (l.take i)+l.getD i 0:=by
    rw[←fG l i 0 hi,kO];show _+(l.getD i 0+0)=_;omega
   unfold HM;simp only[zY,qB hi (show l.length<9223372036854775808 by omega),qS,ao,aa hi,ai];rw[hs];dsimp only;rw[vZr k (by omega) (by omega) (hr _ (jY hi))];rw[e];have e2:zP (fun x=>x) (l.take i)/4294967296*4294967296+zP (fun x=>x) (l.take i)%4294967296=zP (fun x=>x) (l.take i):=by omega
   rw[e2];rfl) (s:=(0,0)) hk rfl
 rw[List.take_of_length_le (Nat.le_refl _)] at h2;unfold ME;rw[h1,h2];simp only[ae];unfold HL;generalize zP (fun x=>x) l=S;by_cases c1:S/4294967296< -2147483648
 ·rw[aa c1,if_pos (.inl c1)];rfl
 ·rw[ab c1];by_cases c2:S/4294967296≥2147483648
  ·rw[aa c2,if_pos (.inr c2)];rfl
  ·rw[ab c2,if_neg (by omega),Z8,zO (x:=S/4294967296*4294967296) (by omega) (by omega),zO (by omega) (by omega)];simp only[ak]
   congr 2
   omega
def re (m:List zH)(i:Nat):Bool:=decide (i=0)||wB (m.getD (i-1) pd) (m.getD i pd)
def tg (m:List zH):Bool:=zZ (fun i=>decide (fm m (m.getD i pd).1=(i:Int))&&re m i) m.length 0&&decide ((m.length:Int)≤40)
theorem vKl {m:List zH}(hm:m.length≤900):MG 1000 m=some (tg m):=by
 have l0 : zd 1000 1000 m 0 = _ := fk (L := fun n i => zd 1000 n m i) (N := m.length) (fun i => decide (fm m (m.getD i pd).1 = (i : Int)) && re m i) (.inl m) (.inr false) (fun n=>by
  show HN 1000 (zd 1000 n) m (m.length:Int)=_;unfold HN;rw[ab (Int.lt_irrefl _)];rfl) (fun n i hi=>by
  show HN 1000 (zd 1000 n) m (i:Int)=_;unfold HN;have e:m.getD i (0,0,0,0,0,0,0)=m.getD i pd:=rfl;rw[aa (show(i:Int)<m.length by omega),zY,aa hi,ao,e,Lx (by omega) (by omega),qB hi (by omega)];simp only[ae];cases decide (fm m (m.getD i pd).1=(i:Int)) with
  |false=>rfl
  |true=>
   cases i with
   |zero=>rfl
   |succ i=>
    have w:zA (((i+1:Nat):Int)-1)=(i:Int):=by rw[zO (by omega) (by omega)];omega
    rw[aa (show((i+1:Nat):Int)>0 by omega),w,zY,aa (show i<m.length by omega),ao];refine(congrArg (fun z=>Option.bind z _) (yAy 1000 (m.getD i pd) (m.getD (i+1) pd))).trans ?_;have ea:re m (i+1)=wB (m.getD i pd) (m.getD (i+1) pd):=by rfl
    rw[ea];cases wB (m.getD i pd) (m.getD (i+1) pd)<;>rfl) (n:=1000) (by omega)
 unfold MG;rw[l0];unfold tg;cases zZ (fun i=>decide (fm m (m.getD i pd).1=(i:Int))&&re m i) m.length 0<;>rfl
theorem aax {m}(h:tg m=true):qK m∧ng m∧m.length≤40:=by
 unfold tg at h;rw[aR,wI] at h;have h1:∀i,i<m.length→fm m (m.getD i pd).1=(i:Int)∧re m i=true:=by grind
 have h2:=uz h.2;refine⟨?_,?_,by omega⟩
 ·unfold qK;rw[List.pairwise_iff_getElem];grind
 ·unfold ng;rw[List.pairwise_iff_getElem];intro i j hi hj mM;have key:∀c,i+c+1<m.length→wB (m.getD i pd) (m.getD (i+c+1) pd)=true:=by
   intro c
   induction c with
   |zero=>
    intro hl;have:=(h1 (i+0+1) hl).2;unfold re at this;simp_all
   |succ c ih=>
    intro hl;have:=(h1 (i+(c+1)+1) hl).2;exact vDw (by grind) this
  have:=key (j-i-1) (by omega);rw[show i+(j-i-1)+1=j by omega,Cw (d:=pd) m hi,Cw (d:=pd) m hj] at this;omega
def ze (ids:AC)(i:Nat):Bool:= !decide (ids.getD i 0<1)&&(decide (i=0)|| !decide (ids.getD i 0≤ids.getD (i-1) 0))
def vi (ids:AC):Bool:=zZ (ze ids) ids.length 0&&decide ((ids.length:Int)≤200)
theorem vXi {ids}(hm:ids.length≤900):MH 1000 ids=some (vi ids):=by
 have l0 : CB 1000 1000 ids 0 = _ := fk (L := fun n i => CB 1000 n ids i) (N := ids.length) (ze ids) (.inl ids) (.inr false) (fun n=>by
  show HO 1000 (CB 1000 n) ids (ids.length:Int)=_;unfold HO;rw[ab (Int.lt_irrefl _)];rfl) (fun n i hi=>by
  show HO 1000 (CB 1000 n) ids (i:Int)=_;unfold HO ze;rw[aa (show(i:Int)<ids.length by omega),zY,aa hi,ao,qB hi (by omega)];simp only[ai];cases decide (ids.getD i 0<1) with
  |true=>rfl
  |false=>
   cases i with
   |zero=>rfl
   |succ i=>
    have w:zA (((i+1:Nat):Int)-1)=(i:Int):=by rw[zO (by omega) (by omega)];omega
    rw[aa (show((i+1:Nat):Int)>0 by omega),w,zY,aa (show i<ids.length by omega),ao,ab (show¬i+1=0 by omega)];simp only[ai,Nat.add_sub_cancel,Bool.false_or];cases decide (ids.getD (i+1) 0≤ids.getD i 0)<;>rfl) (n:=1000) (by omega)
 unfold MH;rw[l0];unfold vi;cases zZ (ze ids) ids.length 0<;>rfl
theorem vCg {ids}(h:vi ids=true):qp ids∧(∀x∈ids,1≤x)∧ids.length≤200:=by
 unfold vi at h;rw[aR,wI] at h;have h1:∀i,i<ids.length→1≤ids.getD i 0∧(i=0∨ids.getD (i-1) 0<ids.getD i 0):=fun i hi=>by
  have:=h.1 i hi;unfold ze at this;simp_all
 have h2:=uz h.2;refine⟨?_,fun x hx=>?_,by omega⟩
 ·unfold qp;rw[List.pairwise_iff_getElem];intro i j hi hj mM;have key:∀c,i+c+1<ids.length→ids.getD i 0<ids.getD (i+c+1) 0:=by
   intro c
   induction c with
   |zero=>
    grind
   |succ c ih=>
    grind
  have:=key (j-i-1) (by omega);rw[show i+(j-i-1)+1=j by omega,Cw (d:=0) ids hi,Cw (d:=0) ids hj] at this;omega
 ·obtain⟨i,hi,rfl⟩:=List.mem_iff_getElem.1 hx;simp_all
theorem aay {ids}(hl:ids.length≤900) id:CC 1000 ids id=some (decide (id∈ids)):=by
 have l0 : th 1000 1000 ids id 0 = _ := fk (L := fun n i => th 1000 n ids id i) (N := ids.length) (fun i => !decide (ids.getD i 0 = id)) (.inl ()) (.inr true) (fun n=>by
  show tj 1000 (th 1000 n) ids id (ids.length:Int)=_;unfold tj;simp) (fun n i hi=>by
  show tj 1000 (th 1000 n) ids id (i:Int)=_;unfold tj;rw[aa (by grind),zY,aa hi,ao,qB hi (by omega)];simp) (n:=1000) (by omega)
 unfold CC;by_cases h:id∈ids
 ·obtain⟨i,hi,e⟩:=List.mem_iff_getElem.1 h;have:zZ (fun i=> !decide (ids.getD i 0=id)) ids.length 0=false:=by
   cases q:zZ (fun i=> !decide (ids.getD i 0=id)) ids.length 0 with
   |false=>rfl
   |true=>
    have:=wI.1 q i hi;simp_all
  simp_all
 ·have:zZ (fun i=> !decide (ids.getD i 0=id)) ids.length 0=true:=wI.2 (by grind);simp_all
def nq (s:qD)(p:zH):Bool:=pq s.B.1.length p&&(!decide (p.2.2.2.2.2.1<0)&&(!decide (p.2.2.2.2.2.2<p.2.2.2.2.2.1)&&(!decide (p.2.2.2.2.2.2>1048576)&&decide (p.1∈s.ids))))
def vj (s:qD):Bool:=tg s.m&&(vi s.ids&&zZ (fun i=>nq s (s.m.getD i pd)) s.m.length 0)
theorem vOp {s:qD}(hm:s.m.length≤900)(hi:s.ids.length≤900):MI 1000 s.st=some (vj s):=by
  have em:s.st.2.2.2.2.2.2.2.1=s.m:=rfl;have ei:s.st.2.2.2.2.2.2.2.2.1=s.ids:=rfl;have ea:s.st.2.1=s.B.1:=rfl;have l0 : zg 1000 1000 0 s.st = _ := fk (L := fun n i => zg 1000 n i s.st) (N := s.m.length) (fun i => nq s (s.m.getD i pd)) (.inl ()) (.inr false) (fun n=>by
    show HP 1000 (zg 1000 n) (s.m.length:Int) s.st=_;unfold HP;rw[em,ab (Int.lt_irrefl _)];rfl) (fun n i bJ=>by
    show HP 1000 (zg 1000 n) (i:Int) s.st=_;unfold HP nq;have e:s.m.getD i (0,0,0,0,0,0,0)=s.m.getD i pd:=rfl;rw[em,ei,ea,aa (show(i:Int)<s.m.length by omega),zY,aa bJ,ao,e,yFv,aay hi,qB bJ (by omega)];simp only[ai,ae];have e':((s.m.getD i pd).1,(s.m.getD i pd).2.1,(s.m.getD i pd).2.2.1,(s.m.getD i pd).2.2.2.1,(s.m.getD i pd).2.2.2.2.1,(s.m.getD i pd).2.2.2.2.2.1,(s.m.getD i pd).2.2.2.2.2.2)=s.m.getD i pd:=rfl;rw[e'];cases pq s.B.1.length (s.m.getD i pd)<;>cases decide ((s.m.getD i pd).2.2.2.2.2.1<0)<;>cases decide ((s.m.getD i pd).2.2.2.2.2.2<(s.m.getD i pd).2.2.2.2.2.1)<;>cases decide ((s.m.getD i pd).2.2.2.2.2.2>1048576)<;>cases decide ((s.m.getD i pd).1∈s.ids)<;>rfl) (n:=1000) (by omega)
  have e0:MI 1000 s.st=(MG 1000 s.m).bind fun x0=>
     bif !x0 then some false
     else(MH 1000 s.ids).bind fun x1=>
     bif !x1 then some false
     else(zg 1000 1000 0 s.st).bind fun z=>
     match z with
     |.inl z1=>some true
     |.inr z2=>some z2:=rfl
  rw[e0,vKl hm,vXi hi,l0];unfold vj;cases tg s.m<;>cases vi s.ids<;>cases zZ (fun i=>nq s (s.m.getD i pd)) s.m.length 0<;>rfl
theorem aaz {s:qD}(h:vj s=true):kU s.B.1.length s.m s.ids:=by
 unfold vj at h;rw[aR,aR,wI] at h;obtain⟨h1,h2,h3⟩:=h;obtain⟨a1,a2,a3⟩:=aax h1;obtain⟨b1,b2,b3⟩:=vCg h2;have h4:∀p∈s.m,nq s p=true:=fun p hp=>by
  obtain⟨i,hi,rfl⟩:=List.mem_iff_getElem.1 hp;have:=h3 i hi;rw[Cw (d:=pd) s.m hi] at this;exact this
 have h5:∀p∈s.m,yN s.B.1.length p∧(0≤p.2.2.2.2.2.1∧p.2.2.2.2.2.1≤p.2.2.2.2.2.2∧p.2.2.2.2.2.2≤1048576)∧p.1∈s.ids:=fun p hp=>by
  have:=h4 p hp;unfold nq at this;simp only[aR,Bool.not_eq_true',aZ,decide_eq_false_iff_not] at this;obtain⟨c1,c2,c3,c4,c5⟩:=this;exact⟨Yp.1 c1,by omega,c5⟩
 exact⟨a1,a3,a2,fun p hp=>(h5 p hp).1,fun p hp=>(h5 p hp).2.1,fun p hp=>(h5 p hp).2.2,b1,b2,b3⟩
def pD (s:qD)(i:Nat):Bool:= !decide (s.pr.getD i 0<0)&& !decide (s.pr.getD i 0>1048576)
def tl (h:AC)(j:Nat):Bool:= !decide (h.getD j 0<0)&& !decide (h.getD j 0>1099511627776)
def zh (r:qP)(s:qD)(i:Nat):Bool:=decide (((s.ho.getD i []).length:Int)=(r.2.1.length:Int))&&(zZ (tl (s.ho.getD i [])) (s.ho.getD i []).length 0&&(!decide (gG r.2.1 s.pr (s.ho.getD i [])>1152921504606846976)&&decide ((s.B.1.getD i ad).2.1=gG r.2.1 s.pr (s.ho.getD i []))))
def zi (r:qP)(s:qD):Bool:=decide ((s.pr.length:Int)=(r.2.1.length:Int))&&(decide ((s.ho.length:Int)=r.1)&&(zZ (pD s) s.pr.length 0&&zZ (zh r s) s.B.1.length 0))
theorem qTq {r:qP}(hr:wT r){s:qD}(hp:(s.pr.length:Int)=(r.2.1.length:Int))(h1:zZ (pD s) s.pr.length 0=true){h:AC}(hl:(h.length:Int)=(r.2.1.length:Int))(h2:zZ (tl h) h.length 0=true):kh r.2.1 s.pr h:=by
 rw[wI] at h1 h2;refine⟨hr.n3,by omega,by omega,hr.cut,fun i hi=>?_,fun i hi=>?_⟩
 ·have:=h1 i (by omega);unfold pD at this;simp only[aR,Bool.not_eq_true',decide_eq_false_iff_not] at this;omega
 ·have:=h2 i (by omega);unfold tl at this;simp only[aR,Bool.not_eq_true',decide_eq_false_iff_not] at this;omega
theorem aaA {r:qP}(hr:wT r){s:qD}(hn:(s.B.1.length:Int)=r.1):MJ 1000 r s.st=some (zi r s):=by
  have ep:s.st.2.2.2.2.2.1=s.pr:=rfl;have eh:s.st.2.2.2.2.2.2.1=s.ho:=rfl;have ea:s.st.2.1=s.B.1:=rfl;have h3:=hr.n3;have hpa:=hr.pa;have e0:MJ 1000 r s.st=bif !(decide ((s.pr.length:Int)=(r.2.1.length:Int))) then some false
    else bif !(decide ((s.ho.length:Int)=r.1)) then some false
    else(zj 1000 1000 0 r s.st).bind fun z=>
    match z with
    |.inl z1=>(zk 1000 1000 0 z1.1 z1.2).bind fun z5=>
     match z5 with
     |.inl z6=>some true
     |.inr z7=>some z7
    |.inr z8=>some z8:=rfl
  rw[e0];unfold zi;by_cases hp:(s.pr.length:Int)=(r.2.1.length:Int)
  case neg=>rw[ab hp];rfl
  by_cases ho:(s.ho.length:Int)=r.1
  case neg=>rw[aa hp,ab ho];rfl
  rw[aa hp,aa ho];simp only[az,ak,Bool.true_and];have l0 : zj 1000 1000 0 r s.st = _ := fk (L := fun n i => zj 1000 n i r s.st) (N := s.pr.length) (pD s) (.inl (r, s.st)) (.inr false) (fun n=>by
    show HQ 1000 (zj 1000 n) (s.pr.length:Int) r s.st=_;unfold HQ;rw[ep,ab (Int.lt_irrefl _)];rfl) (fun n i hi=>by
    show HQ 1000 (zj 1000 n) (i:Int) r s.st=_;unfold HQ pD;rw[ep,aa (show(i:Int)<s.pr.length by omega),zY,aa hi,ao,qB hi (by omega)];cases decide (s.pr.getD i 0<0)<;>cases decide (s.pr.getD i 0>1048576)<;>rfl) (n:=1000) (by omega)
  rw[l0];cases hpb:zZ (pD s) s.pr.length 0 with
  |false=>rfl
  |true=>
  simp only[ai,ae,Bool.true_and];have l2:∀i,i<s.ho.length→(s.ho.getD i []).length=r.2.1.length→CD 1000 1000 (i:Int) 0 r s.st=some (bif zZ (tl (s.ho.getD i [])) (s.ho.getD i []).length 0 then .inl ((i:Int),r,s.st) else .inr false):=fun i lZ hl=>
    fk (L := fun n j => CD 1000 n (i : Int) j r s.st) (N := (s.ho.getD i []).length) (tl (s.ho.getD i [])) (.inl ((i : Int), r, s.st)) (.inr false) (fun n=>by
      show HR 1000 (CD 1000 n) (i:Int) ((s.ho.getD i []).length:Int) r s.st=_;unfold HR;rw[eh,zY,aa lZ,ao,ab (Int.lt_irrefl _)];rfl) (fun n j hj=>by
      show HR 1000 (CD 1000 n) (i:Int) (j:Int) r s.st=_;unfold HR tl;rw[eh,zY,aa lZ,ao,ao,aa (show(j:Int)<(s.ho.getD i []).length by omega),zY,aa hj,qB hj (by omega)];cases decide ((s.ho.getD i []).getD j 0<0)<;>cases decide ((s.ho.getD i []).getD j 0>1099511627776)<;>rfl) (n:=1000) (by omega)
  have l1 : zk 1000 1000 0 r s.st = _ := fk (L := fun n i => zk 1000 n i r s.st) (N := s.B.1.length) (zh r s) (.inl ()) (.inr false) (fun n=>by
    show HS 1000 (zk 1000 n) (s.B.1.length:Int) r s.st=_;unfold HS;rw[ab (show¬(s.B.1.length:Int)<r.1 by omega)];rfl) (fun n i hi=>by
    show HS 1000 (zk 1000 n) (i:Int) r s.st=_;unfold HS zh;have lZ:i<s.ho.length:=by omega
    have ed:s.B.1.getD i (0,0,0)=s.B.1.getD i ad:=rfl;rw[eh,aa (show(i:Int)<r.1 by omega),zY,aa lZ,ao];by_cases hl:((s.ho.getD i []).length:Int)=(r.2.1.length:Int)
    case neg=>rw[ab hl];rfl
    rw[aa hl,l2 i lZ (by omega)];simp only[ai,ae,az,ak,Bool.true_and];cases hh:zZ (tl (s.ho.getD i [])) (s.ho.getD i []).length 0 with
    |false=>rfl
    |true=>
      have L:=qTq hr hp hpb hl hh;simp only[ai,Bool.true_and];rw[eh,ep,ea,zY,aa lZ,ao,qPe L,zY,aa hi,ed,qB hi (by omega)];simp only[ai,ae,az,ak];cases decide (gG r.2.1 s.pr (s.ho.getD i [])>1152921504606846976)<;>cases decide ((s.B.1.getD i ad).2.1=gG r.2.1 s.pr (s.ho.getD i []))<;>rfl) (n:=1000) (by omega)
  rw[l1];cases zZ (zh r s) s.B.1.length 0<;>rfl
def jK (s:qD):Int:=qG (fun i=>(s.B.1.getD i ad).1) s.B.1.length
def Rt (r:qP)(s:qD):Bool:=decide (jK s=s.to)&&(decide (jK s≥0)&&(decide (jK s≤1152921504606846976)&&(fP s.ov (decide (s.t=r.2.2.2.1))&&(!s.ov||decide ((s.m.length:Int)=0)))))
def HT (r:qP)(s:qD):Bool:= !decide (s.t<0)&&(!decide (s.t>r.2.2.2.1)&&(kP s.B.1 s.B.2.1 s.B.2.2.1 s.B.2.2.2&&(decide ((s.B.1.length:Int)=r.1)&&(zi r s&&(vj s&&Rt r s)))))
theorem aaB {r:qP}(hr:wT r){s:qD}(hm:s.m.length≤900)(hi:s.ids.length≤900):HU 1000 r s.st=some (HT r s):=by
  have ea:s.st.2.1=s.B.1:=rfl;have eU:HU 1000 r s.st=bif decide (s.t<0) then some false
     else bif decide (s.t>r.2.2.2.1) then some false
     else(E3 1000 s.B.1 s.B.2.1 s.B.2.2.1 s.B.2.2.2).bind fun x0=>
     bif !x0 then some false
     else bif !(decide ((s.B.1.length:Int)=r.1)) then some false
     else(MJ 1000 r s.st).bind fun x1=>
     bif !x1 then some false
     else(MI 1000 s.st).bind fun x2=>
     bif !x2 then some false
     else(CE 1000 1000 0 r s.st []).bind fun z=>
     (ME 1000 z.2.2).bind fun x3=>
     bif x3.2 then (bif decide (x3.1 = z.2.1.2.2.2.2.2.2.2.2.2.1) then (bif decide (x3.1 ≥ 0) then (bif decide (x3.1 ≤ 1152921504606846976) then (bif fP z.2.1.2.2.2.2.2.2.2.2.2.2 (decide (z.2.1.1 = z.1.2.2.2.1)) then (bif !z.2.1.2.2.2.2.2.2.2.2.2.2 then some true
          else some (decide ((z.2.1.2.2.2.2.2.2.2.1.length:Int)=0)))
         else some false)
        else some false)
       else some false)
      else some false)
     else some false:=rfl
  rw[eU,vDh (by decide)];unfold HT;cases decide (s.t<0) with
  |true=>rfl
  |false=>
  cases decide (s.t>r.2.2.2.1) with
  |true=>rfl
  |false=>
  simp only[ak,bO,Bool.true_and,ae];cases hb:kP s.B.1 s.B.2.1 s.B.2.2.1 s.B.2.2.2 with
  |false=>rfl
  |true=>
  have vk:=Fh.1 hb;have ie:=vk.n6;by_cases hn:(s.B.1.length:Int)=r.1
  case neg=>rw[ab hn];rfl
  rw[aa hn,aaA hr hn];simp only[az,ak,ae,Bool.true_and];cases zi r s with
  |false=>rfl
  |true=>
  rw[vOp hm hi];simp only[az,ak,ae,Bool.true_and];cases vj s with
  |false=>rfl
  |true=>
  obtain ⟨x, h1, h2⟩ := yZ (L := fun n j (x : AC) => CE 1000 n j r s.st x) (N := s.B.1.length) (fun x => (r, s.st, x)) (fun j x => x = (List.range j).map fun j => (s.B.1.getD j ad).1) (fun n x _=>by
    show HV 1000 (CE 1000 n) (s.B.1.length:Int) r s.st x=_;unfold HV;rw[ab (show¬(s.B.1.length:Int)<r.1 by omega)];rfl) (fun n j x hj hx=>by
    refine⟨x++[(s.B.1.getD j ad).1],?_,?_⟩
    · show HV 1000 (CE 1000 n) (j:Int) r s.st x=_;unfold HV;have hl:x.length=j:=by rw[hx];simp
      rw[ea,aa (show(j:Int)<r.1 by omega),zY,aa hj,qE (by omega) (by omega),ao,qB hj (by omega)];rfl
    · rw[hx,List.range_succ,List.map_append];rfl) (n:=1000) (s:=[]) (by omega) rfl
  have qn:∀j,j<s.B.1.length→-4611686018427387904<(s.B.1.getD j ad).1∧(s.B.1.getD j ad).1<4611686018427387904:=fun j hj=>(tf.1 (vk.acct j hj)).1
  have hbx:∀y∈x,-9223372036854775808≤y∧y<9223372036854775808:=by
    intro y hm;rw[h2] at hm;obtain⟨j,hj,e⟩:=List.mem_map.1 hm;have:=qn j (List.mem_range.1 hj);rw[←e];omega
  have hlen:x.length=s.B.1.length:=by rw[h2];simp
  have dz:∀(g:Nat→Int) (n:Nat),zP (fun x=>x) ((List.range n).map g)=qG g n:=fun g n=>by
    induction n with
    |zero=>rfl
    |succ n ih=>
      rw[List.range_succ,List.map_append,kO,ih];show qG g n+(g n+0)=qG g n+g n;omega
  have CF:zP (fun x=>x) x=jK s:=by rw[h2,dz];rfl
  rw[h1];simp only[az,ak,ae,Bool.true_and];rw[vMc (by omega) (by omega) hbx,CF];have eo:s.st.2.2.2.2.2.2.2.2.2.2=s.ov:=rfl;have em:s.st.2.2.2.2.2.2.2.1=s.m:=rfl;have et:s.st.2.2.2.2.2.2.2.2.2.1=s.to:=rfl;have e1:s.st.1=s.t:=rfl;have hsw:(HL (jK s)).2=true∧(HL (jK s)).1=jK s∨(HL (jK s)).2=false∧(jK s<0∨jK s>1152921504606846976):=by
    unfold HL;split
    · exact .inr ⟨rfl,by omega⟩
    · exact .inl ⟨rfl,rfl⟩
  simp only[ae];rw[et,e1,eo,em];unfold Rt;rcases hsw with⟨q1,q2⟩|⟨q1,q2⟩
  · rw[q1,q2];cases decide (jK s=s.to)<;>cases decide (jK s≥0)<;>cases decide (jK s≤1152921504606846976)<;>cases fP s.ov (decide (s.t=r.2.2.2.1))<;>cases s.ov<;>rfl
  · rw[q1];have:decide (jK s≥0)=false∨decide (jK s≤1152921504606846976)=false:=by
      rcases q2 with q|q
      · exact .inl (ab (by omega))
      · exact .inr (ab (by omega))
    rcases this with q|q
    · rw[q];cases decide (jK s=s.to)<;>rfl
    · rw[q];cases decide (jK s=s.to)<;>cases decide (jK s≥0)<;>rfl
theorem aaC {r:qP}(hr:wT r){s:qD}(h:HT r s=true):yD r s:=by
 unfold HT at h;simp only[aR,Bool.not_eq_true',aZ,decide_eq_false_iff_not] at h;obtain⟨h1,h2,h3,h4,h5,h6,h7⟩:=h;have vk:=Fh.1 h3;unfold zi at h5;simp only[aR,aZ] at h5;obtain⟨a1,a2,a3,a4⟩:=h5;have row:∀i,i<s.B.1.length→kh r.2.1 s.pr (s.ho.getD i [])∧gG r.2.1 s.pr (s.ho.getD i [])≤1152921504606846976∧(s.B.1.getD i ad).2.1=gG r.2.1 s.pr (s.ho.getD i []):=fun i hi=>by
  have:=wI.1 a4 i hi;unfold zh at this;simp only[aR,Bool.not_eq_true',aZ,decide_eq_false_iff_not] at this;obtain⟨b1,b2,b3,b4⟩:=this;exact⟨qTq hr a1 a3 b1 b2,by omega,b4⟩
 unfold Rt at h7;simp only[aR,aZ] at h7;obtain⟨c1,c2,c3,c4,c5⟩:=h7;have vl:s.ov=decide (s.t=r.2.2.2.1):=by
  cases hx:s.ov<;>cases hy:decide (s.t=r.2.2.2.1)<;>rw[hx,hy] at c4<;>first|rfl|cases c4
 refine⟨by omega,vk,h4,by omega,fun i hi=>(row i hi).1,fun i hi=>(row i hi).2.2,fun i hi=>by rw[(row i hi).2.2];exact(row i hi).2.1,aaz h6,c1,by rw[←c1];omega,vl,fun e=>?_⟩;rw[e] at c5;have:((s.m.length:Int)=0):=by simpa using c5
 exact List.eq_nil_of_length_eq_zero (by omega)
end Go.Ab.Gi
namespace Go.Ab.Gi
open Go.Ab Go.RowKit
theorem qL6 x:IntKind.wrap .u64 x=x%18446744073709551616:=by
 rfl
theorem yT6 {X:Type}{L:Nat→Int→Int→Option X}(P:X→Prop)(aI:∀n q t,(∃z,L (n+1) q t=some z∧P z)∨((t+2621440000)%18446744073709551616<4294967296∧∃q',L (n+1) q t=L n q' ((t+2621440000)%18446744073709551616))) n q t:
  ∃z,L (n+3) q t=some z∧P z:=by
 rcases aI (n+2) q t with h|⟨h1,q1,e1⟩
 ·exact h
 rw[e1];generalize ht:(t+2621440000)%18446744073709551616=t1 at h1;rcases aI (n+1) q1 t1 with h|⟨h2,q2,e2⟩
 ·exact h
 rw[e2];rcases aI n q2 ((t1+2621440000)%18446744073709551616) with h|⟨h3,_⟩
 ·exact h
 ·omega
theorem aaD s2 s8 av aP bm bh aQ bG:∃z,zl 1000 1000 s2 s8 2621440000 av aP bm bh aQ bG=some z∧(z.2.1=s8∧z.2.2.1=2621440000):=by
 refine yT6 (L:=fun n q t=>zl 1000 n s2 s8 2621440000 av aP bm bh q t) (fun z=>z.2.1=s8∧z.2.2.1=2621440000) (fun n q t=>?_) 997 aQ bG;show(∃z,MK 1000 (zl 1000 n) s2 s8 2621440000 av aP bm bh q t=some z∧_)∨(_∧∃q',MK 1000 (zl 1000 n) s2 s8 2621440000 av aP bm bh q t=_);unfold MK;rw[qL6 (t+2621440000)];by_cases h:(t+2621440000)%18446744073709551616≥4294967296
 ·rw[aa h];cases decide (q≥4294967296) with
  |true=>simp
  |false=>
   cases decide (IntKind.wrap .u64 (q*av)>IntKind.wrap .u64 (IntKind.wrap .u64 (4294967296*t)+bm))<;>exact by simp
 ·rw[ab h];cases decide (q≥4294967296) with
  |true=>grind
  |false=>
   cases decide (IntKind.wrap .u64 (q*av)>IntKind.wrap .u64 (IntKind.wrap .u64 (4294967296*t)+bm)) with
   |true=>grind
   |false=>simp
theorem vV2 s2 s8 av bh aQ bG bb gf:∃z,zm 1000 1000 s2 s8 2621440000 av bh aQ bG bb gf=some z∧z.2.1=s8:=by
 refine yT6 (L:=fun n q t=>zm 1000 n s2 s8 2621440000 av bh aQ t bb q) (fun z=>z.2.1=s8) (fun n q t=>?_) 997 gf bG;show(∃z,ML 1000 (zm 1000 n) s2 s8 2621440000 av bh aQ t bb q=some z∧_)∨(_∧∃q',ML 1000 (zm 1000 n) s2 s8 2621440000 av bh aQ t bb q=_);unfold ML;rw[qL6 (t+2621440000)];by_cases h:(t+2621440000)%18446744073709551616≥4294967296
 ·rw[aa h];cases decide (q≥4294967296) with
  |true=>simp
  |false=>
   cases decide (IntKind.wrap .u64 (q*av)>IntKind.wrap .u64 (IntKind.wrap .u64 (4294967296*t)+bh))<;>exact by simp
 ·rw[ab h];cases decide (q≥4294967296) with
  |true=>grind
  |false=>
   cases decide (IntKind.wrap .u64 (q*av)>IntKind.wrap .u64 (IntKind.wrap .u64 (4294967296*t)+bh)) with
   |true=>grind
   |false=>simp
theorem aaE {Y:Type}{F:qJ→Option Y}{s2 s8 av aP bm bh aQ bG}(hF:∀z:qJ,z.2.1=s8→z.2.2.1=2621440000→∃y,F z=some y):
  ∃y,(zl 1000 1000 s2 s8 2621440000 av aP bm bh aQ bG).bind F=some y:=by
 obtain⟨z,h,h1,h2⟩:=aaD s2 s8 av aP bm bh aQ bG;grind
theorem vQo {Y:Type}{F:NT→Option Y}{s2 s8 av bh aQ bG bb gf}(hF:∀z:NT,z.2.1=s8→∃y,F z=some y):
  ∃y,(zm 1000 1000 s2 s8 2621440000 av bh aQ bG bb gf).bind F=some y:=by
 obtain⟨z,h,h1⟩:=vV2 s2 s8 av bh aQ bG bb gf;grind
theorem aaF {hi lo}(h:0≤hi∧hi<10000):∃x,Gp 1000 hi lo 10000=some x:=by
 unfold Gp;rw[ab (by simp),ab (by grind)];by_cases h0:hi=0
 ·simp_all
 ·rw[ab h0,show qL0 1000 10000=some 50 from by rfl];simp only[ae];have w1:IntKind.wrap .u64 50=50:=by rfl
  have w2:IntKind.wrap .u64 (64-50)=14:=by rfl
  have w3:shr .u64 (shl .u64 10000 50) 32=2621440000:=by rfl
  rw[w1,w2,w3,ab (by simp),ab (by simp),ab (by simp)];refine aaE fun z z1 z2=>?_
  rw[z2,ab (by simp)];refine vQo fun y y1=>?_
  simp_all
theorem aaG x:0≤IntKind.wrap .u64 x:=by
 rw[qL6];omega
theorem yL6 k x y:∃hi lo,Gn k x y=some (hi,lo)∧0≤hi:=by
 exact⟨_,_,rfl,aaG _⟩
theorem vMo c:∃b,LL 1000 c=some b:=by
 unfold LL;cases decide (c≥0)<;>exact by simp
theorem aaH p m c:∃n ok,Gq 1000 p m c=some (n,ok)∧(m<0→ok=false)∧(-9223372036854775808≤n∧n<9223372036854775808):=by
 unfold Gq;by_cases h1:p<0
 ·simp_all
 rw[ab h1];by_cases h2:m<0
 ·simp_all
 rw[ab h2];obtain⟨b,hb⟩:=vMo c;rw[hb];cases b with
 |false=>simp
 |true=>
 rw[ae,az,ak];obtain⟨hi,lo,e1,e2⟩:=yL6 1000 (IntKind.wrap .u64 p) (IntKind.wrap .u64 m);rw[e1];rw[ae];obtain ⟨⟨q, t⟩, e3⟩ := aaF (hi := Int.tmod hi 10000) (lo := lo) (by
  grind)
 rw[e3];rw[ae];obtain⟨a,b,e4,_⟩:=yL6 1000 q (IntKind.wrap .u64 (zA (10000-c)));rw[e4];rw[ae];obtain⟨⟨d,e⟩,e5⟩:∃x,BF 1000 b (IntKind.wrap .u64 (Int.tdiv (IntKind.wrap .u64 (t*IntKind.wrap .u64 (zA (10000-c)))) 10000)) 0=some x:=⟨_,rfl⟩;rw[e5];rw[ae];have hw:-9223372036854775808≤zA d∧zA d<9223372036854775808:=⟨XM d,XN d⟩;cases decide (IntKind.wrap .u64 (Int.tdiv hi 10000)>0)<;>cases decide (IntKind.wrap .u64 (zA (10000-c))>0)<;>cases decide (IntKind.wrap .u64 (a+e)>0)<;>cases decide (d>9223372036854775807)<;>first|simp_all|simp
theorem aaI {sa:List og}{pr h}(hn:sa.length≤3)(hp:pr.length=sa.length)(hl:h.length=sa.length):∃n ok,mY 1000 sa pr h=some (n,ok)∧((∃j,j<h.length∧h.getD j 0<0)→ok=false):=by
 have key:∀(c i n:Nat) (r:AC),i+c=sa.length→c<n→r.length=i→(∀j,j<r.length→-9223372036854775808≤r.getD j 0∧r.getD j 0<9223372036854775808)→(∀j,j<i→¬h.getD j 0<0)→
   (∃l,qt 1000 n pr h sa (sa.length:Int) (i:Int) r=some (.inl l)∧l.length=sa.length∧(∀j,j<l.length→-9223372036854775808≤l.getD j 0∧l.getD j 0<9223372036854775808)∧∀j,j<sa.length→¬h.getD j 0<0)∨qt 1000 n pr h sa (sa.length:Int) (i:Int) r=some (.inr (0,false)):=by
  intro c
  induction c with
  |zero=>
   intro i n r h1 h2 h3 h4 h5;obtain⟨n,rfl⟩:∃m,n=m+1:=⟨n-1,by omega⟩;refine .inl ⟨r,?_,by omega,h4,fun j hj=>h5 j (by omega)⟩;show sS 1000 _ pr h sa (sa.length:Int) (i:Int) r=_;unfold sS;rw[ab (by omega)];rfl
  |succ c ih=>
   intro i n r h1 h2 h3 h4 h5;obtain⟨n,rfl⟩:∃m,n=m+1:=⟨n-1,by omega⟩;obtain⟨v,ok,w1,w2,w3⟩:=aaH (pr.getD i 0) (h.getD i 0) (sa.getD i (0,0)).2;have st:qt 1000 (n+1) pr h sa (sa.length:Int) (i:Int) r=bif !ok then some (.inr (0,false)) else qt 1000 n pr h sa (sa.length:Int) ((i+1:Nat):Int) (r++[v]):=by
    show sS 1000 (qt 1000 n) pr h sa (sa.length:Int) (i:Int) r=_;unfold sS;rw[aa (by omega),wU (by omega) (by omega),wU (by omega) (by omega),wU (by omega) (by omega),ao,w1,qE (by omega) (by omega),qB (N:=sa.length) (by omega) (by omega)];rfl
   cases ok with
   |false=>exact .inr (by rw[st];rfl)
   |true=>
    rw[st];refine ih (i+1) n (r++[v]) (by omega) (by omega) (by rw[ay,h3];rfl) (fun j hj=>?_) fun j hj=>?_
    ·rw[ay,List.length_singleton] at hj;by_cases q:j<r.length
     ·rw[bY,List.getElem?_append_left q,←bY];exact h4 j q
     ·have:j=r.length:=by omega
      subst this;rw[bY,List.getElem?_append_right (Nat.le_refl _),Nat.sub_self];exact w3
    ·by_cases q:j<i
     ·exact h5 j q
     ·have:j=i:=by omega
      subst this;intro aaJ;have:=w2 aaJ;cases this
 unfold mY;rw[aa (show(pr.length:Int)=(sa.length:Int) by omega),aa (show(h.length:Int)=(sa.length:Int) by omega)];simp only[az,ak];have k0:=key sa.length 0 1000 [] (by omega) (by omega) rfl (fun j hj=>absurd hj (Nat.not_lt_zero j)) (fun j hj=>absurd hj (Nat.not_lt_zero j));rw[show((0:Nat):Int)=0 from rfl] at k0;rcases k0 with⟨l,e,l1,l2,l3⟩|e
 ·rw[e];simp only[ae];rw[Zo (by omega) (by omega) l2];simp only[ae];refine by grind
 ·rw[e];exact⟨0,false,rfl,fun _=>rfl⟩
theorem yQa {a b}(h:a=true↔b=true):a=b:=by
 simp_all
theorem vY8 {m:List zH}(hm:m.length≤900):MO 1000 m=some (tg m):=by
 have l0 : CG 1000 1000 m m (m.length : Int) 0 = _ := fk (L := fun n i => CG 1000 n m m (m.length : Int) i) (N := m.length) (fun i => decide (fm m (m.getD i pd).1 = (i : Int))) (.inl m) (.inr false) (fun n=>by
  show HW 1000 _ m m (m.length:Int) (m.length:Int)=_;unfold HW;rw[ab (Int.lt_irrefl _)];rfl) (fun n i hi=>by
  show HW 1000 (CG 1000 n) m m (m.length:Int) (i:Int)=_;unfold HW;have e:m.getD i (0,0,0,0,0,0,0)=m.getD i pd:=rfl;rw[aa (show(i:Int)<m.length by omega),zY,aa hi,ao,e,F5 (by omega) (by omega),qB hi (by omega)];simp only[ai,ae];cases decide (fm m (m.getD i pd).1=(i:Int))<;>rfl) (n:=1000) (by omega)
 have sorted:∃b,Ru 1000 m=some b∧(b=true↔∀i,i<m.length→re m i=true):=by
  have qPl:∀a b:zH,iW b a= !wB a b:=fun a b=>by
   have h1:=My (q:=a) (p:=b);have h2:=yBr (q:=b) (p:=a);cases h3:wB a b<;>cases h4:iW b a<;>rw[h3] at h1<;>rw[h4] at h2<;>simp at h1 h2<;>first|rfl|omega
  have down:∀(i n:Nat),i<n→i<m.length∨i=0→∃b:Bool,CH 1000 n m (i:Int)=some (bif b then .inl () else .inr false)∧(b=true↔∀j,j≤i→re m j=true):=by
   intro i
   induction i with
   |zero=>
    intro n hn _;obtain⟨n,rfl⟩:∃x,n=x+1:=⟨n-1,by omega⟩;refine⟨true,rfl,fun _ j hj=>?_,fun _=>rfl⟩;have:j=0:=by omega
    subst this;unfold re;rw[aa rfl];rfl
   |succ i ih=>
    intro n hn hi;obtain⟨n,rfl⟩:∃x,n=x+1:=⟨n-1,by omega⟩;have bJ:i+1<m.length:=by omega
    obtain⟨b,b1,b2⟩:=ih n (by omega) (.inl (by omega));obtain⟨x,x1,x2,x3⟩:=Za (k:=1000) (by omega) (m.getD (i+1) pd) (m.getD i pd);have ea:re m (i+1)=wB (m.getD i pd) (m.getD (i+1) pd):=by unfold re;rw[ab (by omega)];rfl
    have st:CH 1000 (n+1) m ((i+1:Nat):Int)=bif decide (x<0) then some (.inr false) else CH 1000 n m (i:Int):=by
     show Rv 1000 (CH 1000 n) m ((i+1:Nat):Int)=_;unfold Rv;have w:zA (((i+1:Nat):Int)-1)=(i:Int):=by rw[zO (by omega) (by omega)];omega
     rw[aa (by simp),w,zY,zY,aa bJ,aa (show i<m.length by omega),ao,ao];simp only[ai];refine(congrArg (fun z=>Option.bind z _) x1).trans ?_;rfl
    rw[st,x3,qPl (m.getD i pd) (m.getD (i+1) pd)];cases hl:wB (m.getD i pd) (m.getD (i+1) pd) with
    |false=>
     refine⟨false,rfl,fun h=>(by cases h),fun h=>?_⟩;have:=h (i+1) (Nat.le_refl _);rw[ea,hl] at this;cases this
    |true=>
     refine⟨b,b1,fun h j hj=>?_,by grind⟩;by_cases q:j=i+1
     ·subst q;rw[ea];exact hl
     ·exact b2.1 h j (by omega)
  unfold Ru;by_cases hz:m.length=0
  ·have:m=[]:=List.eq_nil_of_length_eq_zero hz;subst this;have w:zA (((([]:List zH).length:Nat):Int)-1)= -1:=by rw[zO (by decide) (by decide)];rfl
   rw[w];exact⟨true,rfl,by simp,fun _=>rfl⟩
  ·have w:zA ((m.length:Int)-1)=((m.length-1:Nat):Int):=by rw[zO (by omega) (by omega)];omega
   obtain⟨b,b1,b2⟩:=down (m.length-1) 1000 (by omega) (.inl (by omega));rw[w,b1];refine⟨b,by cases b<;>rfl,by grind⟩
 obtain⟨b,s1,s2⟩:=sorted;unfold MO;rw[l0];have pick:tg m=(zZ (fun i=>decide (fm m (m.getD i pd).1=(i:Int))) m.length 0&&(decide ((m.length:Int)≤40)&&b)):=by
  apply yQa;unfold tg;rw[aR,aR,aR,s2,wI,wI];grind
 grind
theorem aaK {ids}(hl:ids.length≤900):MP 1000 ids=some (vi ids):=by
 have l0 := Lc (L := fun n i (p : Int) => CI 1000 n ids p ids (ids.length : Int) i) (N := ids.length) (fun i => !decide (ids.getD i 0 ≤ if i = 0 then 0 else ids.getD (i - 1) 0)) (fun _ => (.inl ids : AC ⊕ Bool)) (.inr false) (fun i p => p = if i = 0 then 0 else ids.getD (i - 1) 0) (fun n p _=>by
  show HX 1000 _ ids p ids (ids.length:Int) (ids.length:Int)=_;unfold HX;simp) (fun n i p hi hp=>by
  have st:CI 1000 (n+1) ids (if i=0 then 0 else ids.getD (i-1) 0) ids (ids.length:Int) (i:Int)=bif decide (ids.getD i 0≤if i=0 then 0 else ids.getD (i-1) 0) then some (.inr false) else CI 1000 n ids (ids.getD i 0) ids (ids.length:Int) ((i+1:Nat):Int):=by
   show HX 1000 (CI 1000 n) ids _ ids (ids.length:Int) (i:Int)=_;unfold HX;rw[aa (by grind),zY,aa hi,ao,qB hi (by omega)];rfl
  grind) ids.length 0 1000 0 (by omega) (by omega) rfl
 have same:zZ (fun i=> !decide (ids.getD i 0≤if i=0 then 0 else ids.getD (i-1) 0)) ids.length 0=zZ (ze ids) ids.length 0:=by
  apply yQa;rw[wI,wI];constructor
  ·intro h;have pos:∀i,i<ids.length→1≤ids.getD i 0:=by
    intro i
    induction i with
    |zero=>
     grind
    |succ i ih=>
     grind
   unfold ze;grind
  ·intro h i hi;have h1:=h i hi;unfold ze at h1;grind
 unfold MP vi;grind
theorem vWa {s:qD}(hm:s.m.length≤900)(hi:s.ids.length≤900):MQ 1000 s.st=some (vj s):=by
 have e1:MQ 1000 s.st=(MO 1000 s.m).bind fun x0=>bif x0 then((MP 1000 s.ids).bind fun x1=>bif x1 then((MR 1000 s.m s.t s.B.1 s.B.2.1 s.B.2.2.1 s.B.2.2.2 s.pr s.ho s.m s.ids s.to s.ov).bind fun x2=>some (!x2)) else some false) else some false:=rfl
 rw[e1,vY8 hm,aaK hi];unfold vj;cases tg s.m with
 |false=>rfl
 |true=>
 simp only[ae,ai,Bool.true_and];cases Yl:vi s.ids with
 |false=>rfl
 |true=>
 simp only[ae,ai,Bool.true_and];have aaL:=(vCg Yl).1;obtain ⟨x, x1, x2⟩ := qg (L := fun n i => CJ 1000 n s.m (s.m.length : Int) i s.t s.B.1 s.B.2.1 s.B.2.2.1 s.B.2.2.2 s.pr s.ho s.m s.ids s.to s.ov) (N := s.m.length) (fun i => !nq s (s.m.getD i pd)) (fun n=>by
  show HY 1000 _ s.m (s.m.length:Int) (s.m.length:Int) s.t s.B.1 s.B.2.1 s.B.2.2.1 s.B.2.2.2 s.pr s.ho s.m s.ids s.to s.ov=_;unfold HY;rw[ab (Int.lt_irrefl _)];rfl) (fun n i bJ=>by
  show HY 1000 (CJ 1000 n) s.m (s.m.length:Int) (i:Int) s.t s.B.1 s.B.2.1 s.B.2.2.1 s.B.2.2.2 s.pr s.ho s.m s.ids s.to s.ov=_;unfold HY;have f1:Rw 1000 (s.m.getD i pd) (s.t,s.B.1,s.B.2.1,s.B.2.2.1,s.B.2.2.2,s.pr,s.ho,s.m,s.ids,s.to,s.ov)=some (!nq s (s.m.getD i pd)):=by
   unfold Rw nq;rw[PU,nh,Zl (by omega) (by omega) aaL];have e':((s.m.getD i pd).1,(s.m.getD i pd).2.1,(s.m.getD i pd).2.2.1,(s.m.getD i pd).2.2.2.1,(s.m.getD i pd).2.2.2.2.1,(s.m.getD i pd).2.2.2.2.2.1,(s.m.getD i pd).2.2.2.2.2.2)=s.m.getD i pd:=rfl;rw[e'];have d1:decide ((s.m.getD i pd).2.2.2.2.2.2≥(s.m.getD i pd).2.2.2.2.2.1)= !decide ((s.m.getD i pd).2.2.2.2.2.2<(s.m.getD i pd).2.2.2.2.2.1):=by
    by_cases q:(s.m.getD i pd).2.2.2.2.2.2<(s.m.getD i pd).2.2.2.2.2.1
    ·rw[aa q,ab (by omega)];rfl
    ·rw[ab q,aa (by omega)];rfl
   have d2:decide ((s.m.getD i pd).2.2.2.2.2.2≤1048576)= !decide ((s.m.getD i pd).2.2.2.2.2.2>1048576):=by
    by_cases q:(s.m.getD i pd).2.2.2.2.2.2>1048576
    ·rw[aa q,ab (by omega)];rfl
    ·rw[ab q,aa (by omega)];rfl
   rw[d1,d2];cases pq s.B.1.length (s.m.getD i pd)<;>cases decide ((s.m.getD i pd).2.2.2.2.2.1<0)<;>cases decide ((s.m.getD i pd).2.2.2.2.2.2<(s.m.getD i pd).2.2.2.2.2.1)<;>cases decide ((s.m.getD i pd).2.2.2.2.2.2>1048576)<;>cases decide ((s.m.getD i pd).1∈s.ids)<;>rfl
  have e:s.m.getD i (0,0,0,0,0,0,0)=s.m.getD i pd:=rfl;rw[aa (show(i:Int)<s.m.length by omega),zY,aa bJ,ao,e,f1,qB bJ (by omega)];cases nq s (s.m.getD i pd)<;>rfl) (n:=1000) (by omega)
 have nn:(fun j=> !!nq s (s.m.getD j pd))=fun i=>nq s (s.m.getD i pd):=by funext j;rw[Bool.not_not]
 rw[nn] at x2;have eC:MR 1000 s.m s.t s.B.1 s.B.2.1 s.B.2.2.1 s.B.2.2.2 s.pr s.ho s.m s.ids s.to s.ov=some (!zZ (fun i=>nq s (s.m.getD i pd)) s.m.length 0):=by
  unfold MR qOx;have x1:CJ 1000 1000 s.m (s.m.length:Int) 0 s.t s.B.1 s.B.2.1 s.B.2.2.1 s.B.2.2.2 s.pr s.ho s.m s.ids s.to s.ov=some x:=x1;rw[x1,←x2];cases x<;>rfl
 rw[eC];cases zZ (fun i=>nq s (s.m.getD i pd)) s.m.length 0<;>rfl
theorem aaM {s:qD}(hp:s.pr.length≤900):MS 1000 s.pr=some (!zZ (pD s) s.pr.length 0):=by
 obtain ⟨x, x1, x2⟩ := qg (L := fun n i => CK 1000 n s.pr (s.pr.length : Int) i) (N := s.pr.length) (fun i => !pD s i) (fun n=>by
  show HZ 1000 _ s.pr (s.pr.length:Int) (s.pr.length:Int)=_;unfold HZ;rw[ab (Int.lt_irrefl _)];rfl) (fun n i hi=>by
  show HZ 1000 (CK 1000 n) s.pr (s.pr.length:Int) (i:Int)=_;unfold HZ yBu pD;rw[aa (show(i:Int)<s.pr.length by omega),zY,aa hi,ao,nh,qB hi (by omega)];have d1:decide (s.pr.getD i 0≥0)= !decide (s.pr.getD i 0<0):=by
   by_cases q:s.pr.getD i 0<0
   ·rw[aa q,ab (by omega)];rfl
   ·rw[ab q,aa (by omega)];rfl
  have d2:decide (s.pr.getD i 0≤1048576)= !decide (s.pr.getD i 0>1048576):=by
   by_cases q:s.pr.getD i 0>1048576
   ·rw[aa q,ab (by omega)];rfl
   ·rw[ab q,aa (by omega)];rfl
  rw[d1,d2];cases decide (s.pr.getD i 0<0)<;>cases decide (s.pr.getD i 0>1048576)<;>rfl) (n:=1000) (by omega)
 unfold MS qZ3;have x1:CK 1000 1000 s.pr (s.pr.length:Int) 0=some x:=x1;rw[x1];have nn:(fun j=> !!pD s j)=pD s:=by funext j;rw[Bool.not_not]
 rw[nn] at x2;rw[←x2];cases x<;>rfl
theorem aaN {h:AC}(hp:h.length≤900):Rx 1000 h=some (!zZ (fun j=> !decide (h.getD j 0>1099511627776)) h.length 0):=by
 obtain ⟨x, x1, x2⟩ := qg (L := fun n i => CL 1000 n h (h.length : Int) i) (N := h.length) (fun i => decide (h.getD i 0 > 1099511627776)) (fun n=>by
  show H0 1000 _ h (h.length:Int) (h.length:Int)=_;unfold H0;rw[ab (Int.lt_irrefl _)];rfl) (fun n i hi=>by
  show H0 1000 (CL 1000 n) h (h.length:Int) (i:Int)=_;unfold H0 qPk;rw[aa (show(i:Int)<h.length by omega),zY,aa hi,ao,qB hi (by omega)];rfl) (n:=1000) (by omega)
 unfold Rx qZh;have x1:CL 1000 1000 h (h.length:Int) 0=some x:=x1;rw[x1,←x2];cases x<;>rfl
theorem aaO {r:qP}(hr:wT r){s:qD}(hn:(s.B.1.length:Int)=r.1):MU 1000 r s.st=some (zi r s):=by
 have h3:=hr.n3;have hpa:=hr.pa;have e0:MU 1000 r s.st=bif !(decide ((s.pr.length:Int)=(r.2.1.length:Int))) then some false
  else bif !(decide ((s.ho.length:Int)=r.1)) then some false
  else(MS 1000 s.pr).bind fun x0=>
  bif x0 then some false
  else(zn 1000 1000 s.ho (s.ho.length:Int) 0 r s.st).bind fun z=>
  match z with
  |.inl z1=>some true
  |.inr z2=>some z2:=rfl
 rw[e0];unfold zi;by_cases hp:(s.pr.length:Int)=(r.2.1.length:Int)
 case neg=>rw[ab hp];rfl
 by_cases ho:(s.ho.length:Int)=r.1
 case neg=>rw[aa hp,ab ho];rfl
 rw[aa hp,aa ho,aaM (by omega)];simp only[az,ak,Bool.true_and,ae];cases hpb:zZ (pD s) s.pr.length 0 with
 |false=>rfl
 |true=>
 simp only[az,ak,Bool.true_and];have l0 : zn 1000 1000 s.ho (s.ho.length : Int) 0 r s.st = _ := fk (L := fun n i => zn 1000 n s.ho (s.ho.length : Int) i r s.st) (N := s.ho.length) (zh r s) (.inl ()) (.inr false) (fun n=>by
  show H2 1000 (zn 1000 n) s.ho (s.ho.length:Int) (s.ho.length:Int) r s.st=_;unfold H2;rw[ab (Int.lt_irrefl _)];rfl) (fun n i hi=>by
  show H2 1000 (zn 1000 n) s.ho (s.ho.length:Int) (i:Int) r s.st=_;unfold H2 zh;have bJ:i<s.B.1.length:=by omega
  have ep:s.st.2.2.2.2.2.1=s.pr:=rfl;have ea:s.st.2.1=s.B.1:=rfl;have ed:s.B.1.getD i (0,0,0)=s.B.1.getD i ad:=rfl;rw[aa (show(i:Int)<s.ho.length by omega),zY,aa hi,ao,ep,ea,zY,aa bJ,ed,qB hi (by omega)];simp only[ai];by_cases hl:((s.ho.getD i []).length:Int)=(r.2.1.length:Int)
  case neg=>
   have:mY 1000 r.2.1 s.pr (s.ho.getD i [])=some (0,false):=by
    unfold mY;rw[aa hp,ab hl];rfl
   rw[this,ab hl];rfl
  rw[aa hl,aaN (by omega)];simp only[Bool.true_and];cases hh:zZ (tl (s.ho.getD i [])) (s.ho.getD i []).length 0 with
  |true=>
   have L:=qTq hr hp hpb hl hh;have hm:zZ (fun j=> !decide ((s.ho.getD i []).getD j 0>1099511627776)) (s.ho.getD i []).length 0=true:=wI.2 fun j hj=>by
    have:=L.hold j (by omega);rw[ab (by omega)];rfl
   rw[Zu L (by omega),hm];simp only[ae,az,ak,Bool.true_and];by_cases hc:(s.B.1.getD i ad).2.1=gG r.2.1 s.pr (s.ho.getD i [])
   ·rw[aa hc,aa hc.symm];cases decide (gG r.2.1 s.pr (s.ho.getD i [])>1152921504606846976)<;>rfl
   ·rw[ab hc,ab (show¬gG r.2.1 s.pr (s.ho.getD i [])=(s.B.1.getD i ad).2.1 from fun e=>hc e.symm)];cases decide (gG r.2.1 s.pr (s.ho.getD i [])>1152921504606846976)<;>rfl
  |false=>
   obtain⟨v,ok,v1,v2⟩:=aaI (sa:=r.2.1) (pr:=s.pr) (h:=s.ho.getD i []) (by omega) (by omega) (by omega);rw[v1];simp only[ae,Bool.false_and,ak];cases ok with
   |false=>rfl
   |true=>
    have hm:zZ (fun j=> !decide ((s.ho.getD i []).getD j 0>1099511627776)) (s.ho.getD i []).length 0=false:=by
     cases q:zZ (fun j=> !decide ((s.ho.getD i []).getD j 0>1099511627776)) (s.ho.getD i []).length 0 with
     |false=>rfl
     |true=>
      have:zZ (tl (s.ho.getD i [])) (s.ho.getD i []).length 0=true:=wI.2 fun j hj=>by
       have h1:=wI.1 q j hj;unfold tl;rw[ab (fun e=>by have:=v2 ⟨j,hj,e⟩;cases this)];exact h1
      rw[hh] at this;cases this
    rw[hm];simp only[az,ak,bO,ai];cases decide (v>1152921504606846976)<;>cases decide (v=(s.B.1.getD i ad).2.1)<;>rfl) (n:=1000) (by omega)
 have el:s.ho.length=s.B.1.length:=by omega
 rw[l0,el];cases zZ (zh r s) s.B.1.length 0<;>rfl
theorem aaP {r:qP}(hr:wT r){s:qD}(hm:s.m.length≤900)(hi:s.ids.length≤900):H3 1000 r s.st=some (HT r s):=by
  have eU:H3 1000 r s.st=(vH 1000 s.t 0 r.2.2.2.1).bind fun x0=>
     bif !x0 then some false
     else(Fe 1000 s.B.1 s.B.2.1 s.B.2.2.1 s.B.2.2.2).bind fun x1=>
     bif !x1 then some false
     else bif !(decide ((s.B.1.length:Int)=r.1)) then some false
     else(MU 1000 r s.st).bind fun x2=>
     bif !x2 then some false
     else(MQ 1000 s.st).bind fun x3=>
     bif !x3 then some false
     else(H4 1000 1000 s.B.1 (s.B.1.length:Int) 0 r s.st []).bind fun z=>
     (Gk 1000 z.2.2).bind fun x4=>
     bif !x4.2 then some false
     else bif !(decide (x4.1=z.2.1.2.2.2.2.2.2.2.2.2.1)) then some false
     else(vH 1000 x4.1 0 1152921504606846976).bind fun x5=>
     bif !x5 then some false
     else(Cg 1000 z.1.1 z.1.2.1 z.1.2.2.1 z.1.2.2.2.1 z.1.2.2.2.2 z.2.1.1).bind fun x6=>
     bif fP z.2.1.2.2.2.2.2.2.2.2.2.2 x6 then (bif !z.2.1.2.2.2.2.2.2.2.2.2.2 then some true
      else some (decide ((z.2.1.2.2.2.2.2.2.2.1.length:Int)=0)))
     else some false:=rfl
  have d1:decide (s.t≥0)= !decide (s.t<0):=by
    by_cases q:s.t<0
    · rw[aa q,ab (by omega)];rfl
    · rw[ab q,aa (by omega)];rfl
  have d2:decide (s.t≤r.2.2.2.1)= !decide (s.t>r.2.2.2.1):=by
    by_cases q:s.t>r.2.2.2.1
    · rw[aa q,ab (by omega)];rfl
    · rw[ab q,aa (by omega)];rfl
  rw[eU,nh,d1,d2,vBq (by omega)];unfold HT;cases decide (s.t<0) with
  |true=>rfl
  |false=>
  cases decide (s.t>r.2.2.2.1) with
  |true=>rfl
  |false=>
  simp only[bO,Bool.true_and,ae,az,ak];cases hb:kP s.B.1 s.B.2.1 s.B.2.2.1 s.B.2.2.2 with
  |false=>rfl
  |true=>
  have vk:=Fh.1 hb;have ie:=vk.n6;by_cases hn:(s.B.1.length:Int)=r.1
  case neg=>rw[ab hn];rfl
  rw[aa hn,aaO hr hn];simp only[az,ak,ae,Bool.true_and];cases zi r s with
  |false=>rfl
  |true=>
  rw[vWa hm hi];simp only[az,ak,ae,Bool.true_and];cases vj s with
  |false=>rfl
  |true=>
  obtain ⟨x, h1, h2⟩ := yZ (L := fun n j (x : AC) => H4 1000 n s.B.1 (s.B.1.length : Int) j r s.st x) (N := s.B.1.length) (fun x => (r, s.st, x)) (fun j x => x = (List.range j).map fun j => (s.B.1.getD j ad).1) (fun n x _=>by
    show H5 1000 _ s.B.1 (s.B.1.length:Int) (s.B.1.length:Int) r s.st x=_;unfold H5;rw[ab (Int.lt_irrefl _)];rfl) (fun n j x hj hx=>by
    refine⟨x++[(s.B.1.getD j ad).1],?_,?_⟩
    · show H5 1000 (H4 1000 n) s.B.1 (s.B.1.length:Int) (j:Int) r s.st x=_;unfold H5;have hl:x.length=j:=by rw[hx];simp
      rw[aa (show(j:Int)<s.B.1.length by omega),zY,aa hj,qE (by omega) (by omega),ao,qB hj (by omega)];rfl
    · rw[hx,List.range_succ,List.map_append];rfl) (n:=1000) (s:=[]) (by omega) rfl
  have hbx:∀i,i<x.length→-9223372036854775808≤x.getD i 0∧x.getD i 0<9223372036854775808:=by
    intro i hi;have hm:x.getD i 0∈x:=jY hi;rw[h2] at hm;obtain⟨j,hj,e⟩:=List.mem_map.1 hm;have:=tf.1 (vk.acct j (List.mem_range.1 hj));have this:-4611686018427387904<(s.B.1.getD j ad).1∧(s.B.1.getD j ad).1<4611686018427387904:=this.1;rw[h2,←e];omega
  have hlen:x.length=s.B.1.length:=by rw[h2];simp
  have CF:kR x=jK s:=by rw[h2,Zs];rfl
  rw[h1];simp only[az,ak,ae,Bool.true_and];rw[Zo (by omega) (by omega) hbx,CF];have eo:s.st.2.2.2.2.2.2.2.2.2.2=s.ov:=rfl;have em:s.st.2.2.2.2.2.2.2.1=s.m:=rfl;have et:s.st.2.2.2.2.2.2.2.2.2.1=s.to:=rfl;have e1:s.st.1=s.t:=rfl;have ecl:Cg 1000 r.1 r.2.1 r.2.2.1 r.2.2.2.1 r.2.2.2.2 s.t=some (decide (s.t=r.2.2.2.1)):=rfl;unfold Rt;cases bQ:xU (jK s) with
  |true=>
    simp only[ai,ae,az,ak];rw[et,nh,eo,em,e1,ecl];simp only[ae];cases decide (jK s=s.to)<;>cases decide (jK s≥0)<;>cases decide (jK s≤1152921504606846976)<;>cases fP s.ov (decide (s.t=r.2.2.2.1))<;>cases s.ov<;>rfl
  |false=>
    simp only[ak,ae,bO,ai];have:decide (jK s≥0)=false∨decide (jK s≤1152921504606846976)=false:=by
      by_cases q:jK s≥0
      · right;refine ab fun q2=>?_
        unfold xU at bQ;simp at bQ;omega
      · exact .inl (ab q)
    rcases this with q|q
    · rw[q];cases decide (jK s=s.to)<;>rfl
    · rw[q];cases decide (jK s=s.to)<;>cases decide (jK s≥0)<;>rfl
theorem vm {k l}(hk:l.length<k)(hl:qT l) id:ou k l id=some (iF l id):=by
 unfold qT at hl;unfold ou;rw[Lx hk (by omega)];unfold fm iF;cases hp:vU l id with
 |none=>rfl
 |some x=>
  have hx:=(kQ hp).1;have e1:decide ((x:Int)<0)=false:=ab (by omega);have e2:decide ((0:Int)≤(x:Int))=true:=by simp
  have e3:decide ((x:Int)≤(l.length:Int))=true:=aa (by omega);have e4:decide ((0:Int)≤((x+1:Nat):Int))=true:=aa (by omega);have e5:decide (((x+1:Nat):Int)≤(l.length:Int))=true:=aa (by omega);have l1:=List.length_take_le x l;have l2:(l.drop (x+1)).length≤l.length:=by rw[List.length_drop];omega
  have e6:zM (0+(l.take x).length) 56=true:=qE (by omega) (by omega);have e7:zM ((l.take x).length+(l.drop (x+1)).length) 56=true:=qE (by omega) (by omega);simp only[ae,e3,e5,qB hx (show l.length<9223372036854775808 by omega),zY,aa hx,ao,e6,e7];rfl
theorem qPl (q p:zH):iW q p= !wB p q:=by
 unfold iW wB;rcases Int.lt_trichotomy q.2.1 p.2.1 with h|h|h
 ·have h1:¬p.2.1<q.2.1:=by omega
  have h2:¬p.2.1=q.2.1:=by omega
  simp[h,h1,h2]
 ·rcases Int.lt_trichotomy q.2.2.2.2.1 p.2.2.2.2.1 with g|g|g
  ·have g1:¬p.2.2.2.2.1≤q.2.2.2.2.1:=by omega
   simp[h,g,g1]
  ·simp[h,g]
  ·have g1:¬q.2.2.2.2.1<p.2.2.2.2.1:=by omega
   have g2:p.2.2.2.2.1≤q.2.2.2.2.1:=by omega
   simp[h,g1,g2]
 ·have h1:¬q.2.1<p.2.1:=by omega
  have h2:¬q.2.1=p.2.1:=by omega
  simp[h,h1,h2]
theorem Ry {k}{l:List zH}(hl:l.length≤1000){x}(hx:x≤l.length) y:CM k l x y.1 y.2.1 y.2.2.1 y.2.2.2.1 y.2.2.2.2.1 y.2.2.2.2.2.1 y.2.2.2.2.2.2=some (l.take x++(y::l.drop x)):=by
 unfold CM;have e1:(decide (0≤(x:Int))&&decide ((x:Int)≤((l.length:Nat):Int)))=true:=by simp_all
 have e2:zM (0+(l.take x).length) 56=true:=qE (by grind) (by grind);have e3:zM ((l.take x).length+1) 56=true:=qE (by grind) (by grind);rw[e1,ao,e2,e3];have e4:zM ((l.take x++[(y.1,(y.2.1,(y.2.2.1,(y.2.2.2.1,(y.2.2.2.2.1,(y.2.2.2.2.2.1,y.2.2.2.2.2.2))))))]).length+(l.drop x).length) 56=true:=qE (by grind) (by grind);grind
theorem qOa {k}{l:List zH}(hk:l.length<k)(hl:l.length≤1000) y:H6 k l y.1 y.2.1 y.2.2.1 y.2.2.2.1 y.2.2.2.2.1 y.2.2.2.2.2.1 y.2.2.2.2.2.2=some (((l.takeWhile (fun q=>wB q y)).length:Nat):Int):=by
 have := F9 (L := fun n i => H7 k n l i y.1 y.2.1 y.2.2.1 y.2.2.2.1 y.2.2.2.2.1 y.2.2.2.2.2.1 y.2.2.2.2.2.2) (N := l.length) (fun x => wB (l.getD x pd) y) (fun i => (i : Int)) (fun n=>by
  show H8 k _ l l.length _ _ _ _ _ _ _=_;unfold H8;simp) (fun n i hi=>by
  show H8 k _ l i _ _ _ _ _ _ _=_;unfold H8;have h1:=yAy k (l.getD i pd) y;simp only[zY,qS,ao,aa hi,ai,h1,ae,qB hi (by grind)]
  ) l.length 0 k (by omega) hk
 have e:((0:Nat):Int)=0:=rfl;unfold H6;have h':H7 k k l 0 y.1 y.2.1 y.2.2.1 y.2.2.2.1 y.2.2.2.2.1 y.2.2.2.2.2.1 y.2.2.2.2.2.2=_:=this;rw[h',Ga (fun q=>wB q y) l pd l.length 0 (by omega),List.drop_zero,Nat.zero_add];rfl
theorem vX3 {k:Nat}{l:List zH}(hk:l.length<k)(hl:l.length≤1000)(p:zH):
  CN k l p.1 p.2.1 p.2.2.1 p.2.2.2.1 p.2.2.2.2.1 p.2.2.2.2.2.1 p.2.2.2.2.2.2=some (bif (vU l p.1).isSome then(l,6) else bif decide (40≤l.length) then(l,3) else(pv l p,0)):=by
 unfold CN;rw[Lx hk (by omega)];unfold fm;cases hp:vU l p.1 with
 |some x=>
  have e1:decide ((x:Int)≥0)=true:=aa (by omega);simp only[ae,e1,ai,Option.isSome_some]
 |none=>
  have e1:decide ((-1:Int)≥0)=false:=rfl;simp only[ae,e1,ak,Option.isSome_none];by_cases h:40≤l.length
  ·rw[aa h,aa (show(l.length:Int)≥40 by omega)];rfl
  ·rw[ab h,ab (show¬(l.length:Int)≥40 by omega)];simp only[ak];rw[qOa hk hl p];simp only[ae];rw[Ry hl (B6 _ l) p,(oe _ l).1,(oe _ l).2];rfl
theorem vP2 {k l}(bL:l.length<k)(hl:qT l){id x}(hx:vU l id=some x) c:
  MV k l id c=some (pv (yK l x) ((l.getD x pd).1,(l.getD x pd).2.1,(l.getD x pd).2.2.1,(l.getD x pd).2.2.2.1,c,(l.getD x pd).2.2.2.2.2.1,(l.getD x pd).2.2.2.2.2.2),0):=by
 have dw:=kQ hx;have hlen:=oc dw.1;have dO:=hl;unfold qT at dO;unfold MV;rw[vm bL hl];unfold iF;rw[hx];simp only[ae];have h1:=qOa (k:=k) (l:=yK l x) (by omega) (by omega) ((l.getD x pd).1,(l.getD x pd).2.1,(l.getD x pd).2.2.1,(l.getD x pd).2.2.2.1,c,(l.getD x pd).2.2.2.2.2.1,(l.getD x pd).2.2.2.2.2.2);rw[h1];simp only[ae];have h2:=Ry (k:=k) (l:=yK l x) (by omega) (B6 (fun q=>wB q ((l.getD x pd).1,(l.getD x pd).2.1,(l.getD x pd).2.2.1,(l.getD x pd).2.2.2.1,c,(l.getD x pd).2.2.2.2.2.1,(l.getD x pd).2.2.2.2.2.2)) (yK l x)) ((l.getD x pd).1,(l.getD x pd).2.1,(l.getD x pd).2.2.1,(l.getD x pd).2.2.2.1,c,(l.getD x pd).2.2.2.2.2.1,(l.getD x pd).2.2.2.2.2.2);rw[h2,(oe _ (yK l x)).1,(oe _ (yK l x)).2];rfl
theorem aaQ {k l}(bL:l.length<k)(hl:qT l){id x}(hx:vU l id=some x):
  MW k l id=some (pv (yK l x) (l.getD x pd),0):=by
 have dw:=kQ hx;have hlen:=oc dw.1;have dO:=hl;unfold qT at dO;unfold MW;rw[vm bL hl];unfold iF;rw[hx];simp only[ae];rw[qOa (k:=k) (l:=yK l x) (by omega) (by omega) (l.getD x pd)];simp only[ae];rw[Ry (k:=k) (l:=yK l x) (by omega) (B6 (fun q=>wB q (l.getD x pd)) (yK l x)) (l.getD x pd),(oe _ (yK l x)).1,(oe _ (yK l x)).2];rfl
theorem aaR {k l}(bL:l.length<k)(hl:qT l){id x}(hx:vU l id=some x):
  MX k l id=some (LD (yK l x) (l.getD x pd),0):=by
 have dw:=kQ hx;have hlen:=oc dw.1;have dO:=hl;unfold qT at dO;have MY:∀(l:List zH),l.length<k→l.length≤1000→∀p:zH,MZ k k l 0 p=some (l,(((l.takeWhile (fun q=>iW q p)).length:Nat):Int),p):=by
  intro l bL hl p;have := F9 (L := fun n i => MZ k n l i p) (N := l.length) (fun x => iW (l.getD x pd) p) (fun i => (l, (i : Int), p)) (fun n=>by
   show H9 k _ l l.length p=_;unfold H9;simp) (fun n i hi=>by
   show H9 k _ l i p=_;unfold H9;have h1:=yAy k p (l.getD i pd);simp only[zY,qS,ao,aa hi,h1,qB hi (by grind),qPl];rfl) l.length 0 k (by omega) bL
  have e:((0:Nat):Int)=0:=rfl;rw[e] at this;rw[this,Ga (fun q=>iW q p) l pd l.length 0 (by omega),List.drop_zero,Nat.zero_add]
 unfold MX;rw[vm bL hl];unfold iF;rw[hx];have h1:=MY (yK l x) (by omega) (by omega) (l.getD x pd);refine(congrArg (fun z=>Option.bind z _) h1).trans ?_;simp only[ae];rw[Ry (k:=k) (l:=yK l x) (by omega) (B6 (fun q=>iW q (l.getD x pd)) (yK l x)) (l.getD x pd),(oe _ (yK l x)).1,(oe _ (yK l x)).2];rfl
theorem aaS {k:Nat}{l:AC}(hk:l.length<k)(hl:l.length≤1000)(id:Int):CC k l id=some (decide (id∈l)):=by
 have := fk (L := fun n i => th k n l id i) (N := l.length) (fun i => !decide (l.getD i 0 = id)) (.inl ()) (.inr true) (fun n=>by
  show tj k _ l id l.length=_;unfold tj;rw [ab (Int.lt_irrefl _)]; rfl) (fun n i hi=>by
  show tj k (th k n) l id i=_;unfold tj;rw[aa (show(i:Int)<l.length by omega),zY,aa hi,ao,qB hi (by omega)];cases decide (l.getD i 0=id)<;>rfl) hk
 unfold CC;have h':th k k l id 0=_:=this;rw[h'];have e:zZ (fun i=> !decide (l.getD i 0=id)) l.length 0= !decide (id∈l):=by
  by_cases hm:id∈l
  ·rw[aa hm];cases ha:zZ (fun i=> !decide (l.getD i 0=id)) l.length 0 with
   |false=>rfl
   |true=>
    obtain⟨i,hi,e⟩:=List.getElem_of_mem hm;have:=wI.1 ha i hi;rw[Cw l hi,e] at this;simp at this
  ·rw[ab hm];refine wI.2 fun i hi=>?_
   rw[ab (show¬l.getD i 0=id from fun e=>hm (by rw[←e];exact jY hi))];rfl
 rw[e];cases decide (id∈l)<;>rfl
theorem aaT {k:Nat}{l:AC}(hk:l.length<k)(hl:l.length≤1000)(id:Int):
  CO k l id=some (bif decide (id∈l) then(l,6) else bif decide (200≤l.length) then(l,3) else(qq l id,0)):=by
 unfold CO;rw[aaS hk hl];simp only[ae];by_cases hm:id∈l
 ·rw[aa hm];rfl
 ·rw[ab hm];simp only[ak];by_cases h:200≤l.length
  ·rw[aa h,aa (show(l.length:Int)≥200 by omega)];rfl
  ·rw[ab h,ab (show¬(l.length:Int)≥200 by omega)];have := F9 (L := fun n i => M3 k n l id i) (N := l.length) (fun x => decide (l.getD x 0 < id)) (fun i => (l, id, (i : Int))) (fun n=>by
    show Ia k _ l id l.length=_;unfold Ia;simp only [qS, ab (Nat.lt_irrefl _), ak]) (fun n i hi=>by
    show Ia k _ l id i=_;unfold Ia;simp only[zY,qS,ao,aa hi,ai,qB hi (show l.length<9223372036854775808 by omega)];rfl) l.length 0 k (by omega) hk
   have e:((0:Nat):Int)=0:=rfl;rw[e,Ga (fun x=>decide (x<id)) l 0 l.length 0 (by omega),List.drop_zero,Nat.zero_add] at this;have h':M3 k k l id 0=_:=this;simp only[ak];rw[h'];have hn:=B6 (fun x=>decide (x<id)) l;obtain⟨t1,t2⟩:=oe (fun x=>decide (x<id)) l;have e1:(decide (0≤(((l.takeWhile (fun x=>decide (x<id))).length:Nat):Int))&&decide ((((l.takeWhile (fun x=>decide (x<id))).length:Nat):Int)≤((l.length:Nat):Int)))=true:=by simp;exact hn
   have hd:=(List.dropWhile_sublist (fun x=>decide (x<id)) (l:=l)).length_le;simp only[ae,e1,ai,ao,t1,t2];rw[qE (n:=0+(l.takeWhile (fun x=>decide (x<id))).length) (by omega) (by omega),qE (n:=(l.takeWhile (fun x=>decide (x<id))).length+1) (by omega) (by omega),qE (n:=(l.takeWhile (fun x=>decide (x<id))++[id]).length+(l.dropWhile (fun x=>decide (x<id))).length) (by rw[ay];simp;omega) (by rw[ay];simp;omega)];simp only[ai];unfold qq;simp
end Go.Ab.Gi
