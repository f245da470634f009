/- Plain proofs, part 1. -/
import Derived.Test.YthpehdcmpldloaaGreatGiQA
set_option linter.unusedVariables false
set_option linter.unusedSimpArgs false
set_option maxRecDepth 100000
namespace Go.Ab.Gi
open Go.Ab
structure jV (B C:BT):Prop where
 len:C.1.length=B.1.length
 sum:qJ (fun i=>(C.1.getD i ad).1) B.1.length=qJ (fun i=>(B.1.getD i ad).1) B.1.length
 cred:∀i,i<B.1.length→(C.1.getD i ad).2.1=(B.1.getD i ad).2.1
 bil:C.2.1=B.2.1
 mul:C.2.2.1=B.2.2.1
 fell:∀i,i<B.1.length→(C.1.getD i ad).1<(B.1.getD i ad).1→0≤(C.1.getD i ad).1+(C.1.getD i ad).2.1
theorem jV.refl B:jV B B:=⟨rfl,rfl,by simp,rfl,rfl,by simp⟩
theorem jV.trans {B C D}(h:jV B C)(g:jV C D):jV B D:=
 ⟨g.len.trans h.len,by have:=g.sum;rw[h.len] at this;exact this.trans h.sum,fun i hi=>(g.cred i (by rw[h.len];exact hi)).trans (h.cred i hi),g.bil.trans h.bil,g.mul.trans h.mul,fun i hi=>by
  have h1:=h.fell i hi;have h2:=g.fell i (by rw[h.len];exact hi);have h3:=g.cred i (by rw[h.len];exact hi);omega⟩
theorem vFk i:∀{l},(∀p∈l,0≤p.2.2.2.1)→0≤zP (gB i) l+(zP (gN i) l+zP (gR i) l)
 |[],_=>Int.le_refl _
 |p::l,h=>by
  have h1:=vFk i fun q hq=>h q (List.mem_cons_of_mem _ hq)
  have h2:=h p (by simp);have h3:0≤gB i p+(gN i p+gR i p):=by
   unfold gB gN gR;omega
  show 0≤gB i p+zP (gB i) l+(gN i p+zP (gN i) l+(gR i p+zP (gR i) l));omega
theorem vUh {a a' b p p' m l}(x:uC a.length a p l a' p')(hf:xE a b m p l=true)(hl:∀q∈l,yI a.length q){i}(hi:i<a.length):
  (a'.getD i ad).1<(a.getD i ad).1→0≤(a'.getD i ad).1+(a'.getD i ad).2.1:=by
 have h1:=vFk i (l:=l) fun q hq=>by have:=(hl q hq).a1;omega
 unfold xE at hf;rw[bc] at hf;have h2:=gH.1 hf.2 i hi;unfold hY at h2;rw[x.acct i hi];grind
theorem vAn {B}(h:qP B){l}(hf:xK B l=true){r}(hp:sV B.1 B.2.1 B.2.2.1 B.2.2.2 l r):jV B (r.1,r.2.1,r.2.2.1,r.2.2.2.1):=by
 have hs:=(PO h hp).1;by_cases c:wK B.1.length l
 ·obtain⟨a',p',x,e⟩:=hp.1 c;cases hi:nu a' B.2.1 B.2.2.1 p' with
  |false=>rw[hi] at e;subst e;exact jV.refl B
  |true=>
   rw[hi] at e;subst e;exact⟨x.al,hs,fun i bK=>by show(a'.getD i ad).2.1=_;rw[x.acct i bK],rfl,rfl,fun i bK=>vUh x hf c.1 bK⟩
 ·rw[hp.2 c];exact jV.refl B
theorem yWz {k}(hk:100<k){B C}(h:qP B){l}(hl:l.length≤80)(hg:iF k B l=some C):jV B C:=by
 obtain⟨r,h1,h3⟩:=Pd hk h hl;unfold iF at hg;rw[h1] at hg;simp only at hg;cases hc:decide (r.2.2.2.2=0)&&xK B l with
 |false=>simp_all
 |true=>
  rw[hc] at hg;simp  at hg;subst hg;rw[bc] at hc;exact vAn h hc.2 h3
theorem hZ.keptC {k}(hk:100<k){t B C l done m}(h:hZ k t B l done C m)(hb:qP B):jV B C:=by
 induction h with
 |stop _=>exact jV.refl _
 |@step B C D l m done p h h' ih=>
  have hg:=(BS h).2;exact(yWz hk hb (by simp) hg).trans (ih (ta hk hb (by simp) hg).1)
theorem jZ.keptC {k}(hk:100<k){t B C l done m}(h:jZ k t B l done C m)(hb:qP B):jV B C:=by
 induction h with
 |stop _=>exact jV.refl _
 |@step B C D l m done p q h h' ih=>
  have hg:=(PU h).2.2.2;exact(yWz hk hb (by simp) hg).trans (ih (ta hk hb (by simp) hg).1)
theorem hZ.bk {k}(hk:100<k){t B C l done m}(h:hZ k t B l done C m)(hb:qP B):qP C:=by
 induction h with
 |stop _=>exact hb
 |step h h' ih=>exact ih (ta hk hb (by simp) (BS h).2).1
theorem jZ.bk {k}(hk:100<k){t B C l done m}(h:jZ k t B l done C m)(hb:qP B):qP C:=by
 induction h with
 |stop _=>exact hb
 |step h h' ih=>exact ih (ta hk hb (by simp) (PU h).2.2.2).1
theorem my.keptC {k}(hk:100<k){t B C l done m}(h:my k t B l done C m)(hb:qP B):jV B C:=by
 induction h with
 |stop h1 _=>exact h1.keptC hk hb
 |step h1 h2 ne h' ih=>
  have b1:=h1.bk hk hb;exact((h1.keptC hk hb).trans (h2.keptC hk b1)).trans (ih (h2.bk hk b1))
theorem vM5 {k}(hk:200≤k){B}(hb:qP B){l:List zH}(hl:∀q∈l,yI B.1.length q)(bV:l.length≤64) t {C:BT}{m done:List zH}(hr:BX k B.1 B.2.1 B.2.2.1 B.2.2.2 l t=some (C.1,C.2.1,C.2.2.1,C.2.2.2,m,done)):jV B C:=by
 obtain⟨f,n,h,hn⟩:=Ya hb hl bV t;have tS:=xP l t;have cR:=xN (vA l t) f;have P1:=cR.length_le;obtain⟨r,h1,h3⟩:=Pd (k:=k) (by omega) hb (l:=vO (vA l t) f) (by omega);have g1:=Yk (k:=k) (by omega) hb hl bV t (by omega) h h1;unfold Gj at g1;rw[g1] at hr;cases c:decide (r.2.2.2.2=0) with
 |false=>
  rw[c] at hr;simp  at hr;obtain⟨e1,e2,e3,e4,_⟩:=hr;have:B=C:=by grind
  rw[←this];exact jV.refl B
 |true=>
  have:(r.1,r.2.1,r.2.2.1,r.2.2.2.1)=C:=by grind
  rw[←this];refine vAn hb ?_ h3;have hw:=K4 (K5 (t:=t) hl) (by omega) f;have hs:=X3.1 h.final;unfold xK xE;rw[BA.2 hw.1,aa hw.2];simp;rw[gH];intro j hj;have:=hs j hj;unfold uP at this;simp_all
theorem Yq {C D:BT}{m n d e:List zH}(h:(C.1,C.2.1,C.2.2.1,C.2.2.2,m,d)=(D.1,D.2.1,D.2.2.1,D.2.2.2,n,e)):C=D∧m=n∧d=e:=by
 grind
theorem Yr {k}(hk:200≤k){B}(hb:qP B){l}(hd:qM l)(hl:∀q∈l,yI B.1.length q)(bV:l.length≤64) t all {X:BT}{mx dx:List zH}
  (hr:uQ k B.1 B.2.1 B.2.2.1 B.2.2.2 l t all=some (X.1,X.2.1,X.2.2.1,X.2.2.2,mx,dx)):jV B X:=by
 obtain⟨C,m,d,f1,f2,f3,f4,f5⟩:=Gu hk hb hd (by omega) t;have q1:=f2.keptC (by omega) hb;have p1:=f2.perm hd;have l1:=p1.length_eq;rw[au] at l1;unfold uQ at hr;rw[f1] at hr;simp only[ae] at hr;cases all with
 |false=>
  grind
 |true=>
  have hm:qM m:=List.Pairwise.sublist f5 hd;have NT:∀q∈m,yI C.1.length q:=fun q hq=>by grind
  obtain⟨D,n,x,g1,g2,g3,g4,g5,g6⟩:=Ym hk f3 hm NT (by omega) t;have q2:=vM5 hk f3 NT (by omega) t g1;have l2:=g5.length_eq;rw[au] at l2;rw[g1] at hr;simp only[ae] at hr;cases x with
  |nil=>
   grind
  |cons p x=>
   have e1:decide ((((p::x).length:Nat):Int)=0)=false:=by grind
   rw[e1] at hr;simp only[ak] at hr;have hn:qM n:=List.Pairwise.sublist g4 hm;obtain⟨E,o,y,k1,k2,k3,k4,k5⟩:=Gu hk g2 hn (by omega) t;have q3:=k2.keptC (by omega) g2;have p3:=k2.perm hn;have l3:=p3.length_eq;rw[au] at l3;have r1:zL (d.length+(p::x).length) 56=true:=by grind
   have r2:zL ((d++(p::x)).length+y.length) 56=true:=by grind
   rw[k1] at hr;simp only[ae,r1,r2,ag] at hr;have sj:some (E.1,E.2.1,E.2.2.1,E.2.2.2,o,d++(p::x)++y)=some (X.1,X.2.1,X.2.2.1,X.2.2.2,mx,dx):=hr;rw[←(Yq (Option.some.inj sj)).1];exact(q1.trans q2).trans q3
theorem vWl {k}(hk:200≤k){B}(hb:qP B){m}(hd:qM m)(hm:∀q∈m,yI B.1.length q)(bV:m.length≤64) t pr ho ids to ov all:
  ∃(C:BT) (m' d:List zH),pF k t B.1 B.2.1 B.2.2.1 B.2.2.2 pr ho m ids to ov all=some (t,C.1,C.2.1,C.2.2.1,C.2.2.2,pr,ho,m',ids,to,ov,yY d)∧
   uQ k B.1 B.2.1 B.2.2.1 B.2.2.2 m t all=some (C.1,C.2.1,C.2.2.1,C.2.2.2,m',d)∧qP C∧jV B C∧List.Sublist m' m∧List.Perm (d++m') m∧eE k C (vV m' t)=none:=by
 obtain⟨C,m',d,f1,f2,f3,f4,f5,f6,f7⟩:=yVk hk hb hd hm bV t all;have hlen:=f5.length_eq;rw[au] at hlen;refine⟨C,m',d,?_,f1,f2,Yr hk hb hd hm bV t all f1,f4,f5,f6⟩;unfold pF;rw[f1];simp;rw[Yn (by omega) (by omega)];rfl
theorem vYz {k}(hk:200≤k){B}(hb:qP B){m}(hd:qM m)(hm:∀q∈m,yI B.1.length q)(bV:m.length≤64) pa (sa:List (Int×Int)) cu cl pe t (ht:0≤t∧t<1099511627776)(Le:pe≠0) pr ho ids to:
  ∃(C:BT) (m':List zH) (ov:Bool) (o:List qY),uR k pa sa cu cl pe t B.1 B.2.1 B.2.2.1 B.2.2.2 pr ho m ids to false=some (t+1,C.1,C.2.1,C.2.2.1,C.2.2.2,pr,ho,m',ids,to,ov,o)∧vQq t cl B C m m' ov o∧jV B C∧(ov=false→eE k C (vV m' (t+1))=none)∧
   ((ov=true∧m'=[]∧o=m.map (wU 22)++iW B B.1.length∧C=B)∨∃l d n,o=l.map (wU 21)++yY d∧List.Perm (l++n) m∧List.Perm (d++m') n∧ov=false):=by
 have gJ:=hb.n6;have w:zA (t+1)=t+1:=zO (by omega) (by omega);unfold uR B2;simp only[w,ak,ae];cases hc:decide (t+1=cl) with
 |true=>
  simp only[ag];rw[yO2 gJ hk (by omega)];simp only[ae];refine⟨B,[],true,_,rfl,⟨hb,rfl,List.nil_sublist m,hc.symm,fun _=>rfl,(fun e=>by cases e),(fun p hp=>by cases hp),fun p hp _=>?_,fun q hq=>?_,?_⟩,jV.refl B,(fun e=>by cases e),.inl ⟨rfl,rfl,rfl,rfl⟩⟩
  ·rw[B1,(Gx (.inr rfl) hd).1 hp,vCa]
  ·rw[B1,(Gx (.inr rfl) hd).2 hq,vCa]
  ·rw[au,List.length_map];unfold iW;rw[List.length_map,List.length_range];simp;omega
 |false=>
  simp only[ak];rw[vDv hk (by omega)];simp only[ae];have hs:∃x,GG k pa sa cu cl pe (t+1)=some x:=by
   unfold GG;cases decide (t+1>0) with
   |false=>exact⟨_,rfl⟩
   |true=>
    cases decide (t+1<cl) with
    |false=>exact⟨_,rfl⟩
    |true=>
     have:decide (pe=0)=false:=ab Le;rw[this];exact⟨_,rfl⟩
  obtain⟨x,hx⟩:=hs;rw[hx];simp only[ae];have cR:List.Sublist (m.filter (fun p=> !vI (t+1) p)) m:=List.filter_sublist;have fa:=cR.length_le;have pv:qM (m.filter (fun p=> !vI (t+1) p)):=List.Pairwise.sublist cR hd;obtain⟨C,m',d,f1,f2,f3,f4,f5,f6,f7⟩:=yVk hk hb pv (fun q hq=>hm q (cR.subset hq)) (by omega) (t+1) x;have hlen:=f5.length_eq;rw[au] at hlen;have hSt:pF k (t+1) B.1 B.2.1 B.2.2.1 B.2.2.2 pr ho (m.filter (fun p=> !vI (t+1) p)) ids to false x=some (t+1,C.1,C.2.1,C.2.2.1,C.2.2.2,pr,ho,m',ids,to,false,yY d):=by
   unfold pF;rw[f1];simp only[ae];rw[Yn (by omega) (by omega)];rfl
  rw[hSt];have ad7:(m.filter (vI (t+1))).length+(m.filter (fun p=> !vI (t+1) p)).length=m.length:=by
   rw[←List.countP_eq_length_filter,←List.countP_eq_length_filter];have:=List.length_eq_countP_add_countP (vI (t+1)) (l:=m);simp only[Bool.not_eq_true,Bool.decide_eq_false] at this;exact this.symm
  have pX:=BZ d;have hr:zL (((m.filter (vI (t+1))).map (wU 21)).length+(yY d).length) 64=true:=qI (by rw[List.length_map];omega) (by rw[List.length_map];omega);simp only[ae,hr,ag];have hdd:qM (d++m'):=pv.perm f5;have uS:qM d:=(List.pairwise_append.1 hdd).1;have hdm:∀p∈d,p∈m.filter (fun p=> !vI (t+1) p):=by grind
  have nA:∀p∈d,yI B.1.length p:=fun p hp=>hm p (cR.subset (hdm p hp))
  have uT:qM (m.filter (vI (t+1))):=hd.filter _;have xU:∀p∈m,vI (t+1) p=false→∀q∈m.filter (vI (t+1)),q.1≠p.1:=by
   intro p hp hl q hq e;have h1:=List.mem_filter.1 hq;have:=hd.eq_of h1.1 hp e;subst this;rw[hl] at h1;exact absurd h1.2 (by simp)
  refine⟨C,m',false,_,rfl,⟨f2,f3,f4.trans cR,hc.symm,(fun e=>by cases e),fun _ p hp=>?_,fun p hp=>?_,fun p hp hn=>?_,fun q hq=>?_,?_⟩,Yr hk hb pv (fun q hq=>hm q (cR.subset hq)) (by omega) (t+1) x f1,(fun _=>f6),.inr ⟨m.filter (vI (t+1)),d,m.filter (fun p=> !vI (t+1) p),rfl,List.filter_append_perm _ _,f5,rfl⟩⟩
  ·have:=(List.mem_filter.1 (f4.subset hp)).2
   simpa using this
  ·have h1:=List.mem_filter.1 (f4.subset hp);have hl:vI (t+1) p=false:=by simpa using h1.2
   rw[B1,(Gx (.inl rfl) uT).2 (xU p h1.1 hl),(P6 uS nA).2 (hdd.not_in (l:=d) hp)]
  ·cases hl:vI (t+1) p with
   |true=>
    have h1:p∈m.filter (vI (t+1)):=List.mem_filter.2 ⟨hp,hl⟩;have h2:∀q∈d,q.1≠p.1:=by
     grind
    rw[B1,(Gx (.inl rfl) uT).1 h1,(P6 uS nA).2 h2]
   |false=>
    have h1:p∈m.filter (fun p=> !vI (t+1) p):=List.mem_filter.2 ⟨hp,by rw[hl];rfl⟩;have h2:p∈d:=by
     rcases List.mem_append.1 (f5.symm.subset h1) with h|h
     ·exact h
     ·exact absurd h hn
    rw[B1,(Gx (.inl rfl) uT).2 (xU p hp hl),(P6 uS nA).1 h2]
  ·rw[B1,(Gx (.inl rfl) uT).2 (by grind),(P6 uS nA).2 (fun p hp=>hq p (cR.subset (hdm p hp)))]
  ·rw[au,List.length_map];simp;omega
abbrev jO:=EQ
abbrev qG:=Int×List pA×Int×Int×Int
abbrev jE:=Int×Int×Int×Int×Int×Int×Int
abbrev vZg:=Int×List pA×Int×Int×Int×Int×List yA×jO×AC×jO×AC×jO×List zH×AC×Int×Bool×Int×List qY
structure zU where
 t:Int
 B:BT
 pr:AC
 ho:jO
 m:List zH
 ids:AC
 to:Int
 ov:Bool
abbrev rq:=Int×List yA×jO×AC×jO×AC×jO×List zH×AC×Int×Bool
def zU.st (s:zU):rq:=(s.t,s.B.1,s.B.2.1,s.B.2.2.1,s.B.2.2.2,s.pr,s.ho,s.m,s.ids,s.to,s.ov)
def dk (r:qG)(s:zU)(who:Int)(l:List qY):vZg:=(r.1,r.2.1,r.2.2.1,r.2.2.2.1,r.2.2.2.2,s.t,s.B.1,s.B.2.1,s.B.2.2.1,s.B.2.2.2,s.pr,s.ho,s.m,s.ids,s.to,s.ov,who,l)
structure vM (r:qG):Prop where
 pa:1≤r.1∧r.1≤6
 n3:r.2.1.length≤3
 price:∀i,i<r.2.1.length→0≤(r.2.1.getD i uL).1∧(r.2.1.getD i uL).1≤1048576
 cut:∀i,i<r.2.1.length→0≤(r.2.1.getD i uL).2∧(r.2.1.getD i uL).2≤10000
 cu:0≤r.2.2.1∧r.2.2.1≤r.2.2.2.1
 cl:1≤r.2.2.2.1∧r.2.2.2.1≤1048576
 pe:1≤r.2.2.2.2∧r.2.2.2.2≤1048576
def pG (m:List zH):Prop:=List.Pairwise (fun p q=>jL p q=true) m
structure kk (n:Nat) (m:List zH) (ids:AC):Prop where
 dist:qM m
 len:m.length≤40
 sort:pG m
 may:∀p∈m,yI n p
 time:∀p∈m,0≤p.2.2.2.2.2.1∧p.2.2.2.2.2.1≤p.2.2.2.2.2.2∧p.2.2.2.2.2.2≤1048576
 were:∀p∈m,p.1∈ids
 asc:uJ ids
 pos:∀x∈ids,1≤x
 idl:ids.length≤200
structure qW (r:qG) (s:zU):Prop where
 tk:0≤s.t∧s.t≤r.2.2.2.1
 bk:qP s.B
 n:(s.B.1.length:Int)=r.1
 hol:s.ho.length=s.B.1.length
 laid:∀i,i<s.B.1.length→kV r.2.1 s.pr (s.ho.getD i [])
 cred:∀i,i<s.B.1.length→(s.B.1.getD i ad).2.1=mv r.2.1 s.pr (s.ho.getD i [])
 most:∀i,i<s.B.1.length→(s.B.1.getD i ad).2.1≤1152921504606846976
 waits:kk s.B.1.length s.m s.ids
 sum:qJ (fun i=>(s.B.1.getD i ad).1) s.B.1.length=s.to
 tot:0≤s.to∧s.to≤1152921504606846976
 over:s.ov=decide (s.t=r.2.2.2.1)
 none:s.ov=true→s.m=[]
theorem nB k a b c:vN k a b c=some (decide (a≥b)&&decide (a≤c)):=by
 unfold vN;grind
theorem nW {α:Type} c (a b:α):(bif c then some a else some b)=some (bif c then a else b):=by grind
def kY (pa t:Int)(p:zH):Bool:=
 decide (p.2.1≥0)&&decide (p.2.1<pa)&&(decide (p.2.2.1≥0)&&decide (p.2.2.1<pa)&&(decide (p.1≥1)&&(decide (p.2.2.2.1≥1)&&(decide (p.2.2.2.1≤1099511627776)&&(decide (p.2.2.2.2.1≥1)&&(!decide (p.2.1=p.2.2.1)&&(decide (p.2.2.2.2.1≤3)&&(decide (p.2.2.2.2.2.1≥0)&&(decide (p.2.2.2.2.2.1≤p.2.2.2.2.2.2)&&(decide (p.2.2.2.2.2.2≥t)&&decide (p.2.2.2.2.2.2≤1048576)))))))))))
theorem Ys k (r:qG) w:Lf k r w=some (decide (w≥0)&&decide (w<r.1)):=by
 unfold Lf;grind
theorem vVe k (r:qG) t (p:zH):P8 k r t p=some (kY r.1 t p):=by
 unfold P8 kY;simp[Ys,nW]
def rr (cu cl t c:Int):Int:=bif decide (t≥cl) then 7 else bif decide (c=3)&&decide (t≥cu) then 7 else 0
theorem yKg k (r:qG) t c:B3 k r t c=some (rr r.2.2.1 r.2.2.2.1 t c):=by
 unfold B3 rr;grind
def nC (r:qG)(t:Int)(p:zH):Int:=bif !kY r.1 t p then 1 else rr r.2.2.1 r.2.2.2.1 t p.2.2.2.2.1
theorem vJ1 k (r:qG) t (p:zH):GH k r t p=some (nC r t p):=by
 unfold GH nC;rw[vVe];simp[yKg];grind
def gj (who:Int)(f:jE):zH:=(f.2.1,who,f.2.2)
def iX (r:qG)(s:zU)(who:Int)(f:jE):Int×List zH×AC:=
 bif !(decide (f.2.2.1≥0)&&decide (f.2.2.1≤r.1-1)) then(1,s.m,s.ids)
 else bif !(decide (f.2.2.2.2.1≥1)&&decide (f.2.2.2.2.1≤3)) then(1,s.m,s.ids)
 else bif !decide (nC r s.t (gj who f)=0) then(nC r s.t (gj who f),s.m,s.ids)
 else bif decide (f.2.1∈s.ids) then(6,s.m,s.ids)
 else bif decide (200≤s.ids.length) then(3,s.m,s.ids)
 else bif (vZ s.m f.2.1).isSome then(6,s.m,s.ids)
 else bif decide (40≤s.m.length) then(3,s.m,s.ids)
 else(0,py s.m (gj who f),qz s.ids f.2.1)
theorem yF0 {k}(hk:1000≤k){r}(hr:vM r){s}(h:kk s.B.1.length s.m s.ids) who l f:
  ∃d,P9 k (dk r s who l) f.2=some ((iX r s who f).1,d)∧((iX r s who f).1=0→d=dk r {s with m:=(iX r s who f).2.1,ids:=(iX r s who f).2.2} who l):=by
 have hp:=hr.pa;have hi:=h.idl;have hm:=h.len;have w1:zA (r.1-1)=r.1-1:=zO (by omega) (by omega);have eD:P9 k (dk r s who l) f.2=(vN k f.2.2.1 0 (zA (r.1-1))).bind fun x0=>
  bif !x0 then some (1,dk r s who l)
  else(vN k f.2.2.2.2.1 1 3).bind fun x1=>
  bif !x1 then some (1,dk r s who l)
  else(GH k r s.t (gj who f)).bind fun x2=>
  bif !(decide (x2=0)) then some (x2,dk r s who l)
  else(FZ k s.ids f.2.1).bind fun x3=>
  bif !(decide (x3.2=0)) then some (x3.2,dk r s who l)
  else(xH k s.m (gj who f)).bind fun x4=>
  bif !(decide (x4.2=0)) then some (x4.2,dk r s who l)
  else some (0,dk r {s with m:=x4.1,ids:=x3.1} who l):=rfl
 rw[eD,nB,nB,vJ1,w1,XS (by omega) (by omega) h.asc,XM (by omega) (by omega) (by unfold qT;omega)];simp only[ae];unfold iX;cases decide (f.2.2.1≥0)&&decide (f.2.2.1≤r.1-1) with
 |false=>exact by simp
 |true=>
 cases decide (f.2.2.2.2.1≥1)&&decide (f.2.2.2.2.1≤3) with
 |false=>exact by simp
 |true=>
 by_cases hc:nC r s.t (gj who f)=0
 ·rw[aa hc];by_cases h1:f.2.1∈s.ids
  ·rw[aa h1];exact by simp
  ·rw[ab h1];by_cases h2:200≤s.ids.length
   ·rw[aa h2];exact by simp
   ·rw[ab h2];have e1:(gj who f).1=f.2.1:=rfl;rw[e1];cases(vZ s.m f.2.1).isSome with
    |true=>exact by simp
    |false=>
     by_cases h3:40≤s.m.length
     ·rw[aa h3];exact by simp
     ·rw[ab h3];exact by simp
 ·rw[ab hc];exact by simp
def ie (who kd a:Int):qY:=(who,kd,a,0,0,0,0,0)
theorem Yt {k l}(hl:l.length≤1000) r s who kd a:uU k (dk r s who l) kd [a]=some (dk r s who (l++[ie who kd a])):=by
 have e:uU k (dk r s who l) kd [a]=bif zL (l.length+1) 64 then some (dk r s who (l++[ie who kd a])) else none:=rfl
 rw[e,qI (by omega) (by omega)];rfl
def kZ (r:qG)(s:zU)(who:Int)(f:jE):Int×List zH×List qY:=match vZ s.m f.2.1 with
 |none=>(4,s.m,[])
 |some x=>
  bif !decide ((s.m.getD x pd).2.1=who) then(4,s.m,[])
  else bif decide (f.1=2) then(0,yF s.m x,[ie who 20 f.2.1])
  else bif decide (f.1 = 4) then (bif !(decide (f.2.2.1≥1)&&decide (f.2.2.1≤3)) then(1,s.m,[])
   else bif !decide (rr r.2.2.1 r.2.2.2.1 s.t f.2.2.1=0) then(rr r.2.2.1 r.2.2.2.1 s.t f.2.2.1,s.m,[])
   else(0,py (yF s.m x) ((s.m.getD x pd).1,(s.m.getD x pd).2.1,(s.m.getD x pd).2.2.1,(s.m.getD x pd).2.2.2.1,f.2.2.1,(s.m.getD x pd).2.2.2.2.2.1,(s.m.getD x pd).2.2.2.2.2.2),[]))
  else bif decide (f.2.2.1=0) then(0,KO (yF s.m x) (s.m.getD x pd),[])
  else bif decide (f.2.2.1=1) then(0,py (yF s.m x) (s.m.getD x pd),[])
  else(1,s.m,[])
theorem yJc {k}(hk:1000≤k){r s}(h:kk s.B.1.length s.m s.ids) who {l}(hl:l.length≤1000)(f:jE):
  ∃d,xV k (dk r s who l) f=some ((kZ r s who f).1,d)∧((kZ r s who f).1=0→d=dk r {s with m:=(kZ r s who f).2.1} who (l++(kZ r s who f).2.2)):=by
 have hm:=h.len;have o0:qT s.m:=by unfold qT;omega
 have eD : xV k (dk r s who l) f = ((oz k s.m f.2.1).bind fun x0=>
   bif decide (x0<0) then some (((0,0,0,0,0,0,0):zH),(4:Int))
   else bif zB x0 s.m.length then (bif !(decide ((s.m.getD x0.toNat (0,0,0,0,0,0,0)).2.1=who)) then some ((0,0,0,0,0,0,0),4)
    else bif zB x0 s.m.length then some ((s.m.getD x0.toNat (0,0,0,0,0,0,0)),0)
    else none)
   else none).bind fun x0=>
  bif !(decide (x0.2=0)) then some (x0.2,dk r s who l)
  else bif decide (f.1 = 2) then ((qy k s.m f.2.1).bind fun x1=>
   (uU k (dk r {s with m:=x1.1} who l) 20 [f.2.1]).bind fun x2=>
   some (x1.2.2.2.2.2.2.2.2,x2))
  else bif decide (f.1 = 4) then ((vN k f.2.2.1 1 3).bind fun x3=>
   bif !x3 then some (1,dk r s who l)
   else(B3 k r s.t f.2.2.1).bind fun x4=>
   bif !(decide (x4=0)) then some (x4,dk r s who l)
   else(FU k s.m f.2.1 f.2.2.1).bind fun x5=>
   some (x5.2,dk r {s with m:=x5.1} who l))
  else bif decide (f.2.2.1 = 0) then ((FX k s.m f.2.1).bind fun x6=>
   some (x6.2,dk r {s with m:=x6.1} who l))
  else bif decide (f.2.2.1 = 1) then ((FV k s.m f.2.1).bind fun x7=>
   some (x7.2,dk r {s with m:=x7.1} who l))
  else some (1,dk r s who l):=rfl
 rw[eD,BL (by omega) (by omega)];unfold kZ ki;cases hx:vZ s.m f.2.1 with
 |none=>exact by simp
 |some x=>
  have dt:=kU hx;have e1:decide ((x:Int)<0)=false:=by simp
  simp only[ae,e1,ak,qC,aa dt.1,ag,ao];by_cases hw:(s.m.getD x (0,0,0,0,0,0,0)).2.1=who
  ·have ph:(s.m.getD x pd).2.1=who:=hw;rw[aa hw];by_cases h2:f.1=2
   ·rw[aa h2];simp only[ag,BN (show s.m.length<k by omega) o0,ae,Yt hl];unfold iE;rw[hx];exact by simp
   ·rw[ab h2];simp only[ak];by_cases h4:f.1=4
    ·rw[aa h4];simp only[ag,nB,ae,yKg,vJ0 (show 3≤k by omega) (by grind) o0 h.dist hm hx];cases decide (f.2.2.1≥1)&&decide (f.2.2.1≤3) with
     |false=>exact by simp
     |true=>
      simp only[aB,ak];by_cases hc:rr r.2.2.1 r.2.2.2.1 s.t f.2.2.1=0
      all_goals simp_all
    ·rw[ab h4];simp only[ak];by_cases h0:f.2.2.1=0
     ·rw[aa h0];simp only[ag,vPv (show 3≤k by omega) (by grind) o0 hx,ae];exact by simp
     ·rw[ab h0];simp only[ak];by_cases h1:f.2.2.1=1
      ·rw[aa h1];simp only[ag,vS9 (show 3≤k by omega) (by grind) o0 h.dist hm hx,ae];exact by simp
      ·rw[ab h1];exact by simp
  ·have ph:¬(s.m.getD x pd).2.1=who:=hw;rw[ab hw];exact by simp
def Yu (s:zU)(a:List yA)(b:jO)(m:AC):zU:={s with B:=(a,b,m,s.B.2.2.2)}
def iY (r:qG)(s:zU)(who:Int)(f:jE):Int×zU:=
 bif decide (f.1 = 5) then (bif !((decide (f.2.1≥0)&&decide (f.2.1≤r.1-1))&& !decide (f.2.1=who)) then(1,s)
  else bif !(decide (f.2.2.1≥-1)&&decide (f.2.2.1≤1152921504606846976)) then(1,s)
  else(0,Yu s s.B.1 (s.B.2.1.set who.toNat ((s.B.2.1.getD who.toNat []).set f.2.1.toNat f.2.2.1)) s.B.2.2.1))
 else bif decide (f.1 = 6) then (bif !(decide (f.2.1≥-1)&&decide (f.2.1≤1152921504606846976)) then(1,s)
  else(0,Yu s s.B.1 s.B.2.1 (s.B.2.2.1.set who.toNat f.2.1)))
 else bif !(decide (f.2.1≥0)&&decide (f.2.1≤1152921504606846976)) then(1,s)
 else(0,Yu s (s.B.1.set who.toNat ((s.B.1.getD who.toNat ad).1,(s.B.1.getD who.toNat ad).2.1,f.2.1)) s.B.2.1 s.B.2.2.1)
theorem vC3 {k}(hk:1000≤k){r}(hr:vM r){s}(hb:qP s.B)(hn:(s.B.1.length:Int)=r.1){who}(hw:0≤who∧who<r.1) l (f:jE):
    ∃d,xW k (dk r s who l) f=some ((iY r s who f).1,d)∧((iY r s who f).1=0→d=dk r (iY r s who f).2 who l):=by
  have hp:=hr.pa;have w1:zA (r.1-1)=r.1-1:=zO (by omega) (by omega);obtain⟨w,rfl⟩:=Int.eq_ofNat_of_zero_le hw.1;have gK:w<s.B.1.length:=by omega
  have eD:xW k (dk r s w l) f=(gI k s.B.1 s.B.2.1 s.B.2.2.1 s.B.2.2.2).bind fun x0=>
    bif decide (f.1 = 5) then (((vN k f.2.1 0 (zA (r.1-1))).bind fun x0=>bif x0 then some (!(decide (f.2.1=(w:Int)))) else some false).bind fun x1=>
      bif !x1 then some (1,dk r s w l)
      else(vN k f.2.2.1 (-1) 1152921504606846976).bind fun x2=>
      bif !x2 then some (1,dk r s w l)
      else bif zB (w : Int) x0.2.1.length then (bif zB f.2.1 (x0.2.1.getD (w:Int).toNat []).length then
        some (0,dk r {s with B:=(x0.1,(x0.2.1.set (w:Int).toNat ((x0.2.1.getD (w:Int).toNat []).set f.2.1.toNat f.2.2.1)),x0.2.2.1,x0.2.2.2)} w l)
       else none)
      else none)
    else bif decide (f.1 = 6) then ((vN k f.2.1 (-1) 1152921504606846976).bind fun x3=>
      bif !x3 then some (1,dk r s w l)
      else bif zB (w:Int) x0.2.2.1.length then some (0,dk r {s with B:=(x0.1,x0.2.1,(x0.2.2.1.set (w:Int).toNat f.2.1),x0.2.2.2)} w l)
      else none)
    else(vN k f.2.1 0 1152921504606846976).bind fun x4=>
    bif !x4 then some (1,dk r s w l)
    else bif zB (w:Int) x0.1.length then some (0,dk r {s with B:=((x0.1.set (w:Int).toNat ((x0.1.getD (w:Int).toNat (0,0,0)).1,(x0.1.getD (w:Int).toNat (0,0,0)).2.1,f.2.1)),x0.2.1,x0.2.2.1,x0.2.2.2)} w l)
    else none:=rfl
  rw[eD,Kf (by omega) hb.toSized,w1];simp only[ae,nB,qC,ao];unfold iY;rw[ao];by_cases h5:f.1=5
  · rw[aa h5];simp only[ag];cases hc:decide (f.2.1≥0)&&decide (f.2.1≤r.1-1) with
    |false=>exact by simp
    |true=>
      simp  at hc;cases decide (f.2.1=(w:Int)) with
      |true=>exact by simp
      |false=>
        cases decide (f.2.2.1≥-1)&&decide (f.2.2.1≤1152921504606846976) with
        |false=>exact by simp
        |true=>
          have b1:decide (w<s.B.2.1.length)=true:=aa (by rw[hb.bl];exact gK);have b2:zB f.2.1 (s.B.2.1.getD w []).length=true:=wV hc.1 (by rw[hb.br w gK];omega);simp only[ag,ae,bG,aB,ak,b1,b2,Bool.and_self];exact⟨_,rfl,fun _=>rfl⟩
  · rw[ab h5];simp only[ak];by_cases h6:f.1=6
    · rw[aa h6];cases decide (f.2.1≥-1)&&decide (f.2.1≤1152921504606846976) with
      |false=>exact by simp
      |true=>
        have b1:decide (w<s.B.2.2.1.length)=true:=aa (by rw[hb.ml];exact gK);simp only[ag,aB,ak,b1];exact⟨_,rfl,fun _=>rfl⟩
    · rw[ab h6];cases decide (f.2.1≥0)&&decide (f.2.1≤1152921504606846976) with
      |false=>exact by simp
      |true=>
        have b1:decide (w<s.B.1.length)=true:=by grind
        simp only[ag,aB,ak,b1];exact⟨_,rfl,fun _=>rfl⟩
def B4 (s:zU)(w:Nat)(h:AC)(n:Int):Int×zU:=
 bif decide (n>1152921504606846976) then(8,s)
 else bif decide (n<(s.B.1.getD w ad).2.1)&&decide ((s.B.1.getD w ad).1+n<0) then(9,s)
 else(0,{s with B:=(s.B.1.set w ((s.B.1.getD w ad).1,n,(s.B.1.getD w ad).2.2),s.B.2.1,s.B.2.2.1,s.B.2.2.2),ho:=s.ho.set w h})
def iZ (r:qG)(s:zU)(who a many:Int):Int×zU:=
 bif !(decide (a≥0)&&decide (a≤(r.2.1.length:Int)-1)) then(1,s)
 else bif !(decide (many≥0)&&decide (many≤1099511627776)) then(1,s)
 else B4 s who.toNat ((s.ho.getD who.toNat []).set a.toNat many) (mv r.2.1 s.pr ((s.ho.getD who.toNat []).set a.toNat many))
theorem kV.set {sa pr h}(L:kV sa pr h){i}(hi:i<sa.length){v}(hv:0≤v∧v≤1099511627776):kV sa pr (h.set i v):=
 ⟨L.n3,L.pl,by rw[List.length_set];exact L.hl,L.cut,L.price,fun j hj=>by
  rw[fQ];split
  ·exact hv
  ·exact L.hold j hj⟩
theorem kV.setP {sa pr h}(L:kV sa pr h){i}(hi:i<sa.length){v}(hv:0≤v∧v≤1048576):kV sa (pr.set i v) h:=
 ⟨L.n3,by rw[List.length_set];exact L.pl,L.hl,L.cut,fun j hj=>by
  rw[fQ];split
  ·exact hv
  ·exact L.price j hj,L.hold⟩
theorem Yv {k}{l:jO}(hl:l.length≤1000):GI k l=some l:=by
 unfold GI;rw[qI (by omega) (by omega)];rfl
theorem vCq {k}(hk:1000≤k){r}(hr:vM r){s}(h:qW r s){who}(hw:0≤who∧who<r.1) l a many:
    ∃d,Qa k (dk r s who l) a many=some ((iZ r s who a many).1,d)∧((iZ r s who a many).1=0→d=dk r (iZ r s who a many).2 who l):=by
  have hp:=hr.pa;have h3:=hr.n3;have hn:=h.n;have gJ:=h.bk.n6;have hol:=h.hol;have w1:zA ((r.2.1.length:Int)-1)=(r.2.1.length:Int)-1:=zO (by omega) (by omega);obtain⟨w,rfl⟩:=Int.eq_ofNat_of_zero_le hw.1;have gK:w<s.B.1.length:=by omega
  have eD:Qa k (dk r s w l) a many=((vN k a 0 (zA ((r.2.1.length:Int)-1))).bind fun x0=>some x0).bind fun x0=>
    bif !x0 then some (1,dk r s w l)
    else(vN k many 0 1099511627776).bind fun x1=>
    bif !x1 then some (1,dk r s w l)
    else(GI k s.ho).bind fun x2=>
    bif zB (w : Int) x2.length then ((rf k (x2.getD (w:Int).toNat []) a many).bind fun x3=>
      bif zB (w:Int) x2.length then(
       bif zB (w : Int) (x2.set (w : Int).toNat x3).length then ((sZ k r.2.1 s.pr ((x2.set (w:Int).toNat x3).getD (w:Int).toNat [])).bind fun x4=>
        bif zB (w : Int) s.B.1.length then (bif !x4.2 then some (8,dk r s w l)
         else bif decide (x4.1>1152921504606846976) then some (8,dk r s w l)
         else bif decide (x4.1 < (s.B.1.getD (w : Int).toNat (0, 0, 0)).2.1) then (bif decide ((zA ((s.B.1.getD (w:Int).toNat (0,0,0)).1+x4.1))<0) then some (9,dk r s w l)
          else(gI k s.B.1 s.B.2.1 s.B.2.2.1 s.B.2.2.2).bind fun x5=>
          bif zB (w:Int) x5.1.length then
           some (0,dk r {s with B:=((x5.1.set (w:Int).toNat ((x5.1.getD (w:Int).toNat (0,0,0)).1,x4.1,(x5.1.getD (w:Int).toNat (0,0,0)).2.2)),x5.2.1,x5.2.2.1,x5.2.2.2),ho:=x2.set (w:Int).toNat x3} w l)
          else none)
         else(gI k s.B.1 s.B.2.1 s.B.2.2.1 s.B.2.2.2).bind fun x6=>
         bif zB (w:Int) x6.1.length then
          some (0,dk r {s with B:=((x6.1.set (w:Int).toNat ((x6.1.getD (w:Int).toNat (0,0,0)).1,x4.1,(x6.1.getD (w:Int).toNat (0,0,0)).2.2)),x6.2.1,x6.2.2.1,x6.2.2.2),ho:=x2.set (w:Int).toNat x3} w l)
         else none)
        else none)
       else none)
      else none)
    else none:=rfl
  rw[eD,w1,nB,nB,Kf (by omega) h.bk.toSized,Yv (by omega)];simp only[ae,qC,ao];unfold iZ;simp only[ao];cases hc:decide (a≥0)&&decide (a≤(r.2.1.length:Int)-1) with
  |false=>exact by simp
  |true=>
  simp only[bc,aX] at hc;cases hm:decide (many≥0)&&decide (many≤1099511627776) with
  |false=>exact by simp
  |true=>
  obtain⟨i,rfl⟩:=Int.eq_ofNat_of_zero_le hc.1;have hi:i<r.2.1.length:=by omega
  have L:=h.laid w gK;have L2:=L.set hi (v:=many) (by grind);have b1:decide (w<s.ho.length)=true:=by grind
  have b2:decide (w<s.B.1.length)=true:=aa gK;have mz:rf k (s.ho.getD w []) (i:Int) many=some ((s.ho.getD w []).set i many):=by
    have:=yUv (k:=k) (l:=s.ho.getD w []) (by rw[L.hl];omega) (i:=(i:Int)) (by omega) (by rw[L.hl];omega) many;simp_all
  have Lg:(s.ho.set w ((s.ho.getD w []).set i many)).getD w []=(s.ho.getD w []).set i many:=by
    rw[fQ,if_pos ⟨rfl,by omega⟩]
  have hv:=XX (k:=k) L2 (by omega);have hb:=h.bk.nums.bal w gK;have AU:=F6 L2;simp only[aB,ak,b1,ag,mz,ae,List.length_set,Lg,hv,b2,ao];clear hv L2 Lg eD;generalize mv r.2.1 s.pr ((s.ho.getD w []).set i many)=n at AU⊢;unfold B4;cases Yw:decide (n>1152921504606846976) with
  |true=>exact by simp
  |false=>
    have h8:¬n>1152921504606846976:=gh Yw;have w2:zA ((s.B.1.getD w (0,0,0)).1+n)=(s.B.1.getD w (0,0,0)).1+n:=zO (by have:=hb.1;simp only[ad] at this;omega) (by have:=hb.2;simp only[ad] at this;omega);simp only[w2,ak];cases decide (n<(s.B.1.getD w (0,0,0)).2.1) with
    |false=>exact by simp
    |true=>
      cases decide ((s.B.1.getD w (0,0,0)).1+n<0) with
      |true=>exact by simp
      |false=>exact by simp
def wZ (a:yA)(n:Int):yA×Int:=bif fk (a.1+n,a.2.1,a.2.2) then((a.1+n,a.2.1,a.2.2),0) else(a,8)
theorem yWe {k}{a:yA}(ha:-4611686018427387904<a.1∧a.1<4611686018427387904){n}(hn:-1099511627776≤n∧n≤1099511627776):Lh k a n=some (wZ a n):=by
 have aek:Qb k a.1 n=some (a.1+n,true):=by
  unfold Qb;have w1:n>0→zA (9223372036854775807-n)=9223372036854775807-n:=fun h=>zO (by omega) (by omega)
  have w2:n<0→zA (-9223372036854775808-n)= -9223372036854775808-n:=fun h=>zO (by omega) (by omega)
  have w3:zA (a.1+n)=a.1+n:=zO (by omega) (by omega);grind
 unfold Lh wZ;simp[yM0];grind
abbrev la:=Int×jE
theorem vT4 k kd:∃n,ux k kd=some n∧-1≤n∧n≤6:=by
 have c:∀(b:Bool) (x y:Option Int),(∃n,x=some n∧-1≤n∧n≤6)→(∃n,y=some n∧-1≤n∧n≤6)→∃n,(bif b then x else y)=some n∧-1≤n∧n≤6:=by
  simp_all
 iterate 23 (refine c _ _ _ (by simp) ?_)
 simp
theorem yY4 {k}{s:AC}(hs:s.length≤6):∀n i,s.length<i+n→i≤s.length→∃x,mA k n s (s.length:Int) (i:Int)=some x
 |0,i,h,g=>by omega
 |n+1,i,h,g=>by
  show∃x,lI k (mA k n) s (s.length:Int) (i:Int)=some x;unfold lI;by_cases hi:i<s.length
  ·simp only[qU,aa hi,qC,ao];cases decide (s.getD i 0=0) with
   |false=>simp
   |true=>
    rw[qD hi (by omega)];exact yY4 hs n (i+1) (by omega) hi
  ·simp only[qU,ab hi];simp
theorem yMo {k}(hk:10≤k)(f:jE):∃b,lJ k f=some b:=by
 unfold lJ;obtain⟨n,h1,h2,h3⟩:=vT4 k f.1;rw[h1];simp;by_cases h0:n<0
 ·simp_all
 ·rw[ab h0,aa (by grind),aa h3];have hl:(qR [f.2.1,f.2.2.1,f.2.2.2.1,f.2.2.2.2.1,f.2.2.2.2.2.1,f.2.2.2.2.2.2] n.toNat (6-n.toNat)).length≤6:=by
   unfold qR;simp
  obtain⟨x,hx⟩:=yY4 (k:=k) hl k 0 (by omega) (by simp);rw[show((0:Nat):Int)=0 from rfl] at hx;rw[hx];cases x<;>exact by simp
theorem Yx k a:Qc k a=some (decide (a≥10)&&decide (a≤14)):=by
 unfold Qc;grind
theorem Yy k a:Lj k a=some (decide (a≥1)&&decide (a≤14)):=by
 unfold Lj;grind
def yYx (A B C D E F G b o:Bool):Int:=
 bif !(D&&C) then 5 else bif !b then 5 else bif B&&C then(bif !E then 5 else bif o&& !G then 7 else 0) else bif !(A&&F) then 5 else bif o&& !G then 7 else 0
theorem vXb:∀{A B C D E F G b o},yYx A B C D E F G b o=0→(D&&C&&((B&&E)||(!B&&A&&F))&&(!o||G))=true:=by
 intro A B C D E F G b o h;cases A<;>cases B<;>cases C<;>cases D<;>cases E<;>cases F<;>cases G<;>cases b<;>cases o<;>first|rfl|exact absurd h (by decide)
theorem vKr {k}(hk:10≤k)(r:qG)(s:zU)(c:la):∃b,uV k r s.st c=some (yYx (decide (c.1≥0)) (decide (c.2.1≥10)) (decide (c.2.1≤14)) (decide (c.2.1≥1)) (decide (c.1= -1)) (decide (c.1<r.1)) (decide (c.2.1=9)) b s.ov):=by
 unfold uV;rw[Yx,Yy];obtain⟨b,hb⟩:=yMo hk c.2;rw[hb];have eo:s.st.2.2.2.2.2.2.2.2.2.2=s.ov:=rfl;rw[eo];refine⟨b,?_⟩;generalize decide (c.1≥0)=A;generalize decide (c.2.1≥10)=B;generalize decide (c.2.1≤14)=C;generalize decide (c.2.1≥1)=D;generalize decide (c.1= -1)=E;generalize decide (c.1<r.1)=F;generalize decide (c.2.1=9)=G;generalize s.ov=o;cases A<;>cases B<;>cases C<;>cases D<;>cases E<;>cases F<;>cases G<;>cases b<;>cases o<;>rfl
theorem yGg {k}(hk:10≤k)(r:qG)(s:zU)(c:la):∃e,uV k r s.st c=some e∧
  (e=0→((10≤c.2.1∧c.2.1≤14∧c.1= -1)∨(1≤c.2.1∧c.2.1≤9∧0≤c.1∧c.1<r.1))∧(s.ov=true→c.2.1=9)):=by
 obtain⟨b,hb⟩:=vKr hk r s c;refine⟨_,hb,fun e=>?_⟩;have:=vXb e;grind
def vS (f:jE):AC:=[f.2.1,f.2.2.1,f.2.2.2.1,f.2.2.2.2.1,f.2.2.2.2.2.1,f.2.2.2.2.2.2]
theorem yZt {k:Nat}{s:AC}:∀(n i:Nat),s.length≤6→mA k n s (s.length:Int) (i:Int)=some (.inl ())→∀j,i≤j→j<s.length→s.getD j 0=0
 |0,i,_,h,_,_,_=>by cases h
 |n+1,i,h6,h,j,h1,h2=>by
  have h:lI k (mA k n) s (s.length:Int) (i:Int)=some (.inl ()):=h;unfold lI at h;have hi:i<s.length:=by omega
  rw[aa (show(i:Int)<s.length by omega),qC,aa hi,ao] at h;simp only[ag] at h;cases hz:decide (s.getD i 0=0) with
  |false=>rw[hz] at h;cases h
  |true=>
   rw[hz] at h;simp only[aB,ak] at h;rw[qD hi (by omega)] at h;by_cases e:j=i
   ·subst e;exact JM hz
   ·exact yZt n (i+1) h6 h j (by omega) h2
theorem vIg {k:Nat}{f:jE}(h:lJ k f=some true):0≤vE f.1∧∀j,(vE f.1).toNat≤j→j<6→(vS f).getD j 0=0:=by
 unfold lJ at h;rw[OC,ae] at h;have hm:=OE f.1;by_cases h0:vE f.1<0
 ·rw[aa h0] at h;cases h
 ·rw[ab h0,aa (show(0:Int)≤vE f.1 by omega),aa hm] at h;simp only[ak,Bool.and_self,ag] at h;refine⟨by omega,fun j h1 h2=>?_⟩;have hs:qR [f.2.1,f.2.2.1,f.2.2.2.1,f.2.2.2.2.1,f.2.2.2.2.2.1,f.2.2.2.2.2.2] (vE f.1).toNat (6-(vE f.1).toNat)=(vS f).drop (vE f.1).toNat:=by
   unfold qR;show List.take _ ((vS f).drop _)=_;exact List.take_of_length_le (by rw[List.length_drop];show 6-_≤_;omega)
  rw[hs] at h;have hl:((vS f).drop (vE f.1).toNat).length=6-(vE f.1).toNat:=by rw[List.length_drop];rfl
  cases hz:mA k k ((vS f).drop (vE f.1).toNat) (((vS f).drop (vE f.1).toNat).length:Int) 0 with
  |none=>rw[hz] at h;cases h
  |some z=>
   rw[hz] at h;cases z with
   |inr b=>
    exfalso;have key:∀(n i:Nat) (b:Bool),mA k n ((vS f).drop (vE f.1).toNat) (((vS f).drop (vE f.1).toNat).length:Int) (i:Int)=some (.inr b)→i≤6→b=false:=by
     intro n
     induction n with
     |zero=>intro i b h;cases h
     |succ n ih=>
      intro i b h h6;have h:lI k (mA k n) _ _ _=some (.inr b):=h;unfold lI at h;by_cases hi:i<((vS f).drop (vE f.1).toNat).length
      ·rw[aa (by omega),qC,aa hi] at h;simp only[ag] at h;cases hz:decide (((vS f).drop (vE f.1).toNat).getD (i:Int).toNat 0=0) with
       |false=>rw[hz] at h;cases h;rfl
       |true=>
        rw[hz] at h;simp only[aB,ak] at h;rw[qD hi (by omega)] at h;exact ih (i+1) b h (by omega)
      ·rw[ab (by omega)] at h;cases h
    have:=key k 0 b hz (by omega);subst this;cases h
   |inl u=>
    have:=yZt (k:=k) k 0 (by omega) hz (j-(vE f.1).toNat) (Nat.zero_le _) (by omega);rw[bL,List.getElem?_drop] at this;rw[bL,←this]
    congr 2
    omega
theorem Yz {k:Nat}(hk:1000≤k){w:Int}{f:jE}(hi:lJ k f=some true)(hw:-9223372036854775808≤w∧w<9223372036854775808)(hf:pt (vS f)):
  ∃b,Qd k (w,f)=some b∧tg k b=some ((w,f),0)∧b.length≤57:=by
 obtain⟨h0,hz⟩:=vIg hi;have hm:=OE f.1;have Bo:0≤f.1∧f.1<24:=by
  unfold vE at h0;split at h0
  ·assumption
  ·omega
 obtain⟨n,hn⟩:∃n:Nat,vE f.1=n:=⟨(vE f.1).toNat,by omega⟩;have fa:qR [f.2.1,f.2.2.1,f.2.2.2.1,f.2.2.2.2.1,f.2.2.2.2.2.1,f.2.2.2.2.2.2] 0 (n-0)=(vS f).take n:=by
  unfold qR;show List.take (n-0) ((vS f).drop 0)=_;rw[List.drop_zero,Nat.sub_zero]
 have Qe:((vS f).take n).length=n:=by rw[bQ];show min n 6=n;omega
 have bV:pt ((vS f).take n):=fun x hx=>hf x (List.mem_of_mem_take hx)
 have qq:=iU ((vS f).take n);have NS:=iU [w];refine⟨yB w++([IntKind.wrap .u8 f.1]++yN ((vS f).take n)),?_,?_,?_⟩
 ·unfold Qd YA;dsimp only;rw[hi];simp only[ae,aB,ak];rw[OC,hn];simp only[ae];rw[aa (show(0:Int)≤(n:Int) by omega),aa (show(n:Int)≤6 by omega),ao,fa];simp only[Bool.and_self,ag];rw[JR (by omega) _ (by omega) (by omega)];simp only[ae];rw[qI (by omega) (by omega)];simp only[ag,ae];rw[ab (by rw[au];simp;omega)];simp only[ak];rw[JR (by omega) [w] (by simp) (by simp;omega)];simp only[ae];simp only[List.length_singleton] at NS;rw[qI (by rw[au,List.length_singleton];omega) (by rw[au,List.length_singleton];omega)];simp only[ag];rw[show yN [w]=yB w by simp[yN]]
 ·unfold tg;have hlen:(yB w++([IntKind.wrap .u8 f.1]++yN ((vS f).take n))).length=9+8*n:=by
   rw[au,au,qq,Qe];show 8+(1+8*n)=_;omega
  have ht:List.take 8 (yB w++([IntKind.wrap .u8 f.1]++yN ((vS f).take n)))=yB w:=rfl;have hd:List.drop 8 (yB w++([IntKind.wrap .u8 f.1]++yN ((vS f).take n)))=[IntKind.wrap .u8 f.1]++yN ((vS f).take n):=rfl;have ng:([IntKind.wrap .u8 f.1]++yN ((vS f).take n)).length=1+8*n:=by rw[au,qq,Qe];rfl
  have hu8:IntKind.wrap .u8 f.1=f.1:=by rw[OI];omega
  have hw8:zA f.1=f.1:=zO (by omega) (by omega);have fm:kT ([IntKind.wrap .u8 f.1]++yN ((vS f).take n))=(f,0):=by
   unfold kT;have e1:List.drop 1 ([IntKind.wrap .u8 f.1]++yN ((vS f).take n))=yN ((vS f).take n):=rfl;have e2:([IntKind.wrap .u8 f.1]++yN ((vS f).take n)).getD 0 0=f.1:=hu8;rw[if_neg (by simp),e1,e2,hw8,Ww bV];simp only[];rw[if_neg (fun h=>h.elim (fun e=>e rfl) fun e=>e (by rw[Qe,hn]))];have g:∀j,j<6→((vS f).take n).getD j 0=(vS f).getD j 0:=fun j hj=>by
    by_cases h:j<n
    ·rw[bL,bL,List.getElem?_take_of_lt h]
    ·rw[hz j (by omega) hj,bL,List.getElem?_eq_none (by omega)];rfl
   rw[g 0 (by omega),g 1 (by omega),g 2 (by omega),g 3 (by omega),g 4 (by omega),g 5 (by omega)];rfl
  rw[ab (by omega),aa (by omega),ht,Wx (by omega) hw,hd,yJv (by omega) (by omega) (by omega),fm];simp only[ak,ag,ae,decide_true,aB,List.getD_cons_zero];rfl
 ·rw[au,au,qq,Qe];show 8+(1+8*n)≤57;omega
theorem vVn {k:Nat}(hk:10≤k){f:jE}(h0:0≤vE f.1)(hz:∀j,(vE f.1).toNat≤j→j<6→(vS f).getD j 0=0):lJ k f=some true:=by
 have hm:=OE f.1;unfold lJ;rw[OC,ae,ab (by omega),aa (show(0:Int)≤vE f.1 by omega),aa hm];simp only[ak,Bool.and_self,ag];have hs:qR [f.2.1,f.2.2.1,f.2.2.2.1,f.2.2.2.2.1,f.2.2.2.2.2.1,f.2.2.2.2.2.2] (vE f.1).toNat (6-(vE f.1).toNat)=(vS f).drop (vE f.1).toNat:=by
  unfold qR;show List.take _ ((vS f).drop _)=_;exact List.take_of_length_le (by rw[List.length_drop];show 6-_≤_;omega)
 rw[hs];have hl:((vS f).drop (vE f.1).toNat).length=6-(vE f.1).toNat:=by rw[List.length_drop];rfl
 have hg:∀i,i<((vS f).drop (vE f.1).toNat).length→((vS f).drop (vE f.1).toNat).getD i 0=0:=fun i hi=>by
  have:=hz ((vE f.1).toNat+i) (by omega) (by omega);rw[bL] at this;rw[bL,List.getElem?_drop];exact this
 generalize (vS f).drop (vE f.1).toNat=s at hl hg⊢;have := mo (L := fun n i => mA k n s (s.length : Int) i) (N := s.length) (fun _ => true) (.inl ()) (.inr false) (fun n=>by
  show lI k _ s (s.length:Int) (s.length:Int)=_;unfold lI;rw[ab (Int.lt_irrefl _)];rfl) (fun n i hi=>by
  show lI k _ s (s.length:Int) (i:Int)=_;unfold lI;rw[aa (show(i:Int)<s.length by omega),qC,aa hi,ao,hg i hi,qD hi (by omega)];rfl) (n:=k) (by omega)
 rw[show qH (fun _=>true) s.length 0=true from gH.2 fun _ _=>rfl] at this;exact(congrArg (fun z=>Option.bind z _) this).trans rfl
theorem yEl:∀(n:Nat) (b:AC),pt (iT n b)
 |0,_=>fun x hx=>absurd hx List.not_mem_nil
 |n+1,b=>fun x hx=>by
  have hx:x∈sS (b.take 8)::iT n (b.drop 8):=hx;rcases List.mem_cons.1 hx with rfl|hx
  ·unfold sS;exact⟨vJ7 _,Wk _⟩
  ·exact yEl n _ x hx
theorem YB {k:Nat}(hk:10≤k){b:AC}(h:(kT b).2=0):lJ k (kT b).1=some true∧pt (vS (kT b).1):=by
 unfold kT at h⊢;by_cases h1:b=[]
 ·rw[if_pos h1] at h;cases h
 ·rw[if_neg h1] at h⊢;by_cases h2:(fR (b.drop 1)).2≠0∨((fR (b.drop 1)).1.length:Int)≠vE (zA (b.getD 0 0))
  ·rw[if_pos h2] at h;cases h
  ·rw[if_neg h2];have h3:((fR (b.drop 1)).1.length:Int)=vE (zA (b.getD 0 0)):=Decidable.byContradiction fun e=>h2 (.inr e)
   have h4:pt (fR (b.drop 1)).1:=by
    unfold fR;split
    ·exact yEl _ _
    ·exact fun x hx=>absurd hx List.not_mem_nil
   generalize (fR (b.drop 1)).1=l at h3 h4;have hg:∀j,j<6→(vS (zA (b.getD 0 0),l.getD 0 0,l.getD 1 0,l.getD 2 0,l.getD 3 0,l.getD 4 0,l.getD 5 0)).getD j 0=l.getD j 0:=fun j hj=>by
    have:j=0∨j=1∨j=2∨j=3∨j=4∨j=5:=by omega
    rcases this with rfl|rfl|rfl|rfl|rfl|rfl<;>rfl
   refine⟨vVn hk (by show 0≤vE (zA (b.getD 0 0));omega) (fun j h5 h6=>?_),fun x hx=>?_⟩
   ·have h5:(vE (zA (b.getD 0 0))).toNat≤j:=h5;rw[hg j h6,bL,List.getElem?_eq_none (by omega)];rfl
   ·obtain⟨j,hj,rfl⟩:=List.mem_iff_getElem.1 hx;have hj6:j<6:=hj;have:=hg j hj6;rw[bL,List.getElem?_eq_getElem hj] at this;have:(vS (zA (b.getD 0 0),l.getD 0 0,l.getD 1 0,l.getD 2 0,l.getD 3 0,l.getD 4 0,l.getD 5 0))[j]=l.getD j 0:=this;show-9223372036854775808≤(vS (zA (b.getD 0 0),l.getD 0 0,l.getD 1 0,l.getD 2 0,l.getD 3 0,l.getD 4 0,l.getD 5 0))[j]∧(vS (zA (b.getD 0 0),l.getD 0 0,l.getD 1 0,l.getD 2 0,l.getD 3 0,l.getD 4 0,l.getD 5 0))[j]<9223372036854775808;rw[this];by_cases sr:j<l.length
    ·rw[bL,List.getElem?_eq_getElem sr];exact h4 _ (List.getElem_mem sr)
    ·rw[bL,List.getElem?_eq_none (by omega)];show(-9223372036854775808:Int)≤0∧(0:Int)<9223372036854775808;omega
theorem YC x (s:Nat)(h:s≤62):shr .i64 x (s:Int)=x/2^s:=by
 have e:shr .i64 x (s:Int)=x.fdiv (2^(min (s:Int).toNat 64)):=rfl;grind
theorem tj x:shr .i64 x 16=x/65536:=YC x 16 (by decide)
theorem yGl x:shr .i64 x 32=x/4294967296:=YC x 32 (by decide)
theorem yDj x:shr .i64 x 48=x/281474976710656:=YC x 48 (by decide)
theorem YD x:shr .i64 x 0=x:=by grind
theorem uW x:yM .i64 x 65535=x%65536:=Wo 16 (by decide) x
theorem YE m (hm:m≤62){x y}(hx:0≤x)(hy:0≤y∧y<2^m)(hs:x*2^m+y<9223372036854775808):wG .i64 (x*2^m) y=x*2^m+y:=by
 obtain⟨a,rfl⟩:=Int.eq_ofNat_of_zero_le hx;obtain⟨b,rfl⟩:=Int.eq_ofNat_of_zero_le hy.1;have hp:(2:Int)^m=((2^m:Nat):Int):=by simp
 rw[hp] at hs hy⊢;have e1:(a:Int)*((2^m:Nat):Int)=((a*2^m:Nat):Int):=by simp
 rw[e1] at hs⊢;have hb:b<2^m:=by omega
 unfold wG tE;have Lk:IntKind.i64.bits=64:=rfl;have e2:(BitVec.ofInt IntKind.i64.bits ((a*2^m:Nat):Int)|||BitVec.ofInt IntKind.i64.bits (b:Int)).toNat=a*2^m+b:=by
  rw[BitVec.toNat_or,BitVec.ofInt_natCast,BitVec.ofInt_natCast,BitVec.toNat_ofNat,BitVec.toNat_ofNat,Lk,Nat.mod_eq_of_lt (by omega),Nat.mod_eq_of_lt (by omega)];have:=Nat.shiftLeft_add_eq_or_of_lt hb a;rw[Nat.shiftLeft_eq] at this;exact this.symm
 rw[e2];exact zO (by omega) (by omega)
def V9 (l0 l1 l2 l3 l4 l5 l6 l7 l8:Int):Int:=l0+65536*(l1+65536*(l2+65536*(l3+65536*(l4+65536*(l5+65536*(l6+65536*(l7+65536*l8)))))))
theorem vSk (l0 l1 l2 l3 l4 l5 l6 l7 l8:Int){c1 c2 c3 c4 c5 c6 c7 c8:Int}(h1:c1=zA (l1+shr .i64 l0 16))(h2:c2=zA (l2+shr .i64 c1 16))(h3:c3=zA (l3+shr .i64 c2 16))(h4:c4=zA (l4+shr .i64 c3 16))(h5:c5=zA (l5+shr .i64 c4 16))(h6:c6=zA (l6+shr .i64 c5 16))(h7:c7=zA (l7+shr .i64 c6 16))(h8:c8=zA (l8+shr .i64 c7 16)):
  GJ 1000 [l0,l1,l2,l3,l4,l5,l6,l7,l8]=some [yM .i64 l0 65535,yM .i64 c1 65535,yM .i64 c2 65535,yM .i64 c3 65535,yM .i64 c4 65535,yM .i64 c5 65535,yM .i64 c6 65535,yM .i64 c7 65535,c8]:=by
 subst h8;subst h7;subst h6;subst h5;subst h4;subst h3;subst h2;subst h1
 kernel_rfl
theorem yNs {l0 l1 l2 l3 l4 l5 l6 l7 l8:Int}(g0:0≤l0∧l0≤1099511627776)(g1:0≤l1∧l1≤1099511627776)(g2:0≤l2∧l2≤1099511627776)(g3:0≤l3∧l3≤1099511627776)(g4:0≤l4∧l4≤1099511627776)(g5:0≤l5∧l5≤1099511627776)(g6:0≤l6∧l6≤1099511627776)(g7:0≤l7∧l7≤1099511627776)(g8:0≤l8∧l8≤1099511627776):∃d0 d1 d2 d3 d4 d5 d6 d7 d8,
  GJ 1000 [l0,l1,l2,l3,l4,l5,l6,l7,l8]=some [d0,d1,d2,d3,d4,d5,d6,d7,d8]∧V9 d0 d1 d2 d3 d4 d5 d6 d7 d8=V9 l0 l1 l2 l3 l4 l5 l6 l7 l8∧(0≤d0∧d0<65536)∧(0≤d1∧d1<65536)∧(0≤d2∧d2<65536)∧(0≤d3∧d3<65536)∧(0≤d4∧d4<65536)∧(0≤d5∧d5<65536)∧(0≤d6∧d6<65536)∧(0≤d7∧d7<65536)∧0≤d8:=by
 obtain⟨c1,oe⟩:∃c,c=l1+l0/65536:=⟨_,rfl⟩;have b1:0≤c1∧c1≤2199023255552:=by omega
 have h1:c1=zA (l1+shr .i64 l0 16):=by rw[tj,←oe,zO (by omega) (by omega)]
 obtain⟨c2,cQ⟩:∃c,c=l2+c1/65536:=⟨_,rfl⟩;have b2:0≤c2∧c2≤2199023255552:=by omega
 have h2:c2=zA (l2+shr .i64 c1 16):=by rw[tj,←cQ,zO (by omega) (by omega)]
 obtain⟨c3,dL⟩:∃c,c=l3+c2/65536:=⟨_,rfl⟩;have b3:0≤c3∧c3≤2199023255552:=by omega
 have h3:c3=zA (l3+shr .i64 c2 16):=by rw[tj,←dL,zO (by omega) (by omega)]
 obtain⟨c4,gY⟩:∃c,c=l4+c3/65536:=⟨_,rfl⟩;have b4:0≤c4∧c4≤2199023255552:=by omega
 have h4:c4=zA (l4+shr .i64 c3 16):=by rw[tj,←gY,zO (by omega) (by omega)]
 obtain⟨c5,nn⟩:∃c,c=l5+c4/65536:=⟨_,rfl⟩;have b5:0≤c5∧c5≤2199023255552:=by omega
 have h5:c5=zA (l5+shr .i64 c4 16):=by rw[tj,←nn,zO (by omega) (by omega)]
 obtain⟨c6,Ej⟩:∃c,c=l6+c5/65536:=⟨_,rfl⟩;have b6:0≤c6∧c6≤2199023255552:=by omega
 have h6:c6=zA (l6+shr .i64 c5 16):=by rw[tj,←Ej,zO (by omega) (by omega)]
 obtain⟨c7,Ek⟩:∃c,c=l7+c6/65536:=⟨_,rfl⟩;have b7:0≤c7∧c7≤2199023255552:=by omega
 have h7:c7=zA (l7+shr .i64 c6 16):=by rw[tj,←Ek,zO (by omega) (by omega)]
 obtain⟨c8,hc8⟩:∃c,c=l8+c7/65536:=⟨_,rfl⟩;have b8:0≤c8∧c8≤2199023255552:=by omega
 have h8:c8=zA (l8+shr .i64 c7 16):=by rw[tj,←hc8,zO (by omega) (by omega)]
 have run:=vSk l0 l1 l2 l3 l4 l5 l6 l7 l8 h1 h2 h3 h4 h5 h6 h7 h8;simp only[uW] at run;refine⟨_,_,_,_,_,_,_,_,_,run,?_,⟨Int.emod_nonneg _ (by decide),Int.emod_lt_of_pos _ (by decide)⟩,⟨Int.emod_nonneg _ (by decide),Int.emod_lt_of_pos _ (by decide)⟩,⟨Int.emod_nonneg _ (by decide),Int.emod_lt_of_pos _ (by decide)⟩,⟨Int.emod_nonneg _ (by decide),Int.emod_lt_of_pos _ (by decide)⟩,⟨Int.emod_nonneg _ (by decide),Int.emod_lt_of_pos _ (by decide)⟩,⟨Int.emod_nonneg _ (by decide),Int.emod_lt_of_pos _ (by decide)⟩,⟨Int.emod_nonneg _ (by decide),Int.emod_lt_of_pos _ (by decide)⟩,⟨Int.emod_nonneg _ (by decide),Int.emod_lt_of_pos _ (by decide)⟩,b8.1⟩;unfold V9;clear run h1 h2 h3 h4 h5 h6 h7 h8;omega
theorem vUa l0 l1 l2 l3 l4 l5 l6 l7 l8 n:Qf 1000 [l0,l1,l2,l3,l4,l5,l6,l7,l8] n=GJ 1000 [zA (l0*n),zA (l1*n),zA (l2*n),zA (l3*n),zA (l4*n),zA (l5*n),zA (l6*n),zA (l7*n),zA (l8*n)]:=by
 have e:Qg 1000 1000 n 0 [l0,l1,l2,l3,l4,l5,l6,l7,l8]=some [zA (l0*n),zA (l1*n),zA (l2*n),zA (l3*n),zA (l4*n),zA (l5*n),zA (l6*n),zA (l7*n),zA (l8*n)]:=by kernel_rfl
 unfold Qf;simp_all
theorem YF l0 l1 l2 l3 l4 l5 l6 l7 l8 n:V9 l0 l1 l2 l3 l4 l5 l6 l7 l8*n=V9 (l0*n) (l1*n) (l2*n) (l3*n) (l4*n) (l5*n) (l6*n) (l7*n) (l8*n):=by
 unfold V9;grind
theorem vPn l0 l1 l2 l3 l4 l5 l6 l7 l8 {x0 x1 x2 x3 x4 x5 x6 x7 x8 r0 r1 r2 r3 r4 r5 r6 r7 r8 r9}(h8:x8=zA (shl .i64 r9 16+l8))(h7:x7=zA (shl .i64 r8 16+l7))(h6:x6=zA (shl .i64 r7 16+l6))(h5:x5=zA (shl .i64 r6 16+l5))(h4:x4=zA (shl .i64 r5 16+l4))(h3:x3=zA (shl .i64 r4 16+l3))(h2:x2=zA (shl .i64 r3 16+l2))(h1:x1=zA (shl .i64 r2 16+l1))(h0:x0=zA (shl .i64 r1 16+l0))(h9:r9=0)(k8:r8=Int.tmod x8 10000)(k7:r7=Int.tmod x7 10000)(k6:r6=Int.tmod x6 10000)(k5:r5=Int.tmod x5 10000)(k4:r4=Int.tmod x4 10000)(k3:r3=Int.tmod x3 10000)(k2:r2=Int.tmod x2 10000)(k1:r1=Int.tmod x1 10000)(k0:r0=Int.tmod x0 10000):
  Ll 1000 1000 10000 0 8 [l0,l1,l2,l3,l4,l5,l6,l7,l8]=some [zA (Int.tdiv x0 10000),zA (Int.tdiv x1 10000),zA (Int.tdiv x2 10000),zA (Int.tdiv x3 10000),zA (Int.tdiv x4 10000),zA (Int.tdiv x5 10000),zA (Int.tdiv x6 10000),zA (Int.tdiv x7 10000),zA (Int.tdiv x8 10000)]:=by
 subst h0;subst k1;subst h1;subst k2;subst h2;subst k3;subst h3;subst k4;subst h4;subst k5;subst h5;subst k6;subst h6;subst k7;subst h7;subst k8;subst h8;subst h9
 kernel_rfl
theorem uX x:shl .i64 x 16=zA (x*65536):=rfl
theorem YG q0 q1 q2 q3 (h : decide (q3 ≥ 32768) = false) : ((GK 1000 1000 4 [q0,q1,q2,q3,0,0,0,0,0]).bind fun z1=>
 match z1 with
 | .inl z2 => bif zB 3 z2.length then (bif decide ((z2.getD 3 0)≥32768) then some ((0:Int),false)
   else bif zB 3 z2.length then (bif zB 2 z2.length then (bif zB 1 z2.length then (bif zB 0 z2.length then some ((wG .i64 (wG .i64 (wG .i64 (shl .i64 (z2.getD 3 0) 48) (shl .i64 (z2.getD 2 0) 32)) (shl .i64 (z2.getD 1 0) 16)) (z2.getD 0 0)),true)
      else none)
     else none)
    else none)
   else none)
  else none
 |.inr z3=>some (z3.1,z3.2))=some (wG .i64 (wG .i64 (wG .i64 (shl .i64 q3 48) (shl .i64 q2 32)) (shl .i64 q1 16)) q0,true):=by
  have e:GK 1000 1000 4 [q0,q1,q2,q3,0,0,0,0,0]=some (.inl [q0,q1,q2,q3,0,0,0,0,0]):=by rfl
  rw[e];simp only[ae];have e3:([q0,q1,q2,q3,0,0,0,0,0]:AC).getD 3 0=q3:=rfl;rw[e3,h];rfl
theorem vVq {q0 q1 q2 q3}(h0:0≤q0∧q0<65536)(h1:0≤q1∧q1<65536)(h2:0≤q2∧q2<65536)(h3:0≤q3∧q3<32768):
  wG .i64 (wG .i64 (wG .i64 (shl .i64 q3 48) (shl .i64 q2 32)) (shl .i64 q1 16)) q0=q0+65536*(q1+65536*(q2+65536*q3)):=by
 have s3:shl .i64 q3 48=zA (q3*281474976710656):=rfl;have s2:shl .i64 q2 32=zA (q2*4294967296):=rfl;have s1:shl .i64 q1 16=zA (q1*65536):=rfl;rw[s3,s2,s1,zO (x:=q3*281474976710656) (by omega) (by omega),zO (x:=q2*4294967296) (by omega) (by omega),zO (x:=q1*65536) (by omega) (by omega)];have b1:=YE 48 (by decide) (x:=q3) (y:=q2*4294967296) h3.1 (by omega) (by omega);have p48:(2:Int)^48=281474976710656:=rfl;rw[p48] at b1;have b2:=YE 32 (by decide) (x:=q3*65536+q2) (y:=q1*65536) (by omega) (by omega) (by omega);have p32:(2:Int)^32=4294967296:=rfl;rw[p32] at b2;have b3:=YE 16 (by decide) (x:=(q3*65536+q2)*65536+q1) (y:=q0) (by omega) (by omega) (by omega);grind
theorem YH {l0 l1 l2 l3 l4 l5 l6 l7 l8}(g0:0≤l0∧l0<65536)(g1:0≤l1∧l1<65536)(g2:0≤l2∧l2<65536)(g3:0≤l3∧l3<65536)(g4:0≤l4∧l4<65536)(g5:0≤l5∧l5<65536)(g6:0≤l6∧l6<65536)(g7:0≤l7∧l7<65536)(g8:0≤l8∧l8≤0)(hV:V9 l0 l1 l2 l3 l4 l5 l6 l7 l8/10000≤1152921504606846976):Qh 1000 [l0,l1,l2,l3,l4,l5,l6,l7,l8] 10000=some (V9 l0 l1 l2 l3 l4 l5 l6 l7 l8/10000,true):=by
  obtain⟨r9,h9⟩:∃r:Int,r=0:=⟨_,rfl⟩;obtain⟨x8,hx8⟩:∃x,x=r9*65536+l8:=⟨_,rfl⟩;obtain⟨r8,hr8⟩:∃r,r=x8%10000:=⟨_,rfl⟩;obtain⟨q8,hq8⟩:∃q,q=x8/10000:=⟨_,rfl⟩;have v8:x8=10000*q8+r8∧0≤r8∧r8<10000∧0≤x8∧x8<655360000:=by omega
  have h8:x8=zA (shl .i64 r9 16+l8):=by rw[uX,zO (x:=r9*65536) (by omega) (by omega),←hx8,zO (by omega) (by omega)]
  have k8:r8=Int.tmod x8 10000:=by rw[Int.tmod_eq_emod_of_nonneg (by omega)];exact hr8
  have t8:zA (Int.tdiv x8 10000)=q8:=by rw[Int.tdiv_eq_ediv_of_nonneg (by omega),←hq8,zO (by omega) (by omega)]
  obtain⟨x7,hx7⟩:∃x,x=r8*65536+l7:=⟨_,rfl⟩;obtain⟨r7,hr7⟩:∃r,r=x7%10000:=⟨_,rfl⟩;obtain⟨q7,hq7⟩:∃q,q=x7/10000:=⟨_,rfl⟩;have v7:x7=10000*q7+r7∧0≤r7∧r7<10000∧0≤x7∧x7<655360000:=by omega
  have h7:x7=zA (shl .i64 r8 16+l7):=by rw[uX,zO (x:=r8*65536) (by omega) (by omega),←hx7,zO (by omega) (by omega)]
  have k7:r7=Int.tmod x7 10000:=by rw[Int.tmod_eq_emod_of_nonneg (by omega)];exact hr7
  have t7:zA (Int.tdiv x7 10000)=q7:=by rw[Int.tdiv_eq_ediv_of_nonneg (by omega),←hq7,zO (by omega) (by omega)]
  obtain⟨x6,Om⟩:∃x,x=r7*65536+l6:=⟨_,rfl⟩;obtain⟨r6,hr6⟩:∃r,r=x6%10000:=⟨_,rfl⟩;obtain⟨q6,hq6⟩:∃q,q=x6/10000:=⟨_,rfl⟩;have v6:x6=10000*q6+r6∧0≤r6∧r6<10000∧0≤x6∧x6<655360000:=by omega
  have h6:x6=zA (shl .i64 r7 16+l6):=by rw[uX,zO (x:=r7*65536) (by omega) (by omega),←Om,zO (by omega) (by omega)]
  have k6:r6=Int.tmod x6 10000:=by rw[Int.tmod_eq_emod_of_nonneg (by omega)];exact hr6
  have t6:zA (Int.tdiv x6 10000)=q6:=by rw[Int.tdiv_eq_ediv_of_nonneg (by omega),←hq6,zO (by omega) (by omega)]
  obtain⟨x5,hx5⟩:∃x,x=r6*65536+l5:=⟨_,rfl⟩;obtain⟨r5,hr5⟩:∃r,r=x5%10000:=⟨_,rfl⟩;obtain⟨q5,hq5⟩:∃q,q=x5/10000:=⟨_,rfl⟩;have v5:x5=10000*q5+r5∧0≤r5∧r5<10000∧0≤x5∧x5<655360000:=by omega
  have h5:x5=zA (shl .i64 r6 16+l5):=by rw[uX,zO (x:=r6*65536) (by omega) (by omega),←hx5,zO (by omega) (by omega)]
  have k5:r5=Int.tmod x5 10000:=by rw[Int.tmod_eq_emod_of_nonneg (by omega)];exact hr5
  have t5:zA (Int.tdiv x5 10000)=q5:=by rw[Int.tdiv_eq_ediv_of_nonneg (by omega),←hq5,zO (by omega) (by omega)]
  obtain⟨x4,hx4⟩:∃x,x=r5*65536+l4:=⟨_,rfl⟩;obtain⟨r4,hr4⟩:∃r,r=x4%10000:=⟨_,rfl⟩;obtain⟨q4,hq4⟩:∃q,q=x4/10000:=⟨_,rfl⟩;have v4:x4=10000*q4+r4∧0≤r4∧r4<10000∧0≤x4∧x4<655360000:=by omega
  have h4:x4=zA (shl .i64 r5 16+l4):=by rw[uX,zO (x:=r5*65536) (by omega) (by omega),←hx4,zO (by omega) (by omega)]
  have k4:r4=Int.tmod x4 10000:=by rw[Int.tmod_eq_emod_of_nonneg (by omega)];exact hr4
  have t4:zA (Int.tdiv x4 10000)=q4:=by rw[Int.tdiv_eq_ediv_of_nonneg (by omega),←hq4,zO (by omega) (by omega)]
  obtain⟨x3,YI⟩:∃x,x=r4*65536+l3:=⟨_,rfl⟩;obtain⟨r3,hr3⟩:∃r,r=x3%10000:=⟨_,rfl⟩;obtain⟨q3,hq3⟩:∃q,q=x3/10000:=⟨_,rfl⟩;have v3:x3=10000*q3+r3∧0≤r3∧r3<10000∧0≤x3∧x3<655360000:=by omega
  have h3:x3=zA (shl .i64 r4 16+l3):=by rw[uX,zO (x:=r4*65536) (by omega) (by omega),←YI,zO (by omega) (by omega)]
  have k3:r3=Int.tmod x3 10000:=by rw[Int.tmod_eq_emod_of_nonneg (by omega)];exact hr3
  have t3:zA (Int.tdiv x3 10000)=q3:=by rw[Int.tdiv_eq_ediv_of_nonneg (by omega),←hq3,zO (by omega) (by omega)]
  obtain⟨x2,DN⟩:∃x,x=r3*65536+l2:=⟨_,rfl⟩;obtain⟨r2,ss⟩:∃r,r=x2%10000:=⟨_,rfl⟩;obtain⟨q2,hq2⟩:∃q,q=x2/10000:=⟨_,rfl⟩;have v2:x2=10000*q2+r2∧0≤r2∧r2<10000∧0≤x2∧x2<655360000:=by omega
  have h2:x2=zA (shl .i64 r3 16+l2):=by rw[uX,zO (x:=r3*65536) (by omega) (by omega),←DN,zO (by omega) (by omega)]
  have k2:r2=Int.tmod x2 10000:=by rw[Int.tmod_eq_emod_of_nonneg (by omega)];exact ss
  have t2:zA (Int.tdiv x2 10000)=q2:=by rw[Int.tdiv_eq_ediv_of_nonneg (by omega),←hq2,zO (by omega) (by omega)]
  obtain⟨x1,dt⟩:∃x,x=r2*65536+l1:=⟨_,rfl⟩;obtain⟨r1,wv⟩:∃r,r=x1%10000:=⟨_,rfl⟩;obtain⟨q1,hq1⟩:∃q,q=x1/10000:=⟨_,rfl⟩;have v1:x1=10000*q1+r1∧0≤r1∧r1<10000∧0≤x1∧x1<655360000:=by omega
  have h1:x1=zA (shl .i64 r2 16+l1):=by rw[uX,zO (x:=r2*65536) (by omega) (by omega),←dt,zO (by omega) (by omega)]
  have k1:r1=Int.tmod x1 10000:=by rw[Int.tmod_eq_emod_of_nonneg (by omega)];exact wv
  have t1:zA (Int.tdiv x1 10000)=q1:=by rw[Int.tdiv_eq_ediv_of_nonneg (by omega),←hq1,zO (by omega) (by omega)]
  obtain⟨x0,YJ⟩:∃x,x=r1*65536+l0:=⟨_,rfl⟩;obtain⟨r0,tR⟩:∃r,r=x0%10000:=⟨_,rfl⟩;obtain⟨q0,hq0⟩:∃q,q=x0/10000:=⟨_,rfl⟩;have v0:x0=10000*q0+r0∧0≤r0∧r0<10000∧0≤x0∧x0<655360000:=by omega
  have h0:x0=zA (shl .i64 r1 16+l0):=by rw[uX,zO (x:=r1*65536) (by omega) (by omega),←YJ,zO (by omega) (by omega)]
  have k0:r0=Int.tmod x0 10000:=by rw[Int.tmod_eq_emod_of_nonneg (by omega)];exact tR
  have t0:zA (Int.tdiv x0 10000)=q0:=by rw[Int.tdiv_eq_ediv_of_nonneg (by omega),←hq0,zO (by omega) (by omega)]
  have run:=vPn l0 l1 l2 l3 l4 l5 l6 l7 l8 h8 h7 h6 h5 h4 h3 h2 h1 h0 h9 k8 k7 k6 k5 k4 k3 k2 k1 k0;rw[t0,t1,t2,t3,t4,t5,t6,t7,t8] at run;clear h0 k0 t0 h1 k1 t1 h2 k2 t2 h3 k3 t3 h4 k4 t4 h5 k5 t5 h6 k6 t6 h7 k7 t7 h8 k8 t8;have hv:10000*V9 q0 q1 q2 q3 q4 q5 q6 q7 q8+r0=V9 l0 l1 l2 l3 l4 l5 l6 l7 l8:=by unfold V9;omega
  have hq:V9 q0 q1 q2 q3 q4 q5 q6 q7 q8=V9 l0 l1 l2 l3 l4 l5 l6 l7 l8/10000:=by omega
  rw[←hq] at hV⊢;unfold V9 at hV;have z8:q8=0:=by omega
  have z7:q7=0:=by omega
  have z6:q6=0:=by omega
  have z5:q5=0:=by omega
  have z4:q4=0:=by omega
  have z3:q3<32768:=by omega
  rw[z4,z5,z6,z7,z8] at run;have eU:Qh 1000 [l0,l1,l2,l3,l4,l5,l6,l7,l8] 10000=(Ll 1000 1000 10000 0 8 [l0,l1,l2,l3,l4,l5,l6,l7,l8]).bind fun z=>(GK 1000 1000 4 z).bind fun z1=>
   match z1 with
   | .inl z2 => bif zB 3 z2.length then (bif decide ((z2.getD 3 0)≥32768) then some ((0:Int),false)
     else bif zB 3 z2.length then (bif zB 2 z2.length then (bif zB 1 z2.length then (bif zB 0 z2.length then some ((wG .i64 (wG .i64 (wG .i64 (shl .i64 (z2.getD 3 0) 48) (shl .i64 (z2.getD 2 0) 32)) (shl .i64 (z2.getD 1 0) 16)) (z2.getD 0 0)),true)
        else none)
       else none)
      else none)
     else none)
    else none
   |.inr z3=>some (z3.1,z3.2):=rfl
  rw[eU,run];simp only[ae];refine(YG q0 q1 q2 q3 (ab (by omega))).trans ?_;rw[vVq ⟨by omega,by omega⟩ ⟨by omega,by omega⟩ ⟨by omega,by omega⟩ ⟨by omega,z3⟩];unfold V9;rw[z4,z5,z6,z7,z8];exact by simp
theorem vN3 (a b x0 x1 x2 x3:Int):Qi 1000 1000 b 0 [x0,x1,x2,x3] [0,0,0,0,0,0,0,0,0]=some [zA (0+zA (x0*yM .i64 (shr .i64 b 0) 65535)),zA (zA (0+zA (x0*yM .i64 (shr .i64 b 16) 65535))+zA (x1*yM .i64 (shr .i64 b 0) 65535)),zA (zA (zA (0+zA (x0*yM .i64 (shr .i64 b 32) 65535))+zA (x1*yM .i64 (shr .i64 b 16) 65535))+zA (x2*yM .i64 (shr .i64 b 0) 65535)),zA (zA (zA (zA (0+zA (x0*yM .i64 (shr .i64 b 48) 65535))+zA (x1*yM .i64 (shr .i64 b 32) 65535))+zA (x2*yM .i64 (shr .i64 b 16) 65535))+zA (x3*yM .i64 (shr .i64 b 0) 65535)),zA (zA (zA (0+zA (x1*yM .i64 (shr .i64 b 48) 65535))+zA (x2*yM .i64 (shr .i64 b 32) 65535))+zA (x3*yM .i64 (shr .i64 b 16) 65535)),zA (zA (0+zA (x2*yM .i64 (shr .i64 b 48) 65535))+zA (x3*yM .i64 (shr .i64 b 32) 65535)),zA (0+zA (x3*yM .i64 (shr .i64 b 48) 65535)),0,0]:=by kernel_rfl
theorem YK {x0 x1 x2 x3 y0 y1 y2 y3}:(x0+65536*x1+4294967296*x2+281474976710656*x3)*(y0+65536*y1+4294967296*y2+281474976710656*y3)=V9 (x0*y0) (x0*y1+x1*y0) (x0*y2+x1*y1+x2*y0) (x0*y3+x1*y2+x2*y1+x3*y0) (x1*y3+x2*y2+x3*y1) (x2*y3+x3*y2) (x3*y3) 0 0:=by
 have row:∀x:Int,x*(y0+65536*y1+4294967296*y2+281474976710656*y3)=x*y0+65536*(x*y1)+4294967296*(x*y2)+281474976710656*(x*y3):=by grind
 rw[Int.add_mul,Int.add_mul,Int.add_mul,Int.mul_assoc,Int.mul_assoc,Int.mul_assoc,row,row,row,row];unfold V9;omega
theorem YL {a b}(ha:0≤a∧a≤1048576)(hb:0≤b∧b≤1099511627776):∃d0 d1 d2 d3 d4 d5 d6 d7 d8,
  Qj 1000 a b=some [d0,d1,d2,d3,d4,d5,d6,d7,d8]∧V9 d0 d1 d2 d3 d4 d5 d6 d7 d8=a*b∧(0≤d0∧d0<65536)∧(0≤d1∧d1<65536)∧(0≤d2∧d2<65536)∧(0≤d3∧d3<65536)∧(0≤d4∧d4<65536)∧(0≤d5∧d5<65536)∧(0≤d6∧d6<65536)∧(0≤d7∧d7<65536)∧d8=0:=by
 obtain⟨x0,YJ⟩:∃z,z=a%65536:=⟨_,rfl⟩;have xX:0≤x0∧x0≤65535:=by omega
 obtain⟨x1,dt⟩:∃z,z=a/65536%65536:=⟨_,rfl⟩;have xY:0≤x1∧x1≤65535:=by omega
 obtain⟨x2,DN⟩:∃z,z=a/4294967296%65536:=⟨_,rfl⟩;have xZ:0≤x2∧x2≤65535:=by omega
 obtain⟨x3,YI⟩:∃z,z=a/281474976710656%65536:=⟨_,rfl⟩;have ya:0≤x3∧x3≤65535:=by omega
 obtain⟨y0,Ul⟩:∃z,z=b%65536:=⟨_,rfl⟩;have yc:0≤y0∧y0≤65535:=by omega
 obtain⟨y1,UZ⟩:∃z,z=b/65536%65536:=⟨_,rfl⟩;have yd:0≤y1∧y1≤65535:=by omega
 obtain⟨y2,U0⟩:∃z,z=b/4294967296%65536:=⟨_,rfl⟩;have ye:0≤y2∧y2≤65535:=by omega
 obtain⟨y3,hy3⟩:∃z,z=b/281474976710656%65536:=⟨_,rfl⟩;have yf:0≤y3∧y3≤65535:=by omega
 have ea:a=x0+65536*x1+4294967296*x2+281474976710656*x3:=by omega
 have eb:b=y0+65536*y1+4294967296*y2+281474976710656*y3:=by omega
 have dg:Qk 1000 a=some [x0,x1,x2,x3]:=by
  unfold Qk;rw[tj,yGl,yDj,uW,uW,uW,uW,←YJ,←dt,←DN,←YI]
 have run:=vN3 a b x0 x1 x2 x3;rw[YD,tj,yGl,yDj,uW,uW,uW,uW,←Ul,←UZ,←U0,←hy3] at run;have DA:=YK (x0:=x0) (x1:=x1) (x2:=x2) (x3:=x3) (y0:=y0) (y1:=y1) (y2:=y2) (y3:=y3);rw[←ea,←eb] at DA;have hm:=wM ha.1 ha.2 hb.1 hb.2;have m00:=wM xX.1 xX.2 yc.1 yc.2;have m01:=wM xX.1 xX.2 yd.1 yd.2;have m02:=wM xX.1 xX.2 ye.1 ye.2;have m03:=wM xX.1 xX.2 yf.1 yf.2;have m10:=wM xY.1 xY.2 yc.1 yc.2;have m11:=wM xY.1 xY.2 yd.1 yd.2;have m12:=wM xY.1 xY.2 ye.1 ye.2;have m13:=wM xY.1 xY.2 yf.1 yf.2;have m20:=wM xZ.1 xZ.2 yc.1 yc.2;have m21:=wM xZ.1 xZ.2 yd.1 yd.2;have m22:=wM xZ.1 xZ.2 ye.1 ye.2;have m23:=wM xZ.1 xZ.2 yf.1 yf.2;have m30:=wM ya.1 ya.2 yc.1 yc.2;have m31:=wM ya.1 ya.2 yd.1 yd.2;have m32:=wM ya.1 ya.2 ye.1 ye.2;have m33:=wM ya.1 ya.2 yf.1 yf.2;generalize x0*y0=YM at*
 generalize x0*y1=Ql at*
 generalize x0*y2=Lm at*
 generalize x0*y3=GL at*
 generalize x1*y0=YN at*
 generalize x1*y1=Qm at*
 generalize x1*y2=Ln at*
 generalize x1*y3=Lp at*
 generalize x2*y0=YO at*
 generalize x2*y1=Qn at*
 generalize x2*y2=Qo at*
 generalize x2*y3=Qp at*
 generalize x3*y0=YP at*
 generalize x3*y1=YQ at*
 generalize x3*y2=YR at*
 generalize x3*y3=YS at*
 rw[zO (x:=YM) (by omega) (by omega)] at run;rw[zO (x:=Ql) (by omega) (by omega)] at run;rw[zO (x:=Lm) (by omega) (by omega)] at run;rw[zO (x:=GL) (by omega) (by omega)] at run;rw[zO (x:=YN) (by omega) (by omega)] at run;rw[zO (x:=Qm) (by omega) (by omega)] at run;rw[zO (x:=Ln) (by omega) (by omega)] at run;rw[zO (x:=Lp) (by omega) (by omega)] at run;rw[zO (x:=YO) (by omega) (by omega)] at run;rw[zO (x:=Qn) (by omega) (by omega)] at run;rw[zO (x:=Qo) (by omega) (by omega)] at run;rw[zO (x:=Qp) (by omega) (by omega)] at run;rw[zO (x:=YP) (by omega) (by omega)] at run;rw[zO (x:=YQ) (by omega) (by omega)] at run;rw[zO (x:=YR) (by omega) (by omega)] at run;rw[zO (x:=YS) (by omega) (by omega)] at run;rw[zO (x:=0+YM) (by omega) (by omega)] at run;rw[zO (x:=0+Ql) (by omega) (by omega)] at run;rw[zO (x:=0+Lm) (by omega) (by omega)] at run;rw[zO (x:=0+GL) (by omega) (by omega)] at run;rw[zO (x:=0+Ql+YN) (by omega) (by omega)] at run;rw[zO (x:=0+Lm+Qm) (by omega) (by omega)] at run;rw[zO (x:=0+GL+Ln) (by omega) (by omega)] at run;rw[zO (x:=0+Lp) (by omega) (by omega)] at run;rw[zO (x:=0+Lm+Qm+YO) (by omega) (by omega)] at run;rw[zO (x:=0+GL+Ln+Qn) (by omega) (by omega)] at run;rw[zO (x:=0+Lp+Qo) (by omega) (by omega)] at run;rw[zO (x:=0+Qp) (by omega) (by omega)] at run;rw[zO (x:=0+GL+Ln+Qn+YP) (by omega) (by omega)] at run;rw[zO (x:=0+Lp+Qo+YQ) (by omega) (by omega)] at run;rw[zO (x:=0+Qp+YR) (by omega) (by omega)] at run;rw[zO (x:=0+YS) (by omega) (by omega)] at run;obtain⟨d0,d1,d2,d3,d4,d5,d6,d7,d8,c1,c2,n0,n1,n2,n3,n4,n5,n6,n7,n8⟩:=yNs (l0:=0+YM) (l1:=0+Ql+YN) (l2:=0+Lm+Qm+YO) (l3:=0+GL+Ln+Qn+YP) (l4:=0+Lp+Qo+YQ) (l5:=0+Qp+YR) (l6:=0+YS) (l7:=0) (l8:=0) (by omega) (by omega) (by omega) (by omega) (by omega) (by omega) (by omega) (by omega) (by omega);refine⟨d0,d1,d2,d3,d4,d5,d6,d7,d8,?_,?_,n0,n1,n2,n3,n4,n5,n6,n7,?_⟩
 ·unfold Qj;rw[dg];simp only[ae];rw[run];simp only[ae];rw[c1];rfl
 ·rw[c2,DA];unfold V9;omega
 ·have:V9 d0 d1 d2 d3 d4 d5 d6 d7 d8=a*b:=by
   rw[c2,DA];unfold V9;omega
  unfold V9 at this;omega
theorem vZl {p m c:Int}(hp:0≤p∧p≤1048576)(hm:0≤m∧m≤1099511627776)(hc:0≤c∧c≤10000):Qq 1000 p m c=some (uK p m c,true):=by
 obtain⟨d0,d1,d2,d3,d4,d5,d6,d7,d8,e1,e2,n0,n1,n2,n3,n4,n5,n6,n7,n8⟩:=YL hp hm;have yg:=wM hp.1 hp.2 hm.1 hm.2;have hn:0≤10000-c∧10000-c≤10000:=by omega
 have wn:zA (10000-c)=10000-c:=zO (by omega) (by omega);have hw:=yD9 hp hm hc;unfold uK at hw⊢;have hpn:=wM yg.1 yg.2 hn.1 hn.2;have eV:=YF d0 d1 d2 d3 d4 d5 d6 d7 d8 (10000-c);rw[e2] at eV;unfold Qq;rw[ab (show¬p<0 by omega),ab (show¬m<0 by omega),ab (show¬c<0 by omega),ab (show¬c>10000 by omega),e1,wn];simp only[ak,ae];rw[vUa];generalize 10000-c=n at*
 have u0:=wM n0.1 (show d0≤65535 by omega) hn.1 hn.2;have u1:=wM n1.1 (show d1≤65535 by omega) hn.1 hn.2;have u2:=wM n2.1 (show d2≤65535 by omega) hn.1 hn.2;have u3:=wM n3.1 (show d3≤65535 by omega) hn.1 hn.2;have u4:=wM n4.1 (show d4≤65535 by omega) hn.1 hn.2;have u5:=wM n5.1 (show d5≤65535 by omega) hn.1 hn.2;have u6:=wM n6.1 (show d6≤65535 by omega) hn.1 hn.2;have u7:=wM n7.1 (show d7≤65535 by omega) hn.1 hn.2;have u8:0≤d8*n∧d8*n≤0:=by rw[n8,Int.zero_mul];omega
 generalize d0*n=t0 at*
 generalize d1*n=t1 at*
 generalize d2*n=t2 at*
 generalize d3*n=t3 at*
 generalize d4*n=t4 at*
 generalize d5*n=t5 at*
 generalize d6*n=t6 at*
 generalize d7*n=t7 at*
 generalize d8*n=t8 at*
 rw[zO (x:=t0) (by omega) (by omega),zO (x:=t1) (by omega) (by omega),zO (x:=t2) (by omega) (by omega),zO (x:=t3) (by omega) (by omega),zO (x:=t4) (by omega) (by omega),zO (x:=t5) (by omega) (by omega),zO (x:=t6) (by omega) (by omega),zO (x:=t7) (by omega) (by omega),zO (x:=t8) (by omega) (by omega)];obtain⟨e0,e1,e2,e3,e4,e5,e6,e7,e8,f1,f2,k0,k1,k2,k3,k4,k5,k6,k7,k8⟩:=yNs (l0:=t0) (l1:=t1) (l2:=t2) (l3:=t3) (l4:=t4) (l5:=t5) (l6:=t6) (l7:=t7) (l8:=t8) (by omega) (by omega) (by omega) (by omega) (by omega) (by omega) (by omega) (by omega) (by omega);rw[f1];simp only[ae];rw[←eV] at f2;have z8:e8≤0:=by unfold V9 at f2;omega
 rw[YH k0 k1 k2 k3 k4 k5 k6 k7 ⟨k8,z8⟩ (by rw[f2];exact hw.2),f2];rfl
theorem vDj k x y:Lq k x.1 x.2.1 x.2.2.1 x.2.2.2.1 x.2.2.2.2.1 x.2.2.2.2.2.1 x.2.2.2.2.2.2 y.1 y.2.1 y.2.2.1 y.2.2.2.1 y.2.2.2.2.1 y.2.2.2.2.2.1 y.2.2.2.2.2.2=some (jL x y):=by
 unfold Lq jL;grind
theorem vVr k {a b}(ha:0≤a∧a≤4611686018427387904)(hb:0≤b∧b≤1152921504606846976):GM k a b=some (a+b,true):=by
 unfold GM;rw[zO (x:=a+b) (by omega) (by omega),zO (x:=9223372036854775807-b) (by omega) (by omega),ab (show¬a>9223372036854775807-b by omega),ab (show¬b<0 by omega)];simp
theorem yL5 {sa pr h}(L:kV sa pr h):B5 1000 sa pr h=some (mv sa pr h,true):=by
 have h3:=L.n3;obtain ⟨s', g1, g2⟩ := yX (L := fun n i (v : Int) => Lr 1000 n sa pr h v i) (N := sa.length) (fun v => (.inl v : Int ⊕ Int × Bool)) (fun i v => v = qJ (oE sa pr h) i) (fun n v _=>by
  show GN 1000 _ sa pr h v (sa.length:Int)=_;unfold GN;simp) (fun n i v hi hv=>by
  refine⟨v+oE sa pr h i,?_,by rw[hv];rfl⟩;show GN 1000 (Lr 1000 n) sa pr h v (i:Int)=_;unfold GN;have hw:=KW L hi;have hb:=PN (g:=oE sa pr h) (n:=i) (fun j hj=>KW L (by omega));have ed:sa.getD i (0,0)=sa.getD i uL:=rfl;rw[aa (by grind),qC,qC,qC,aa hi,aa (show i<pr.length by rw[L.pl];exact hi),aa (show i<h.length by rw[L.hl];exact hi),ao,ed,vZl (L.price i hi) (L.hold i hi) (L.cut i hi)];simp only[ae];have e:uK (pr.getD i 0) (h.getD i 0) (sa.getD i uL).2=oE sa pr h i:=rfl;rw[e,vVr _ (by omega) hw,qD hi (by omega)];rfl) (n:=1000) (s:=0) (by omega) rfl
 unfold B5;rw[aa (show(pr.length:Int)=(sa.length:Int) by rw[L.pl]),aa (show(h.length:Int)=(sa.length:Int) by rw[L.hl]),g1,g2];rfl
theorem GO {α:Type}{d}(l:List α){i} h:l.getD i d=l[i]:=by
 simp_all
theorem Ls {X:Type}{L:Nat→Int→Option X}{N:Nat}{e}(bR:∀n,L (n+1) (N:Int)=some e)(aL:∀n i,i<N→L (n+1) (i:Int)=L n ((i+1:Nat):Int)){n}(hn:N<n):L n 0=some e:=by
 obtain⟨_,h,_⟩:=yX (L:=fun n i (_:Unit)=>L n i) (N:=N) (fun _=>e) (fun _ _=>True) (by grind) (fun n i _ hi _=>⟨(),by grind,trivial⟩) (n:=n) (s:=()) hn trivial;exact h
theorem uY {k l}(hk:l.length<k)(hl:qT l) id:oF k l id=some (iE l id):=by
 unfold qT at hl;unfold oF;rw[Pz hk (by omega)];unfold ki iE;cases hp:vZ l id with
 |none=>rfl
 |some x=>
  have hx:=(kU hp).1;have e1:decide ((x:Int)<0)=false:=ab (by omega);have e2:decide ((0:Int)≤(x:Int))=true:=by simp
  have e3:decide ((x:Int)≤(l.length:Int))=true:=aa (by omega);have e4:decide ((0:Int)≤((x+1:Nat):Int))=true:=aa (by omega);have e5:decide (((x+1:Nat):Int)≤(l.length:Int))=true:=aa (by omega);have l1:=List.length_take_le x l;have l2:(l.drop (x+1)).length≤l.length:=by rw[List.length_drop];omega
  have e6:zL (0+(l.take x).length) 56=true:=qI (by omega) (by omega);have e7:zL ((l.take x).length+(l.drop (x+1)).length) 56=true:=qI (by omega) (by omega);simp only[ae,e3,e5,qD hx (show l.length<9223372036854775808 by omega),qC,aa hx,ao,e6,e7];rfl
theorem vHp (q p:zH):kj q p= !jL p q:=by
 unfold kj jL;rcases Int.lt_trichotomy q.2.1 p.2.1 with h|h|h
 ·have h1:¬p.2.1<q.2.1:=by omega
  have h2:¬p.2.1=q.2.1:=by omega
  simp[h,h1,h2]
 ·rcases Int.lt_trichotomy q.2.2.2.2.1 p.2.2.2.2.1 with g|g|g
  ·have g1:¬p.2.2.2.2.1≤q.2.2.2.2.1:=by omega
   simp[h,g,g1]
  ·simp[h,g]
  ·have g1:¬q.2.2.2.2.1<p.2.2.2.2.1:=by omega
   have g2:p.2.2.2.2.1≤q.2.2.2.2.1:=by omega
   simp[h,g1,g2]
 ·have h1:¬q.2.1<p.2.1:=by omega
  have h2:¬q.2.1=p.2.1:=by omega
  simp[h,h1,h2]
theorem Qr {k}{l:List zH}(hl:l.length≤1000){x}(hx:x≤l.length) y:B6 k l x y.1 y.2.1 y.2.2.1 y.2.2.2.1 y.2.2.2.2.1 y.2.2.2.2.2.1 y.2.2.2.2.2.2=some (l.take x++(y::l.drop x)):=by
 unfold B6;have e1:(decide (0≤(x:Int))&&decide ((x:Int)≤((l.length:Nat):Int)))=true:=by simp_all
 have e2:zL (0+(l.take x).length) 56=true:=qI (by grind) (by grind);have e3:zL ((l.take x).length+1) 56=true:=qI (by grind) (by grind);rw[e1,ao,e2,e3];have e4:zL ((l.take x++[(y.1,(y.2.1,(y.2.2.1,(y.2.2.2.1,(y.2.2.2.2.1,(y.2.2.2.2.2.1,y.2.2.2.2.2.2))))))]).length+(l.drop x).length) 56=true:=qI (by grind) (by grind);grind
theorem YT {k}{l:List zH}(hk:l.length<k)(hl:l.length≤1000) y:GP k l y.1 y.2.1 y.2.2.1 y.2.2.2.1 y.2.2.2.2.1 y.2.2.2.2.2.1 y.2.2.2.2.2.2=some (((l.takeWhile (fun q=>jL q y)).length:Nat):Int):=by
 have := FQ (L := fun n i => GQ k n l i y.1 y.2.1 y.2.2.1 y.2.2.2.1 y.2.2.2.2.1 y.2.2.2.2.2.1 y.2.2.2.2.2.2) (N := l.length) (fun x => jL (l.getD x pd) y) (fun i => (i : Int)) (fun n=>by
  show GR k _ l l.length _ _ _ _ _ _ _=_;unfold GR;simp) (fun n i hi=>by
  show GR k _ l i _ _ _ _ _ _ _=_;unfold GR;have h1:=vDj k (l.getD i pd) y;simp only[qC,qU,ao,aa hi,ag,h1,ae,qD hi (by grind)]
  ) l.length 0 k (by omega) hk
 have e:((0:Nat):Int)=0:=rfl;unfold GP;have h':GQ k k l 0 y.1 y.2.1 y.2.2.1 y.2.2.2.1 y.2.2.2.2.1 y.2.2.2.2.2.1 y.2.2.2.2.2.2=_:=this;rw[h',FR (fun q=>jL q y) l pd l.length 0 (by omega),List.drop_zero,Nat.zero_add];rfl
theorem YU {k:Nat}{l:List zH}(hk:l.length<k)(hl:l.length≤1000)(p:zH):
  B7 k l p.1 p.2.1 p.2.2.1 p.2.2.2.1 p.2.2.2.2.1 p.2.2.2.2.2.1 p.2.2.2.2.2.2=some (bif (vZ l p.1).isSome then(l,6) else bif decide (40≤l.length) then(l,3) else(py l p,0)):=by
 unfold B7;rw[Pz hk (by omega)];unfold ki;cases hp:vZ l p.1 with
 |some x=>
  have e1:decide ((x:Int)≥0)=true:=aa (by omega);simp only[ae,e1,ag,Option.isSome_some]
 |none=>
  have e1:decide ((-1:Int)≥0)=false:=rfl;simp only[ae,e1,ak,Option.isSome_none];by_cases h:40≤l.length
  ·rw[aa h,aa (show(l.length:Int)≥40 by omega)];rfl
  ·rw[ab h,ab (show¬(l.length:Int)≥40 by omega)];simp only[ak];rw[YT hk hl p];simp only[ae];rw[Qr hl (BO _ l) p,(oD _ l).1,(oD _ l).2];rfl
theorem vX1 {k l}(bS:l.length<k)(hl:qT l){id x}(hx:vZ l id=some x) c:
  Lt k l id c=some (py (yF l x) ((l.getD x pd).1,(l.getD x pd).2.1,(l.getD x pd).2.2.1,(l.getD x pd).2.2.2.1,c,(l.getD x pd).2.2.2.2.2.1,(l.getD x pd).2.2.2.2.2.2),0):=by
 have dt:=kU hx;have hlen:=oC dt.1;have dQ:=hl;unfold qT at dQ;unfold Lt;rw[uY bS hl];unfold iE;rw[hx];simp only[ae];have h1:=YT (k:=k) (l:=yF l x) (by omega) (by omega) ((l.getD x pd).1,(l.getD x pd).2.1,(l.getD x pd).2.2.1,(l.getD x pd).2.2.2.1,c,(l.getD x pd).2.2.2.2.2.1,(l.getD x pd).2.2.2.2.2.2);rw[h1];simp only[ae];have h2:=Qr (k:=k) (l:=yF l x) (by omega) (BO (fun q=>jL q ((l.getD x pd).1,(l.getD x pd).2.1,(l.getD x pd).2.2.1,(l.getD x pd).2.2.2.1,c,(l.getD x pd).2.2.2.2.2.1,(l.getD x pd).2.2.2.2.2.2)) (yF l x)) ((l.getD x pd).1,(l.getD x pd).2.1,(l.getD x pd).2.2.1,(l.getD x pd).2.2.2.1,c,(l.getD x pd).2.2.2.2.2.1,(l.getD x pd).2.2.2.2.2.2);rw[h2,(oD _ (yF l x)).1,(oD _ (yF l x)).2];rfl
theorem YV {k l}(bS:l.length<k)(hl:qT l){id x}(hx:vZ l id=some x):
  Lu k l id=some (py (yF l x) (l.getD x pd),0):=by
 have dt:=kU hx;have hlen:=oC dt.1;have dQ:=hl;unfold qT at dQ;unfold Lu;rw[uY bS hl];unfold iE;rw[hx];simp only[ae];rw[YT (k:=k) (l:=yF l x) (by omega) (by omega) (l.getD x pd)];simp only[ae];rw[Qr (k:=k) (l:=yF l x) (by omega) (BO (fun q=>jL q (l.getD x pd)) (yF l x)) (l.getD x pd),(oD _ (yF l x)).1,(oD _ (yF l x)).2];rfl
theorem vIi {k l}(bS:l.length<k)(hl:qT l){id x}(hx:vZ l id=some x):
  Lv k l id=some (KO (yF l x) (l.getD x pd),0):=by
 have dt:=kU hx;have hlen:=oC dt.1;have dQ:=hl;unfold qT at dQ;have ld:∀(l:List zH),l.length<k→l.length≤1000→∀p:zH,Lw k k l 0 p=some (l,(((l.takeWhile (fun q=>kj q p)).length:Nat):Int),p):=by
  intro l bS hl p;have := FQ (L := fun n i => Lw k n l i p) (N := l.length) (fun x => kj (l.getD x pd) p) (fun i => (l, (i : Int), p)) (fun n=>by
   show GS k _ l l.length p=_;unfold GS;simp) (fun n i hi=>by
   show GS k _ l i p=_;unfold GS;have h1:=vDj k p (l.getD i pd);simp only[qC,qU,ao,aa hi,h1,qD hi (by grind),vHp];rfl) l.length 0 k (by omega) bS
  have e:((0:Nat):Int)=0:=rfl;rw[e] at this;rw[this,FR (fun q=>kj q p) l pd l.length 0 (by omega),List.drop_zero,Nat.zero_add]
 unfold Lv;rw[uY bS hl];unfold iE;rw[hx];have h1:=ld (yF l x) (by omega) (by omega) (l.getD x pd);refine(congrArg (fun z=>Option.bind z _) h1).trans ?_;simp only[ae];rw[Qr (k:=k) (l:=yF l x) (by omega) (BO (fun q=>kj q (l.getD x pd)) (yF l x)) (l.getD x pd),(oD _ (yF l x)).1,(oD _ (yF l x)).2];rfl
theorem vUl {k:Nat}{l:AC}(hk:l.length<k)(hl:l.length≤1000)(id:Int):Qs k l id=some (decide (id∈l)):=by
 have := mo (L := fun n i => GU k n l id i) (N := l.length) (fun i => !decide (l.getD i 0 = id)) (.inl ()) (.inr true) (fun n=>by
  show GV k _ l id l.length=_;unfold GV;rw [ab (Int.lt_irrefl _)]; rfl) (fun n i hi=>by
  show GV k (GU k n) l id i=_;unfold GV;rw[aa (show(i:Int)<l.length by omega),qC,aa hi,ao,qD hi (by omega)];cases decide (l.getD i 0=id)<;>rfl) hk
 unfold Qs;have h':GU k k l id 0=_:=this;rw[h'];have e:qH (fun i=> !decide (l.getD i 0=id)) l.length 0= !decide (id∈l):=by
  by_cases hm:id∈l
  ·rw[aa hm];cases ha:qH (fun i=> !decide (l.getD i 0=id)) l.length 0 with
   |false=>rfl
   |true=>
    obtain⟨i,hi,e⟩:=List.getElem_of_mem hm;have:=gH.1 ha i hi;rw[GO l hi,e] at this;simp at this
  ·rw[ab hm];refine gH.2 fun i hi=>?_
   rw[ab (show¬l.getD i 0=id from fun e=>hm (by rw[←e];exact fg hi))];rfl
 rw[e];cases decide (id∈l)<;>rfl
theorem vK0 {k:Nat}{l:AC}(hk:l.length<k)(hl:l.length≤1000)(id:Int):
  B8 k l id=some (bif decide (id∈l) then(l,6) else bif decide (200≤l.length) then(l,3) else(qz l id,0)):=by
 unfold B8;rw[vUl hk hl];simp only[ae];by_cases hm:id∈l
 ·rw[aa hm];rfl
 ·rw[ab hm];simp only[ak];by_cases h:200≤l.length
  ·rw[aa h,aa (show(l.length:Int)≥200 by omega)];rfl
  ·rw[ab h,ab (show¬(l.length:Int)≥200 by omega)];have := FQ (L := fun n i => Lx k n l id i) (N := l.length) (fun x => decide (l.getD x 0 < id)) (fun i => (l, id, (i : Int))) (fun n=>by
    show GW k _ l id l.length=_;unfold GW;simp only [qU, ab (Nat.lt_irrefl _), ak]) (fun n i hi=>by
    show GW k _ l id i=_;unfold GW;simp only[qC,qU,ao,aa hi,ag,qD hi (show l.length<9223372036854775808 by omega)];rfl) l.length 0 k (by omega) hk
   have e:((0:Nat):Int)=0:=rfl;rw[e,FR (fun x=>decide (x<id)) l 0 l.length 0 (by omega),List.drop_zero,Nat.zero_add] at this;have h':Lx k k l id 0=_:=this;simp only[ak];rw[h'];have hn:=BO (fun x=>decide (x<id)) l;obtain⟨t1,t2⟩:=oD (fun x=>decide (x<id)) l;have e1:(decide (0≤(((l.takeWhile (fun x=>decide (x<id))).length:Nat):Int))&&decide ((((l.takeWhile (fun x=>decide (x<id))).length:Nat):Int)≤((l.length:Nat):Int)))=true:=by simp;exact hn
   have hd:=(List.dropWhile_sublist (fun x=>decide (x<id)) (l:=l)).length_le;simp only[ae,e1,ag,ao,t1,t2];rw[qI (n:=0+(l.takeWhile (fun x=>decide (x<id))).length) (by omega) (by omega),qI (n:=(l.takeWhile (fun x=>decide (x<id))).length+1) (by omega) (by omega),qI (n:=(l.takeWhile (fun x=>decide (x<id))++[id]).length+(l.dropWhile (fun x=>decide (x<id))).length) (by rw[au];simp;omega) (by rw[au];simp;omega)];simp only[ag];unfold qz;simp
abbrev vS2:=Int×List pA×Int×Int×Int×Int×List yA×jO×AC×jO×AC×jO×List zH×AC×Int×Bool×Int
def fz (r:qG)(s:zU)(who:Int):vS2:=(r.1,r.2.1,r.2.2.1,r.2.2.2.1,r.2.2.2.2,s.t,s.B.1,s.B.2.1,s.B.2.2.1,s.B.2.2.2,s.pr,s.ho,s.m,s.ids,s.to,s.ov,who)
def Qt (s:zU)(i:Nat)(a:yA)(to:Int):zU:={s with B:=(s.B.1.set i a,s.B.2.1,s.B.2.2.1,s.B.2.2.2),to:=to}
def GX (s:zU)(i:Nat)(n:Int):Int×zU:=
 bif decide ((s.B.1.getD i ad).1+(s.B.1.getD i ad).2.1-(s.B.1.getD i ad).2.2<n) then(9,s)
 else bif decide (s.to-n<0) then(9,s)
 else bif !decide ((wZ (s.B.1.getD i ad) (-n)).2=0) then((wZ (s.B.1.getD i ad) (-n)).2,s)
 else bif decide (s.to-n>1152921504606846976) then(8,s)
 else(0,Qt s i (wZ (s.B.1.getD i ad) (-n)).1 (s.to-n))
def GY (s:zU)(i:Nat)(n:Int):Int×zU:=
 bif !decide ((wZ (s.B.1.getD i ad) n).2=0) then((wZ (s.B.1.getD i ad) n).2,s)
 else bif decide (s.to+n>1152921504606846976) then(8,s)
 else(0,Qt s i (wZ (s.B.1.getD i ad) n).1 (s.to+n))
def iG (r:qG)(s:zU)(kd to n:Int):Int×zU:=
 bif !(decide (to≥0)&&decide (to≤r.1-1)) then(1,s)
 else bif !(decide (n≥1)&&decide (n≤1099511627776)) then(1,s)
 else bif decide (kd=11) then GX s to.toNat n else GY s to.toNat n
theorem yXb {k}(hk:1000≤k){r}(hr:vM r){s}(h:qW r s) who kd to n:
    ∃d,B9 k (fz r s who) kd to n=some ((iG r s kd to n).1,d)∧((iG r s kd to n).1=0→d=dk r (iG r s kd to n).2 who []):=by
  have hp:=hr.pa;have hn:=h.n;have ht:=h.tot;have w1:zA (r.1-1)=r.1-1:=zO (by omega) (by omega);have eD:B9 k (fz r s who) kd to n=(vN k to 0 (zA (r.1-1))).bind fun x0=>
    bif !x0 then some (1,dk r s who [])
    else(vN k n 1 1099511627776).bind fun x1=>
    bif !x1 then some (1,dk r s who [])
    else bif zB to s.B.1.length then ((GZ k (s.B.1.getD to.toNat (0,0,0)) n).bind fun x2=>
      bif decide (kd = 11) then ((G0 k (s.B.1.getD to.toNat (0,0,0)) n 3).bind fun x3=>
       (G1 k (s.B.1.getD to.toNat (0,0,0)) 3).bind fun x4=>
       bif decide (x4<n) then some (9,dk r s who [])
       else bif decide ((zA (s.to-n))<0) then some (9,dk r s who [])
       else bif !(decide (x3.2=0)) then some (x3.2,dk r s who [])
       else bif decide ((zA (s.to-n))>1152921504606846976) then some (8,dk r s who [])
       else(gI k s.B.1 s.B.2.1 s.B.2.2.1 s.B.2.2.2).bind fun x5=>
       bif zB to x5.1.length then some (0,dk r {s with B:=(x5.1.set to.toNat x3.1,x5.2.1,x5.2.2.1,x5.2.2.2),to:=zA (s.to-n)} who [])
       else none)
      else bif !(decide (x2.2=0)) then some (x2.2,dk r s who [])
      else bif decide ((zA (s.to+n))>1152921504606846976) then some (8,dk r s who [])
      else(gI k s.B.1 s.B.2.1 s.B.2.2.1 s.B.2.2.2).bind fun x6=>
      bif zB to x6.1.length then some (0,dk r {s with B:=(x6.1.set to.toNat x2.1,x6.2.1,x6.2.2.1,x6.2.2.2),to:=zA (s.to+n)} who [])
      else none)
    else none:=rfl
  rw[eD,w1,nB,nB,Kf (by omega) h.bk.toSized];simp only[ae];unfold iG;cases hc:decide (to≥0)&&decide (to≤r.1-1) with
  |false=>exact by simp
  |true=>
  simp only[bc,aX] at hc;cases hm:decide (n≥1)&&decide (n≤1099511627776) with
  |false=>exact by simp
  |true=>
  simp only[bc,aX] at hm;obtain⟨i,rfl⟩:=Int.eq_ofNat_of_zero_le hc.1;have hi:i<s.B.1.length:=by omega
  have hb:=h.bk.nums.bal i hi;have kO:=h.bk.nums.res i hi;have hcr:=h.most i hi;have YW:0≤(s.B.1.getD i ad).2.1:=by rw[h.cred i hi];exact F6 (h.laid i hi)
  have b0:zB (i:Int) s.B.1.length=true:=by rw[qC,aa hi]
  have Ly:GZ k (s.B.1.getD i (0,0,0)) n=some (wZ (s.B.1.getD i ad) n):=by
    unfold GZ;rw[yWe hb (by omega)];rfl
  have LA:G0 k (s.B.1.getD i (0,0,0)) n 3=some (wZ (s.B.1.getD i ad) (-n)):=by
    unfold G0;rw[show zA (0-n)= -n by rw[zO (by omega) (by omega)];omega,yWe hb (by omega)];simp
  have yh:G1 k (s.B.1.getD i (0,0,0)) 3=some ((s.B.1.getD i ad).1+(s.B.1.getD i ad).2.1-(s.B.1.getD i ad).2.2):=by
    unfold G1;have d1:decide ((3:Int)=3)=true:=rfl;rw[d1,ag];have q1:zA ((s.B.1.getD i (0,0,0)).1+(s.B.1.getD i (0,0,0)).2.1)=(s.B.1.getD i ad).1+(s.B.1.getD i ad).2.1:=zO (by simp only[ad] at*;omega) (by simp only[ad] at*;omega);rw[q1];exact congrArg some (zO (by simp only[ad] at*;omega) (by simp only[ad] at*;omega))
  have q2:zA (s.to-n)=s.to-n:=zO (by omega) (by omega);have q3:zA (s.to+n)=s.to+n:=zO (by omega) (by omega);simp only[aB,ak,b0,ag,ao,Ly,LA,yh,ae,q2,q3];clear Ly LA yh eD;cases decide (kd=11) with
  |true=>
    simp only[ag];unfold GX;cases decide ((s.B.1.getD i ad).1+(s.B.1.getD i ad).2.1-(s.B.1.getD i ad).2.2<n) with
    |true=>exact by simp
    |false=>
    cases decide (s.to-n<0) with
    |true=>exact by simp
    |false=>
    cases hz:decide ((wZ (s.B.1.getD i ad) (-n)).2=0) with
    |false=>exact by simp
    |true=>
    cases decide (s.to-n>1152921504606846976) with
    |true=>exact by simp
    |false=>exact⟨_,rfl,fun _=>rfl⟩
  |false=>
    simp only[ak];unfold GY;cases hz:decide ((wZ (s.B.1.getD i ad) n).2=0) with
    |false=>exact by simp
    |true=>
    cases decide (s.to+n>1152921504606846976) with
    |true=>exact by simp
    |false=>exact⟨_,rfl,fun _=>rfl⟩
def gk (sa:List pA)(pr:AC)(ho:jO)(j:Nat):Int:=mv sa pr (ho.getD j [])
def tl (sa:List pA)(pr:AC)(ho:jO)(a:List yA):List yA:=(List.range a.length).map fun j=>((a.getD j ad).1,gk sa pr ho j,(a.getD j ad).2.2)
def Ca (r:qG)(s:zU)(pr:AC):Int×zU:=
 bif qH (fun j=> !decide (gk r.2.1 pr s.ho j>1152921504606846976)) s.B.1.length 0 then(0,{s with B:=(tl r.2.1 pr s.ho s.B.1,s.B.2.1,s.B.2.2.1,s.B.2.2.2),pr:=pr}) else(8,s)
def ja (r:qG)(s:zU)(a p:Int):Int×zU:=
 bif !(decide (a≥0)&&decide (a≤(r.2.1.length:Int)-1)) then(1,s)
 else bif !(decide (p≥0)&&decide (p≤1048576)) then(1,s)
 else Ca r s (s.pr.set a.toNat p)
theorem YX sa pr ho a:(tl sa pr ho a).length=a.length:=by simp[tl]
theorem Qu sa pr ho a {j}(hj:j<a.length):(tl sa pr ho a).getD j ad=((a.getD j ad).1,gk sa pr ho j,(a.getD j ad).2.2):=by
 unfold tl;simp_all
theorem vPh {k:Nat}(hk:1000≤k){r:qG}{s:zU}(who:Int){pr:AC}(hL:∀i,i<s.B.1.length→kV r.2.1 pr (s.ho.getD i []))(hol:s.ho.length=s.B.1.length)(gJ:s.B.1.length≤6):
  (qH (fun j=> !decide (gk r.2.1 pr s.ho j>1152921504606846976)) s.B.1.length 0=true∧uZ k k s.ho s.ho.length 0 (fz r s who) pr s.B.1 s.B.2.1 s.B.2.2.1 s.B.2.2.2=some (.inl (fz r s who,pr,tl r.2.1 pr s.ho s.B.1,s.B.2.1,s.B.2.2.1,s.B.2.2.2)))∨
  (qH (fun j=> !decide (gk r.2.1 pr s.ho j>1152921504606846976)) s.B.1.length 0=false∧uZ k k s.ho s.ho.length 0 (fz r s who) pr s.B.1 s.B.2.1 s.B.2.2.1 s.B.2.2.2=some (.inr (8,fz r s who))):=by
 rw[hol];have:=Pg (L:=fun n i (a:List yA)=>uZ k n s.ho s.B.1.length i (fz r s who) pr a s.B.2.1 s.B.2.2.1 s.B.2.2.2) (N:=s.B.1.length) (fun j=> !decide (gk r.2.1 pr s.ho j>1152921504606846976))
  (fun a=>.inl (fz r s who,pr,a,s.B.2.1,s.B.2.2.1,s.B.2.2.2)) (.inr (8,fz r s who))
  (fun i a => a.length = s.B.1.length ∧ ∀ j, j < s.B.1.length → a.getD j ad = if j < i then ((s.B.1.getD j ad).1, gk r.2.1 pr s.ho j, (s.B.1.getD j ad).2.2) else s.B.1.getD j ad) (fun n a _=>by
   show G2 k _ s.ho s.B.1.length s.B.1.length (fz r s who) pr a s.B.2.1 s.B.2.2.1 s.B.2.2.2=_;unfold G2;simp only [qU, ab (Nat.lt_irrefl _), ak]) (fun n i a hi ha=>by
   have hv:=XX (k:=k) (hL i hi) (by omega);have aL:uZ k (n+1) s.ho s.B.1.length i (fz r s who) pr a s.B.2.1 s.B.2.2.1 s.B.2.2.2=bif decide (gk r.2.1 pr s.ho i>1152921504606846976) then some (.inr (8,fz r s who)) else uZ k n s.ho s.B.1.length ((i+1:Nat):Int) (fz r s who) pr (a.set i ((a.getD i ad).1,gk r.2.1 pr s.ho i,(a.getD i ad).2.2)) s.B.2.1 s.B.2.2.1 s.B.2.2.2:=by
    show G2 k _ s.ho s.B.1.length i (fz r s who) pr a s.B.2.1 s.B.2.2.1 s.B.2.2.2=_;unfold G2;have iN:sZ k (fz r s who).2.1 pr (s.ho.getD i [])=some (gk r.2.1 pr s.ho i,true):=hv;simp only[qU,qC,ao,aa hi,aa (show i<s.ho.length by omega),aa (show i<a.length by rw[ha.1];exact hi),ag,iN,ae,aB,ak,qD hi (show s.B.1.length<9223372036854775808 by omega)];rfl
   refine⟨fun ho=>?_,fun ho=>?_⟩
   ·have h1:decide (gk r.2.1 pr s.ho i>1152921504606846976)=false:=by simpa using ho
    refine⟨_,by rw[aL,h1];rfl,by rw[List.length_set];exact ha.1,fun j hj=>?_⟩;rw[fQ];by_cases e:i=j
    ·subst e;rw[if_pos ⟨rfl,by rw[ha.1];exact hi⟩,if_pos (by omega),ha.2 i hi,if_neg (Nat.lt_irrefl _)]
    ·rw[if_neg (by omega),ha.2 j hj];by_cases h:j<i
     ·rw[if_pos h,if_pos (by omega)]
     ·rw[if_neg h,if_neg (by omega)]
   ·have h1:decide (gk r.2.1 pr s.ho i>1152921504606846976)=true:=by simpa using ho
    rw[aL,h1];rfl) s.B.1.length 0 k s.B.1 (by omega) (by omega) ⟨rfl,fun j _=>by rw[if_neg (Nat.not_lt_zero _)]⟩
 rcases this with⟨h1,a,h2,h3,h4⟩|⟨h1,h2⟩
 ·refine .inl ⟨h1,?_⟩;have e:a=tl r.2.1 pr s.ho s.B.1:=Es ad (by rw[h3,YX]) fun j hj=>by
   rw[h3] at hj;rw[h4 j hj,if_pos hj,Qu _ _ _ _ hj]
  rw[←e];exact h2
 ·exact .inr ⟨h1,h2⟩
theorem yY8 {k:Nat}(hk:1000≤k){r:qG}(hr:vM r){s:zU}(h:qW r s)(who a p:Int):
  ∃d,Qv k (fz r s who) a p=some ((ja r s a p).1,d)∧((ja r s a p).1=0→d=dk r (ja r s a p).2 who []):=by
 have h3:=hr.n3;have gJ:=h.bk.n6;have me:=h.bk.n1;have w1:zA ((r.2.1.length:Int)-1)=(r.2.1.length:Int)-1:=zO (by omega) (by omega);have eD:Qv k (fz r s who) a p=((vN k a 0 (zA ((r.2.1.length:Int)-1))).bind fun x0=>some x0).bind fun x0=>
  bif !x0 then some (1,dk r s who [])
  else(vN k p 0 1048576).bind fun x1=>
  bif !x1 then some (1,dk r s who [])
  else(rf k s.pr a p).bind fun x2=>
  (gI k s.B.1 s.B.2.1 s.B.2.2.1 s.B.2.2.2).bind fun x3=>
  (uZ k k s.ho (s.ho.length:Int) 0 (fz r s who) x2 x3.1 x3.2.1 x3.2.2.1 x3.2.2.2).bind fun z=>
  match z with
  |.inl z1=>some (0,(jJ z1.1 (Cb z1 (z1.2.1,(YY z1.1 [])))))
  |.inr z2=>some (jP z2 []):=rfl
 rw[eD,w1,nB,nB,Kf (by omega) h.bk.toSized];simp only[ae];unfold ja;cases hc:decide (a≥0)&&decide (a≤(r.2.1.length:Int)-1) with
 |false=>exact⟨_,rfl,fun e=>by cases e⟩
 |true=>
 simp only[bc,aX] at hc;cases hm:decide (p≥0)&&decide (p≤1048576) with
 |false=>exact⟨_,rfl,fun e=>by cases e⟩
 |true=>
 simp only[bc,aX] at hm;obtain⟨i,rfl⟩:=Int.eq_ofNat_of_zero_le hc.1;have hi:i<r.2.1.length:=by omega
 have L0:=h.laid 0 (by omega);have mz:rf k s.pr (i:Int) p=some (s.pr.set i p):=by
  have:=yUv (k:=k) (l:=s.pr) (by rw[L0.pl];omega) (i:=(i:Int)) (by omega) (by rw[L0.pl];omega) p;rw[ao] at this;exact this
 simp only[aB,ak,mz,ae,ao];unfold Ca;rcases vPh (r:=r) (s:=s) hk who (pr:=s.pr.set i p) (fun j hj=>(h.laid j hj).setP hi ⟨by omega,by omega⟩) h.hol gJ with⟨g1,g2⟩|⟨g1,g2⟩
 ·rw[g2,g1];exact⟨_,rfl,fun _=>rfl⟩
 ·rw[g2,g1];exact⟨_,rfl,fun e=>by cases e⟩
theorem LB {q p}:jL q p=true↔q.2.1<p.2.1∨(q.2.1=p.2.1∧q.2.2.2.2.1≤p.2.2.2.2.1):=by
 unfold jL;simp
theorem YZ {q p}:kj q p=true↔q.2.1<p.2.1∨(q.2.1=p.2.1∧q.2.2.2.2.1<p.2.2.2.2.1):=by
 unfold kj;simp
theorem Y0 {a b c}(h:jL a b=true)(g:jL b c=true):jL a c=true:=by
 rw[LB] at*;omega
theorem Y1 {a b}(h:¬jL a b=true):jL b a=true:=by
 rw[LB] at*;omega
theorem Y2 {a b}(h:kj a b=true):jL a b=true:=by
 rw[YZ] at h;rw[LB];omega
theorem vHy {a b}(h:¬kj a b=true):jL b a=true:=by
 rw[YZ] at h;rw[LB];omega
theorem yM5 f l (p:zH):List.Perm (l.takeWhile f++(p::l.dropWhile f)) (p::l):=by
 have:=List.perm_middle (a:=p) (l₁:=l.takeWhile f) (l₂:=l.dropWhile f);simp_all
theorem yFz {l:List zH}(hs:pG l)(p:zH)(f:zH→Bool)(h1:∀q,f q=true→jL q p=true)(h2:∀q,¬f q=true→jL p q=true):pG (l.takeWhile f++(p::l.dropWhile f)):=by
 have ub:=hs;unfold pG at hs ub⊢;rw[←List.takeWhile_append_dropWhile (p:=f) (l:=l)] at hs;obtain⟨a1,a2,a3⟩:=List.pairwise_append.1 hs;have Y3:∀q∈l.takeWhile f,f q=true:=fun q hq=>List.all_eq_true.1 (List.all_takeWhile (p:=f) (l:=l)) q hq
 have Y4:∀q∈l.dropWhile f,jL p q=true:=by
  cases hd:l.dropWhile f with
  |nil=>intro q hq;cases hq
  |cons x m=>
   have hx:¬f x=true:=by
    have bp:l.dropWhile f≠[]:=by rw[hd];simp
    have:=List.head_dropWhile_not f bp;have e:(l.dropWhile f).head bp=x:=by simp only[hd,List.head_cons]
    rw[e] at this;simp[this]
   intro q hq;rcases List.mem_cons.1 hq with rfl|hq
   ·exact h2 _ hx
   ·rw[hd] at a2;exact Y0 (h2 x hx) ((List.pairwise_cons.1 a2).1 q hq)
 refine List.pairwise_append.2 ⟨a1,List.pairwise_cons.2 ⟨Y4,a2⟩,fun a ha b hb=>?_⟩;rcases List.mem_cons.1 hb with rfl|hb
 ·exact h1 a (Y3 a ha)
 ·exact a3 a ha b hb
theorem Y5 {l}(hs:pG l) p:pG (py l p):=yFz hs p _ (by simp) (fun _ h=>Y1 h)
theorem vZ8 {l}(hs:pG l) p:pG (KO l p):=yFz hs p _ (fun _ h=>Y2 h) (fun _ h=>vHy h)
theorem Y6 l p:List.Perm (py l p) (p::l):=yM5 _ l p
theorem vNq l p:List.Perm (KO l p) (p::l):=yM5 _ l p
theorem pG.cut {l}(h:pG l) x:pG (yF l x):=List.Pairwise.sublist (uI l x) h
theorem Y7 {l:AC}(ha:uJ l){id:Int}(hn:id∉l):uJ (qz l id):=by
 unfold qz;have sd:=ha;unfold uJ at ha sd⊢;rw[←List.takeWhile_append_dropWhile (p:=fun x=>decide (x<id)) (l:=l)] at ha;obtain⟨a1,a2,a3⟩:=List.pairwise_append.1 ha;have Y3:∀q∈l.takeWhile (fun x=>decide (x<id)),q<id:=fun q hq=>by simpa using List.all_eq_true.1 (List.all_takeWhile (p:=fun x=>decide (x<id)) (l:=l)) q hq
 have Y4:∀q∈l.dropWhile (fun x=>decide (x<id)),id<q:=by
  cases hd:l.dropWhile (fun x=>decide (x<id)) with
  |nil=>intro q hq;cases hq
  |cons x m=>
   have A0:x∈l:=(List.dropWhile_sublist _).subset (by rw[hd];exact List.mem_cons_self ..);have hx:¬x<id:=by
    have bp:l.dropWhile (fun x=>decide (x<id))≠[]:=by rw[hd];simp
    have:=List.head_dropWhile_not (fun x=>decide (x<id)) bp;have e:(l.dropWhile (fun x=>decide (x<id))).head bp=x:=by simp only[hd,List.head_cons]
    rw[e] at this
    simpa using this
   have bp:x≠id:=fun e=>hn (e▸A0)
   intro q hq;rcases List.mem_cons.1 hq with rfl|hq
   ·omega
   ·rw[hd] at a2;have:=(List.pairwise_cons.1 a2).1 q hq;omega
 refine List.pairwise_append.2 ⟨a1,List.pairwise_cons.2 ⟨Y4,a2⟩,fun a ha b hb=>?_⟩;rcases List.mem_cons.1 hb with rfl|hb
 ·exact Y3 a ha
 ·exact a3 a ha b hb
theorem vXv l id:List.Perm (qz l id) (id::l):=by
 have:=List.perm_middle (a:=id) (l₁:=l.takeWhile (fun x=>decide (x<id))) (l₂:=l.dropWhile (fun x=>decide (x<id)))
 rwa [List.takeWhile_append_dropWhile] at this
theorem kk.sub {n m m' ids}(h:kk n m ids)(hs:List.Sublist m' m):kk n m' ids:=
 ⟨List.Pairwise.sublist hs h.dist,by have:=hs.length_le;have:=h.len;omega,List.Pairwise.sublist hs h.sort,fun p hp=>h.may p (by grind),fun p hp=>h.time p (by grind),fun p hp=>h.were p (by grind),h.asc,h.pos,h.idl⟩
theorem kk.turn {n:Nat}{m:List zH}{ids:AC}(h:kk n m ids){x:Nat}(hx:x<m.length){p:zH}{m':List zH}(hp:List.Perm m' (p::yF m x))(hs:pG m')(h1:p.1=(m.getD x pd).1)
  (h2:yI n p) (h3:0≤p.2.2.2.2.2.1∧p.2.2.2.2.2.1≤p.2.2.2.2.2.2∧p.2.2.2.2.2.2≤1048576):kk n m' ids:=by
 have hc:=uI m x;have hl:=oC hx;have hd:qM (p::yF m x):=by
  refine List.pairwise_cons.2 ⟨fun q hq=>?_,h.dist.cut x⟩;rw[h1];have hd:=h.dist;unfold qM at hd;rw[Px m x pd hx] at hd;have KR:=List.pairwise_append.1 hd;have XO:=List.pairwise_cons.1 KR.2.1;unfold yF at hq;rcases List.mem_append.1 hq with hq|hq
  ·exact fun e=>KR.2.2 _ hq _ (List.mem_cons_self ..) e.symm
  ·exact XO.1 _ hq
 have hlen:=hp.length_eq;rw[List.length_cons] at hlen;refine⟨hd.perm hp,by have:=h.len;omega,hs,fun q hq=>?_,fun q hq=>?_,fun q hq=>?_,h.asc,h.pos,h.idl⟩;all_goals rcases List.mem_cons.1 (hp.subset hq) with rfl|pz
 ·exact h2
 ·exact h.may q (hc.subset pz)
 ·exact h3
 ·exact h.time q (hc.subset pz)
 ·rw[h1];exact h.were _ (fg hx)
 ·exact h.were q (hc.subset pz)
theorem yLp {r:qG}{s:zU}(hr:vM r)(h:qW r s){who:Int}{f:jE}(h0:(iX r s who f).1=0):kk s.B.1.length (iX r s who f).2.1 (iX r s who f).2.2:=by
 have hw:=h.waits;have hn:=h.n;have ht:=h.tk;unfold iX at h0⊢;cases hc:decide (f.2.2.1≥0)&&decide (f.2.2.1≤r.1-1) with
 |false=>rw[hc] at h0;cases h0
 |true=>
 cases cQ:decide (f.2.2.2.2.1≥1)&&decide (f.2.2.2.2.1≤3) with
 |false=>rw[hc,cQ] at h0;cases h0
 |true=>
 cases dL:decide (nC r s.t (gj who f)=0) with
 |false=>rw[hc,cQ,dL] at h0;exact absurd h0 (gh dL)
 |true=>
 cases gY:decide (f.2.1∈s.ids) with
 |true=>rw[hc,cQ,dL,gY] at h0;cases h0
 |false=>
 cases nn:decide (200≤s.ids.length) with
 |true=>rw[hc,cQ,dL,gY,nn] at h0;cases h0
 |false=>
 cases Ej:(vZ s.m f.2.1).isSome with
 |true=>rw[hc,cQ,dL,gY,nn,Ej] at h0;cases h0
 |false=>
 cases Ek:decide (40≤s.m.length) with
 |true=>rw[hc,cQ,dL,gY,nn,Ej,Ek] at h0;cases h0
 |false=>
 show kk s.B.1.length (py s.m (gj who f)) (qz s.ids f.2.1);have NP:f.2.1∉s.ids:=gh gY;have hi:=gh nn;have hm:=gh Ek;have Cc:=JM dL;have Y8:kY r.1 s.t (gj who f)=true:=by
  unfold nC at Cc;cases hb:kY r.1 s.t (gj who f) with
  |true=>rfl
  |false=>rw[hb] at Cc;cases Cc
 unfold kY at Y8;simp only[bc,aX,Bool.not_eq_true',decide_eq_false_iff_not] at Y8;obtain⟨⟨p1,p2⟩,⟨p3,p4⟩,p5,p6,p7,p8,p9,ur,p11,p12,p13,p14⟩:=Y8;have yg:=Y6 s.m (gj who f);have Qw:=vXv s.ids f.2.1;have hlen:=yg.length_eq;have qo:=Qw.length_eq;rw[List.length_cons] at hlen qo;have bU:yI s.B.1.length (gj who f):=⟨p1,by omega,p3,by omega,p9,p6,p7,p8,ur⟩;have fK:∀x,x∈s.ids→x∈qz s.ids f.2.1:=fun x hx=>Qw.symm.subset (List.mem_cons_of_mem _ hx)
 have LC:qM (gj who f::s.m):=List.pairwise_cons.2 ⟨fun q hq e=>NP (by have:=hw.were q hq;rw[←e] at this;exact this),hw.dist⟩;refine⟨LC.perm yg,by omega,Y5 hw.sort _,fun q hq=>?_,fun q hq=>?_,fun q hq=>?_,Y7 hw.asc NP,fun x hx=>?_,by omega⟩
 ·rcases List.mem_cons.1 (yg.subset hq) with rfl|pz
  ·exact bU
  ·exact hw.may q pz
 ·rcases List.mem_cons.1 (yg.subset hq) with rfl|pz
  ·exact⟨p11,p12,p14⟩
  ·exact hw.time q pz
 ·rcases List.mem_cons.1 (yg.subset hq) with rfl|pz
  ·exact Qw.symm.subset (List.mem_cons_self ..)
  ·exact fK _ (hw.were q pz)
 ·rcases List.mem_cons.1 (Qw.subset hx) with rfl|nT
  ·exact p5
  ·exact hw.pos x nT
theorem vFb {r s}(h:qW r s){who f}(h0:(kZ r s who f).1=0):kk s.B.1.length (kZ r s who f).2.1 s.ids:=by
 have hw:=h.waits;unfold kZ at h0⊢;cases hx:vZ s.m f.2.1 with
 |none=>omega
 |some x=>
 rw[hx] at h0;have dt:=(kU hx).1;have aZ:s.m.getD x pd∈s.m:=by grind
 have hm:=hw.may _ aZ;have ht:=hw.time _ aZ;simp only at h0⊢;cases hc:decide ((s.m.getD x pd).2.1=who) with
 |false=>simp_all
 |true=>
 cases cQ:decide (f.1=2) with
 |true=>exact hw.sub (uI _ _)
 |false=>
 cases dL:decide (f.1=4) with
 |true=>
  cases gY:decide (f.2.2.1≥1)&&decide (f.2.2.1≤3) with
  |false=>simp_all
  |true=>
  cases nn:decide (rr r.2.2.1 r.2.2.2.1 s.t f.2.2.1=0) with
  |false=>simp_all
  |true=>
  simp  at gY;obtain⟨m1,m2,m3,m4,m5,m6,m7,m8,m9⟩:=hm;exact hw.turn dt (Y6 _ _) (Y5 (hw.sort.cut x) _) rfl ⟨m1,m2,m3,m4,m5,m6,m7,gY.1,gY.2⟩ ht
 |false=>
  cases gY:decide (f.2.2.1=0) with
  |true=>exact hw.turn dt (vNq _ _) (vZ8 (hw.sort.cut x) _) rfl hm ht
  |false=>
   cases nn:decide (f.2.2.1=1) with
   |true=>exact hw.turn dt (Y6 _ _) (Y5 (hw.sort.cut x) _) rfl hm ht
   |false=>simp_all
theorem vFs {n}(h:-1≤n∧n≤1152921504606846976):wX n=true:=by
 unfold wX;grind
theorem pH {a}:fk a=true↔(-4611686018427387904<a.1∧a.1<4611686018427387904)∧(0≤a.2.1∧a.2.1≤2305843009213693952)∧(0≤a.2.2∧a.2.2≤2305843009213693952):=by
 unfold fk;grind
theorem wN.setBil {a}{b:jO}{m}{p:jO}(h:wN a b m p){w i}(hw:w<a.length)(hi:i<a.length){n}(hn:-1≤n∧n≤1152921504606846976):wN a (b.set w ((b.getD w []).set i n)) m p:=
  { h with
    bl:=by rw[List.length_set];exact h.bl
    br:=fun j hj=>by
      rw[fQ];split
      · rw[List.length_set];exact h.br w hw
      · exact h.br j hj
    bil:=fun j hj k hk=>by
      unfold cell;rw[fQ];split
      · rw[fQ];split
        · exact vFs hn
        · exact h.bil w hw k hk
      · exact h.bil j hj k hk}
theorem wN.setMul {a}{b:jO}{m}{p:jO}(h:wN a b m p) w {n}(hn:-1≤n∧n≤1152921504606846976):wN a b (m.set w n) p:=
  { h with
    ml:=by rw[List.length_set];exact h.ml
    mul:=fun j hj=>by
      rw[fQ];split
      · exact vFs hn
      · exact h.mul j hj}
theorem wN.setAcct {a}{b:jO}{m}{p:jO}(h:wN a b m p){a'}(hl:a'.length=a.length)(ha:∀i,i<a.length→fk (a'.getD i ad)=true):wN a' b m p where
 n1:=by rw[hl];exact h.n1
 n6:=by rw[hl];exact h.n6
 bl:=by rw[hl];exact h.bl
 br:=by rw[hl];exact h.br
 ml:=by rw[hl];exact h.ml
 pl:=by rw[hl];exact h.pl
 pr:=by rw[hl];exact h.pr
 mul:=by rw[hl];exact h.mul
 bil:=by rw[hl];exact h.bil
 acct:=by simp_all
 net:=by rw[hl];exact h.net
 turn:=by rw[hl];exact h.turn
theorem vNj {n g i}(hi:i<n) d:qJ (fun j=>if j=i then g j+d else g j) n=qJ g n+d:=by
 have e:qJ (fun j=>if j=i then g j+d else g j) n=qJ (fun j=>g j+(if j=i then d else 0)) n:=by grind
 rw[e,Er,Bq,if_pos hi]
theorem qW.books {r s}(h:qW r s){B}(hb:qP B)(hl:B.1.length=s.B.1.length)(BD:∀i,i<s.B.1.length→(B.1.getD i ad).1=(s.B.1.getD i ad).1)(hc:∀i,i<s.B.1.length→(B.1.getD i ad).2.1=(s.B.1.getD i ad).2.1):qW r {s with B:=B} where
 tk:=h.tk
 bk:=hb
 n:=by rw[hl];exact h.n
 hol:=by rw[hl];exact h.hol
 laid:=by rw[hl];exact h.laid
 cred:=by rw[hl];intro i hi;rw[hc i hi];exact h.cred i hi
 most:=by rw[hl];intro i hi;rw[hc i hi];exact h.most i hi
 waits:=by rw[hl];exact h.waits
 sum:=by rw[hl,sR BD];exact h.sum
 tot:=h.tot
 over:=h.over
 none:=h.none
theorem qW.queue {r s}(h:qW r s)(ho:s.ov=false){m ids}(hw:kk s.B.1.length m ids):qW r {s with m:=m,ids:=ids} where
 tk:=h.tk
 bk:=h.bk
 n:=h.n
 hol:=h.hol
 laid:=h.laid
 cred:=h.cred
 most:=h.most
 waits:=hw
 sum:=h.sum
 tot:=h.tot
 over:=h.over
 none:=by grind
theorem vGe {r:qG}{s:zU}(h:qW r s){who:Int}(hw:0≤who∧who<r.1){f:jE}(h0:(iY r s who f).1=0):qW r (iY r s who f).2:=by
 have hn:=h.n;have hb:wN s.B.1 s.B.2.1 s.B.2.2.1 s.B.2.2.2:=h.bk;obtain⟨w,rfl⟩:=Int.eq_ofNat_of_zero_le hw.1;have gK:w<s.B.1.length:=by omega
 unfold iY at h0⊢;cases hc:decide (f.1=5) with
 |true=>
  rw[hc] at h0;simp only[ag] at h0⊢;cases cQ:decide (f.2.1≥0)&&decide (f.2.1≤r.1-1) with
  |false=>rw[cQ] at h0;cases h0
  |true=>
  cases dL:decide (f.2.1=(w:Int)) with
  |true=>rw[cQ,dL] at h0;cases h0
  |false=>
  cases gY:decide (f.2.2.1≥-1)&&decide (f.2.2.1≤1152921504606846976) with
  |false=>rw[cQ,dL,gY] at h0;cases h0
  |true=>
  simp only[bc,aX] at cQ gY;exact h.books (B:=(s.B.1,s.B.2.1.set w ((s.B.2.1.getD w []).set f.2.1.toNat f.2.2.1),s.B.2.2.1,s.B.2.2.2)) (hb.setBil gK (by omega) (by grind)) rfl (by simp) (by simp)
 |false=>
  rw[hc] at h0;simp only[ak] at h0⊢;cases cQ:decide (f.1=6) with
  |true=>
   rw[cQ] at h0;simp only[ag] at h0⊢;cases dL:decide (f.2.1≥-1)&&decide (f.2.1≤1152921504606846976) with
   |false=>rw[dL] at h0;cases h0
   |true=>
   simp only[bc,aX] at dL;exact h.books (B:=(s.B.1,s.B.2.1,s.B.2.2.1.set w f.2.1,s.B.2.2.2)) (hb.setMul w (by grind)) rfl (fun _ _=>rfl) (by simp)
  |false=>
   rw[cQ] at h0;simp only[ak] at h0⊢;cases dL:decide (f.2.1≥0)&&decide (f.2.1≤1152921504606846976) with
   |false=>rw[dL] at h0;cases h0
   |true=>
   have hg:∀i,(s.B.1.set w ((s.B.1.getD w ad).1,(s.B.1.getD w ad).2.1,f.2.1)).getD i ad=if i=w then((s.B.1.getD w ad).1,(s.B.1.getD w ad).2.1,f.2.1) else s.B.1.getD i ad:=by grind
   refine h.books (B:=(s.B.1.set w ((s.B.1.getD w ad).1,(s.B.1.getD w ad).2.1,f.2.1),s.B.2.1,s.B.2.2.1,s.B.2.2.2)) (hb.setAcct (by rw[List.length_set]) fun i hi=>?_) (by simp) (fun i hi=>?_) (fun i hi=>?_)
   ·rw[hg];split
    ·have:=pH.1 (hb.acct w gK);rw[pH];grind
    ·exact hb.acct i hi
   all_goals grind
theorem yZ6 {r}(hr:vM r){s}(h:qW r s){who}(hw:0≤who∧who<r.1){a many}(h0:(iZ r s who a many).1=0):qW r (iZ r s who a many).2:=by
  have hn:=h.n;have hb:wN s.B.1 s.B.2.1 s.B.2.2.1 s.B.2.2.2:=h.bk;obtain⟨w,rfl⟩:=Int.eq_ofNat_of_zero_le hw.1;have gK:w<s.B.1.length:=by omega
  have hol:=h.hol;unfold iZ at h0⊢;simp only[ao] at h0⊢;cases hc:decide (a≥0)&&decide (a≤(r.2.1.length:Int)-1) with
  |false=>simp_all
  |true=>
  cases cQ:decide (many≥0)&&decide (many≤1099511627776) with
  |false=>simp_all
  |true=>
  rw[hc,cQ] at h0;simp only[aB,ak] at h0⊢;simp  at hc cQ;have L2:=(h.laid w gK).set (i:=a.toNat) (by omega) (v:=many) (by grind);have AU:=F6 L2;obtain⟨n,bp⟩:∃n,n=mv r.2.1 s.pr ((s.ho.getD w []).set a.toNat many):=by simp
  rw[←bp] at h0 AU⊢;unfold B4 at h0⊢;cases dL:decide (n>1152921504606846976) with
  |true=>simp_all
  |false=>
  cases gY:decide (n<(s.B.1.getD w ad).2.1)&&decide ((s.B.1.getD w ad).1+n<0) with
  |true=>simp_all
  |false=>
  have dL:=gh dL;have hg:∀i,(s.B.1.set w ((s.B.1.getD w ad).1,n,(s.B.1.getD w ad).2.2)).getD i ad=if i=w then((s.B.1.getD w ad).1,n,(s.B.1.getD w ad).2.2) else s.B.1.getD i ad:=by grind
  have hgh:∀i,(s.ho.set w ((s.ho.getD w []).set a.toNat many)).getD i []=if i=w then(s.ho.getD w []).set a.toNat many else s.ho.getD i []:=by grind
  simp only[ak];have gL:(s.B.1.set w ((s.B.1.getD w ad).1,n,(s.B.1.getD w ad).2.2)).length=s.B.1.length:=by simp
  exact{
    tk:=h.tk
    bk:=hb.setAcct gL fun i hi=>by
      rw[hg];split
      · have:=pH.1 (hb.acct w gK);rw[pH];grind
      · exact hb.acct i hi
    n:=by simp_all
    hol:=by simp_all
    laid:=by
      rw[gL];intro i hi;rw[hgh];split
      · exact L2
      · exact h.laid i hi
    cred:=by
      rw[gL];intro i hi;rw[hg,hgh];split
      · exact bp
      · exact h.cred i hi
    most:=by
      rw[gL];intro i hi;rw[hg];split
      · show n≤_;omega
      · exact h.most i hi
    waits:=by rw[gL];exact h.waits
    sum:=by
      rw[gL,sR (h:=fun i=>(s.B.1.getD i ad).1) (by grind)];exact h.sum
    tot:=h.tot
    over:=h.over
    none:=h.none}
theorem vAr {r s}(h:qW r s){i}(hi:i<s.B.1.length){n}(hz:(wZ (s.B.1.getD i ad) n).2=0)(ht:0≤s.to+n∧s.to+n≤1152921504606846976):
    qW r (Qt s i (wZ (s.B.1.getD i ad) n).1 (s.to+n)):=by
  have hb:wN s.B.1 s.B.2.1 s.B.2.2.1 s.B.2.2.2:=h.bk;unfold wZ at hz⊢;cases hc:fk ((s.B.1.getD i ad).1+n,(s.B.1.getD i ad).2.1,(s.B.1.getD i ad).2.2) with
  |false=>simp_all
  |true=>
  simp only[ag];have hg:∀j,(s.B.1.set i ((s.B.1.getD i ad).1+n,(s.B.1.getD i ad).2.1,(s.B.1.getD i ad).2.2)).getD j ad=if j=i then((s.B.1.getD i ad).1+n,(s.B.1.getD i ad).2.1,(s.B.1.getD i ad).2.2) else s.B.1.getD j ad:=by grind
  have gL:(s.B.1.set i ((s.B.1.getD i ad).1+n,(s.B.1.getD i ad).2.1,(s.B.1.getD i ad).2.2)).length=s.B.1.length:=by simp
  unfold Qt;exact{
    tk:=h.tk
    bk:=hb.setAcct gL fun j hj=>by
      rw[hg];split
      · exact hc
      · exact hb.acct j hj
    n:=by rw[gL];exact h.n
    hol:=by rw[gL];exact h.hol
    laid:=by rw[gL];exact h.laid
    cred:=by
      rw[gL];intro j hj;rw[hg];split
      · rename_i e;rw[e];exact h.cred i hi
      · exact h.cred j hj
    most:=by
      rw[gL];intro j hj;rw[hg];split
      · exact h.most i hi
      · exact h.most j hj
    waits:=by rw[gL];exact h.waits
    sum:=by
      rw[gL,sR (h:=fun j=>if j=i then(s.B.1.getD j ad).1+n else(s.B.1.getD j ad).1) (by grind),vNj hi,h.sum]
    tot:=ht
    over:=h.over
    none:=h.none}
theorem yYk {r s}(h:qW r s){kd to n}(h0:(iG r s kd to n).1=0):qW r (iG r s kd to n).2∧(iG r s kd to n).2.to=s.to+(if kd=11 then-n else n)∧(iG r s kd to n).2.m=s.m∧(iG r s kd to n).2.ids=s.ids∧(iG r s kd to n).2.t=s.t:=by
 have hn:=h.n;have ht:=h.tot;unfold iG at h0⊢;cases hc:decide (to≥0)&&decide (to≤r.1-1) with
 |false=>rw[hc] at h0;cases h0
 |true=>
 cases cQ:decide (n≥1)&&decide (n≤1099511627776) with
 |false=>simp_all
 |true=>
 rw[hc,cQ] at h0;simp  at hc cQ;have hi:to.toNat<s.B.1.length:=by omega
 by_cases hk:kd=11
 ·rw[aa hk] at h0⊢;rw[if_pos hk];unfold GX at h0⊢;cases dL:decide ((s.B.1.getD to.toNat ad).1+(s.B.1.getD to.toNat ad).2.1-(s.B.1.getD to.toNat ad).2.2<n) with
  |true=>rw[dL] at h0;cases h0
  |false=>
  cases gY:decide (s.to-n<0) with
  |true=>simp_all
  |false=>
  cases hz:decide ((wZ (s.B.1.getD to.toNat ad) (-n)).2=0) with
  |false=>grind
  |true=>
  cases nn:decide (s.to-n>1152921504606846976) with
  |true=>grind
  |false=>
  have gY:=gh gY;have:=vAr h hi (n:= -n) (by grind) (by omega);exact⟨this,rfl,rfl,rfl,rfl⟩
 ·rw[ab hk] at h0⊢;rw[if_neg hk];unfold GY at h0⊢;cases hz:decide ((wZ (s.B.1.getD to.toNat ad) n).2=0) with
  |false=>simp_all
  |true=>
  cases nn:decide (s.to+n>1152921504606846976) with
  |true=>simp_all
  |false=>
  have nn:=gh nn;exact⟨vAr h hi (by grind) (by omega),rfl,rfl,rfl,rfl⟩
theorem yG8 {r s}(h:qW r s){a p}(h0:(ja r s a p).1=0):qW r (ja r s a p).2:=by
  have hb:wN s.B.1 s.B.2.1 s.B.2.2.1 s.B.2.2.2:=h.bk;unfold ja at h0⊢;cases hc:decide (a≥0)&&decide (a≤(r.2.1.length:Int)-1) with
  |false=>simp_all
  |true=>
  cases cQ:decide (p≥0)&&decide (p≤1048576) with
  |false=>simp_all
  |true=>
  simp  at hc cQ;have hL:∀i,i<s.B.1.length→kV r.2.1 (s.pr.set a.toNat p) (s.ho.getD i []):=fun i hi=>(h.laid i hi).setP (by omega) (by grind)
  generalize s.pr.set a.toNat p=pr at*
  unfold Ca at h0⊢;cases dL:qH (fun j=> !decide (gk r.2.1 pr s.ho j>1152921504606846976)) s.B.1.length 0 with
  |false=>simp_all
  |true=>
  simp;have hle:∀i,i<s.B.1.length→gk r.2.1 pr s.ho i≤1152921504606846976:=fun i hi=>by
    have:=gH.1 dL i hi;simp_all
  have gL:=YX r.2.1 pr s.ho s.B.1;have hg:=fun(j:Nat) (hj:j<s.B.1.length)=>Qu r.2.1 pr s.ho s.B.1 hj
  exact{
    tk:=h.tk
    bk:=hb.setAcct gL fun i hi=>by
      rw[hg i hi];have:=pH.1 (hb.acct i hi);have h1:=F6 (hL i hi);rw[pH];exact⟨this.1,⟨h1,by grind⟩,this.2.2⟩
    n:=by rw[gL];exact h.n
    hol:=by rw[gL];exact h.hol
    laid:=by simp_all
    cred:=by
      rw[gL];intro i hi;rw[hg i hi];rfl
    most:=by
      simp_all
    waits:=by rw[gL];exact h.waits
    sum:=by
      rw[gL,sR (h:=fun i=>(s.B.1.getD i ad).1) (by grind)];exact h.sum
    tot:=h.tot
    over:=h.over
    none:=h.none}
abbrev MT:=Int×List pA×Int×Int×Int×Int×List yA×jO×AC×jO×AC×jO×List zH×AC×Int×Bool×Int×Int
abbrev Y9:=Int×List pA×Int×Int×Int×Int×List yA×jO×AC×jO×AC×jO×List zH×AC×Int×Bool×Int×List qY×Int
def rk (r:qG)(s:zU)(who:Int):MT:=(r.1,r.2.1,r.2.2.1,r.2.2.2.1,r.2.2.2.2,s.t,s.B.1,s.B.2.1,s.B.2.2.1,s.B.2.2.2,s.pr,s.ho,s.m,s.ids,s.to,s.ov,who,0)
def qN (r:qG)(s:zU)(who:Int)(l:List qY)(paid:Int):Y9:=(r.1,r.2.1,r.2.2.1,r.2.2.2.1,r.2.2.2.2,s.t,s.B.1,s.B.2.1,s.B.2.2.1,s.B.2.2.2,s.pr,s.ho,s.m,s.ids,s.to,s.ov,who,l,paid)
def G3 (pa n:Int):Int:=bif decide (n<0) then-1 else bif decide (n≥pa) then-1 else n
theorem Za k r s who l p n:u9 k (qN r s who l p) n=some (G3 r.1 n):=by
 unfold u9 G3;have e:(qN r s who l p).1=r.1:=rfl;grind
theorem Zb {pa n}(h:0≤n∧n<pa):G3 pa n=n:=by
 unfold G3;grind
theorem Zc {pa n}(h:¬(0≤n∧n<pa)):G3 pa n= -1:=by
 unfold G3;grind
theorem yIv k (r:qG) t c:G4 k r t c=some (rr r.2.2.1 r.2.2.2.1 t c):=by
 unfold G4 rr;grind
theorem ySr k (r:qG) t (p:zH):Cd k r t p=some (nC r t p):=by
 unfold Cd nC;rw[yIv];simp only[ae];have no:¬(p.2.1≥0∧p.2.1<r.1∧p.2.2.1≥0∧p.2.2.1<r.1∧p.1≥1∧p.2.2.2.1≥1∧p.2.2.2.1≤1099511627776∧p.2.2.2.2.1≥1∧¬p.2.1=p.2.2.1∧p.2.2.2.2.1≤3∧p.2.2.2.2.2.1≥0∧p.2.2.2.2.2.1≤p.2.2.2.2.2.2∧p.2.2.2.2.2.2≥t∧p.2.2.2.2.2.2≤1048576)→kY r.1 t p=false:=by
  intro h;cases e:kY r.1 t p with
  |false=>rfl
  |true=>
   unfold kY at e;grind
 by_cases c1:p.1<1
 ·rw[aa c1,no (fun⟨_,_,_,_,h,_⟩=>by omega)];rfl
 by_cases c2:p.2.1<0
 ·rw[ab c1,aa c2,no (fun⟨h,_⟩=>by omega)];rfl
 by_cases c3:p.2.1≥r.1
 ·rw[ab c1,ab c2,aa c3,no (fun⟨_,h,_⟩=>by omega)];rfl
 by_cases c4:p.2.2.1<0
 ·rw[ab c1,ab c2,ab c3,aa c4,no (fun⟨_,_,h,_⟩=>by omega)];rfl
 by_cases c5:p.2.2.1≥r.1
 ·rw[ab c1,ab c2,ab c3,ab c4,aa c5,no (fun⟨_,_,_,h,_⟩=>by omega)];rfl
 rw[ab c1,ab c2,ab c3,ab c4,ab c5];simp only[ak];by_cases c6:p.2.1=p.2.2.1
 ·rw[aa c6,no (fun⟨_,_,_,_,_,_,_,_,h,_⟩=>h c6)];rfl
 by_cases c7:p.2.2.2.1<1
 ·rw[ab c6,aa c7,no (fun⟨_,_,_,_,_,h,_⟩=>by omega)];rfl
 by_cases c8:p.2.2.2.1>1099511627776
 ·rw[ab c6,ab c7,aa c8,no (fun⟨_,_,_,_,_,_,h,_⟩=>by omega)];rfl
 by_cases c9:p.2.2.2.2.1<1
 ·rw[ab c6,ab c7,ab c8,aa c9,no (fun⟨_,_,_,_,_,_,_,h,_⟩=>by omega)];rfl
 by_cases PA:p.2.2.2.2.1>3
 ·rw[ab c6,ab c7,ab c8,ab c9,aa PA,no (by grind)];rfl
 rw[ab c6,ab c7,ab c8,ab c9,ab PA];simp only[ak];by_cases BM:p.2.2.2.2.2.1<0
 ·rw[aa BM,no (by grind)];rfl
 by_cases Qx:p.2.2.2.2.2.1>p.2.2.2.2.2.2
 ·rw[ab BM,aa Qx,no (by grind)];rfl
 by_cases Zd:p.2.2.2.2.2.2<t
 ·rw[ab BM,ab Qx,aa Zd,no (by grind)];rfl
 by_cases c14:p.2.2.2.2.2.2>1048576
 ·rw[ab BM,ab Qx,ab Zd,aa c14,no (by grind)];rfl
 rw[ab BM,ab Qx,ab Zd,ab c14];have e:kY r.1 t p=true:=by
  unfold kY;simp_all
 rw[e];rfl
def Ce (k:Nat)(r:qG)(s:zU)(who:Int)(p:zH):Option (Int×Y9):=
 (Cd k r s.t p).bind fun x1=>
 bif !(decide (x1=0)) then some (x1,qN r s who [] 0)
 else(B8 k s.ids p.1).bind fun x2=>
 bif !(decide (x2.2=0)) then some (x2.2,qN r s who [] 0)
 else(B7 k s.m p.1 p.2.1 p.2.2.1 p.2.2.2.1 p.2.2.2.2.1 p.2.2.2.2.2.1 p.2.2.2.2.2.2).bind fun x3=>
 bif !(decide (x3.2=0)) then some (x3.2,qN r s who [] 0)
 else some (0,qN r {s with m:=x3.1,ids:=x2.1} who [] p.1)
theorem vWa {k}(hk:1000≤k){r}(hr:vM r){s}(h:kk s.B.1.length s.m s.ids) who f:
  ∃d,Qy k (rk r s who) f.2=some ((iX r s who f).1,d)∧((iX r s who f).1=0→d=qN r {s with m:=(iX r s who f).2.1,ids:=(iX r s who f).2.2} who [] f.2.1):=by
 have hp:=hr.pa;have hi:=h.idl;have hm:=h.len;have eD:Qy k (rk r s who) f.2=(u9 k (qN r s who [] 0) f.2.2.1).bind fun x0=>
  bif decide (f.2.2.2.2.1 ≥ 1) then (bif decide (f.2.2.2.2.1≤3) then Ce k r s who (f.2.1,who,x0,f.2.2.2)
   else Ce k r s who (f.2.1,who,x0,f.2.2.2.1,0,f.2.2.2.2.2))
  else Ce k r s who (f.2.1,who,x0,f.2.2.2.1,0,f.2.2.2.2.2):=rfl
 have bad:∀p:zH,kY r.1 s.t p=false→Ce k r s who p=some (1,qN r s who [] 0):=by
  intro p hp;unfold Ce;rw[ySr];unfold nC;rw[hp];rfl
 have ael:∀p:zH,¬(p.2.2.1≥0∧p.2.2.2.2.1≥1)→kY r.1 s.t p=false:=by
  intro p hn;cases e:kY r.1 s.t p with
  |false=>rfl
  |true=>
   unfold kY at e;simp  at e;obtain⟨_,⟨a3,_⟩,_,_,_,a8,_⟩:=e;exact absurd ⟨a3,a8⟩ hn
 rw[eD,Za];simp only[ae];unfold iX;by_cases LD:0≤f.2.2.1∧f.2.2.1<r.1
 ·rw[Zb LD,aa (show f.2.2.1≥0 by omega),aa (show f.2.2.1≤r.1-1 by omega)];by_cases hc:f.2.2.2.2.1≥1∧f.2.2.2.2.1≤3
  ·rw[aa hc.1,aa hc.2];simp only[Bool.and_self,aB,ak,ag];have ep:((f.2.1,who,f.2.2.1,f.2.2.2):zH)=gj who f:=rfl;rw[ep];unfold Ce;rw[ySr];simp only[ae];by_cases hz:nC r s.t (gj who f)=0
   ·rw[aa hz];have e1:(gj who f).1=f.2.1:=rfl;simp only[aB,ak];rw[e1,vK0 (by omega) (by omega)];simp only[ae];by_cases h1:f.2.1∈s.ids
    ·rw[aa h1];exact⟨_,rfl,fun e=>by cases e⟩
    ·rw[ab h1];by_cases h2:200≤s.ids.length
     ·rw[aa h2];exact⟨_,rfl,fun e=>by cases e⟩
     ·rw[ab h2];have e3:=YU (k:=k) (l:=s.m) (by omega) (by omega) (gj who f);rw[e1] at e3;simp only[ak,decide_true,aB];rw[e3];simp only[ae];cases(vZ s.m f.2.1).isSome with
      |true=>exact⟨_,rfl,fun e=>by cases e⟩
      |false=>
       by_cases h3:40≤s.m.length
       ·rw[aa h3];exact⟨_,rfl,fun e=>by cases e⟩
       ·rw[ab h3];exact⟨_,rfl,fun _=>rfl⟩
   ·rw[ab hz];exact⟨_,rfl,fun e=>absurd e hz⟩
  ·have e0:=bad (f.2.1,who,f.2.2.1,f.2.2.2.1,0,f.2.2.2.2.2) (by grind);rw[e0];have g:(!(decide (f.2.2.2.2.1≥1)&&decide (f.2.2.2.2.1≤3)))=true:=by
    by_cases a:f.2.2.2.2.1≥1
    ·rw[aa a,ab (fun b=>hc ⟨a,b⟩)];rfl
    ·rw[ab a];rfl
   rw[g];refine⟨qN r s who [] 0,?_,fun e=>by cases e⟩;by_cases a:f.2.2.2.2.1≥1
   ·rw[aa a,ab (fun b=>hc ⟨a,b⟩)];rfl
   ·rw[ab a];rfl
 ·have g:(!(decide (f.2.2.1≥0)&&decide (f.2.2.1≤r.1-1)))=true:=by
   by_cases a:f.2.2.1≥0
   ·rw[aa a,ab (show¬f.2.2.1≤r.1-1 by omega)];rfl
   ·rw[ab a];rfl
  have q:∀x:Int×Int×Int×Int,Ce k r s who (f.2.1,who,-1,x)=some (1,qN r s who [] 0):=by grind
  rw[g,Zc LD,q,q];refine⟨qN r s who [] 0,?_,fun e=>by cases e⟩;cases decide (f.2.2.2.2.1≥1)<;>cases decide (f.2.2.2.2.1≤3)<;>rfl
theorem vGy {k}(hk:1000≤k){r s}(h:kk s.B.1.length s.m s.ids) who f (hf:f.1=2∨f.1=3∨f.1=4):
    ∃d,Cf k (rk r s who) f.1 f.2=some ((kZ r s who f).1,d)∧((kZ r s who f).1=0→d=qN r {s with m:=(kZ r s who f).2.1} who (kZ r s who f).2.2 0):=by
  have hm:=h.len;have o0:qT s.m:=by unfold qT;omega
  have eD : Cf k (rk r s who) f.1 f.2 = ((nv k s.m f.2.1).bind fun x0=>
      bif decide (x0<0) then some (((0,0,0,0,0,0,0):zH),false)
      else bif zB x0 s.m.length then (bif !(decide ((s.m.getD x0.toNat (0,0,0,0,0,0,0)).2.1=who)) then some ((0,0,0,0,0,0,0),false)
        else bif zB x0 s.m.length then some ((s.m.getD x0.toNat (0,0,0,0,0,0,0)),true)
        else none)
      else none).bind fun x0=>
    bif !x0.2 then some (4,qN r s who [] 0)
    else bif decide (f.1 = 2) then ((oF k s.m f.2.1).bind fun x1=>
      (fT k 20 [f.2.1]).bind fun x2=>
      some (0,qN r {s with m:=x1.1} who [(who,x2)] 0))
    else bif decide (f.1 = 3) then (bif decide (f.2.2.1 = 0) then ((Lv k s.m f.2.1).bind fun x3=>
       some (0,qN r {s with m:=x3.1} who [] 0))
      else bif decide (f.2.2.1 = 1) then ((Lu k s.m f.2.1).bind fun x4=>
       some (0,qN r {s with m:=x4.1} who [] 0))
      else some (1,qN r s who [] 0))
    else bif decide (f.2.2.1<1) then some (1,qN r s who [] 0)
    else bif decide (f.2.2.1>3) then some (1,qN r s who [] 0)
    else(G4 k r s.t f.2.2.1).bind fun x5=>
    bif !(decide (x5=0)) then some (x5,qN r s who [] 0)
    else(Lt k s.m f.2.1 f.2.2.1).bind fun x6=>
    some (0,qN r {s with m:=x6.1} who [] 0):=rfl
  rw[eD,Pz (by omega) (by omega)];unfold kZ ki;cases hx:vZ s.m f.2.1 with
  |none=>exact by simp
  |some x=>
    have dt:=kU hx;have e1:decide ((x:Int)<0)=false:=ab (by omega);simp only[ae,e1,ak,qC,aa dt.1,ag,ao];by_cases hw:(s.m.getD x (0,0,0,0,0,0,0)).2.1=who
    · have ph:(s.m.getD x pd).2.1=who:=hw;rw[aa hw];simp only[aB,ak,ae];by_cases h2:f.1=2
      · rw[aa h2];obtain⟨n,rfl⟩:∃n,k=n+5:=⟨k-5,by omega⟩;have eo:fT (n+5) 20 [f.2.1]=some (20,f.2.1,0,0,0,0,0):=by kernel_rfl
        simp only[ag,uY (show s.m.length<n+5 by omega) o0,ae,eo];unfold iE;rw[hx];exact⟨_,rfl,fun _=>rfl⟩
      · rw[ab h2];simp only[ak];by_cases h3:f.1=3
        · rw[aa h3,ab (show¬f.1=4 by omega)];simp only[ag,ak];by_cases h0:f.2.2.1=0
          · rw[aa h0];simp only[ag,vIi (show s.m.length<k by omega) o0 hx,ae];exact⟨_,rfl,fun _=>rfl⟩
          · rw[ab h0];simp only[ak];by_cases h1:f.2.2.1=1
            · rw[aa h1];simp only[ag,YV (show s.m.length<k by omega) o0 hx,ae];exact⟨_,rfl,fun _=>rfl⟩
            · rw[ab h1];exact by simp
        · rw[ab h3,aa (show f.1=4 by omega)];simp only[ak,ag,yIv,ae,vX1 (show s.m.length<k by omega) o0 hx];by_cases c1:f.2.2.1<1
          · rw[aa c1,ab (show¬f.2.2.1≥1 by omega)];exact⟨_,rfl,fun e=>by cases e⟩
          · rw[ab c1,aa (show f.2.2.1≥1 by omega)];by_cases c2:f.2.2.1>3
            · rw[aa c2,ab (show¬f.2.2.1≤3 by omega)];exact⟨_,rfl,fun e=>by cases e⟩
            · rw[ab c2,aa (show f.2.2.1≤3 by omega)];simp only[Bool.and_self,aB,ak];by_cases hc:rr r.2.2.1 r.2.2.2.1 s.t f.2.2.1=0
              · rw[aa hc];exact⟨_,rfl,fun _=>rfl⟩
              · rw[ab hc];exact by simp
    · rw[ab hw];exact⟨_,rfl,fun e=>by cases e⟩
theorem vWe {k}(hk:1000≤k){r}(hr:vM r){s}(hb:qP s.B)(hn:(s.B.1.length:Int)=r.1){who}(hw:0≤who∧who<r.1) f:
    ∃d,Cg k (rk r s who) f.1 f.2=some ((iY r s who f).1,d)∧((iY r s who f).1=0→d=qN r (iY r s who f).2 who [] 0):=by
  obtain⟨w,rfl⟩:=Int.eq_ofNat_of_zero_le hw.1;have gK:w<s.B.1.length:=by omega
  have eD:Cg k (rk r s w) f.1 f.2=(px k s.B.1 s.B.2.1 s.B.2.2.1 s.B.2.2.2).bind fun x0=>
    bif decide (f.1 = 5) then ((u9 k (qN r s w [] 0) f.2.1).bind fun x1=>
      bif decide (x1<0) then some (1,qN r s w [] 0)
      else bif decide (x1=(w:Int)) then some (1,qN r s w [] 0)
      else bif decide (f.2.2.1<(-1)) then some (1,qN r s w [] 0)
      else bif decide (f.2.2.1>1152921504606846976) then some (1,qN r s w [] 0)
      else bif zB (w : Int) x0.2.1.length then (bif zB x1 (x0.2.1.getD (w:Int).toNat []).length then
        some (0,qN r {s with B:=(x0.1,(x0.2.1.set (w:Int).toNat ((x0.2.1.getD (w:Int).toNat []).set x1.toNat f.2.2.1)),x0.2.2.1,x0.2.2.2)} w [] 0)
       else none)
      else none)
    else bif decide (f.1 = 6) then (bif decide (f.2.1<(-1)) then some (1,qN r s w [] 0)
      else bif decide (f.2.1>1152921504606846976) then some (1,qN r s w [] 0)
      else bif zB (w:Int) x0.2.2.1.length then some (0,qN r {s with B:=(x0.1,x0.2.1,(x0.2.2.1.set (w:Int).toNat f.2.1),x0.2.2.2)} w [] 0)
      else none)
    else bif decide (f.2.1<0) then some (1,qN r s w [] 0)
    else bif decide (f.2.1>1152921504606846976) then some (1,qN r s w [] 0)
    else bif zB (w:Int) x0.1.length then some (0,qN r {s with B:=((x0.1.set (w:Int).toNat ((x0.1.getD (w:Int).toNat (0,0,0)).1,(x0.1.getD (w:Int).toNat (0,0,0)).2.1,f.2.1)),x0.2.1,x0.2.2.1,x0.2.2.2)} w [] 0)
    else none:=rfl
  rw[eD,Ke (by omega) hb.toSized,Za];simp only[ae,qC,ao];have two:∀a b:Int,∀x:Int,decide (x<a)= !decide (x≥a)∧decide (x>b)= !decide (x≤b):=by
    intro a b x;constructor
    · by_cases h:x<a
      · rw[aa h,ab (show¬x≥a by omega)];rfl
      · rw[ab h,aa (show x≥a by omega)];rfl
    · by_cases h:x>b
      · rw[aa h,ab (show¬x≤b by omega)];rfl
      · rw[ab h,aa (show x≤b by omega)];rfl
  unfold iY;rw[ao,(two (-1) 1152921504606846976 f.2.2.1).1,(two (-1) 1152921504606846976 f.2.2.1).2,(two (-1) 1152921504606846976 f.2.1).1,(two (-1) 1152921504606846976 f.2.1).2,(two 0 0 f.2.1).1];by_cases h5:f.1=5
  · rw[aa h5];simp only[ag];by_cases hc:0≤f.2.1∧f.2.1<r.1
    · rw[Zb hc,aa (show f.2.1≥0 by omega),aa (show f.2.1≤r.1-1 by omega),ab (show¬f.2.1<0 by omega)];have b1:decide (w<s.B.2.1.length)=true:=aa (by rw[hb.bl];exact gK);have b2:zB f.2.1 (s.B.2.1.getD w []).length=true:=wV hc.1 (by rw[hb.br w gK];omega);rw[b1,b2];cases decide (f.2.1=(w:Int)) with
      |true=>exact⟨_,rfl,fun e=>by cases e⟩
      |false=>
        cases decide (f.2.2.1≥-1) with
        |false=>exact⟨_,rfl,fun e=>by cases e⟩
        |true=>
          cases decide (f.2.2.1≤1152921504606846976) with
          |false=>exact⟨_,rfl,fun e=>by cases e⟩
          |true=>exact⟨_,rfl,fun _=>rfl⟩
    · rw[Zc hc];have g:(decide (f.2.1≥0)&&decide (f.2.1≤r.1-1))=false:=by
        by_cases a:f.2.1≥0
        · rw[aa a,ab (show¬f.2.1≤r.1-1 by omega)];rfl
        · rw[ab a];rfl
      rw[g];exact⟨_,rfl,fun e=>by cases e⟩
  · rw[ab h5];by_cases h6:f.1=6
    · rw[aa h6];have b1:decide (w<s.B.2.2.1.length)=true:=aa (by rw[hb.ml];exact gK);rw[b1];cases decide (f.2.1≥-1) with
      |false=>exact⟨_,rfl,fun e=>by cases e⟩
      |true=>
        cases decide (f.2.1≤1152921504606846976) with
        |false=>exact⟨_,rfl,fun e=>by cases e⟩
        |true=>exact⟨_,rfl,fun _=>rfl⟩
    · rw[ab h6];have b1:decide (w<s.B.1.length)=true:=aa gK;rw[b1];cases decide (f.2.1≥0) with
      |false=>exact⟨_,rfl,fun e=>by cases e⟩
      |true=>
        cases decide (f.2.1≤1152921504606846976) with
        |false=>exact⟨_,rfl,fun e=>by cases e⟩
        |true=>exact⟨_,rfl,fun _=>rfl⟩
theorem vA6 {k l}(hl:l.length≤1000){i:Nat}(h1:i<l.length) v:vd k l i v=some (l.set i v):=by
 unfold vd;rw[qI (n:=0+l.length) (by omega) (by omega),aa (by simp),aa (by grind),qC,aa h1,ao];rfl
theorem vMv {r}(hr:vM r){s}(h:qW r s){who}(hw:0≤who∧who<r.1) a many:
    ∃d,Qz 1000 (rk r s who) a many=some ((iZ r s who a many).1,d)∧((iZ r s who a many).1=0→d=qN r (iZ r s who a many).2 who [] 0):=by
  have h3:=hr.n3;have hn:=h.n;have gJ:=h.bk.n6;have hol:=h.hol;obtain⟨w,rfl⟩:=Int.eq_ofNat_of_zero_le hw.1;have gK:w<s.B.1.length:=by omega
  have eD:Qz 1000 (rk r s w) a many=
    bif decide (a<0) then some (1,qN r s w [] 0)
    else bif decide (a≥(r.2.1.length:Int)) then some (1,qN r s w [] 0)
    else bif decide (many<0) then some (1,qN r s w [] 0)
    else bif decide (many>1099511627776) then some (1,qN r s w [] 0)
    else bif zB (w : Int) s.ho.length then ((vd 1000 (s.ho.getD (w:Int).toNat []) a many).bind fun x0=>
      (B5 1000 r.2.1 s.pr x0).bind fun x1=>
      bif !x1.2 then some (8,qN r s w [] 0)
      else bif decide (x1.1>1152921504606846976) then some (8,qN r s w [] 0)
      else(px 1000 s.B.1 s.B.2.1 s.B.2.2.1 s.B.2.2.2).bind fun x2=>
      bif zB (w : Int) x2.1.length then (bif decide (x1.1 < (x2.1.getD (w : Int).toNat (0, 0, 0)).2.1) then (bif decide ((zA ((x2.1.getD (w:Int).toNat (0,0,0)).1+x1.1))<0) then some (9,qN r s w [] 0)
         else bif zB (w:Int) x2.1.length then(
          bif zL (0 + s.ho.length) 24 then (bif zB (w:Int) s.ho.length then
           some (0,qN r {s with B:=((x2.1.set (w:Int).toNat ((x2.1.getD (w:Int).toNat (0,0,0)).1,x1.1,(x2.1.getD (w:Int).toNat (0,0,0)).2.2)),x2.2.1,x2.2.2.1,x2.2.2.2),ho:=s.ho.set (w:Int).toNat x0} w [] 0)
           else none)
          else none)
         else none)
        else bif zB (w:Int) x2.1.length then(
         bif zL (0 + s.ho.length) 24 then (bif zB (w:Int) s.ho.length then
           some (0,qN r {s with B:=((x2.1.set (w:Int).toNat ((x2.1.getD (w:Int).toNat (0,0,0)).1,x1.1,(x2.1.getD (w:Int).toNat (0,0,0)).2.2)),x2.2.1,x2.2.2.1,x2.2.2.2),ho:=s.ho.set (w:Int).toNat x0} w [] 0)
          else none)
         else none)
        else none)
      else none)
    else none:=rfl
  rw[eD,Ke (by omega) h.bk.toSized];simp only[ae,qC,ao];unfold iZ;simp only[ao];by_cases c1:a<0
  · rw[aa c1,ab (show¬a≥0 by omega)];exact⟨_,rfl,fun e=>by cases e⟩
  rw[ab c1,aa (show a≥0 by omega)];by_cases c2:a≥(r.2.1.length:Int)
  · rw[aa c2,ab (show¬a≤(r.2.1.length:Int)-1 by omega)];exact⟨_,rfl,fun e=>by cases e⟩
  rw[ab c2,aa (show a≤(r.2.1.length:Int)-1 by omega)];by_cases c3:many<0
  · rw[aa c3,ab (show¬many≥0 by omega)];exact⟨_,rfl,fun e=>by cases e⟩
  rw[ab c3,aa (show many≥0 by omega)];by_cases c4:many>1099511627776
  · rw[aa c4,ab (show¬many≤1099511627776 by omega)];exact⟨_,rfl,fun e=>by cases e⟩
  rw[ab c4,aa (show many≤1099511627776 by omega)];obtain⟨i,rfl⟩:=Int.eq_ofNat_of_zero_le (show 0≤a by omega);have hi:i<r.2.1.length:=by omega
  have L:=h.laid w gK;have L2:=L.set hi (v:=many) ⟨by omega,by omega⟩;have b1:decide (w<s.ho.length)=true:=aa (by omega);have b2:decide (w<s.B.1.length)=true:=aa gK;have mz:vd 1000 (s.ho.getD w []) (i:Int) many=some ((s.ho.getD w []).set i many):=vA6 (by rw[L.hl];omega) (by rw[L.hl];omega) many;have hv:=yL5 L2;have hb:=h.bk.nums.bal w gK;have AU:=F6 L2;have e24:zL (0+s.ho.length) 24=true:=qI (by omega) (by omega);simp only[Bool.and_self,aB,ak,b1,ag,mz,ae,hv,b2,ao,e24];clear hv L2 eD;generalize mv r.2.1 s.pr ((s.ho.getD w []).set i many)=n at AU⊢;unfold B4;cases Yw:decide (n>1152921504606846976) with
  |true=>exact⟨_,rfl,fun e=>by cases e⟩
  |false=>
    have h8:¬n>1152921504606846976:=gh Yw;have w2:zA ((s.B.1.getD w (0,0,0)).1+n)=(s.B.1.getD w (0,0,0)).1+n:=zO (by have:=hb.1;simp only[ad] at this;omega) (by have:=hb.2;simp only[ad] at this;omega);simp only[w2,ak];cases decide (n<(s.B.1.getD w (0,0,0)).2.1) with
    |false=>exact⟨_,rfl,fun _=>rfl⟩
    |true=>
      cases decide ((s.B.1.getD w (0,0,0)).1+n<0) with
      |true=>exact⟨_,rfl,fun e=>by cases e⟩
      |false=>exact⟨_,rfl,fun _=>rfl⟩
theorem In9 {k}{a:yA}(ha:-4611686018427387904<a.1∧a.1<4611686018427387904){n}(hn:1≤n∧n≤1099511627776):G5 k a n=some (wZ a n):=by
 unfold G5 wZ GM;rw[aa (by grind),zO (x:=9223372036854775807-n) (by omega) (by omega),ab (by grind),ab (by grind),zO (x:=a.1+n) (by omega) (by omega)];simp[Wy];grind
theorem vQn {r}(hr:vM r){s}(h:qW r s) who kd to n (Bo:kd=10∨kd=11):
    ∃d,G6 1000 (rk r s who) (decide (kd=10)) to n=some ((iG r s kd to n).1,d)∧((iG r s kd to n).1=0→d=qN r (iG r s kd to n).2 who [] 0):=by
  have hn:=h.n;have ht:=h.tot;have eD:G6 1000 (rk r s who) (decide (kd=10)) to n=(u9 1000 (qN r s who [] 0) to).bind fun x0=>
    bif decide (x0<0) then some (1,qN r s who [] 0)
    else bif decide (n<1) then some (1,qN r s who [] 0)
    else bif decide (n>1099511627776) then some (1,qN r s who [] 0)
    else(px 1000 s.B.1 s.B.2.1 s.B.2.2.1 s.B.2.2.2).bind fun x1=>
    bif decide (kd = 10) then (bif zB x0 x1.1.length then ((G5 1000 (x1.1.getD x0.toNat (0,0,0)) n).bind fun x2=>
      bif decide ((zA (s.to+n))>1152921504606846976) then some (8,qN r s who [] 0)
      else bif !(decide (x2.2=0)) then some (8,qN r s who [] 0)
      else bif zB x0 x1.1.length then some (0,qN r {s with B:=((x1.1.set x0.toNat x2.1),x1.2.1,x1.2.2.1,x1.2.2.2),to:=zA (s.to+n)} who [] 0)
      else none)
     else none)
    else bif zB x0 x1.1.length then (bif decide ((zA ((zA ((x1.1.getD x0.toNat (0,0,0)).1+(x1.1.getD x0.toNat (0,0,0)).2.1))-(x1.1.getD x0.toNat (0,0,0)).2.2))<n) then some (9,qN r s who [] 0)
     else bif decide (s.to<n) then some (9,qN r s who [] 0)
     else bif zB x0 x1.1.length then
      some (0,qN r {s with B:=((x1.1.set x0.toNat ((zA ((x1.1.getD x0.toNat (0,0,0)).1-n)),(x1.1.getD x0.toNat (0,0,0)).2)),x1.2.1,x1.2.2.1,x1.2.2.2),to:=zA (s.to-n)} who [] 0)
     else none)
    else none:=rfl
  rw[eD,Za,Ke (by omega) h.bk.toSized];simp only[ae];unfold iG;by_cases hc:0≤to∧to<r.1
  · rw[Zb hc,ab (show¬to<0 by omega),aa (show to≥0 by omega),aa (show to≤r.1-1 by omega)];by_cases c1:n<1
    · rw[aa c1,ab (show¬n≥1 by omega)];exact⟨_,rfl,fun e=>by cases e⟩
    rw[ab c1,aa (show n≥1 by omega)];by_cases c2:n>1099511627776
    · rw[aa c2,ab (show¬n≤1099511627776 by omega)];exact⟨_,rfl,fun e=>by cases e⟩
    rw[ab c2,aa (show n≤1099511627776 by omega)];obtain⟨i,rfl⟩:=Int.eq_ofNat_of_zero_le hc.1;have hi:i<s.B.1.length:=by omega
    have hb:=h.bk.nums.bal i hi;have kO:=h.bk.nums.res i hi;have hcr:=h.most i hi;have YW:0≤(s.B.1.getD i ad).2.1:=by rw[h.cred i hi];exact F6 (h.laid i hi)
    have Ze:=pH.1 (h.bk.acct i hi);have b0:zB (i:Int) s.B.1.length=true:=by rw[qC,aa hi]
    have q2:zA (s.to-n)=s.to-n:=zO (by omega) (by omega);have q3:zA (s.to+n)=s.to+n:=zO (by omega) (by omega);have Ly:G5 1000 (s.B.1.getD i (0,0,0)) n=some (wZ (s.B.1.getD i ad) n):=In9 hb ⟨by omega,by omega⟩;simp only[Bool.and_self,aB,ak,b0,ag,ao,Ly,ae,q2,q3];clear Ly eD;rcases Bo with e|e
    · rw[aa e,ab (show¬kd=11 by omega)];simp only[ag,ak];unfold GY;cases hz:decide ((wZ (s.B.1.getD i ad) n).2=0) with
      |false=>
        have e8:(wZ (s.B.1.getD i ad) n).2=8:=by
          have:=gh hz;unfold wZ at this⊢;cases hx:fk ((s.B.1.getD i ad).1+n,(s.B.1.getD i ad).2.1,(s.B.1.getD i ad).2.2) with
          |true=>rw[hx] at this;exact absurd rfl this
          |false=>rfl
        rw[e8];cases decide (s.to+n>1152921504606846976)<;>exact⟨_,rfl,fun e=>by cases e⟩
      |true=>
        cases decide (s.to+n>1152921504606846976) with
        |true=>exact⟨_,rfl,fun e=>by cases e⟩
        |false=>exact⟨_,rfl,fun _=>rfl⟩
    · rw[ab (show¬kd=10 by omega),aa e];simp only[ag,ak];unfold GX;have q1:zA ((s.B.1.getD i (0,0,0)).1+(s.B.1.getD i (0,0,0)).2.1)=(s.B.1.getD i ad).1+(s.B.1.getD i ad).2.1:=zO (by simp only[ad] at*;omega) (by simp only[ad] at*;omega);have q4:zA ((s.B.1.getD i ad).1+(s.B.1.getD i ad).2.1-(s.B.1.getD i (0,0,0)).2.2)=(s.B.1.getD i ad).1+(s.B.1.getD i ad).2.1-(s.B.1.getD i ad).2.2:=zO (by simp only[ad] at*;omega) (by simp only[ad] at*;omega);have q5:zA ((s.B.1.getD i (0,0,0)).1-n)=(s.B.1.getD i ad).1+-n:=by rw[zO (by simp only[ad] at*;omega) (by simp only[ad] at*;omega)];rfl
      simp only[q1,q4,q5];by_cases c5:(s.B.1.getD i ad).1+(s.B.1.getD i ad).2.1-(s.B.1.getD i ad).2.2<n
      · rw[aa c5];exact⟨_,rfl,fun e=>by cases e⟩
      rw[ab c5];by_cases c6:s.to<n
      · rw[aa c6,aa (show s.to-n<0 by omega)];exact⟨_,rfl,fun e=>by cases e⟩
      rw[ab c6,ab (show¬s.to-n<0 by omega),ab (show¬s.to-n>1152921504606846976 by omega)];have em:wZ (s.B.1.getD i ad) (-n)=(((s.B.1.getD i ad).1+-n,(s.B.1.getD i ad).2.1,(s.B.1.getD i ad).2.2),0):=by
        unfold wZ;have:fk ((s.B.1.getD i ad).1+-n,(s.B.1.getD i ad).2.1,(s.B.1.getD i ad).2.2)=true:=pH.2 ⟨by simp only;omega,Ze.2⟩;rw[this];rfl
      rw[em];exact⟨_,rfl,fun _=>rfl⟩
  · rw[Zc hc];have g:(decide (to≥0)&&decide (to≤r.1-1))=false:=by
      by_cases a:to≥0
      · rw[aa a,ab (show¬to≤r.1-1 by omega)];rfl
      · rw[ab a];rfl
    rw[g];exact⟨_,rfl,fun e=>by cases e⟩
theorem Zf {r s} who {pr}(hL:∀i,i<s.B.1.length→kV r.2.1 pr (s.ho.getD i []))(hol:s.ho.length=s.B.1.length)(gJ:s.B.1.length≤6):
  (qH (fun j=> !decide (gk r.2.1 pr s.ho j>1152921504606846976)) s.B.1.length 0=true∧vf 1000 1000 0 (rk r s who) pr s.B.1 s.B.2.1 s.B.2.2.1 s.B.2.2.2=some (.inl (rk r s who,pr,tl r.2.1 pr s.ho s.B.1,s.B.2.1,s.B.2.2.1,s.B.2.2.2)))∨
  (qH (fun j=> !decide (gk r.2.1 pr s.ho j>1152921504606846976)) s.B.1.length 0=false∧vf 1000 1000 0 (rk r s who) pr s.B.1 s.B.2.1 s.B.2.2.1 s.B.2.2.2=some (.inr (8,rk r s who))):=by
 have:=Pg (L:=fun n i (a:List yA)=>vf 1000 n i (rk r s who) pr a s.B.2.1 s.B.2.2.1 s.B.2.2.2) (N:=s.B.1.length) (fun j=> !decide (gk r.2.1 pr s.ho j>1152921504606846976))
  (fun a=>.inl (rk r s who,pr,a,s.B.2.1,s.B.2.2.1,s.B.2.2.2)) (.inr (8,rk r s who))
  (fun i a => a.length = s.B.1.length ∧ ∀ j, j < s.B.1.length → a.getD j ad = if j < i then ((s.B.1.getD j ad).1, gk r.2.1 pr s.ho j, (s.B.1.getD j ad).2.2) else s.B.1.getD j ad) (fun n a ha=>by
   show G7 1000 _ s.B.1.length (rk r s who) pr a s.B.2.1 s.B.2.2.1 s.B.2.2.2=_;unfold G7;simp_all) (fun n i a hi ha=>by
   have hv:=yL5 (hL i hi);have aL:vf 1000 (n+1) i (rk r s who) pr a s.B.2.1 s.B.2.2.1 s.B.2.2.2=bif decide (gk r.2.1 pr s.ho i>1152921504606846976) then some (.inr (8,rk r s who)) else vf 1000 n ((i+1:Nat):Int) (rk r s who) pr (a.set i ((a.getD i ad).1,gk r.2.1 pr s.ho i,(a.getD i ad).2.2)) s.B.2.1 s.B.2.2.1 s.B.2.2.2:=by
    show G7 1000 _ i (rk r s who) pr a s.B.2.1 s.B.2.2.1 s.B.2.2.2=_;unfold G7;have iN:B5 1000 (rk r s who).2.1 pr (s.ho.getD i [])=some (gk r.2.1 pr s.ho i,true):=hv;have eh:(rk r s who).2.2.2.2.2.2.2.2.2.2.2.1=s.ho:=rfl;simp only[eh,qU,qC,ao,aa (show i<s.ho.length by omega),aa (show i<a.length by omega),ag,iN,aB,ak,qD hi (by grind)];rfl
   grind) s.B.1.length 0 1000 s.B.1 (by omega) (by omega) (by simp)
 rcases this with⟨h1,a,h2,h3,h4⟩|⟨h1,h2⟩
 ·have e:a=tl r.2.1 pr s.ho s.B.1:=Es ad (by rw[h3,YX]) fun j hj=>by
   rw[h3] at hj;rw[h4 j hj,if_pos hj,Qu _ _ _ _ hj]
  simp_all
 simp_all
theorem Zg {r}(hr:vM r){s}(h:qW r s) who a p:
  ∃d,QA 1000 (rk r s who) a p=some ((ja r s a p).1,d)∧((ja r s a p).1=0→d=qN r (ja r s a p).2 who [] 0):=by
 have h3:=hr.n3;have gJ:=h.bk.n6;have me:=h.bk.n1;have eD:QA 1000 (rk r s who) a p=
  bif decide (a<0) then some (1,qN r s who [] 0)
  else bif decide (a≥(r.2.1.length:Int)) then some (1,qN r s who [] 0)
  else bif decide (p<0) then some (1,qN r s who [] 0)
  else bif decide (p>1048576) then some (1,qN r s who [] 0)
  else(vd 1000 s.pr a p).bind fun x0=>
  (px 1000 s.B.1 s.B.2.1 s.B.2.2.1 s.B.2.2.2).bind fun x1=>
  (vf 1000 1000 0 (rk r s who) x0 x1.1 x1.2.1 x1.2.2.1 x1.2.2.2).bind fun z=>
  match z with
  |.inl z1=>some (0,(jJ z1.1 (Cb z1 (z1.2.1,(vCr z1.1 ([],z1.1.2.2.2.2.2.2.2.2.2.2.2.2.2.2.2.2.2))))))
  |.inr z2=>some (yFu z2 ([],z2.2.2.2.2.2.2.2.2.2.2.2.2.2.2.2.2.2.2)):=rfl
 rw[eD,Ke (by omega) h.bk.toSized];simp only[ae];unfold ja;by_cases c1:a<0
 ·rw[aa c1,ab (show¬a≥0 by omega)];exact by simp
 rw[ab c1,aa (show a≥0 by omega)];by_cases c2:a≥(r.2.1.length:Int)
 ·grind
 rw[ab c2,aa (show a≤(r.2.1.length:Int)-1 by omega)];by_cases c3:p<0
 ·rw[aa c3,ab (show¬p≥0 by omega)];exact by simp
 rw[ab c3,aa (show p≥0 by omega)];by_cases c4:p>1048576
 ·rw[aa c4,ab (show¬p≤1048576 by omega)];exact by simp
 rw[ab c4,aa (show p≤1048576 by omega)];obtain⟨i,rfl⟩:=Int.eq_ofNat_of_zero_le (show 0≤a by omega);have hi:i<r.2.1.length:=by omega
 have L0:=h.laid 0 (by omega);have mz:vd 1000 s.pr (i:Int) p=some (s.pr.set i p):=vA6 (by rw[L0.pl];omega) (by rw[L0.pl];omega) p;simp only[Bool.and_self,aB,ak,mz,ae,ao];unfold Ca;rcases Zf (r:=r) (s:=s) who (pr:=s.pr.set i p) (fun j hj=>(h.laid j hj).setP hi ⟨by omega,by omega⟩) h.hol gJ with⟨g1,g2⟩|⟨g1,g2⟩
 ·rw[g2,g1];exact⟨_,rfl,fun _=>rfl⟩
 ·rw[g2,g1];exact⟨_,rfl,fun e=>by cases e⟩
theorem yMa {m}(hd:qM m){i}(hi:i<m.length):ki m (m.getD i pd).1=(i:Int):=by
 obtain⟨x,hx⟩:=Py (fg (d:=pd) hi);have h:=kU hx;unfold ki;have:x=i:=by
  rcases Nat.lt_trichotomy x i with g|g|g
  ·have:=List.pairwise_iff_getElem.1 hd x i h.1 hi g;grind
  ·exact g
  ·have:=List.pairwise_iff_getElem.1 hd i x hi h.1 g;grind
 simp_all
theorem vZa {k}(hk:100<k){B}(h:qP B){l:List zH}(hl:l.length≤80):Kr k B.1 B.2.1 B.2.2.1 B.2.2.2 l=some (xK B l):=vHx hk h hl
theorem QB {k}(hk:100<k){B}(h:qP B){l:List zH}(hl:l.length≤80):
  ∃C:BT,vg k B.1 B.2.1 B.2.2.1 B.2.2.2 l=some (C.1,C.2.1,C.2.2.1,C.2.2.2,(iF k B l).isSome)∧(∀D,iF k B l=some D→D=C):=by
 obtain⟨r,h1,h2,h3⟩:=F7 hk h hl;unfold vg iF;rw[h2,h1,vZa hk h hl];refine⟨(r.1,r.2.1,r.2.2.1,r.2.2.2.1),?_,?_⟩;all_goals grind
theorem yF5 {k}(hk:100<k){B}(h:qP B)(m:List zH)(hm:m.length≤1000):∀c i n,i+c=m.length→c<n→
  LF k n i B.1 B.2.1 B.2.2.1 B.2.2.2 0 0 0 0 0 0 0 m = some (match eE k B (m.drop i) with
   |some (p,C)=>.inr (true,p.1,p.2.1,p.2.2.1,p.2.2.2.1,p.2.2.2.2.1,p.2.2.2.2.2.1,p.2.2.2.2.2.2)
   |none=>.inl (0,0,0,0,0,0,0))
 |0,i,n,e,hn=>by
  obtain⟨n,rfl⟩:∃x,n=x+1:=⟨n-1,by omega⟩;have:i=m.length:=by omega
  subst this;show G8 k _ m.length B.1 B.2.1 B.2.2.1 B.2.2.2 0 0 0 0 0 0 0 m=_;unfold G8;simp;rfl
 |c+1,i,n,e,hn=>by
  obtain⟨n,rfl⟩:∃x,n=x+1:=⟨n-1,by omega⟩;have hi:i<m.length:=by omega
  have ih:=yF5 hk h m hm c (i+1) n (by omega) (by omega);show G8 k _ i B.1 B.2.1 B.2.2.1 B.2.2.2 0 0 0 0 0 0 0 m=_;unfold G8;obtain⟨C,h1,h2⟩:=QB hk h (l:=[m.getD i pd]) (by simp);have c1:decide ((0:Int)≤(i:Int))=true:=by simp
  have c2:decide ((i:Int)≤((i+1:Nat):Int))=true:=by grind
  have c3:decide (((i+1:Nat):Int)≤(m.length:Int))=true:=by grind
  simp only[qC,qD hi (by grind),ao,vHn m i hi];rw[yRa k B hi];grind
theorem yIm {k} (hk : 100 < k) {B} (h : qP B) {l} (bS : l.length < k) (hl : qT l) t : QC k B.1 B.2.1 B.2.2.1 B.2.2.2 l t = some (match eE k B (vV l t) with
   |some (p,C)=>(p.1,p.2.1,p.2.2.1,p.2.2.2.1,p.2.2.2.2.1,p.2.2.2.2.2.1,p.2.2.2.2.2.2,true)
   |none=>(0,0,0,0,0,0,0,false)):=by
 unfold QC;rw[yT9 bS hl];have Ga:=PQ l t;unfold qT at hl;have:=yF5 hk h (vV l t) (by omega) (vV l t).length 0 k (by omega) (by omega);grind
theorem vNc {k}(hk:100<k) t {B C l m done}(h:hZ k t B l done C m):∀n (r:List zH),qP B→l.length≤100→l.length<n→r.length+l.length≤1000→
  LG k n l t B.1 B.2.1 B.2.2.1 B.2.2.2 r=some (m,C.1,C.2.1,C.2.2.1,C.2.2.2,r++done):=by
 induction h with
 |@stop B l hx=>
  intro n r hb hl hn hr;obtain⟨n,rfl⟩:∃x,n=x+1:=⟨n-1,by omega⟩;have h2:=yIm hk hb (l:=l) (by omega) (by show l.length≤1000;omega) t;rw[hx] at h2;show G9 k _ l t B.1 B.2.1 B.2.2.1 B.2.2.2 r=_;unfold G9;simp_all
 |@step B C D l m done p hx _ ih=>
  intro n r hb hl hn hr;obtain⟨n,rfl⟩:∃x,n=x+1:=⟨n-1,by omega⟩;have h2:=yIm hk hb (l:=l) (by omega) (by show l.length≤1000;omega) t;rw[hx] at h2;obtain⟨hp,hg⟩:=BS hx;have DR:=F8 hp;obtain⟨tQ,ng⟩:=uM DR;obtain⟨oe,cQ⟩:=ta hk hb (by simp) hg;have g2:=ih n (r++[p]) oe (by omega) (by omega) (by grind);show G9 k _ l t B.1 B.2.1 B.2.2.1 B.2.2.2 r=_;unfold G9;rw[h2];obtain⟨C',e1,e2⟩:=QB hk hb (l:=[p]) (by simp);have:=e2 C hg;subst this;simp[uY (show l.length<k by omega) (show qT l by show l.length≤1000;omega),ow (show r.length≤1000 by omega)];rw[List.append_cons r p done,←g2];have LH:vg k B.1 B.2.1 B.2.2.1 B.2.2.2 [(p.1,p.2.1,p.2.2.1,p.2.2.2.1,p.2.2.2.2.1,p.2.2.2.2.2.1,p.2.2.2.2.2.2)]=_:=e1;rw[LH];rfl
theorem yZd {k}(hk:200≤k){B C}(hb:qP B){l m done}(hl:l.length≤100){t}(h:hZ k t B l done C m):QD k B.1 B.2.1 B.2.2.1 B.2.2.2 l t=some (C.1,C.2.1,C.2.2.1,C.2.2.2,m,done):=by
 unfold QD;rw[vNc (by omega) t h k [] hb hl (by omega) (by grind)];rfl
def Zh (x:Option (zH×zH×BT)):Int×Int×Int×Int×Int×Int×Int×Int×Int×Int×Int×Int×Int×Int×Bool:=match x with
 |some (p,q,C)=>(p.1,p.2.1,p.2.2.1,p.2.2.2.1,p.2.2.2.2.1,p.2.2.2.2.2.1,p.2.2.2.2.2.2,q.1,q.2.1,q.2.2.1,q.2.2.2.1,q.2.2.2.2.1,q.2.2.2.2.2.1,q.2.2.2.2.2.2,true)
 |none=>(0,0,0,0,0,0,0,0,0,0,0,0,0,0,false)
theorem yDo {k}(hk:100<k){B}(h:qP B)(m:List zH)(hm:m.length≤1000){j}(hj:j<m.length):∀c i n,i+c=m.length→c<n→
  LI k n j i B.1 B.2.1 B.2.2.1 B.2.2.2 0 0 0 0 0 0 0 0 0 0 0 0 0 0 m = some (match pB k B (m.getD j pd) (m.drop i) with
   |some (q,C)=>.inr (true,(m.getD j pd).1,(m.getD j pd).2.1,(m.getD j pd).2.2.1,(m.getD j pd).2.2.2.1,(m.getD j pd).2.2.2.2.1,(m.getD j pd).2.2.2.2.2.1,(m.getD j pd).2.2.2.2.2.2,q.1,q.2.1,q.2.2.1,q.2.2.2.1,q.2.2.2.2.1,q.2.2.2.2.2.1,q.2.2.2.2.2.2)
   |none=>.inl ((j:Int),B.1,B.2.1,B.2.2.1,B.2.2.2,0,0,0,0,0,0,0,0,0,0,0,0,0,0,m))
 |0,i,n,e,hn=>by
  obtain⟨n,rfl⟩:∃x,n=x+1:=⟨n-1,by omega⟩;have:i=m.length:=by omega
  subst this;show Ha k _ j m.length B.1 B.2.1 B.2.2.1 B.2.2.2 0 0 0 0 0 0 0 0 0 0 0 0 0 0 m=_;unfold Ha;simp;rfl
 |c+1,i,n,e,hn=>by
  obtain⟨n,rfl⟩:∃x,n=x+1:=⟨n-1,by omega⟩;have hi:i<m.length:=by omega
  have ih:=yDo hk h m hm hj c (i+1) n (by omega) (by omega);show Ha k _ j i B.1 B.2.1 B.2.2.1 B.2.2.2 0 0 0 0 0 0 0 0 0 0 0 0 0 0 m=_;unfold Ha;obtain⟨C,h1,h2⟩:=QB hk h (l:=[m.getD j pd,m.getD i pd]) (by simp);simp[qC,qD hi (by grind),h1];rw[vE8 k B _ hi];unfold rj;grind
theorem yLw {k}(hk:100<k){B}(h:qP B)(m:List zH)(hm:m.length≤1000)(K0:m.length<k):∀c i n,i+c=m.length→c<n→
  LJ k n i B.1 B.2.1 B.2.2.1 B.2.2.2 0 0 0 0 0 0 0 0 0 0 0 0 0 0 m = some (match tc k B m (m.drop i) with
   |some (p,q,C)=>.inr (true,p.1,p.2.1,p.2.2.1,p.2.2.2.1,p.2.2.2.2.1,p.2.2.2.2.2.1,p.2.2.2.2.2.2,q.1,q.2.1,q.2.2.1,q.2.2.2.1,q.2.2.2.2.1,q.2.2.2.2.2.1,q.2.2.2.2.2.2)
   |none=>.inl (0,0,0,0,0,0,0,0,0,0,0,0,0,0))
 |0,i,n,e,hn=>by
  obtain⟨n,rfl⟩:∃x,n=x+1:=⟨n-1,by omega⟩;have:i=m.length:=by omega
  subst this;show Hb k _ m.length B.1 B.2.1 B.2.2.1 B.2.2.2 0 0 0 0 0 0 0 0 0 0 0 0 0 0 m=_;unfold Hb;simp;rfl
 |c+1,i,n,e,hn=>by
  obtain⟨n,rfl⟩:∃x,n=x+1:=⟨n-1,by omega⟩;have hi:i<m.length:=by omega
  have ih:=yLw hk h m hm K0 c (i+1) n (by omega) (by omega);show Hb k _ i B.1 B.2.1 B.2.2.1 B.2.2.2 0 0 0 0 0 0 0 0 0 0 0 0 0 0 m=_;unfold Hb;have fK:=yDo hk h m hm hi m.length 0 k (by omega) K0;have e0:((0:Nat):Int)=0:=rfl;rw[e0,List.drop_zero] at fK;simp[aa hi];rw[fK];rw[yIj k B m hi];cases pB k B (m.getD i pd) m with
  |none=>
   simp[qD hi (by grind)];exact ih
  |some x=>rfl
theorem yR9 {k}(hk:100<k){B}(h:qP B){l}(bS:l.length<k)(hl:qT l) t:QE k B.1 B.2.1 B.2.2.1 B.2.2.2 l t=some (Zh (fZ k B l t)):=by
 unfold QE fZ;rw[yT9 bS hl];have Ga:=PQ l t;unfold qT at hl;have:=yLw hk h (vV l t) (by omega) (by omega) (vV l t).length 0 k (by omega) (by omega);have e:((0:Nat):Int)=0:=rfl;rw[e,List.drop_zero] at this;simp;rw[this];cases tc k B (vV l t) (vV l t) with
 |none=>rfl
 |some x=>rfl
theorem Zi {k}(hk:100<k) t {B C l m done}(h:jZ k t B l done C m):∀n (r:List zH),qP B→qM l→l.length≤100→l.length<n→r.length+l.length≤900→
  LK k n l t B.1 B.2.1 B.2.2.1 B.2.2.2 r=some (m,C.1,C.2.1,C.2.2.1,C.2.2.2,r++done):=by
 induction h with
 |@stop B l hx=>
  intro n r hb hd hl hn hr;obtain⟨n,rfl⟩:∃x,n=x+1:=⟨n-1,by omega⟩;have h2:=yR9 hk hb (l:=l) (by omega) (by show l.length≤1000;omega) t;rw[hx] at h2;show Hc k _ l t B.1 B.2.1 B.2.2.1 B.2.2.2 r=_;unfold Hc;rw[h2];simp only[ae,Zh,bG,ag,List.append_nil]
 |@step B C D l m done p q hx _ ih=>
  intro n r hb hd hl hn hr;obtain⟨n,rfl⟩:∃x,n=x+1:=⟨n-1,by omega⟩;have h2:=yR9 hk hb (l:=l) (by omega) (by show l.length≤1000;omega) t;rw[hx] at h2;obtain⟨hp,hq,pC,hg⟩:=Gd hx;obtain⟨tQ,ng⟩:=Ge hd hp hq pC;obtain⟨oe,cQ⟩:=ta hk hb (by simp) hg;have pv:(fx l p.1).length≤l.length:=(uM hp).2.length_le;have g2:=ih n (r++[p,q]) oe (List.Pairwise.sublist ng hd) (by omega) (by omega) (by grind);have e2:r++[p,q]++done=r++p::q::done:=by rw[List.append_assoc];rfl
  show Hc k _ l t B.1 B.2.1 B.2.2.1 B.2.2.2 r=_;unfold Hc;rw[h2];obtain⟨C',e1,e2'⟩:=QB hk hb (l:=[p,q]) (by simp);have:=e2' C hg;subst this;have LH:vg k B.1 B.2.1 B.2.2.1 B.2.2.2 [(p.1,p.2.1,p.2.2.1,p.2.2.2.1,p.2.2.2.2.1,p.2.2.2.2.2.1,p.2.2.2.2.2.2),(q.1,q.2.1,q.2.2.1,q.2.2.2.1,q.2.2.2.2.1,q.2.2.2.2.2.1,q.2.2.2.2.2.2)]=_:=e1;have d1:=uY (show l.length<k by omega) (show qT l by show l.length≤1000;omega) p.1;have d2:=uY (k:=k) (l:=(iE l p.1).1) (Nat.lt_of_le_of_lt pv (by omega)) (Nat.le_trans pv (by omega)) q.1;have e3:zL (r.length+2) 56=true:=qI (by omega) (by omega);simp only[ae,Zh,LH,d1,d2,e3];rw[←e2,←g2];rfl
theorem yOg {k}(hk:200≤k){B C}(hb:qP B){l m done}(hd:qM l)(hl:l.length≤100){t}(h:jZ k t B l done C m):QF k B.1 B.2.1 B.2.2.1 B.2.2.2 l t=some (C.1,C.2.1,C.2.2.1,C.2.2.2,m,done):=by
 unfold QF;rw[Zi (by omega) t h k [] hb hd hl (by omega) (by grind)];rfl
theorem Zj {k l}(hk:l.length<k)(hl:qT l) many:Hd k l many=some (vO l many):=by
 unfold qT at hl;unfold Hd;obtain ⟨s', h1, h2⟩ := yX (L := fun n i s => He k n l many i s) (N := l.length) (fun s => s) (fun i s => s = ny l many i) (fun n s _=>by
  show Hf k _ l many l.length s=_;unfold Hf;simp) (fun n i s hi hs=>by
  have fa:s.length≤i:=by rw[hs];exact X6 l many i
  refine⟨bif td l many i then s++[l.getD i pd] else s,?_,?_⟩
  ·show Hf k _ l many i s=_;unfold Hf;have c1:decide ((0:Int)≤(i:Int))=true:=by simp
   have c2:decide ((i:Int)≤(l.length:Int))=true:=by grind
   have Xu:=Pt (k:=k) (l:=l.take i) (by grind) (by show(l.take i).length≤1000;grind) (l.getD i pd).2.1;simp only[qC,qD hi (by grind),qU,ao,aa hi,ow (show s.length≤1000 by omega),c2,Xu];unfold td eG;cases e1:decide ((l.getD i (0,(0,(0,(0,(0,(0,0))))))).2.1≥0) with
   |false=>rfl
   |true=>
    cases e2:decide ((l.getD i (0,(0,(0,(0,(0,(0,0))))))).2.1<(many.length:Int)) with
    |false=>rfl
    |true=>
     rw[aX] at e1 e2;have hb:zB (l.getD i (0,(0,(0,(0,(0,(0,0))))))).2.1 many.length=true:=wV e1 (by omega);grind
  ·show _=ny l many i++_;grind) (s:=[]) hk rfl
 have gD:He k k l many 0 []=some s':=h1;rw[gD,h2];rfl
theorem vOa {k}{B:BT}{l}(hk:l.length<k)(hl:qT l)(hn:B.1.length<k)(hn':B.1.length≤1000):
  Ch k k 0 B.1 B.2.1 B.2.2.1 B.2.2.2 l []=some (B.1,B.2.1,B.2.2.1,B.2.2.2,l,ic l B.1.length):=by
 obtain ⟨s', h1, h2⟩ := yX (L := fun n i (s : AC) => Ch k n i B.1 B.2.1 B.2.2.1 B.2.2.2 l s) (N := B.1.length) (fun s => (B.1, B.2.1, B.2.2.1, B.2.2.2, l, s)) (fun i s => s = ic l i) (fun n s _=>by
  show Hg k _ B.1.length B.1 B.2.1 B.2.2.1 B.2.2.2 l s=_;unfold Hg;simp) (fun n i s hi hs=>by
  refine⟨_,?_,(yX0 l i).symm⟩;show Hg k _ i B.1 B.2.1 B.2.2.1 B.2.2.2 l s=_;unfold Hg;have hr:zL (s.length+1) 8=true:=by rw[hs,xO];exact qI (by omega) (by omega)
  simp[aa hi,Pt hk hl,hr,qD hi (by grind)];rw[hs];rfl) (s:=[]) hn rfl
 simp_all
theorem Zk {k}{B:BT}{l:List zH}{s m}(hk:s.length<k)(hs:s.length≤1000)(fK:∀x∈s,0≤x∧x<(m.length:Int))(h0:pD m)(hm:∀i,m.getD i 0≤1000) aR:
  Hh k k aR 0 B.1 B.2.1 B.2.2.1 B.2.2.2 l m s=some (aR,B.1,B.2.1,B.2.2.1,B.2.2.2,l,fy s m):=by
 obtain ⟨s', h1, h2⟩ := yX (L := fun n i (r : AC) => Hh k n aR i B.1 B.2.1 B.2.2.1 B.2.2.2 l r s) (N := s.length) (fun r => (aR, B.1, B.2.1, B.2.2.1, B.2.2.2, l, r)) (fun i r => r = fy (s.take i) m) (fun n r _=>by
  show Hi k _ aR s.length B.1 B.2.1 B.2.2.1 B.2.2.2 l r s=_;unfold Hi;simp) (fun n i r hi hr=>by
  refine⟨_,?_,(yS9 s m i hi).symm⟩;show Hi k _ aR i B.1 B.2.1 B.2.2.1 B.2.2.2 l r s=_;unfold Hi;obtain⟨b1,b2⟩:=fK _ (fg (d:=0) hi);have tS:r.length=m.length:=by rw[hr,uO]
  have hb:zB (s.getD i 0) r.length=true:=wV b1 (by omega);have Wj:=K3 (s.take i) m (s.getD i 0).toNat;have Jc:=h0 (s.getD i 0).toNat;have mh:=hm (s.getD i 0).toNat;have bn:(s.take i).length≤s.length:=by grind
  have hw:zA (r.getD (s.getD i 0).toNat 0-1)=r.getD (s.getD i 0).toNat 0-1:=by
   rw[hr];exact zO (by omega) (by omega)
  simp only[qU,qC,ao,aa hi,ag,hb,hw,qD hi (by grind)];rw[hr]) (s:=m) hk rfl
 simp_all
theorem vQs {k}(hk:100<k){B}(hb:qP B){l}(hl:∀q∈l,yI B.1.length q)(bV:l.length≤64){m f n}(h:kW B l m f n):
  ∀N (s7:Int),m.length=B.1.length→pD m→(∀i,m.getD i 0≤1000)→n<N→0≤s7→s7+n<1000000→
  LL k N s7 B.1 B.2.1 B.2.2.1 B.2.2.2 l m=some (s7+n,f):=by
 induction h with
 |@stop m h=>
  intro N s7 hm h0 h1 hn hs ub;obtain⟨N,rfl⟩:∃x,N=x+1:=⟨N-1,by omega⟩;show Hj k _ s7 B.1 B.2.1 B.2.2.1 B.2.2.2 l m=_;unfold Hj;have hS:=yQ8 hk hb (K4 hl bV m);have oX:uE k B.1 B.2.1 B.2.2.1 B.2.2.2 (vO l m)=some (fl B (vO l m)):=hS;rw[Zj (by omega) (show qT l by show l.length≤1000;omega)];simp_all
 |@step m f n h h' ih=>
  intro N s7 hm h0 h1 hn hs ub;obtain⟨N,rfl⟩:∃x,N=x+1:=⟨N-1,by omega⟩;have gJ:=hb.n6;show Hj k _ s7 B.1 B.2.1 B.2.2.1 B.2.2.2 l m=_;unfold Hj;have hS:=yQ8 hk hb (K4 hl bV m);have oX:uE k B.1 B.2.1 B.2.2.1 B.2.2.2 (vO l m)=some (fl B (vO l m)):=hS;rw[Zj (by omega) (show qT l by show l.length≤1000;omega)];simp only[ae];rw[oX];simp only[ae];have w:zA (s7+1)=s7+1:=zO (by omega) (by omega);have bp : decide ((((fl B (vO l m)).length : Nat) : Int) = 0) = false := ab (by
   have:=List.length_pos_iff.2 h;omega)
  have fa:(fl B (vO l m)).length≤B.1.length:=by
   unfold fl uG;grind
  rw[bp];simp;rw[Zk (by omega) (by omega) (by rw[hm];exact X5) h0 h1];simp[w];have Yj:=PX hl hm h0;have:=ih N (s7+1) ((uO _ _).trans hm) Yj (fun i=>by have:=(K3 (fl B (vO l m)) m i).2;have:=h1 i;omega) (by omega) (by omega) (by omega);rw[this]
  congr 2
  omega
theorem vYf {k}(hk:100<k){B}(hb:qP B){l}(hl:∀q∈l,yI B.1.length q)(bV:l.length≤64) t {f n}(hn:n≤l.length)(h:kW B (vA l t) (ic (vA l t) B.1.length) f n):
  QG k B.1 B.2.1 B.2.2.1 B.2.2.2 l t=some (f,((n+1:Nat):Int)):=by
 have gJ:=hb.n6;have hr:=xP l t;have h1:=PY (l:=vA l t) (by omega) B.1.length;unfold QG;rw[Xs (by omega) (by show l.length≤1000;omega)];simp;have e:Ch k k 0 B.1 B.2.1 B.2.2.1 B.2.2.2 (l.filter (kh t)) []=_:=vOa (k:=k) (B:=B) (l:=vA l t) (by omega) (by show(vA l t).length≤1000;omega) (by omega) (by omega);rw[e];simp;rw[vQs hk hb (K5 hl) (by omega) h k 1 (xO _ _) h1.1 h1.2 (by omega) (by omega) (by omega)];grind
theorem vVi {k}{C:BT}{l hs:List zH}(hl:l.length<k)(dQ:l.length≤1000)(hk:hs.length<k)(hh:hs.length≤1000):
  Ck k k l 0 hs C.1 C.2.1 C.2.2.1 C.2.2.2=some (pE l hs,hs,C.1,C.2.1,C.2.2.1,C.2.2.2):=by
 obtain ⟨s', h1, h2⟩ := yX (L := fun n i (s : List zH) => Ck k n s i hs C.1 C.2.1 C.2.2.1 C.2.2.2) (N := hs.length) (fun s => (s, hs, C.1, C.2.1, C.2.2.1, C.2.2.2)) (fun i s => s = pE l (hs.take i)) (fun n s _=>by
  show Hk k _ s hs.length hs C.1 C.2.1 C.2.2.1 C.2.2.2=_;unfold Hk;simp) (fun n i s hi hr=>by
  refine⟨_,?_,(yTh l hs i hi).symm⟩;show Hk k _ s i hs C.1 C.2.1 C.2.2.1 C.2.2.2=_;unfold Hk;have fa:=(PZ (hs.take i) l).1;rw[←hr] at fa⊢;simp[qC,aa hi,uY (show s.length<k by omega) (show qT s by show s.length≤1000;omega),qD hi (by grind)];rfl) (s:=l) hk rfl
 simp_all
theorem Zl {k}(hk:100<k){B}(hb:qP B){l}(hl:∀q∈l,yI B.1.length q)(bV:l.length≤64) t {f n}(hn:n≤l.length)(h:kW B (vA l t) (ic (vA l t) B.1.length) f n)
  {r:List yA×EQ×AC×EQ×Int} (hr:BC k B.1 B.2.1 B.2.2.1 B.2.2.2 (vO (vA l t) f)=some r):LM k B.1 B.2.1 B.2.2.1 B.2.2.2 l t=some (Gj B l (vO (vA l t) f) r):=by
 have tS:=xP l t;have P1:=(xN (vA l t) f).length_le;unfold LM;rw[vYf hk hb hl bV t hn h,Xs (by omega) (by show l.length≤1000;omega)];simp;have e:Hd k (l.filter (kh t)) f=_:=Zj (k:=k) (l:=vA l t) (by omega) (by show(vA l t).length≤1000;omega) f;rw[e];simp;rw[hr];simp;unfold Gj;cases decide (r.2.2.2.2=0) with
 |false=>rfl
 |true=>
  have e2:Ck k k l 0 (vO (vA l t) f) r.1 r.2.1 r.2.2.1 r.2.2.2.1=_:=vVi (C:=(r.1,r.2.1,r.2.2.1,r.2.2.2.1)) (by omega) (by omega) (by omega) (by omega);simp_all
theorem hZ.books {k}(hk:100<k){t B C l done m}(h:hZ k t B l done C m)(hb:qP B)(hd:qM l):qP C∧C.1.length=B.1.length∧List.Sublist m l:=by
 induction h with
 |stop _=>simp_all
 |step h _ ih=>
  obtain⟨hp,hg⟩:=BS h;obtain⟨h1,h2⟩:=uM (F8 hp);obtain⟨h3,h4⟩:=ta hk hb (by simp) hg;obtain⟨g1,g2,g3⟩:=ih h3 (List.Pairwise.sublist h2 hd);exact⟨g1,g2.trans h4,g3.trans h2⟩
theorem jZ.books {k}(hk:100<k){t B C l done m}(h:jZ k t B l done C m)(hb:qP B)(hd:qM l):qP C∧C.1.length=B.1.length∧List.Sublist m l:=by
 induction h with
 |stop _=>simp_all
 |step h _ ih=>
  obtain⟨hp,hq,pC,hg⟩:=Gd h;obtain⟨h1,h2⟩:=Ge hd hp hq pC;obtain⟨h3,h4⟩:=ta hk hb (by simp) hg;obtain⟨g1,g2,g3⟩:=ih h3 (List.Pairwise.sublist h2 hd);exact⟨g1,g2.trans h4,g3.trans h2⟩
theorem vWy {k}(hk:200≤k){t B C l m done}(h:my k t B l done C m):∀n (r:List zH),qP B→qM l→l.length≤100→l.length<n→r.length+l.length≤900→
  LN k n l t B.1 B.2.1 B.2.2.1 B.2.2.2 r=some (m,C.1,C.2.1,C.2.2.1,C.2.2.2,r++done):=by
 induction h with
 |@stop B C l m d h1 h2=>
  intro n r hb hd hl hn hr;obtain⟨n,rfl⟩:∃x,n=x+1:=⟨n-1,by omega⟩;have p1:=h1.perm hd;have l1:=p1.length_eq;rw[au] at l1;obtain⟨g1,g2,g3⟩:=h1.books (by omega) hb hd;have f1:=yZd hk hb hl h1;have f2:=yOg hk g1 (List.Pairwise.sublist g3 hd) (by omega) (jZ.stop (t:=t) h2);have r1:zL (r.length+d.length) 56=true:=qI (by omega) (by omega);show Hl k _ l t B.1 B.2.1 B.2.2.1 B.2.2.2 r=_;unfold Hl;grind
 |@step B C D E l m n' o d e f h1 h2 ne h' ih=>
  intro n r hb hd hl hn hr;obtain⟨n,rfl⟩:∃x,n=x+1:=⟨n-1,by omega⟩;have p1:=h1.perm hd;have l1:=p1.length_eq;rw[au] at l1;obtain⟨g1,g2,g3⟩:=h1.books (by omega) hb hd;have hm:qM m:=List.Pairwise.sublist g3 hd;have p2:=h2.perm hm;have l2:=p2.length_eq;rw[au] at l2;obtain⟨k1,k2,k3⟩:=h2.books (by omega) g1 hm;have f1:=yZd hk hb hl h1;have f2:=yOg hk g1 hm (by omega) h2;have lY:=List.length_pos_iff.2 ne;have r1:zL (r.length+d.length) 56=true:=qI (by omega) (by omega);have r2:zL ((r++d).length+e.length) 56=true:=qI (by rw[au];omega) (by rw[au];omega);have:=ih n (r++d++e) k1 (List.Pairwise.sublist k3 hm) (by omega) (by omega) (by simp;omega);show Hl k _ l t B.1 B.2.1 B.2.2.1 B.2.2.2 r=_;unfold Hl;grind
theorem yNq {k}(hk:200≤k){t B C l m done}(hb:qP B)(hd:qM l)(hl:l.length≤100)(h:my k t B l done C m):
  LO k B.1 B.2.1 B.2.2.1 B.2.2.2 l t=some (C.1,C.2.1,C.2.2.1,C.2.2.2,m,done):=by
 unfold LO;rw[vWy hk h k [] hb hd hl (by omega) (by grind)];rfl
theorem vT3 {k}(hk:200≤k){B}(hb:qP B){l:List zH}(hl:∀q∈l,yI B.1.length q)(bV:l.length≤64) t:
  ∃r,BX k B.1 B.2.1 B.2.2.1 B.2.2.2 l t=some r∧LM k B.1 B.2.1 B.2.2.1 B.2.2.2 l t=some r:=by
 obtain⟨f,n,h,hn⟩:=Ya hb hl bV t;have tS:=xP l t;have P1:=(xN (vA l t) f).length_le;obtain⟨r,h1,h2,h3⟩:=F7 (k:=k) (by omega) hb (l:=vO (vA l t) f) (by omega);exact⟨_,Yk (k:=k) (by omega) hb hl bV t (by omega) h h1,Zl (k:=k) (by omega) hb hl bV t (by omega) h h2⟩
theorem vRp {k}(hk:200≤k){B}(hb:qP B){l}(hd:qM l)(hl:∀q∈l,yI B.1.length q)(bV:l.length≤64) t all:
  ∃(C:BT) (m done:List zH),uQ k B.1 B.2.1 B.2.2.1 B.2.2.2 l t all=some (C.1,C.2.1,C.2.2.1,C.2.2.2,m,done)∧QH k B.1 B.2.1 B.2.2.1 B.2.2.2 l t all=some (C.1,C.2.1,C.2.2.1,C.2.2.2,m,done)∧
   qP C∧C.1.length=B.1.length∧List.Sublist m l∧List.Perm (done++m) l∧eE k C (vV m t)=none∧fZ k C m t=none:=by
 obtain⟨C,m,d,f1,f2,f3,f4,f5⟩:=Gu hk hb hd (by omega) t;have fr:=yNq hk hb hd (by omega) f2;have p1:=f2.perm hd;have l1:=p1.length_eq;rw[au] at l1;unfold uQ QH;rw[f1,fr];simp only[ae];cases all with
 |false=>exact⟨C,m,d,rfl,rfl,f3,f4,f5,p1,f2.final⟩
 |true=>
  have hm:qM m:=List.Pairwise.sublist f5 hd;have hmm:∀q∈m,yI C.1.length q:=by grind
  obtain⟨D,n,x,g1,g2,g3,g4,g5,g6⟩:=Ym hk f3 hm hmm (by omega) t;obtain⟨R,r1,r2⟩:=vT3 hk f3 hmm (by omega) t;have hR:R=(D.1,D.2.1,D.2.2.1,D.2.2.2,n,x):=by rw[g1] at r1;exact(Option.some.inj r1).symm
  subst hR;have l2:=g5.length_eq;rw[au] at l2;rw[g1,r2];simp only[ae];cases x with
  |nil=>
   obtain⟨rfl,rfl⟩:=g6 rfl;exact⟨D,n,d,rfl,rfl,f3,f4,f5,p1,f2.final⟩
  |cons p x=>
   have e1:decide ((((p::x).length:Nat):Int)=0)=false:=ab (by simp;omega);rw[e1];have hn:qM n:=List.Pairwise.sublist g4 hm;obtain⟨E,o,y,k1,k2,k3,k4,k5⟩:=Gu hk g2 hn (by omega) t;have kr:=yNq hk g2 hn (by omega) k2;have p3:=k2.perm hn;have l3:=p3.length_eq;rw[au] at l3;have e2:zL (d.length+(p::x).length) 56=true:=qI (by simp at l2⊢;omega) (by simp at l2⊢;omega);have e3:zL ((d++(p::x)).length+y.length) 56=true:=qI (by simp at l2⊢;omega) (by simp at l2⊢;omega);rw[k1,kr];simp only[ae,e2,e3,ag];refine⟨E,o,d++(p::x)++y,rfl,rfl,k3,k4.trans (g3.trans f4),k5.trans (g4.trans f5),?_,k2.final⟩;have e4:d++(p::x)++y++o=d++((p::x)++(y++o)):=by simp
   rw[e4];exact by grind
theorem yT4 {B:BT}(hb:qP B){m:List zH}(hd:qM m)(hm:∀q∈m,yI B.1.length q)(bV:m.length≤64)(t:Int)(pr:AC)(ho:EQ)(ids:AC)(to:Int)(ov all:Bool):
  ∃(C:BT) (m' d:List zH),pF 1000 t B.1 B.2.1 B.2.2.1 B.2.2.2 pr ho m ids to ov all=some (t,C.1,C.2.1,C.2.2.1,C.2.2.2,pr,ho,m',ids,to,ov,yY d)∧
   oG 1000 t B.1 B.2.1 B.2.2.1 B.2.2.2 pr ho m ids to ov all=some (t,C.1,C.2.1,C.2.2.1,C.2.2.2,pr,ho,m',ids,to,ov,yY d)∧qP C∧jV B C∧List.Sublist m' m∧List.Perm (d++m') m∧eE 1000 C (vV m' t)=none:=by
 obtain⟨C,m',d,f1,fr,f2,f3,f4,f5,f6,f7⟩:=vRp (k:=1000) (by decide) hb hd hm bV t all;have hlen:=f5.length_eq;rw[au] at hlen;refine⟨C,m',d,?_,?_,f2,Yr (by decide) hb hd hm bV t all f1,f4,f5,f6⟩
 ·unfold pF;rw[f1];simp only[ae];rw[Yn (by omega) (by omega)];rfl
 ·unfold oG;rw[fr];simp only[ae];rw[vX5 (by omega) (by omega)];rfl
theorem QI kd a:fT 1000 kd [a]=some (kd,a,0,0,0,0,0):=by rfl
theorem Of0 kd:fT 1000 kd []=some (kd,0,0,0,0,0,0):=by rfl
theorem Of5 kd a b c d e:fT 1000 kd [a,b,c,d,e]=some (kd,a,b,c,d,e,0):=by rfl
theorem vLf (s:zU)(hm:s.m.length≤100)(b:Int×Int×Bool):yi 1000 1000 s.m 0 s.st b []=some (s.st,b,s.m.map (wU 22)):=by
 obtain ⟨s', h1, h2⟩ := yX (L := fun n i (o : List qY) => yi 1000 n s.m i s.st b o) (N := s.m.length) (fun o => (s.st, b, o)) (fun i o => o = (s.m.take i).map (wU 22)) (fun n o _=>by
  show Hm 1000 (yi 1000 n) s.m s.m.length s.st b o=_;unfold Hm;simp) (fun n i o hi ho=>by
  refine⟨_,?_,(yM8 (wU 22) s.m i pd hi).symm⟩;show Hm 1000 (yi 1000 n) s.m i s.st b o=_;unfold Hm;have fa:o.length≤900:=by grind
  rw[aa (by grind),qC,aa hi,ao,QI,qD hi (by omega)];simp only[xQ (show o.length≤1000 by omega)];rw[ho];rfl) (s:=[]) (show s.m.length<1000 by omega) rfl
 simp_all
theorem vL3 (s:zU)(hB:s.B.1.length≤6)(b:Int×Int×Bool)(l:List qY)(hl:l.length≤100):yj 1000 1000 0 s.st b l=some (s.st,b,l++iW s.B s.B.1.length):=by
 have ea:s.st.2.1=s.B.1:=rfl;obtain ⟨s', h1, h2⟩ := yX (L := fun n i (o : List qY) => yj 1000 n i s.st b o) (N := s.B.1.length) (fun o => (s.st, b, o)) (fun i o => o = l ++ iW s.B i) (fun n o _=>by
  show Hn 1000 (yj 1000 n) s.B.1.length s.st b o=_;unfold Hn;simp_all) (fun n i o hi ho=>by
  refine⟨_,?_,(show l++iW s.B i++[xT s.B i]=l++iW s.B (i+1) by rw[yWp,List.append_assoc])⟩;show Hn 1000 (yj 1000 n) i s.st b o=_;unfold Hn;have fa:o.length≤900:=by
   rw[ho,au];unfold iW;grind
  rw[ea,aa (by grind),qC,aa hi,ao,QI,qD hi (by omega)];simp only[xQ (show o.length≤1000 by omega)];rw[ho];rfl) (s:=l) (show s.B.1.length<1000 by omega) (by show _=_++[];simp)
 simp_all
theorem vRo {a b p}(hd:qM (a++p::b)):iE (a++p::b) p.1=(a++b,p.1,p.2.1,p.2.2.1,p.2.2.2.1,p.2.2.2.2.1,p.2.2.2.2.2.1,p.2.2.2.2.2.2,0):=by
 have hl:a.length<(a++p::b).length:=by simp
 have hg:(a++p::b).getD a.length pd=p:=by simp
 have hp:=yMa hd hl;rw[hg] at hp;unfold ki at hp;unfold iE;cases hx:vZ (a++p::b) p.1 with
 |none=>simp_all
 |some x=>
  rw[hx] at hp;simp only at hp;obtain rfl:x=a.length:=by omega
  unfold yF;simp
theorem Zm (r:qG)(s:zU)(hd:qM s.m)(hm:s.m.length≤100)(b:Int×Int×Bool):
  vh 1000 1000 s.m 0 r s.st b []=some (r,zU.st {s with m:=s.m.filter (fun p=> !vI s.t p)},b,(s.m.filter (vI s.t)).map (wU 21)):=by
 obtain ⟨s', h1, h2, h3⟩ := yX (L := fun n i (x : List zH × List qY) => vh 1000 n s.m i r (zU.st { s with m := x.1 }) b x.2) (N := s.m.length) (fun x => (r, zU.st { s with m := x.1 }, b, x.2)) (fun i x => x.1 = (s.m.take i).filter (fun p => !vI s.t p) ++ s.m.drop i ∧ x.2 = ((s.m.take i).filter (vI s.t)).map (wU 21)) (fun n x _=>by
  show Ho 1000 (vh 1000 n) s.m s.m.length r _ b _=_;unfold Ho;rw [ab (Int.lt_irrefl _)]; rfl) (fun n i x hi hx=>by
  have f1:=BJ (vI s.t) s.m i pd hi;have f2:=BJ (fun p=> !vI s.t p) s.m i pd hi;have hdr:s.m.drop i=s.m.getD i pd::s.m.drop (i+1):=by rw[List.drop_eq_getElem_cons hi,GO _ hi]
  have ng:x.2.length≤900:=by
   rw[hx.2,List.length_map];have:=List.length_filter_le (vI s.t) (s.m.take i);rw[bQ] at this;omega
  have tQ:x.1.length≤s.m.length:=by
   rw[hx.1,au,List.length_drop];have:=List.length_filter_le (fun p=> !vI s.t p) (s.m.take i);rw[bQ] at this;omega
  have cR:List.Sublist x.1 s.m:=by
   have h:=List.Sublist.append (List.filter_sublist (p:=fun p=> !vI s.t p) (l:=s.m.take i)) (List.Sublist.refl (s.m.drop i));rw[List.take_append_drop] at h;rw[hx.1];exact h
  have hdx:qM x.1:=List.Pairwise.sublist cR hd;have e0:∀p:zH,Zn 1000 p.1 p.2.1 p.2.2.1 p.2.2.2.1 p.2.2.2.2.1 p.2.2.2.2.2.1 p.2.2.2.2.2.2 s.t=some (vI s.t p):=fun p=>rfl
  have ed:s.m.getD i (0,0,0,0,0,0,0)=s.m.getD i pd:=rfl;have et:(zU.st {s with m:=x.1}).1=s.t:=rfl;have em:(zU.st {s with m:=x.1}).2.2.2.2.2.2.2.1=x.1:=rfl;show∃s',Ho 1000 (vh 1000 n) s.m i r (zU.st {s with m:=x.1}) b x.2=_∧_;unfold Ho;rw[aa (show(i:Int)<s.m.length by omega),qC,aa hi,ao,ed,et,em,e0,QI,qD hi (by omega),uY (by omega) (by unfold qT;omega)];simp only[ag,ae,xQ (show x.2.length≤1000 by omega)];cases hb:vI s.t (s.m.getD i pd) with
  |true=>
   have dt:=hx.1;rw[hdr] at dt;have e1:=vRo (a:=(s.m.take i).filter (fun p=> !vI s.t p)) (b:=s.m.drop (i+1)) (p:=s.m.getD i pd) (by rw[←dt];exact hdx);rw[←dt] at e1;rw[e1];refine⟨((s.m.take i).filter (fun p=> !vI s.t p)++s.m.drop (i+1),x.2++[wU 21 (s.m.getD i pd)]),rfl,?_,?_⟩
   ·show _=_;rw[f2,hb];simp
   ·show x.2++_=_;rw[f1,hb,hx.2];simp
  |false=>
   refine⟨x,rfl,?_,?_⟩
   ·rw[f2,hb,hx.1,hdr];simp
   ·rw[f1,hb,hx.2];simp) (s:=(s.m,[])) (show s.m.length<1000 by omega) ⟨by simp,rfl⟩
 rw[List.take_length,List.drop_length,List.append_nil] at h2;rw[List.take_length] at h3;have gD:vh 1000 1000 s.m 0 r s.st b []=_:=h1;rw[gD,h2,h3]
theorem Zo (r:qG){s:zU}(hb:qP s.B)(hd:qM s.m)(hm:∀q∈s.m,yI s.B.1.length q)(bV:s.m.length≤64)(ht:0≤s.t∧s.t<1099511627776)(Le:r.2.2.2.2≠0)(ho:s.ov=false):
  ∃x:Int×List yA×jO×AC×jO×AC×jO×List zH×AC×Int×Bool×List qY,uR 1000 r.1 r.2.1 r.2.2.1 r.2.2.2.1 r.2.2.2.2 s.t s.B.1 s.B.2.1 s.B.2.2.1 s.B.2.2.2 s.pr s.ho s.m s.ids s.to s.ov=some x∧Hq 1000 r s.st=some (qQ x,x.2.2.2.2.2.2.2.2.2.2.2):=by
 have gJ:=hb.n6;have w:zA (s.t+1)=s.t+1:=zO (by omega) (by omega);have eR:Hq 1000 r s.st=bif s.ov then some (s.st,[])
  else(QJ 1000 r (zA (s.t+1))).bind fun x0=>
  bif x0 then ((yi 1000 1000 s.m 0 ((zA (s.t+1)),s.st.2) (0,0,false) []).bind fun z=>
   (yj 1000 1000 0 z.1 z.2.1 z.2.2).bind fun z1=>
   some ((kl z1.1 ([],z1.1.2.2.2.2.2.2.2.2.1,z1.1.2.2.2.2.2.2.2.2.2.1,true)),z1.2.2))
  else(vh 1000 1000 s.m 0 r ((zA (s.t+1)),s.st.2) (0,0,false) []).bind fun z2=>
  (LP 1000 z2.1 z2.2.1.1).bind fun x6=>
  (oG 1000 z2.2.1.1 z2.2.1.2.1 z2.2.1.2.2.1 z2.2.1.2.2.2.1 z2.2.1.2.2.2.2.1 z2.2.1.2.2.2.2.2.1 z2.2.1.2.2.2.2.2.2.1 z2.2.1.2.2.2.2.2.2.2.1 z2.2.1.2.2.2.2.2.2.2.2.1 z2.2.1.2.2.2.2.2.2.2.2.2.1 z2.2.1.2.2.2.2.2.2.2.2.2.2 x6).bind fun x7=>
  bif zL (z2.2.2.2.length+x7.2.2.2.2.2.2.2.2.2.2.2.length) 64 then some ((qQ x7),(z2.2.2.2++x7.2.2.2.2.2.2.2.2.2.2.2))
  else none:=rfl
 have eT:((s.t+1,s.st.2):rq)=zU.st {s with t:=s.t+1}:=rfl;rw[eR,w,eT,ho];unfold uR B2 QJ;simp only[w,ak,ae];cases hc:decide (s.t+1=r.2.2.2.1) with
 |true=>
  simp only[ag];rw[yO2 gJ (by decide) (by omega)];have c0:=vLf {s with t:=s.t+1,ov:=false} (by show s.m.length≤100;omega) (0,0,false);have c1:=vL3 {s with t:=s.t+1,ov:=false} (by show s.B.1.length≤6;exact gJ) (0,0,false) (s.m.map (wU 22)) (by rw[List.length_map];omega);refine⟨_,rfl,?_⟩;refine(congrArg (fun z=>Option.bind z _) c0).trans ?_;refine(congrArg (fun z=>Option.bind z _) c1).trans ?_;rfl
 |false=>
  simp only[ak];rw[vDv (by decide) (by omega)];have c2:=Zm r {s with t:=s.t+1,ov:=false} hd (by show s.m.length≤100;omega) (0,0,false);have hs:∃x,GG 1000 r.1 r.2.1 r.2.2.1 r.2.2.2.1 r.2.2.2.2 (s.t+1)=some x∧LP 1000 r (s.t+1)=some x:=by
   unfold GG LP;cases decide (s.t+1>0) with
   |false=>exact⟨_,rfl,rfl⟩
   |true=>
    cases decide (s.t+1<r.2.2.2.1) with
    |false=>exact⟨_,rfl,rfl⟩
    |true=>
     have:decide (r.2.2.2.2=0)=false:=ab Le;rw[this];exact⟨_,rfl,rfl⟩
  obtain⟨x,hx,nT⟩:=hs;simp only[ae];rw[hx];have cR:List.Sublist (s.m.filter (fun p=> !vI (s.t+1) p)) s.m:=List.filter_sublist;have fa:=cR.length_le;have pv:qM (s.m.filter (fun p=> !vI (s.t+1) p)):=List.Pairwise.sublist cR hd;obtain⟨C,m',d,f1,f1',f2,f3,f4,f5,f6⟩:=yT4 hb pv (by grind) (by omega) (s.t+1) s.pr s.ho s.ids s.to false x;have hlen:=f5.length_eq;rw[au] at hlen;have hla:(s.m.filter (vI (s.t+1))).length≤s.m.length:=by grind
  have pX:=BZ d;have hr:zL (((s.m.filter (vI (s.t+1))).map (wU 21)).length+(yY d).length) 64=true:=qI (by rw[List.length_map];omega) (by rw[List.length_map];omega);simp only[ae];rw[f1];simp only[ae,hr,ag];refine⟨_,rfl,?_⟩;refine(congrArg (fun z=>Option.bind z _) c2).trans ?_;simp only[ae];refine(congrArg (fun z=>Option.bind z _) nT).trans ?_;have Zp:oG 1000 (s.t+1) s.B.1 s.B.2.1 s.B.2.2.1 s.B.2.2.2 s.pr s.ho (s.m.filter (fun p=> !vI (s.t+1) p)) s.ids s.to false x=_:=f1';refine(congrArg (fun z=>Option.bind z _) Zp).trans ?_;grind
theorem qW.settled {r s}(h:qW r s)(ho:s.ov=false){C}(hc:qP C)(kc:jV s.B C){m}(hm:List.Sublist m s.m):qW r {s with B:=C,m:=m}:=by
  have hl:=kc.len;exact{
    tk:=h.tk
    bk:=hc
    n:=by rw[hl];exact h.n
    hol:=by rw[hl];exact h.hol
    laid:=by rw[hl];exact h.laid
    cred:=by rw[hl];intro i hi;rw[kc.cred i hi];exact h.cred i hi
    most:=by rw[hl];intro i hi;rw[kc.cred i hi];exact h.most i hi
    waits:=by rw[hl];exact h.waits.sub hm
    sum:=by rw[hl,kc.sum];exact h.sum
    tot:=h.tot
    over:=h.over
    none:=by grind}
theorem yUi {k}(hk:1000≤k){r}(hr:vM r){s}(h:qW r s)(ho:s.ov=false):
    ∃(C:BT) (m':List zH) (ov:Bool) (o:List qY),uR k r.1 r.2.1 r.2.2.1 r.2.2.2.1 r.2.2.2.2 s.t s.B.1 s.B.2.1 s.B.2.2.1 s.B.2.2.2 s.pr s.ho s.m s.ids s.to s.ov=some (s.t+1,C.1,C.2.1,C.2.2.1,C.2.2.2,s.pr,s.ho,m',s.ids,s.to,ov,o)∧
      qW r {s with t:=s.t+1,B:=C,m:=m',ov:=ov}∧jV s.B C∧(ov=false→eE k C (vV m' (s.t+1))=none)∧o.length≤100∧
      ((ov=true∧m'=[]∧o=s.m.map (wU 22)++iW s.B s.B.1.length∧C=s.B)∨∃l d n,o=l.map (wU 21)++yY d∧List.Perm (l++n) s.m∧List.Perm (d++m') n∧ov=false):=by
  have DO:=hr.cl;have Le:=hr.pe;have htk:=h.tk;have hn:=h.n;have bn:s.t≠r.2.2.2.1:=by
    have:=h.over;simp_all
  have hbk:=h.bk;have hm:=h.waits.len;rw[ho];obtain⟨C,m',ov,o,e1,e2,e3,e4,e5⟩:=vYz (k:=k) (by omega) hbk h.waits.dist h.waits.may (by omega) r.1 r.2.1 r.2.2.1 r.2.2.2.1 r.2.2.2.2 s.t (by omega) (by omega) s.pr s.ho s.ids s.to;have hl:=e3.len;refine⟨C,m',ov,o,e1,?_,e3,e4,?_,e5⟩
  · exact{
      tk:=by grind
      bk:=e2.bk
      n:=by simp_all
      hol:=by rw[hl];exact h.hol
      laid:=by rw[hl];exact h.laid
      cred:=by rw[hl];intro i hi;rw[e3.cred i hi];exact h.cred i hi
      most:=by rw[hl];intro i hi;rw[e3.cred i hi];exact h.most i hi
      waits:=by rw[hl];exact h.waits.sub e2.sub
      sum:=by rw[hl,e3.sum];exact h.sum
      tot:=h.tot
      over:=e2.over
      none:=e2.none}
  · have:=e2.room;split at this<;>omega
theorem yHr r s who f:(iY r s who f).2.t=s.t∧(iY r s who f).2.ov=s.ov∧(iY r s who f).2.to=s.to:=by
 unfold iY;cases decide (f.1=5) with
 |true=>
  cases !((decide (f.2.1≥0)&&decide (f.2.1≤r.1-1))&& !decide (f.2.1=who))<;>cases !(decide (f.2.2.1≥-1)&&decide (f.2.2.1≤1152921504606846976))<;>exact⟨rfl,rfl,rfl⟩
 |false=>
  cases decide (f.1=6) with
  |true=>cases !(decide (f.2.1≥-1)&&decide (f.2.1≤1152921504606846976))<;>exact⟨rfl,rfl,rfl⟩
  |false=>cases !(decide (f.2.1≥0)&&decide (f.2.1≤1152921504606846976))<;>exact⟨rfl,rfl,rfl⟩
theorem yH4 r s who a n:(iZ r s who a n).2.t=s.t∧(iZ r s who a n).2.ov=s.ov∧(iZ r s who a n).2.to=s.to:=by
 unfold iZ;cases !(decide (a≥0)&&decide (a≤(r.2.1.length:Int)-1)) with
 |true=>simp
 |false=>
 cases !(decide (n≥0)&&decide (n≤1099511627776)) with
 |true=>simp
 |false=>
 unfold B4;grind
theorem yR0 r s a p:(ja r s a p).2.t=s.t∧(ja r s a p).2.ov=s.ov∧(ja r s a p).2.to=s.to:=by
 unfold ja;cases !(decide (a≥0)&&decide (a≤(r.2.1.length:Int)-1)) with
 |true=>simp
 |false=>
 cases !(decide (p≥0)&&decide (p≤1048576)) with
 |true=>simp
 |false=>
 unfold Ca;grind
theorem vBd {r s kd to n}:(iG r s kd to n).2.ov=s.ov:=by
 unfold iG;cases !(decide (to≥0)&&decide (to≤r.1-1)) with
 |true=>rfl
 |false=>
 cases !(decide (n≥1)&&decide (n≤1099511627776)) with
 |true=>rfl
 |false=>
 cases decide (kd=11) with
 |true=>
  unfold GX;cases decide ((s.B.1.getD to.toNat ad).1+(s.B.1.getD to.toNat ad).2.1-(s.B.1.getD to.toNat ad).2.2<n)<;>cases decide (s.to-n<0)<;>cases decide ((wZ (s.B.1.getD to.toNat ad) (-n)).2=0)<;>cases decide (s.to-n>1152921504606846976)<;>rfl
 |false=>
  unfold GY;cases decide ((wZ (s.B.1.getD to.toNat ad) n).2=0)<;>cases decide (s.to+n>1152921504606846976)<;>rfl
theorem yYr {r s who f}:(kZ r s who f).2.2.length≤1:=by
 unfold kZ;grind
def Kd (o:List qY):Prop:=∀x∈o,x.2.1≠16∧x.2.1≠23
theorem nD:Kd []:=fun x h=>by grind
theorem Hr {x}(h:x.2.1≠16∧x.2.1≠23):Kd [x]:=fun y hy=>by simp_all
theorem Kd.append {a b}(h:Kd a)(g:Kd b):Kd (a++b):=fun x hx=>(List.mem_append.1 hx).elim (h x) (g x)
theorem LQ:∀d:List zH,Kd (yY d)
 |[]=>nD
 | p :: d => (show Kd [fS p.2.1 p,fS p.2.2.1 p] from fun x hx=>by
   rcases List.mem_cons.1 hx with rfl|hx
   ·exact⟨by nofun,by nofun⟩
   ·rw[List.mem_singleton.1 hx];exact⟨by nofun,by nofun⟩).append (LQ d)
theorem QK {kd}(hk:kd=21∨kd=22)(l:List zH):Kd (l.map (wU kd)):=fun x hx=>by
 obtain⟨p,_,rfl⟩:=List.mem_map.1 hx;show kd≠16∧kd≠23;omega
theorem yIl {r s who f}:Kd (kZ r s who f).2.2:=by
 unfold kZ;cases vZ s.m f.2.1 with
 |none=>exact nD
 |some x=>
  simp only[];cases !decide ((s.m.getD x pd).2.1=who) with
  |true=>exact nD
  |false=>
  cases decide (f.1=2) with
  |true=>exact Hr ⟨by nofun,by nofun⟩
  |false=>
  cases decide (f.1=4) with
  |true=>
   cases !(decide (f.2.2.1≥1)&&decide (f.2.2.1≤3))<;>cases !decide (rr r.2.2.1 r.2.2.2.1 s.t f.2.2.1=0)<;>exact nD
  |false=>
  cases decide (f.2.2.1=0)<;>cases decide (f.2.2.1=1)<;>exact nD
def lf (o:List qY):Prop:=∀x∈o,x.2.1≠16
theorem Kd.ne {o}(h:Kd o):lf o:=fun x hx=>(h x hx).1
theorem lf.append {a b}(h:lf a)(g:lf b):lf (a++b):=fun x hx=>(List.mem_append.1 hx).elim (h x) (g x)
theorem yN9 B n:lf (iW B n):=fun x hx=>by
 obtain⟨i,_,rfl⟩:=List.mem_map.1 hx
 nofun
theorem vCo {r:qG}{s:zU}{who:Int}{f:jE}(h:(iX r s who f).1=0):∀x∈(iX r s who f).2.2,x∈s.ids∨x=f.2.1:=by
 unfold iX at h⊢;cases h1:decide (f.2.2.1≥0)&&decide (f.2.2.1≤r.1-1) with
 |false=>exact fun _ h=>.inl h
 |true=>
 cases h2:decide (f.2.2.2.2.1≥1)&&decide (f.2.2.2.2.1≤3) with
 |false=>exact fun _ h=>.inl h
 |true=>
 cases decide (nC r s.t (gj who f)=0) with
 |false=>exact fun _ h=>.inl h
 |true=>
 cases decide (f.2.1∈s.ids) with
 |true=>exact fun _ h=>.inl h
 |false=>
 cases decide (200≤s.ids.length) with
 |true=>exact fun _ h=>.inl h
 |false=>
 cases(vZ s.m f.2.1).isSome with
 |true=>exact fun _ h=>.inl h
 |false=>
 cases decide (40≤s.m.length) with
 |true=>exact fun _ h=>.inl h
 |false=>
  intro x hx;have hx:x∈qz s.ids f.2.1:=hx;unfold qz at hx;have e:=List.takeWhile_append_dropWhile (p:=fun x=>decide (x<f.2.1)) (l:=s.ids);rcases List.mem_append.1 hx with hx|hx
  ·exact .inl (e▸List.mem_append_left _ hx)
  ·rcases List.mem_cons.1 hx with hx|hx
   ·exact .inr hx
   ·exact .inl (e▸List.mem_append_right _ hx)
theorem yXi (r:qG)(s:zU)(who:Int)(f:jE):(iY r s who f).2.ids=s.ids:=by
 unfold iY;cases decide (f.1=5) with
 |true=>cases !((decide (f.2.1≥0)&&decide (f.2.1≤r.1-1))&& !decide (f.2.1=who))<;>cases !(decide (f.2.2.1≥-1)&&decide (f.2.2.1≤1152921504606846976))<;>rfl
 |false=>
  cases decide (f.1=6) with
  |true=>cases !(decide (f.2.1≥-1)&&decide (f.2.1≤1152921504606846976))<;>rfl
  |false=>cases !(decide (f.2.1≥0)&&decide (f.2.1≤1152921504606846976))<;>rfl
theorem yPb (r:qG)(s:zU)(who a n:Int):(iZ r s who a n).2.ids=s.ids:=by
 unfold iZ;cases !(decide (a≥0)&&decide (a≤(r.2.1.length:Int)-1)) with
 |true=>rfl
 |false=>
 cases !(decide (n≥0)&&decide (n≤1099511627776)) with
 |true=>rfl
 |false=>
 simp only[ak];unfold B4;generalize (s.ho.getD who.toNat []).set a.toNat n=h;cases decide (mv r.2.1 s.pr h>1152921504606846976) with
 |true=>rfl
 |false=>cases decide (mv r.2.1 s.pr h<(s.B.1.getD who.toNat ad).2.1)&&decide ((s.B.1.getD who.toNat ad).1+mv r.2.1 s.pr h<0)<;>rfl
theorem yTl (r:qG)(s:zU)(a p:Int):(ja r s a p).2.ids=s.ids:=by
 unfold ja;cases !(decide (a≥0)&&decide (a≤(r.2.1.length:Int)-1)) with
 |true=>rfl
 |false=>
 cases !(decide (p≥0)&&decide (p≤1048576)) with
 |true=>rfl
 |false=>
 simp only[ak];unfold Ca;cases qH (fun j=> !decide (gk r.2.1 (s.pr.set a.toNat p) s.ho j>1152921504606846976)) s.B.1.length 0<;>rfl
def Zq (m:jE)(i:Nat):Int:=[m.2.1,m.2.2.1,m.2.2.2.1,m.2.2.2.2.1,m.2.2.2.2.2.1,m.2.2.2.2.2.2].getD i 0
theorem vR5 (x:Int)(m:jE){n:Nat}(hn:n≤6):Hs 1000 1000 x n m=some (bif qH (fun j=>decide (Zq m j=0)) (6-n) n then .inl x else .inr false):=
 Wl (L := fun n i => Hs 1000 n x i m) (N := 6) (fun j => decide (Zq m j = 0)) (.inl x) (.inr false) (fun n => rfl) (fun n i hi=>by
  show Zr 1000 (Hs 1000 n) x i m=_;have:i=0∨i=1∨i=2∨i=3∨i=4∨i=5:=by omega
  rcases this with rfl|rfl|rfl|rfl|rfl|rfl
  ·show(bif !(decide (m.2.1=0)) then _ else _)=bif decide (m.2.1=0) then _ else _
   cases decide (m.2.1=0)<;>rfl
  ·show(bif !(decide (m.2.2.1=0)) then _ else _)=bif decide (m.2.2.1=0) then _ else _
   cases decide (m.2.2.1=0)<;>rfl
  ·show(bif !(decide (m.2.2.2.1=0)) then _ else _)=bif decide (m.2.2.2.1=0) then _ else _
   cases decide (m.2.2.2.1=0)<;>rfl
  ·show(bif !(decide (m.2.2.2.2.1=0)) then _ else _)=bif decide (m.2.2.2.2.1=0) then _ else _
   cases decide (m.2.2.2.2.1=0)<;>rfl
  ·show(bif !(decide (m.2.2.2.2.2.1=0)) then _ else _)=bif decide (m.2.2.2.2.2.1=0) then _ else _
   cases decide (m.2.2.2.2.2.1=0)<;>rfl
  ·show(bif !(decide (m.2.2.2.2.2.2=0)) then _ else _)=bif decide (m.2.2.2.2.2.2=0) then _ else _
   cases decide (m.2.2.2.2.2.2=0)<;>rfl) (6-n) n 1000 (by omega) (by omega)
theorem nE (m:jE)(n:Nat)(hn:n≤6)(h1:ux 1000 m.1=some (n:Int))(h2:Bt 1000 m.1=some (n:Int)):Cl 1000 m=lJ 1000 m:=by
 unfold Cl lJ;rw[h1,h2];have e1:wR false (n:Int) 0=(n:Int):=by
  rfl
 simp only[ae];rw[e1,vR5 _ m hn,ab (by simp),aa (by simp),aa (by grind),ao];have hl:(qR [m.2.1,m.2.2.1,m.2.2.2.1,m.2.2.2.2.1,m.2.2.2.2.2.1,m.2.2.2.2.2.2] n (6-n)).length=6-n:=by
  unfold qR;simp
 have := mo (L := fun k i => mA 1000 k (qR [m.2.1, m.2.2.1, m.2.2.2.1, m.2.2.2.2.1, m.2.2.2.2.2.1, m.2.2.2.2.2.2] n (6 - n)) ((6 - n : Nat) : Int) i) (N := 6 - n) (fun j => decide ((qR [m.2.1, m.2.2.1, m.2.2.2.1, m.2.2.2.2.1, m.2.2.2.2.2.1, m.2.2.2.2.2.2] n (6 - n)).getD j 0 = 0)) (.inl ()) (.inr false) (fun k=>by
  show lI 1000 (mA 1000 k) _ _ _=_;unfold lI;simp) (fun k i hi=>by
  show lI 1000 (mA 1000 k) _ _ _=_;unfold lI;rw[aa (by grind),qC,hl,aa hi,ao,qD hi (by omega)];simp) (n:=1000) (by omega)
 have h':mA 1000 1000 (qR [m.2.1,m.2.2.1,m.2.2.2.1,m.2.2.2.2.1,m.2.2.2.2.2.1,m.2.2.2.2.2.2] n (6-n)) ((6-n:Nat):Int) 0=_:=this;have ea:qH (fun j=>decide (Zq m j=0)) (6-n) n=qH (fun j=>decide ((qR [m.2.1,m.2.2.1,m.2.2.2.1,m.2.2.2.2.1,m.2.2.2.2.2.1,m.2.2.2.2.2.2] n (6-n)).getD j 0=0)) (6-n) 0:=by
  have:n=0∨n=1∨n=2∨n=3∨n=4∨n=5∨n=6:=by omega
  rcases this with rfl|rfl|rfl|rfl|rfl|rfl|rfl<;>rfl
 grind
theorem Zs (kd a b c d e f:Int)(h:1≤kd∧kd≤14):Cl 1000 (kd,a,b,c,d,e,f)=lJ 1000 (kd,a,b,c,d,e,f):=by
 have:kd=1∨kd=2∨kd=3∨kd=4∨kd=5∨kd=6∨kd=7∨kd=8∨kd=9∨kd=10∨kd=11∨kd=12∨kd=13∨kd=14:=by omega
 rcases this with rfl|rfl|rfl|rfl|rfl|rfl|rfl|rfl|rfl|rfl|rfl|rfl|rfl|rfl
 ·exact nE _ 6 (by decide) rfl rfl
 ·exact nE _ 1 (by decide) rfl rfl
 ·exact nE _ 2 (by decide) rfl rfl
 ·exact nE _ 2 (by decide) rfl rfl
 ·exact nE _ 2 (by decide) rfl rfl
 ·exact nE _ 1 (by decide) rfl rfl
 ·exact nE _ 1 (by decide) rfl rfl
 ·exact nE _ 2 (by decide) rfl rfl
 ·exact nE _ 0 (by decide) rfl rfl
 ·exact nE _ 2 (by decide) rfl rfl
 ·exact nE _ 2 (by decide) rfl rfl
 ·exact nE _ 2 (by decide) rfl rfl
 ·exact nE _ 0 (by decide) rfl rfl
 ·exact nE _ 0 (by decide) rfl rfl
theorem Zt (r:qG)(s:zU)(c:la){X:Type}(bad:Int→X)(Q:X):∃e,uV 1000 r s.st c=some e∧
  (e=0→((10≤c.2.1∧c.2.1≤14∧c.1= -1)∨(1≤c.2.1∧c.2.1≤9∧0≤c.1∧c.1<r.1))∧(s.ov=true→c.2.1=9))∧
  ((Cm 1000 r c).bind fun x0=>some (bif !x0 then bad 5 else bif s.ov then(bif !(decide (c.2.1=9)) then bad 7 else Q) else Q))=some (bif decide (e=0) then Q else bad e):=by
 obtain⟨e,he,hm⟩:=yGg (k:=1000) (by decide) r s c;refine⟨e,he,hm,?_⟩;have hA:QL 1000 c.2.1=some (decide (c.2.1≥1)&&decide (c.2.1≤14)):=by
  unfold QL;cases decide (c.2.1≥1)<;>rfl
 have hH:QM 1000 c.2.1=some (decide (c.2.1≥10)&&decide (c.2.1≤14)):=by
  unfold QM;cases decide (c.2.1≥10)<;>rfl
 by_cases hk:1≤c.2.1∧c.2.1≤14
 ·obtain⟨b,hb⟩:=yMo (k:=1000) (by decide) c.2;have bF:Cl 1000 c.2=some b:=(Zs _ _ _ _ _ _ _ hk).trans hb;have eo:s.st.2.2.2.2.2.2.2.2.2.2=s.ov:=rfl;unfold uV at he;rw[Yx,Yy,hb,eo] at he;simp only[ae] at he;unfold Cm;rw[hA,hH,bF];simp only[ae];clear hm hA hH hb bF;generalize decide (c.1≥0)=A at he⊢;generalize decide (c.2.1≥10)=B at he⊢;generalize decide (c.2.1≤14)=C at he⊢;generalize decide (c.2.1≥1)=D at he⊢;generalize decide (c.1= -1)=E at he⊢;generalize decide (c.1<r.1)=F at he⊢;generalize decide (c.2.1=9)=G at he⊢;generalize s.ov=o at he⊢;cases A<;>cases B<;>cases C<;>cases D<;>cases E<;>cases F<;>cases G<;>cases b<;>cases o<;>(cases he;rfl)
 ·have g:(decide (c.2.1≥1)&&decide (c.2.1≤14))=false:=by
   by_cases a:c.2.1≥1
   ·rw[aa a,ab (fun b=>hk ⟨a,b⟩)];rfl
   ·rw[ab a];rfl
  have e5:e=5:=by
   unfold uV at he;rw[Yx,Yy,g] at he;simp only[ae] at he;cases hd:decide (c.1≥0)<;>rw[hd] at he<;>(cases he;rfl)
  subst e5;unfold Cm;rw[hA,g];rfl
structure Dlt (r:qG) (s:zU) (f:jE) (t:zU) (l:List qY):Prop where
 inv:qW r t
 ov:t.ov=s.ov
 few:l.length≤2
 kd:Kd l
 ids:∀x∈t.ids,x∈s.ids∨x=f.2.1
structure Cn (r:qG) (s:zU) (f:jE) (t:zU) (o:List qY) (e:Int):Prop where
 inv:qW r t
 bad:e≠0→t=s∧o=[]
 ne:lf o
 few:o.length≤200
 ids:∀x∈t.ids,x∈s.ids∨x=f.2.1
theorem Cn.none {r:qG}{s:zU}{f:jE}(h:qW r s)(e:Int):Cn r s f s [] e:=⟨h,fun _=>⟨rfl,rfl⟩,fun x hx=>absurd hx List.not_mem_nil,Nat.zero_le _,fun _ h=>.inl h⟩
theorem kn (who a:Int)(kd:Int)(h:kd≠16∧kd≠23):Kd [ie who kd a]:=Hr h
structure Ht (r:qG) (s:zU) (who:Int) (f:jE) (t:zU) (l l':List qY) (paid:Int):Prop where
 dealt:Dlt r s f t l
 told:l=(if who= -1 then l' else ie who 15 0::l')
 paid:paid=if f.1=1 then f.2.1 else 0
 pos:f.1=1→0<f.2.1
theorem Zu {r:qG}{s:zU}{who:Int}{f:jE}(h:(iX r s who f).1=0):0<f.2.1:=by
 unfold iX at h;cases h1:decide (f.2.2.1≥0)&&decide (f.2.2.1≤r.1-1) with
 |false=>rw[h1] at h;cases h
 |true=>
 cases h2:decide (f.2.2.2.2.1≥1)&&decide (f.2.2.2.2.1≤3) with
 |false=>rw[h1,h2] at h;cases h
 |true=>
 rw[h1,h2] at h;simp only[aB,ak] at h;by_cases hc:nC r s.t (gj who f)=0
 ·unfold nC at hc;cases hb:kY r.1 s.t (gj who f) with
  |false=>rw[hb] at hc;cases hc
  |true=>
   unfold kY at hb;simp only[bc,aX] at hb;have:(gj who f).1≥1:=hb.2.2.1;have e:(gj who f).1=f.2.1:=rfl;omega
 ·rw[ab hc] at h;exact absurd h hc
theorem vM8 {r:qG}(hr:vM r){s:zU}(h:qW r s)(ho:s.ov=false){who:Int}(hw:0≤who∧who<r.1){f:jE}(hf:1≤f.1∧f.1≤8):
  ∃e d d',Hu 1000 (dk r s who [ie who 15 0]) f=some (e,d)∧yk 1000 (rk r s who) f=some (e,d')∧(e=0→∃t l l' paid,d=dk r t who l∧d'=qN r t who l' paid∧Ht r s who f t l l' paid):=by
 unfold Hu yk;have sE:¬who= -1:=by omega
 have kn:=kn who 0 15 (by decide);by_cases h1:f.1=1
 ·rw[aa h1];obtain⟨d,e1,e2⟩:=yF0 (k:=1000) (by decide) hr h.waits who [ie who 15 0] f;obtain⟨d',q1,q2⟩:=vWa (k:=1000) (by decide) hr h.waits who f;simp only[ag];rw[e1,q1];exact⟨_,d,d',rfl,rfl,fun e=>⟨_,_,_,_,e2 e,q2 e,⟨h.queue ho (yLp hr h e),rfl,by simp,kn,vCo e⟩,(if_neg sE).symm,(if_pos h1).symm,fun _=>Zu e⟩⟩
 rw[ab h1];by_cases hq:f.1=2∨f.1=3∨f.1=4
 ·obtain⟨d,e1,e2⟩:=yJc (k:=1000) (by decide) h.waits who (l:=[ie who 15 0]) (by simp) f;obtain⟨d',q1,q2⟩:=vGy (k:=1000) (by decide) (r:=r) h.waits who f hq;have g:∃e d d',(xV 1000 (dk r s who [ie who 15 0]) f).bind (fun x=>some (x.1,x.2))=some (e,d)∧(Cf 1000 (rk r s who) f.1 f.2).bind (fun x=>some (x.1,x.2))=some (e,d')∧(e=0→∃t l l' paid,d=dk r t who l∧d'=qN r t who l' paid∧Ht r s who f t l l' paid):=by
   rw[e1,q1];refine⟨_,d,d',rfl,rfl,fun e=>⟨_,_,_,_,e2 e,q2 e,⟨h.queue ho (vFb h e),rfl,?_,kn.append yIl,fun _ h=>.inl h⟩,?_,(if_neg h1).symm,fun e'=>absurd e' h1⟩⟩
   ·have:=yYr (r:=r) (s:=s) (who:=who) (f:=f);rw[au];simp;omega
   ·rw[if_neg sE];rfl
  rcases hq with e|e|e
  ·rw[aa e];exact g
  ·rw[ab (show¬f.1=2 by omega),aa e];exact g
  ·rw[ab (show¬f.1=2 by omega),ab (show¬f.1=3 by omega),aa e];exact g
 rw[ab (show¬f.1=2 by omega),ab (show¬f.1=3 by omega),ab (show¬f.1=4 by omega)];by_cases hq:f.1=5∨f.1=6∨f.1=7
 ·obtain⟨d,e1,e2⟩:=vC3 (k:=1000) (by decide) hr h.bk h.n hw [ie who 15 0] f;obtain⟨d',q1,q2⟩:=vWe (k:=1000) (by decide) hr h.bk h.n hw f;have g:∃e d d',(xW 1000 (dk r s who [ie who 15 0]) f).bind (fun x=>some (x.1,x.2))=some (e,d)∧(Cg 1000 (rk r s who) f.1 f.2).bind (fun x=>some (x.1,x.2))=some (e,d')∧(e=0→∃t l l' paid,d=dk r t who l∧d'=qN r t who l' paid∧Ht r s who f t l l' paid):=by
   rw[e1,q1];have bg:=yHr r s who f;exact⟨_,d,d',rfl,rfl,fun e=>⟨_,_,_,_,e2 e,q2 e,⟨vGe h hw e,bg.2.1,by simp,kn,by rw[yXi];exact fun _ h=>.inl h⟩,(if_neg sE).symm,(if_neg h1).symm,fun e'=>absurd e' h1⟩⟩
  rcases hq with e|e|e
  ·rw[aa e];exact g
  ·rw[ab (show¬f.1=5 by omega),aa e];exact g
  ·rw[ab (show¬f.1=5 by omega),ab (show¬f.1=6 by omega),aa e];exact g
 rw[ab (show¬f.1=5 by omega),ab (show¬f.1=6 by omega),ab (show¬f.1=7 by omega),aa (show f.1=8 by omega)];obtain⟨d,e1,e2⟩:=vCq (k:=1000) (by decide) hr h hw [ie who 15 0] f.2.1 f.2.2.1;obtain⟨d',q1,q2⟩:=vMv hr h hw f.2.1 f.2.2.1;simp only[ag,ak];rw[e1,q1];have bg:=yH4 r s who f.2.1 f.2.2.1;exact⟨_,d,d',rfl,rfl,fun e=>⟨_,_,_,_,e2 e,q2 e,⟨yZ6 hr h hw e,bg.2.1,by simp,kn,by rw[yPb];exact fun _ h=>.inl h⟩,(if_neg sE).symm,(if_neg h1).symm,fun e'=>absurd e' h1⟩⟩
theorem vV6 {r:qG}(hr:vM r){s:zU}(h:qW r s){f:jE}(hf:10≤f.1∧f.1≤13):
  ∃e d d',yl 1000 (fz r s (-1)) f=some (e,d)∧yk 1000 (rk r s (-1)) f=some (e,d')∧(e=0→∃t l l' paid,d=dk r t (-1) l∧d'=qN r t (-1) l' paid∧Ht r s (-1) f t l l' paid):=by
 unfold yl yk;have h1:¬f.1=1:=by omega
 rw[ab h1,ab (show¬f.1=2 by omega),ab (show¬f.1=3 by omega),ab (show¬f.1=4 by omega),ab (show¬f.1=5 by omega),ab (show¬f.1=6 by omega),ab (show¬f.1=7 by omega),ab (show¬f.1=8 by omega)];by_cases hq:f.1=10∨f.1=11
 ·obtain⟨d,e1,e2⟩:=yXb (k:=1000) (by decide) hr h (-1) f.1 f.2.1 f.2.2.1;obtain⟨d',q1,q2⟩:=vQn hr h (-1) f.1 f.2.1 f.2.2.1 hq;have g:∃e d d',(B9 1000 (fz r s (-1)) f.1 f.2.1 f.2.2.1).bind (fun x=>some (x.1,x.2))=some (e,d)∧(G6 1000 (rk r s (-1)) (decide (f.1=10)) f.2.1 f.2.2.1).bind (fun x=>some (x.1,x.2))=some (e,d')∧(e=0→∃t l l' paid,d=dk r t (-1) l∧d'=qN r t (-1) l' paid∧Ht r s (-1) f t l l' paid):=by
   rw[e1,q1];refine⟨_,d,d',rfl,rfl,fun e=>?_⟩;obtain⟨g1,g2,g3,g4,g5⟩:=yYk h e;exact⟨_,_,_,_,e2 e,q2 e,⟨g1,vBd,by simp,nD,by rw[g4];exact fun _ h=>.inl h⟩,rfl,(if_neg h1).symm,fun e'=>absurd e' h1⟩
  rcases hq with e|e
  ·have e1:decide (f.1=10)=true:=aa e;rw[e1] at g⊢;exact g
  ·have e1:decide (f.1=10)=false:=ab (by omega);rw[e1] at g⊢;rw[aa e];exact g
 rw[ab (show¬f.1=10 by omega),ab (show¬f.1=11 by omega)];by_cases hp:f.1=12
 ·rw[aa hp];obtain⟨d,e1,e2⟩:=yY8 (k:=1000) (by decide) hr h (-1) f.2.1 f.2.2.1;obtain⟨d',q1,q2⟩:=Zg hr h (-1) f.2.1 f.2.2.1;simp only[ag,ak];rw[e1,q1];have bg:=yR0 r s f.2.1 f.2.2.1;exact⟨_,d,d',rfl,rfl,fun e=>⟨_,_,_,_,e2 e,q2 e,⟨yG8 h e,bg.2.1,by simp,nD,by rw[yTl];exact fun _ h=>.inl h⟩,rfl,(if_neg h1).symm,fun e'=>absurd e' h1⟩⟩
 ·rw[ab hp];exact⟨_,_,_,rfl,rfl,fun _=>⟨s,[],[],0,rfl,rfl,⟨h,rfl,by simp,nD,fun _ h=>.inl h⟩,rfl,(if_neg h1).symm,fun e'=>absurd e' h1⟩⟩
def QN (who kd:Int)(x4:Int×Y9):Option (rq×List qY×Int):=
  bif !(decide (who = (-1))) then ((fT 1000 15 []).bind fun x5=>
   (oG 1000 x4.2.2.2.2.2.2.1 x4.2.2.2.2.2.2.2.1 x4.2.2.2.2.2.2.2.2.1 x4.2.2.2.2.2.2.2.2.2.1 x4.2.2.2.2.2.2.2.2.2.2.1 x4.2.2.2.2.2.2.2.2.2.2.2.1 x4.2.2.2.2.2.2.2.2.2.2.2.2.1 x4.2.2.2.2.2.2.2.2.2.2.2.2.2.1 x4.2.2.2.2.2.2.2.2.2.2.2.2.2.2.1 x4.2.2.2.2.2.2.2.2.2.2.2.2.2.2.2.1 x4.2.2.2.2.2.2.2.2.2.2.2.2.2.2.2.2.1 (decide (kd=13))).bind fun x6=>
   bif zL (1 + x4.2.2.2.2.2.2.2.2.2.2.2.2.2.2.2.2.2.2.1.length) 64 then (let y0:List qY:=([(who,x5)]++x4.2.2.2.2.2.2.2.2.2.2.2.2.2.2.2.2.2.2.1)
    bif zL (y0.length + x6.2.2.2.2.2.2.2.2.2.2.2.length) 64 then (bif decide (x4.2.2.2.2.2.2.2.2.2.2.2.2.2.2.2.2.2.2.2 > 0) then ((nv 1000 x6.2.2.2.2.2.2.2.1 x4.2.2.2.2.2.2.2.2.2.2.2.2.2.2.2.2.2.2.2).bind fun x7=>
      bif decide (x7 ≥ 0) then ((fT 1000 19 [x4.2.2.2.2.2.2.2.2.2.2.2.2.2.2.2.2.2.2.2]).bind fun x8=>
       bif zL ((y0 ++ x6.2.2.2.2.2.2.2.2.2.2.2).length + 1) 64 then (let y1:List qY:=((y0++x6.2.2.2.2.2.2.2.2.2.2.2)++[(who,x8)])
        some ((qQ x6),y1,0))
       else none)
      else some ((qQ x6),(y0++x6.2.2.2.2.2.2.2.2.2.2.2),0))
     else some ((qQ x6),(y0++x6.2.2.2.2.2.2.2.2.2.2.2),0))
    else none)
   else none)
  else(oG 1000 x4.2.2.2.2.2.2.1 x4.2.2.2.2.2.2.2.1 x4.2.2.2.2.2.2.2.2.1 x4.2.2.2.2.2.2.2.2.2.1 x4.2.2.2.2.2.2.2.2.2.2.1 x4.2.2.2.2.2.2.2.2.2.2.2.1 x4.2.2.2.2.2.2.2.2.2.2.2.2.1 x4.2.2.2.2.2.2.2.2.2.2.2.2.2.1 x4.2.2.2.2.2.2.2.2.2.2.2.2.2.2.1 x4.2.2.2.2.2.2.2.2.2.2.2.2.2.2.2.1 x4.2.2.2.2.2.2.2.2.2.2.2.2.2.2.2.2.1 (decide (kd=13))).bind fun x9=>
  bif zL x4.2.2.2.2.2.2.2.2.2.2.2.2.2.2.2.2.2.2.1.length 64 then (let y2:List qY:=x4.2.2.2.2.2.2.2.2.2.2.2.2.2.2.2.2.2.2.1
   bif zL (y2.length + x9.2.2.2.2.2.2.2.2.2.2.2.length) 64 then (bif decide (x4.2.2.2.2.2.2.2.2.2.2.2.2.2.2.2.2.2.2.2 > 0) then ((nv 1000 x9.2.2.2.2.2.2.2.1 x4.2.2.2.2.2.2.2.2.2.2.2.2.2.2.2.2.2.2.2).bind fun bZ=>
     bif decide (bZ ≥ 0) then ((fT 1000 19 [x4.2.2.2.2.2.2.2.2.2.2.2.2.2.2.2.2.2.2.2]).bind fun du=>
      bif zL ((y2 ++ x9.2.2.2.2.2.2.2.2.2.2.2).length + 1) 64 then (let y3:List qY:=((y2++x9.2.2.2.2.2.2.2.2.2.2.2)++[(who,du)])
       some ((qQ x9),y3,0))
      else none)
     else some ((qQ x9),(y2++x9.2.2.2.2.2.2.2.2.2.2.2),0))
    else some ((qQ x9),(y2++x9.2.2.2.2.2.2.2.2.2.2.2),0))
   else none)
  else none
def Co (r:qG)(s:rq)(c:la):Option (rq×List qY×Int):=
  bif decide (c.2.1 = 9) then (bif zB c.1 s.2.1.length then ((uH 1000 s.2.2.2.2.2.2.2.1 c.1).bind fun x1=>
    (fT 1000 17 [(s.2.1.getD c.1.toNat (0,0,0)).1,(s.2.1.getD c.1.toNat (0,0,0)).2.1,(s.2.1.getD c.1.toNat (0,0,0)).2.2,(x1.length:Int),s.1]).bind fun x2=>
    some (s,[(c.1,x2)],0))
   else none)
  else bif decide (c.2.1 = 14) then ((Hq 1000 r s).bind fun x3=>
   some (x3.1,x3.2,0))
  else(yk 1000 (jG r (vT s (c.1,0))) c.2).bind fun x4=>
  bif !(decide (x4.1=0)) then some (s,[],x4.1)
  else QN c.1 c.2.1 x4
theorem vOl (r:qG)(s:rq)(c:la):LR 1000 r s c=(Cm 1000 r c).bind fun x0=>
  bif !x0 then some (s,[],5) else bif s.2.2.2.2.2.2.2.2.2.2 then(bif !(decide (c.2.1=9)) then some (s,[],7) else Co r s c) else Co r s c:=rfl
theorem vBh {r:qG}(hr:vM r){s t:zU}(ho:s.ov=false){who:Int}{l l':List qY}{f:jE}{paid:Int}(hB:Ht r s who f t l l' paid):
    ∃ u o, ((pF 1000 t.t t.B.1 t.B.2.1 t.B.2.2.1 t.B.2.2.2 t.pr t.ho t.m t.ids t.to t.ov (decide (f.1=13))).bind fun x5=>
      bif zL (l.length + x5.2.2.2.2.2.2.2.2.2.2.2.length) 64 then (let y0:List qY:=(l++x5.2.2.2.2.2.2.2.2.2.2.2)
       bif decide (f.1 = 1) then ((oz 1000 x5.2.2.2.2.2.2.2.1 f.2.1).bind fun x6=>
        bif decide (x6 ≥ 0) then ((uU 1000 (Hv ((0:Int),dk r t who l) y0) 19 [f.2.1]).bind fun x7=>
         some ((qQ x5),x7.2.2.2.2.2.2.2.2.2.2.2.2.2.2.2.2.2,(0:Int)))
        else some ((qQ x5),y0,0))
       else some ((qQ x5),y0,0))
      else none)=some (u.st,o,(0:Int))∧QN who f.1 (0,qN r t who l' paid)=some (u.st,o,(0:Int))∧qW r u∧lf o∧o.length≤200∧u.ids=t.ids:=by
  have h:=hB.dealt.inv;have vi:=hB.dealt.ov.trans ho;have hl:=hB.dealt.few;have hm:=h.waits.len;obtain⟨C,m',d,e1,LH,e3,e4,e5,e6,e7⟩:=yT4 h.bk h.waits.dist h.waits.may (by omega) t.t t.pr t.ho t.ids t.to t.ov (decide (f.1=13));have hd:d.length≤40:=by
    have:=e6.length_eq;rw[au] at this;omega
  have mh:=e5.length_le;have pX:=BZ d;have hu:=h.settled vi e3 e4 e5;have dQ:l'.length≤2:=by
    have:=hB.told;by_cases hw:who= -1
    · rw[if_pos hw] at this;rw[←this];exact hl
    · rw[if_neg hw] at this;rw[this,List.length_cons] at hl;omega
  have key:QN who f.1 (0,qN r t who l' paid)=bif decide (paid>0) then(bif decide (ki m' paid≥0) then some ((t.t,C.1,C.2.1,C.2.2.1,C.2.2.2,t.pr,t.ho,m',t.ids,t.to,t.ov),(l++yY d)++[ie who 19 paid],(0:Int)) else some ((t.t,C.1,C.2.1,C.2.2.1,C.2.2.2,t.pr,t.ho,m',t.ids,t.to,t.ov),l++yY d,0)) else some ((t.t,C.1,C.2.1,C.2.2.1,C.2.2.2,t.pr,t.ho,m',t.ids,t.to,t.ov),l++yY d,0):=by
    have es:oG 1000 (qN r t who l' paid).2.2.2.2.2.1 (qN r t who l' paid).2.2.2.2.2.2.1 (qN r t who l' paid).2.2.2.2.2.2.2.1 (qN r t who l' paid).2.2.2.2.2.2.2.2.1 (qN r t who l' paid).2.2.2.2.2.2.2.2.2.1 (qN r t who l' paid).2.2.2.2.2.2.2.2.2.2.1 (qN r t who l' paid).2.2.2.2.2.2.2.2.2.2.2.1 (qN r t who l' paid).2.2.2.2.2.2.2.2.2.2.2.2.1 (qN r t who l' paid).2.2.2.2.2.2.2.2.2.2.2.2.2.1 (qN r t who l' paid).2.2.2.2.2.2.2.2.2.2.2.2.2.2.1 (qN r t who l' paid).2.2.2.2.2.2.2.2.2.2.2.2.2.2.2.1 (decide (f.1=13))=_:=LH;have eo:(qN r t who l' paid).2.2.2.2.2.2.2.2.2.2.2.2.2.2.2.2.2.1=l':=rfl;have ep:(qN r t who l' paid).2.2.2.2.2.2.2.2.2.2.2.2.2.2.2.2.2.2=paid:=rfl;have ef:nv 1000 m' paid=some (ki m' paid):=Pz (by omega) (by omega) paid;unfold QN;simp only[es,eo,ep,Of0,QI,ae];have ht:=hB.told;by_cases hw:who= -1
    · rw[if_pos hw] at ht;rw[aa hw,qI (n:=l'.length) (by omega) (by omega),qI (n:=l'.length+(yY d).length) (by omega) (by omega),qI (n:=(l'++yY d).length+1) (by rw[au];omega) (by rw[au];omega),ht];simp only[aB,ak,ag];rw[ef];rfl
    · rw[if_neg hw] at ht;have er:[((who,(15,0,0,0,0,0,0)):qY)]++l'=l:=ht.symm;rw[ab hw,er,qI (n:=1+l'.length) (by omega) (by omega),qI (n:=l.length+(yY d).length) (by omega) (by omega),qI (n:=(l++yY d).length+1) (by rw[au];omega) (by rw[au];omega)];simp only[bG,ag];rw[ef];rfl
  rw[e1,key];simp only[ae];rw[qI (n:=l.length+(yY d).length) (by omega) (by omega)];simp only[ag];have fin:∀(o:List qY) {x:Option (rq×List qY×Int)},o.length≤200→lf o→x=some (({t with B:=C,m:=m'}:zU).st,o,(0:Int))→∃u o',some (({t with B:=C,m:=m'}:zU).st,o,(0:Int))=some (u.st,o',(0:Int))∧x=some (u.st,o',(0:Int))∧qW r u∧lf o'∧o'.length≤200∧u.ids=t.ids:=fun o _ hl hk hx=>⟨{t with B:=C,m:=m'},o,rfl,hx,hu,hk,hl,rfl⟩
  have k1:Kd (l++yY d):=hB.dealt.kd.append (LQ _);have b1:(l++yY d).length≤199:=by rw[au];omega
  have b2:∀x:qY,(l++yY d++[x]).length≤200:=fun x=>by rw[au];simp;rw[au] at b1;omega
  have hp:=hB.paid;by_cases h1:f.1=1
  · rw[if_pos h1] at hp;subst hp;rw[aa h1,aa (show f.2.1>0 from hB.pos h1)];simp only[ag];rw[BL (by omega) (by omega)];simp only[ae];cases decide (ki m' f.2.1≥0) with
    |false=>exact fin _ (by omega) k1.ne rfl
    |true=>
      simp only[ag];have ej:Hv ((0:Int),dk r t who l) (l++yY d)=dk r t who (l++yY d):=rfl;rw[ej,Yt (by rw[au];omega)];exact fin _ (b2 _) (k1.append (kn _ _ _ (by decide))).ne rfl
  · rw[if_neg h1] at hp;subst hp;rw[ab h1,ab (show¬(0:Int)>0 by decide)];exact fin _ (by omega) k1.ne rfl
theorem vNk {r:qG}{s:zU}(h:qW r s){who:Int}(hw:0≤who∧who<r.1)(c:la)(hc:c.1=who)(h9:c.2.1=9):
  ∃o,Cp 1000 s.st who=some o∧Co r s.st c=some (s.st,o,0)∧o.length≤200∧lf o:=by
 have hm:=h.waits.len;have hn:=h.n;have hb:zB who s.B.1.length=true:=wV hw.1 (by omega);have e1:s.st.2.1=s.B.1:=rfl;have e2:s.st.2.2.2.2.2.2.2.1=s.m:=rfl;unfold Cp Co;rw[aa h9,hc,e1,e2,hb,Yf (by omega) (by unfold qT;omega),Pt (by omega) (by unfold qT;omega)];simp only[ag,ae,Of5];exact⟨_,rfl,rfl,by simp,(Hr ⟨by simp,by simp⟩).ne⟩
theorem vZw {r:qG}(hr:vM r){s:zU}(h:qW r s)(c:la):
  ∃t o e,ig 1000 r s.st c=some (t.st,o,e)∧LR 1000 r s.st c=some (t.st,o,e)∧Cn r s c.2 t o e:=by
 obtain⟨e,he,hm,hb⟩:=Zt r s c (fun e=>(some (s.st,[],e):Option (rq×List qY×Int))) (Co r s.st c);have hR:LR 1000 r s.st c=bif decide (e=0) then Co r s.st c else some (s.st,[],e):=by
  rw[vOl];have eo:s.st.2.2.2.2.2.2.2.2.2.2=s.ov:=rfl;rw[eo];cases hx:Cm 1000 r c with
  |none=>rw[hx] at hb;cases hb
  |some x=>
   rw[hx] at hb;simp only[ae,Option.some.injEq] at hb;exact hb
 unfold ig;rw[he,hR];simp only[ae];by_cases h0:e=0
 ·obtain⟨hw,vi⟩:=hm h0;rw[aa h0];simp only[aB,ak,ag];by_cases h9:c.2.1=9
  ·have ph:0≤c.1∧c.1<r.1:=by omega
   obtain⟨o,ho,lU,hol,gb⟩:=vNk h ph c rfl h9;rw[aa h9,lU];simp only[ag];rw[ho];exact⟨s,o,0,rfl,rfl,h,fun e=>absurd rfl e,gb,hol,fun _ h=>.inl h⟩
  ·have ho:s.ov=false:=by
    cases g:s.ov with
    |false=>rfl
    |true=>exact absurd (vi g) h9
   have fin:∀{t:zU} {x y:Option (rq×List qY×Int)},(∀x∈t.ids,x∈s.ids∨x=c.2.2.1)→(∃u o,x=some (u.st,o,(0:Int))∧y=some (u.st,o,(0:Int))∧qW r u∧lf o∧o.length≤200∧u.ids=t.ids)→∃t o e,x=some (t.st,o,e)∧y=some (t.st,o,e)∧Cn r s c.2 t o e:=by
    intro t x y hi ⟨u,o,g1,BP,g2,g3,g4,g5⟩;exact⟨u,o,0,g1,BP,g2,fun e=>absurd rfl e,g3,g4,by rw[g5];exact hi⟩
   unfold Co;rw[ab h9];simp only[ak];by_cases hp:c.1= -1
   ·rw[aa hp];have hf:10≤c.2.1∧c.2.1≤14:=by omega
    have ed:jG r (vT s.st c.1)=fz r s (-1):=by rw[hp];rfl
    have er:jG r (vT s.st (c.1,0))=rk r s (-1):=by rw[hp];rfl
    simp only[aB,ak];rw[ed,er];by_cases Cq:c.2.1=14
    ·have g0:yl 1000 (fz r s (-1)) c.2=some (0,dk r s (-1) []):=by
      unfold yl;rw[Cq];rfl
     rw[g0];simp only[ae];rw[aa Cq];have bn:=h.tk;have DO:=hr.cl;have Le:=hr.pe;obtain⟨x,x1,x2⟩:=Zo r h.bk h.waits.dist h.waits.may (by have:=h.waits.len;omega) ⟨by omega,by omega⟩ (by omega) ho;obtain⟨C,m',ov,o,y1,y2,_,_,y3,y4⟩:=yUi (k:=1000) (by decide) hr h ho;rw[x1] at y1;have y1:=Option.some.inj y1;subst y1;refine⟨_,o,0,(congrArg (fun z=>Option.bind z _) x1).trans rfl,(congrArg (fun z=>Option.bind z _) x2).trans rfl,y2,fun e=>absurd rfl e,?_,by omega,fun _ h=>.inl h⟩;rcases y4 with⟨_,_,rfl,_⟩|⟨l,d,n,rfl,_,_,_⟩
     ·exact(QK (.inr rfl) _).ne.append (yN9 _ _)
     ·exact((QK (.inl rfl) _).append (LQ _)).ne
    ·obtain⟨e,d,d',g1,BP,g2⟩:=vV6 hr h (f:=c.2) (by omega);rw[g1,ab Cq,BP];simp only[ae,ak];by_cases hz:e=0
     ·obtain⟨t,l,l',paid,rfl,rfl,hd⟩:=g2 hz;rw[aa hz,hp];simp only[aB,ak];subst hz;exact fin hd.dealt.ids (vBh hr ho hd)
     ·rw[ab hz];exact⟨s,[],e,rfl,rfl,Cn.none h e⟩
   ·rw[ab hp,ab (show¬c.2.1=14 by omega)];have hf:1≤c.2.1∧c.2.1≤8:=by omega
    have ph:0≤c.1∧c.1<r.1:=by omega
    have ed:LS 1000 (jG r (vT s.st c.1)) 15 []=some (dk r s c.1 [ie c.1 15 0]):=rfl;have er:jG r (vT s.st (c.1,0))=rk r s c.1:=rfl;obtain⟨e,d,d',g1,BP,g2⟩:=vM8 hr h ho ph (f:=c.2) hf;simp only[bG,ag,ak];rw[ed,er,BP];simp only[ae];rw[g1];simp only[ae];by_cases hz:e=0
    ·obtain⟨t,l,l',paid,rfl,rfl,hd⟩:=g2 hz;rw[aa hz];simp only[aB,ak];subst hz;exact fin hd.dealt.ids (vBh hr ho hd)
    ·rw[ab hz];exact⟨s,[],e,rfl,rfl,Cn.none h e⟩
 ·rw[ab h0];exact⟨s,[],e,rfl,rfl,Cn.none h e⟩
def vC (s t:zU):Prop:=∀i,i<s.B.1.length→(t.B.1.getD i ad).1<(s.B.1.getD i ad).1→0≤(t.B.1.getD i ad).1+(t.B.1.getD i ad).2.1
theorem vC.same {s t}(h:∀i,i<s.B.1.length→(t.B.1.getD i ad).1=(s.B.1.getD i ad).1):vC s t:=fun i hi bn=>by simp_all
theorem vC.refl s:vC s s:=vC.same (by simp)
theorem vC.book {s t}(h:t.B=s.B):vC s t:=vC.same (by grind)
theorem vC.set {s t:zU}{j:Nat}{a:yA}(h:t.B.1=s.B.1.set j a)(ha:a.1<(s.B.1.getD j ad).1→0≤a.1+a.2.1):vC s t:=fun i hi=>by
 rw[h,fQ];split
 ·next h=>rw[←h.1];exact ha
 ·omega
theorem vTy (r:qG)(s:zU)(who:Int)(f:jE):vC s (iY r s who f).2:=by
 unfold iY;cases decide (f.1=5) with
 |true=>
  cases !((decide (f.2.1≥0)&&decide (f.2.1≤r.1-1))&& !decide (f.2.1=who))<;>cases !(decide (f.2.2.1≥-1)&&decide (f.2.2.1≤1152921504606846976))<;>exact vC.same fun _ _=>rfl
 |false=>
  cases decide (f.1=6) with
  |true=>cases !(decide (f.2.1≥-1)&&decide (f.2.1≤1152921504606846976))<;>exact vC.same fun _ _=>rfl
  |false=>
   cases !(decide (f.2.1≥0)&&decide (f.2.1≤1152921504606846976))
   ·exact vC.set (j:=who.toNat) rfl fun h=>absurd h (Int.lt_irrefl _)
   ·exact vC.refl s
theorem vS1 (r:qG)(s:zU)(who a n:Int):vC s (iZ r s who a n).2:=by
 unfold iZ;cases !(decide (a≥0)&&decide (a≤(r.2.1.length:Int)-1)) with
 |true=>exact vC.refl s
 |false=>
 cases !(decide (n≥0)&&decide (n≤1099511627776)) with
 |true=>exact vC.refl s
 |false=>
 simp only[ak];unfold B4;generalize (s.ho.getD who.toNat []).set a.toNat n=h;cases decide (mv r.2.1 s.pr h>1152921504606846976) with
 |true=>exact vC.refl s
 |false=>
  cases decide (mv r.2.1 s.pr h<(s.B.1.getD who.toNat ad).2.1)&&decide ((s.B.1.getD who.toNat ad).1+mv r.2.1 s.pr h<0)
  ·exact vC.set (j:=who.toNat) rfl fun h=>absurd h (Int.lt_irrefl _)
  ·exact vC.refl s
theorem Zv (r:qG)(s:zU)(a p:Int):vC s (ja r s a p).2:=by
 unfold ja;cases !(decide (a≥0)&&decide (a≤(r.2.1.length:Int)-1)) with
 |true=>exact vC.refl s
 |false=>
 cases !(decide (p≥0)&&decide (p≤1048576)) with
 |true=>exact vC.refl s
 |false=>
 simp only[ak];unfold Ca;cases qH (fun j=> !decide (gk r.2.1 (s.pr.set a.toNat p) s.ho j>1152921504606846976)) s.B.1.length 0
 ·exact vC.refl s
 ·exact vC.same fun i hi=>by show((tl r.2.1 (s.pr.set a.toNat p) s.ho s.B.1).getD i ad).1=_;rw[Qu _ _ _ _ hi]
theorem vKs {r:qG}{s:zU}(h:qW r s)(kd:Int){to n:Int}(h0:(iG r s kd to n).1=0):vC s (iG r s kd to n).2:=by
 have hn:=h.n;unfold iG at h0⊢;cases hc:decide (to≥0)&&decide (to≤r.1-1) with
 |false=>rw[hc] at h0;cases h0
 |true=>
 cases cQ:decide (n≥1)&&decide (n≤1099511627776) with
 |false=>rw[hc,cQ] at h0;cases h0
 |true=>
 rw[hc,cQ] at h0;simp only[aB,ak] at h0⊢;simp only[bc,aX] at hc cQ;have ha:=pH.1 (h.bk.acct to.toNat (by omega));have hr:0≤(s.B.1.getD to.toNat ad).2.2:=ha.2.2.1;cases hk:decide (kd=11) with
 |true=>
  rw[hk] at h0;simp only[ag] at h0⊢;unfold GX at h0⊢;cases h1:decide ((s.B.1.getD to.toNat ad).1+(s.B.1.getD to.toNat ad).2.1-(s.B.1.getD to.toNat ad).2.2<n) with
  |true=>exact vC.refl s
  |false=>
  cases decide (s.to-n<0) with
  |true=>exact vC.refl s
  |false=>
  cases decide ((wZ (s.B.1.getD to.toNat ad) (-n)).2=0) with
  |false=>exact vC.refl s
  |true=>
  cases decide (s.to-n>1152921504606846976) with
  |true=>exact vC.refl s
  |false=>
   simp only[decide_eq_false_iff_not] at h1;refine vC.set (j:=to.toNat) (a:=(wZ (s.B.1.getD to.toNat ad) (-n)).1) rfl ?_;unfold wZ;cases fk ((s.B.1.getD to.toNat ad).1+-n,(s.B.1.getD to.toNat ad).2.1,(s.B.1.getD to.toNat ad).2.2)
   ·exact fun h=>absurd h (Int.lt_irrefl _)
   ·show(s.B.1.getD to.toNat ad).1+-n<_→0≤(s.B.1.getD to.toNat ad).1+-n+(s.B.1.getD to.toNat ad).2.1;omega
 |false=>
  simp only[ak];unfold GY;cases decide ((wZ (s.B.1.getD to.toNat ad) n).2=0) with
  |false=>exact vC.refl s
  |true=>
  cases decide (s.to+n>1152921504606846976) with
  |true=>exact vC.refl s
  |false=>
   refine vC.set (j:=to.toNat) (a:=(wZ (s.B.1.getD to.toNat ad) n).1) rfl ?_;unfold wZ;cases fk ((s.B.1.getD to.toNat ad).1+n,(s.B.1.getD to.toNat ad).2.1,(s.B.1.getD to.toNat ad).2.2)
   ·exact fun h=>absurd h (Int.lt_irrefl _)
   ·show(s.B.1.getD to.toNat ad).1+n<_→_;omega
structure Hw (r:qG) (s:zU) (f:jE) (t:zU) (l:List qY):Prop where
 inv:qW r t
 tk:t.t=s.t
 ov:t.ov=s.ov
 few:l.length≤2
 to:t.to=s.to+(if f.1=10 then f.2.2.1 else if f.1=11 then-f.2.2.1 else 0)
 fell:vC s t
 kd:Kd l
 ids:∀x∈t.ids,x∈s.ids∨x=f.2.1
theorem Zw {k:Nat}(hk:1000≤k){r:qG}(hr:vM r){s:zU}(h:qW r s)(ho:s.ov=false){who:Int}(hw:0≤who∧who<r.1){f:jE}(hf:1≤f.1∧f.1≤8){x:qY}(kn:Kd [x]):
  ∃e d,Hu k (dk r s who [x]) f=some (e,d)∧(e=0→∃t l,d=dk r t who l∧Hw r s f t l):=by
 unfold Hu;have Kb:¬f.1=10:=by omega
 have Kc:¬f.1=11:=by omega
 have h0:s.to=s.to+(if f.1=10 then f.2.2.1 else if f.1=11 then-f.2.2.1 else 0):=by rw[if_neg Kb,if_neg Kc];omega
 by_cases h1:f.1=1
 ·rw[aa h1];obtain⟨d,e1,e2⟩:=yF0 hk hr h.waits who [x] f;simp only[ag];rw[e1];refine⟨_,d,rfl,fun e=>⟨_,_,e2 e,h.queue ho (yLp hr h e),rfl,rfl,by simp,h0,vC.book rfl,kn,vCo e⟩⟩
 rw[ab h1];by_cases hq:f.1=2∨f.1=3∨f.1=4
 ·obtain⟨d,e1,e2⟩:=yJc hk h.waits who (l:=[x]) (by simp) f;have g:∃e d,(xV k (dk r s who [x]) f).bind (fun x=>some (x.1,x.2))=some (e,d)∧(e=0→∃t l,d=dk r t who l∧Hw r s f t l):=by
   rw[e1];refine⟨_,d,rfl,fun e=>⟨_,_,e2 e,h.queue ho (vFb h e),rfl,rfl,?_,h0,vC.book rfl,kn.append yIl,fun _ h=>.inl h⟩⟩;have:=yYr (r:=r) (s:=s) (who:=who) (f:=f);rw[au];simp;omega
  rcases hq with e|e|e
  ·rw[aa e];exact g
  ·rw[ab (show¬f.1=2 by omega),aa e];exact g
  ·rw[ab (show¬f.1=2 by omega),ab (show¬f.1=3 by omega),aa e];exact g
 rw[ab (show¬f.1=2 by omega),ab (show¬f.1=3 by omega),ab (show¬f.1=4 by omega)];by_cases hq:f.1=5∨f.1=6∨f.1=7
 ·obtain⟨d,e1,e2⟩:=vC3 hk hr h.bk h.n hw [x] f;have g:∃e d,(xW k (dk r s who [x]) f).bind (fun x=>some (x.1,x.2))=some (e,d)∧(e=0→∃t l,d=dk r t who l∧Hw r s f t l):=by
   rw[e1];have bg:=yHr r s who f;refine⟨_,d,rfl,fun e=>⟨_,_,e2 e,vGe h hw e,bg.1,bg.2.1,by simp,bg.2.2.trans h0,vTy r s who f,kn,by rw[yXi];exact fun _ h=>.inl h⟩⟩
  rcases hq with e|e|e
  ·rw[aa e];exact g
  ·rw[ab (show¬f.1=5 by omega),aa e];exact g
  ·rw[ab (show¬f.1=5 by omega),ab (show¬f.1=6 by omega),aa e];exact g
 rw[ab (show¬f.1=5 by omega),ab (show¬f.1=6 by omega),ab (show¬f.1=7 by omega),aa (show f.1=8 by omega)];obtain⟨d,e1,e2⟩:=vCq hk hr h hw [x] f.2.1 f.2.2.1;simp only[ag,ak];rw[e1];have bg:=yH4 r s who f.2.1 f.2.2.1;exact⟨_,d,rfl,fun e=>⟨_,_,e2 e,yZ6 hr h hw e,bg.1,bg.2.1,by simp,bg.2.2.trans h0,vS1 r s who _ _,kn,by rw[yPb];exact fun _ h=>.inl h⟩⟩
theorem vXc {k:Nat}(hk:1000≤k){r:qG}(hr:vM r){s:zU}(h:qW r s)(who:Int){f:jE}(hf:10≤f.1∧f.1≤14):
  ∃e d,yl k (fz r s who) f=some (e,d)∧(e=0→∃t l,d=dk r t who l∧Hw r s f t l):=by
 unfold yl;rw[ab (show¬f.1=1 by omega),ab (show¬f.1=2 by omega),ab (show¬f.1=3 by omega),ab (show¬f.1=4 by omega),ab (show¬f.1=5 by omega),ab (show¬f.1=6 by omega),ab (show¬f.1=7 by omega),ab (show¬f.1=8 by omega)];by_cases hq:f.1=10∨f.1=11
 ·obtain⟨d,e1,e2⟩:=yXb hk hr h who f.1 f.2.1 f.2.2.1;have g:∃e d,(B9 k (fz r s who) f.1 f.2.1 f.2.2.1).bind (fun x=>some (x.1,x.2))=some (e,d)∧(e=0→∃t l,d=dk r t who l∧Hw r s f t l):=by
   rw[e1];refine⟨_,d,rfl,fun e=>?_⟩;obtain⟨g1,g2,g3,g4,g5⟩:=yYk h e;refine⟨_,_,e2 e,g1,g5,vBd,by simp,?_,vKs h _ e,nD,by rw[g4];exact fun _ h=>.inl h⟩;rw[g2];rcases hq with e|e
   ·rw[if_neg (by omega),if_pos e]
   ·rw[if_pos e,if_neg (by omega),if_pos e]
  rcases hq with e|e
  ·rw[aa e];exact g
  ·rw[ab (show¬f.1=10 by omega),aa e];exact g
 have h0:s.to=s.to+(if f.1=10 then f.2.2.1 else if f.1=11 then-f.2.2.1 else 0):=by rw[if_neg (by omega),if_neg (by omega)];omega
 rw[ab (show¬f.1=10 by omega),ab (show¬f.1=11 by omega)];by_cases hp:f.1=12
 ·rw[aa hp];obtain⟨d,e1,e2⟩:=yY8 hk hr h who f.2.1 f.2.2.1;simp only[ag,ak];rw[e1];have bg:=yR0 r s f.2.1 f.2.2.1;exact⟨_,d,rfl,fun e=>⟨_,_,e2 e,yG8 h e,bg.1,bg.2.1,by simp,bg.2.2.trans h0,Zv r s _ _,nD,by rw[yTl];exact fun _ h=>.inl h⟩⟩
 ·rw[ab hp];exact⟨_,_,rfl,fun _=>⟨s,[],rfl,h,rfl,rfl,by simp,h0,vC.refl s,nD,fun _ h=>.inl h⟩⟩
theorem vMz {k}(hk:1000≤k){r s}(h:qW r s){who}(hw:0≤who∧who<r.1):∃o,Cp k s.st who=some o∧lf o∧o.length≤100:=by
 have hm:=h.waits.len;have hn:=h.n;have hb:zB who s.B.1.length=true:=wV hw.1 (by omega);unfold Cp;have e1:s.st.2.1=s.B.1:=rfl;have e2:s.st.2.2.2.2.2.2.2.1=s.m:=rfl;rw[e1,e2,hb,Yf (by omega) (by unfold qT;omega)];exact⟨_,rfl,(Hr (by simp)).ne,by simp⟩
structure Zx (k:Nat) (r:qG) (s:zU) (c:la) (t:zU) (o:List qY) (e:Int):Prop where
 inv:qW r t
 bad:e≠0→t=s∧o=[]
 to:e=0→t.to=s.to+(if c.2.1=10 then c.2.2.2.1 else if c.2.1=11 then-c.2.2.2.1 else 0)
 still:t=s∨(t.ov=false→eE k t.B (vV t.m t.t)=none)
 fell:vC s t
 ne:lf o
 few:o.length≤100
 ids:∀x∈t.ids,x∈s.ids∨x=c.2.2.1
theorem vC.kept {s t u}(h:vC s t)(hl:t.B.1.length=s.B.1.length)(g:jV t.B u.B):vC s u:=fun i hi=>by
 have h1:=h i hi;have h2:=g.fell i (by omega);have h3:=g.cred i (by omega);omega
theorem vYc {k}(hk:1000≤k){r}(hr:vM r){s}(h:qW r s)(ho:s.ov=false) c (hc:c.2.1=14):
  ∃t o,(uR k r.1 r.2.1 r.2.2.1 r.2.2.2.1 r.2.2.2.2 s.t s.B.1 s.B.2.1 s.B.2.2.1 s.B.2.2.2 s.pr s.ho s.m s.ids s.to s.ov).bind (fun x4=>some ((qQ x4),x4.2.2.2.2.2.2.2.2.2.2.2,(0:Int)))=some (t.st,o,(0:Int))∧Zx k r s c t o 0:=by
 obtain⟨C,m',ov,o,e1,e2,e3,e4,e6,e5⟩:=yUi hk hr h ho;rw[e1];refine⟨{s with t:=s.t+1,B:=C,m:=m',ov:=ov},o,rfl,e2,by simp,fun _=>?_,.inr e4,e3.fell,?_,e6,by grind⟩
 rotate_left
 ·rcases e5 with⟨_,_,rfl,_⟩|⟨l,d,n,rfl,_,_,_⟩
  ·exact(QK (.inr rfl) _).ne.append (yN9 _ _)
  ·exact((QK (.inl rfl) _).append (LQ _)).ne
 simp_all
theorem yPq {k}(hk:1000≤k){r}(hr:vM r){t}(h:qW r t)(ho:t.ov=false) who {l}(hl:l.length≤2)(Bo:Kd l)(f:jE):
    ∃ u o, ((pF k t.t t.B.1 t.B.2.1 t.B.2.2.1 t.B.2.2.2 t.pr t.ho t.m t.ids t.to t.ov (decide (f.1=13))).bind fun x5=>
      bif zL (l.length + x5.2.2.2.2.2.2.2.2.2.2.2.length) 64 then (let y0:List qY:=(l++x5.2.2.2.2.2.2.2.2.2.2.2)
       bif decide (f.1 = 1) then ((oz k x5.2.2.2.2.2.2.2.1 f.2.1).bind fun x6=>
        bif decide (x6 ≥ 0) then ((uU k (Hv ((0:Int),dk r t who l) y0) 19 [f.2.1]).bind fun x7=>
         some ((qQ x5),x7.2.2.2.2.2.2.2.2.2.2.2.2.2.2.2.2.2,(0:Int)))
        else some ((qQ x5),y0,0))
       else some ((qQ x5),y0,0))
      else none)=some (u.st,o,(0:Int))∧qW r u∧u.to=t.to∧eE k u.B (vV u.m u.t)=none∧jV t.B u.B∧lf o∧o.length≤100∧u.ids=t.ids:=by
  have hm:=h.waits.len;obtain⟨C,m',d,e1,e2,e3,e4,e5,e6,e7⟩:=vWl (k:=k) (by omega) h.bk h.waits.dist h.waits.may (by omega) t.t t.pr t.ho t.ids t.to t.ov (decide (f.1=13));rw[e1];have hd:d.length≤40:=by
    have:=e6.length_eq;grind
  have mh:=e5.length_le;have pX:=BZ d;simp;rw[qI (n:=l.length+(yY d).length) (by omega) (by omega)];have hu:=h.settled ho e3 e4 e5;have fin:∀o:List qY,Kd o→o.length≤100→∃u o',some (({t with B:=C,m:=m'}:zU).st,o,(0:Int))=some (u.st,o',(0:Int))∧qW r u∧u.to=t.to∧eE k u.B (vV u.m u.t)=none∧jV t.B u.B∧lf o'∧o'.length≤100∧u.ids=t.ids:=fun o ho hl=>⟨{t with B:=C,m:=m'},o,rfl,hu,rfl,e7,e4,ho.ne,hl,rfl⟩
  have k1:Kd (l++yY d):=Bo.append (LQ _);have b1:(l++yY d).length≤90:=by rw[au];omega
  cases decide (f.1=1) with
  |false=>exact fin _ k1 (by omega)
  |true=>
    rw[BL (by omega) (by omega)];simp;cases decide (ki m' f.2.1≥0) with
    |false=>exact fin _ k1 (by omega)
    |true=>
      have ej:Hv ((0:Int),dk r t who l) (l++yY d)=dk r t who (l++yY d):=rfl;rw[ej,Yt (by omega)];exact fin (l++yY d++[ie who 19 f.2.1]) (k1.append (Hr ⟨by unfold ie;simp,by unfold ie;simp⟩)) (by grind)
theorem vSd {k}(hk:1000≤k){r}(hr:vM r){s}(h:qW r s)(c:la):
  ∃t o e,ig k r s.st c=some (t.st,o,e)∧Zx k r s c t o e:=by
 unfold ig;obtain⟨e,he,hm⟩:=yGg (k:=k) (by omega) r s c;rw[he];simp only[ae];by_cases h0:e=0
 ·obtain⟨hw,vi⟩:=hm h0;rw[aa h0];simp only[aB,ak];by_cases h9:c.2.1=9
  ·rw[aa h9];have ph:0≤c.1∧c.1<r.1:=by omega
   obtain⟨o,ho,bp,hol⟩:=vMz hk h ph;simp only[ag];rw[ho];refine⟨s,o,0,rfl,h,fun e=>absurd rfl e,fun _=>?_,.inl rfl,vC.refl s,bp,hol,fun _ h=>.inl h⟩;rw[if_neg (by omega),if_neg (by omega)];omega
  ·rw[ab h9];simp only[ak];have ho:s.ov=false:=by
    cases g:s.ov with
    |false=>rfl
    |true=>exact absurd (vi g) h9
   have fin:∀{t:zU} {l:List qY},Hw r s c.2 t l→∀{x:Option (rq×List qY×Int)},(∃u o,x=some (u.st,o,(0:Int))∧qW r u∧u.to=t.to∧eE k u.B (vV u.m u.t)=none∧jV t.B u.B∧lf o∧o.length≤100∧u.ids=t.ids)→∃t o e,x=some (t.st,o,e)∧Zx k r s c t o e:=by
    intro t l hd x ⟨u,o,g1,g2,g3,g4,g5,g6,g7,g8⟩;exact⟨u,o,0,g1,g2,fun e=>absurd rfl e,fun _=>g3.trans hd.to,.inr fun _=>g4,hd.fell.kept (by have:=hd.inv.n;have:=h.n;omega) g5,g6,g7,by rw[g8];exact hd.ids⟩
   by_cases hp:c.1= -1
   ·rw[aa hp];have hf:10≤c.2.1∧c.2.1≤14:=by omega
    obtain⟨e,d,g1,g2⟩:=vXc hk hr h c.1 (f:=c.2) hf;have ed:jG r (vT s.st c.1)=fz r s c.1:=rfl;simp only[aB,ak];rw[ed,g1];simp only[ae];by_cases hz:e=0
    ·obtain⟨t,l,rfl,hd⟩:=g2 hz;rw[aa hz];by_cases Cq:c.2.1=14
     ·rw[aa Cq];simp only[ag];obtain⟨t,o,q1,q2⟩:=vYc hk hr h ho c Cq;exact⟨t,o,0,q1,q2⟩
     ·rw[ab Cq];simp only[ak];exact fin hd (yPq hk hr hd.inv (hd.ov.trans ho) c.1 hd.few hd.kd c.2)
    ·rw[ab hz];exact⟨s,[],e,rfl,h,fun _=>⟨rfl,rfl⟩,fun e'=>absurd e' hz,.inl rfl,vC.refl s,nD.ne,Nat.zero_le _,fun _ h=>.inl h⟩
   ·rw[ab hp];have hf:1≤c.2.1∧c.2.1≤8:=by omega
    have ph:0≤c.1∧c.1<r.1:=by omega
    have ed:LS k (jG r (vT s.st c.1)) 15 []=some (dk r s c.1 [ie c.1 15 0]):=rfl;obtain⟨e,d,g1,g2⟩:=Zw hk hr h ho ph (f:=c.2) hf (x:=ie c.1 15 0) (Hr ⟨by unfold ie;simp,by unfold ie;simp⟩);simp only[bG,ag];rw[ed];simp only[ae];rw[g1];simp only[ae];by_cases hz:e=0
    ·obtain⟨t,l,rfl,hd⟩:=g2 hz;rw[aa hz,ab (show¬c.2.1=14 by omega)];simp only[aB,ak];exact fin hd (yPq hk hr hd.inv (hd.ov.trans ho) c.1 hd.few hd.kd c.2)
    ·rw[ab hz];exact⟨s,[],e,rfl,h,fun _=>⟨rfl,rfl⟩,fun e'=>absurd e' hz,.inl rfl,vC.refl s,nD.ne,Nat.zero_le _,fun _ h=>.inl h⟩
 ·rw[ab h0];exact⟨s,[],e,rfl,h,fun _=>⟨rfl,rfl⟩,fun e'=>absurd e' h0,.inl rfl,vC.refl s,nD.ne,Nat.zero_le _,fun _ h=>.inl h⟩
theorem vJo {k:Nat}(hk:1000≤k){n:Nat}{m:List zH}{ids:AC}(h:kk n m ids):LU k m=some true:=by
 have hm:=h.len;have e1 : Cr k k m m (m.length : Int) 0 = some (.inl m) := Ls (L := fun n i => Cr k n m m (m.length : Int) i) (fun n=>by
  show Hy k _ m m (m.length:Int) (m.length:Int)=_;unfold Hy;rw[ab (Int.lt_irrefl _)];rfl) (fun n i hi=>by
  show Hy k (Cr k n) m m (m.length:Int) (i:Int)=_;unfold Hy;have e:m.getD i (0,0,0,0,0,0,0)=m.getD i pd:=rfl;rw[aa (show(i:Int)<m.length by omega),qC,aa hi,ao,e,BL (by omega) (by omega),yMa h.dist hi,qD hi (by omega)];simp only[ag,ae,decide_true,aB,ak]) (by omega)
 have e2:QO k m=some true:=by
  have down:∀(i n:Nat),i<n→i<m.length∨i=0→LV k n m (i:Int)=some (.inl ()):=by
   intro i
   induction i with
   |zero=>
    intro n hn _;obtain⟨n,rfl⟩:∃x,n=x+1:=⟨n-1,by omega⟩;rfl
   |succ i ih=>
    intro n hn hi;obtain⟨n,rfl⟩:∃x,n=x+1:=⟨n-1,by omega⟩;have bK:i+1<m.length:=by omega
    show QP k (LV k n) m ((i+1:Nat):Int)=_;unfold QP;have w:zA (((i+1:Nat):Int)-1)=(i:Int):=by rw[zO (by omega) (by omega)];omega
    rw[aa (show((i+1:Nat):Int)>0 by omega),w,qC,qC,aa bK,aa (show i<m.length by omega),ao,ao];simp only[ag];obtain⟨x,x1,x2,x3⟩:=XI (k:=k) (by omega) (m.getD (i+1) pd) (m.getD i pd);have hs:=List.pairwise_iff_getElem.1 h.sort i (i+1) (by omega) bK (by omega);rw[←GO (d:=pd) m (by omega),←GO (d:=pd) m bK] at hs;have nx:¬x<0:=fun q=>by
     have:kj (m.getD (i+1) pd) (m.getD i pd)=true:=by rw[←x3];exact aa q
     rw[YZ] at this;rw[LB] at hs;omega
    refine(congrArg (fun z=>Option.bind z _) x1).trans ?_;simp only[ae];rw[ab nx];exact ih n (by omega) (.inl (by omega))
  unfold QO;by_cases hz:m.length=0
  ·have:m=[]:=List.eq_nil_of_length_eq_zero hz;subst this;have w:zA (((([]:List zH).length:Nat):Int)-1)= -1:=by rw[zO (by decide) (by decide)];rfl
   rw[w];obtain⟨j,rfl⟩:∃x,k=x+1:=⟨k-1,by omega⟩;rfl
  ·have w:zA ((m.length:Int)-1)=((m.length-1:Nat):Int):=by rw[zO (by omega) (by omega)];omega
   rw[w,down (m.length-1) k (by omega) (.inl (by omega))];rfl
 unfold LU;rw[e1];simp only[ae];rw[aa (show(m.length:Int)≤40 by omega),e2];rfl
theorem vOd {k:Nat}(hk:1000≤k){n:Nat}{m:List zH}{ids:AC}(h:kk n m ids):LW k ids=some true:=by
 have hl:=h.idl;obtain ⟨s, e1, _⟩ := yX (L := fun n i (p : Int) => LX k n ids p ids (ids.length : Int) i) (N := ids.length) (fun _ => (.inl ids : AC ⊕ Bool)) (fun i p => p = if i = 0 then 0 else ids.getD (i - 1) 0) (fun n p _=>by
  show Hz k _ ids p ids (ids.length:Int) (ids.length:Int)=_;unfold Hz;rw[ab (Int.lt_irrefl _)];rfl) (fun n i p hi hp=>by
  refine⟨ids.getD i 0,?_,by rw[if_neg (by omega)];rfl⟩;show Hz k (LX k n) ids p ids (ids.length:Int) (i:Int)=_;unfold Hz;have bn:¬ids.getD i 0≤p:=by
   rw[hp];by_cases z:i=0
   ·rw[if_pos z];have:=h.pos _ (fg (d:=0) hi);omega
   ·rw[if_neg z];have:=List.pairwise_iff_getElem.1 h.asc (i-1) i (by omega) hi (by omega);rw[←GO (d:=0) ids (by omega),←GO (d:=0) ids hi] at this;omega
  rw[aa (show(i:Int)<ids.length by omega),qC,aa hi,ao,ab bn,qD hi (by omega)];rfl) (n:=k) (s:=0) (by omega) rfl
 unfold LW;rw[e1];simp only[ae];rw[aa (show(ids.length:Int)≤200 by omega)]
theorem vU3 {k}(hk:1000≤k){r s}(h:qW r s):LY k s.st=some true:=by
 have hw:=h.waits;have hm:=hw.len;have e1:LY k s.st=(LU k s.m).bind fun x0=>bif x0 then((LW k s.ids).bind fun x1=>bif x1 then((QQ k s.m s.t s.B.1 s.B.2.1 s.B.2.2.1 s.B.2.2.2 s.pr s.ho s.m s.ids s.to s.ov).bind fun x2=>some (!x2)) else some false) else some false:=rfl
 rw[e1,vJo hk hw,vOd hk hw];have e2 : Ct k k s.m (s.m.length : Int) 0 s.t s.B.1 s.B.2.1 s.B.2.2.1 s.B.2.2.2 s.pr s.ho s.m s.ids s.to s.ov = some (.inl ()) := Ls (L := fun n i => Ct k n s.m (s.m.length : Int) i s.t s.B.1 s.B.2.1 s.B.2.2.1 s.B.2.2.2 s.pr s.ho s.m s.ids s.to s.ov) (fun n=>by
  show HA k _ s.m (s.m.length:Int) (s.m.length:Int) s.t s.B.1 s.B.2.1 s.B.2.2.1 s.B.2.2.2 s.pr s.ho s.m s.ids s.to s.ov=_;unfold HA;simp) (fun n i hi=>by
  show HA k (Ct k n) s.m (s.m.length:Int) (i:Int) s.t s.B.1 s.B.2.1 s.B.2.2.1 s.B.2.2.2 s.pr s.ho s.m s.ids s.to s.ov=_;unfold HA;have aZ:s.m.getD i pd∈s.m:=fg hi;have ht:=hw.time _ aZ;have an:=hw.were _ aZ;have f1:QR k (s.m.getD i pd) (s.t,s.B.1,s.B.2.1,s.B.2.2.1,s.B.2.2.2,s.pr,s.ho,s.m,s.ids,s.to,s.ov)=some false:=by
   unfold QR;rw[O2];have bU:qu s.B.1.length (s.m.getD i pd)=true:=WT.2 (hw.may _ aZ);have LZ:qu s.B.1.length ((s.m.getD i pd).1,(s.m.getD i pd).2.1,(s.m.getD i pd).2.2.1,(s.m.getD i pd).2.2.2.1,(s.m.getD i pd).2.2.2.2.1,(s.m.getD i pd).2.2.2.2.2.1,(s.m.getD i pd).2.2.2.2.2.2)=true:=bU;rw[LZ];rw[ab (by grind),nB,aa (by grind),aa (by grind)];have hI:=hw.idl;rw[vZz (by omega) (by omega) hw.asc,aa an];rfl
  have e:s.m.getD i (0,0,0,0,0,0,0)=s.m.getD i pd:=rfl;rw[aa (by grind),qC,aa hi,ao,e,f1,qD hi (by omega)];rfl) (by omega)
 unfold QQ Zy;simp_all
end Go.Ab.Gi
