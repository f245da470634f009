/- Plain proofs, part 1. -/
import Derived.Test.YthpehdcmpldloaaGreatGiQA
set_option linter.unusedVariables false
set_option linter.unusedSimpArgs false
set_option maxRecDepth 100000
namespace Go.Ab.Gi
open Go.Ab
structure fm (B C:BT):Prop where
 len:C.1.length=B.1.length
 sum:qI (fun i=>(C.1.getD i ad).1) B.1.length=qI (fun i=>(B.1.getD i ad).1) B.1.length
 cred:∀i,i<B.1.length→(C.1.getD i ad).2.1=(B.1.getD i ad).2.1
 bil:C.2.1=B.2.1
 mul:C.2.2.1=B.2.2.1
 fell:∀i,i<B.1.length→(C.1.getD i ad).1<(B.1.getD i ad).1→0≤(C.1.getD i ad).1+(C.1.getD i ad).2.1
theorem fm.refl B:fm B B:=⟨rfl,rfl,by simp,rfl,rfl,by simp⟩
theorem fm.trans {B C D}(h:fm B C)(g:fm C D):fm B D:=
 ⟨g.len.trans h.len,by have:=g.sum;rw[h.len] at this;exact this.trans h.sum,fun i hi=>(g.cred i (by rw[h.len];exact hi)).trans (h.cred i hi),g.bil.trans h.bil,g.mul.trans h.mul,fun i hi=>by
  have h1:=h.fell i hi;have h2:=g.fell i (by rw[h.len];exact hi);have h3:=g.cred i (by rw[h.len];exact hi);omega⟩
theorem ySi i:∀{l},(∀p∈l,0≤p.2.2.2.1)→0≤zP (gB i) l+(zP (gN i) l+zP (gR i) l)
 |[],_=>Int.le_refl _
 |p::l,h=>by
  have h1:=ySi i fun q hq=>h q (List.mem_cons_of_mem _ hq)
  have h2:=h p (by simp);have h3:0≤gB i p+(gN i p+gR i p):=by
   unfold gB gN gR;omega
  show 0≤gB i p+zP (gB i) l+(gN i p+zP (gN i) l+(gR i p+zP (gR i) l));omega
theorem vXd {a a' b p p' m l}(x:tA a.length a p l a' p')(hf:wc a b m p l=true)(hl:∀q∈l,yH a.length q){i}(hi:i<a.length):
  (a'.getD i ad).1<(a.getD i ad).1→0≤(a'.getD i ad).1+(a'.getD i ad).2.1:=by
 have h1:=ySi i (l:=l) fun q hq=>by have:=(hl q hq).a1;omega
 unfold wc at hf;rw[bb] at hf;have h2:=gw.1 hf.2 i hi;unfold gz at h2;rw[x.acct i hi];grind
theorem yPn {B}(h:qP B){l}(hf:wk B l=true){r}(hp:rH B.1 B.2.1 B.2.2.1 B.2.2.2 l r):fm B (r.1,r.2.1,r.2.2.1,r.2.2.2.1):=by
 have hs:=(Og h hp).1;by_cases c:vY B.1.length l
 ·obtain⟨a',p',x,e⟩:=hp.1 c;cases hi:mr a' B.2.1 B.2.2.1 p' with
  |false=>rw[hi] at e;subst e;exact fm.refl B
  |true=>
   rw[hi] at e;subst e;exact⟨x.al,hs,fun i bG=>by show(a'.getD i ad).2.1=_;rw[x.acct i bG],rfl,rfl,fun i bG=>vXd x hf c.1 bG⟩
 ·rw[hp.2 c];exact fm.refl B
theorem yVx {k}(hk:100<k){B C}(h:qP B){l}(hl:l.length≤80)(hg:hZ k B l=some C):fm B C:=by
 obtain⟨r,h1,h3⟩:=NG hk h hl;unfold hZ at hg;rw[h1] at hg;simp only at hg;cases hc:decide (r.2.2.2.2=0)&&wk B l with
 |false=>simp_all
 |true=>
  rw[hc] at hg;simp  at hg;subst hg;rw[bb] at hc;exact yPn h hc.2 h3
theorem gA.keptC {k}(hk:100<k){t B C l done m}(h:gA k t B l done C m)(hb:qP B):fm B C:=by
 induction h with
 |stop _=>exact fm.refl _
 |@step B C D l m done p h h' ih=>
  have hg:=(AP h).2;exact(yVx hk hb (by simp) hg).trans (ih (rM hk hb (by simp) hg).1)
theorem jT.keptC {k}(hk:100<k){t B C l done m}(h:jT k t B l done C m)(hb:qP B):fm B C:=by
 induction h with
 |stop _=>exact fm.refl _
 |@step B C D l m done p q h h' ih=>
  have hg:=(Ol h).2.2.2;exact(yVx hk hb (by simp) hg).trans (ih (rM hk hb (by simp) hg).1)
theorem gA.bk {k}(hk:100<k){t B C l done m}(h:gA k t B l done C m)(hb:qP B):qP C:=by
 induction h with
 |stop _=>exact hb
 |step h h' ih=>exact ih (rM hk hb (by simp) (AP h).2).1
theorem jT.bk {k}(hk:100<k){t B C l done m}(h:jT k t B l done C m)(hb:qP B):qP C:=by
 induction h with
 |stop _=>exact hb
 |step h h' ih=>exact ih (rM hk hb (by simp) (Ol h).2.2.2).1
theorem lF.keptC {k}(hk:100<k){t B C l done m}(h:lF k t B l done C m)(hb:qP B):fm B C:=by
 induction h with
 |stop h1 _=>exact h1.keptC hk hb
 |step h1 h2 ne h' ih=>
  have b1:=h1.bk hk hb;exact((h1.keptC hk hb).trans (h2.keptC hk b1)).trans (ih (h2.bk hk b1))
theorem vRh {k}(hk:200≤k){B}(hb:qP B){l:List zH}(hl:∀q∈l,yH B.1.length q)(bU:l.length≤64) t {C:BT}{m done:List zH}(hr:AU k B.1 B.2.1 B.2.2.1 B.2.2.2 l t=some (C.1,C.2.1,C.2.2.1,C.2.2.2,m,done)):fm B C:=by
 obtain⟨f,n,h,hn⟩:=V8 hb hl bU t;have uI:=wv l t;have cM:=wq (yX l t) f;have Ov:=cM.length_le;obtain⟨r,h1,h3⟩:=NG (k:=k) (by omega) hb (l:=vJ (yX l t) f) (by omega);have g1:=Wj (k:=k) (by omega) hb hl bU t (by omega) h h1;unfold E7 at g1;rw[g1] at hr;cases c:decide (r.2.2.2.2=0) with
 |false=>
  rw[c] at hr;simp  at hr;obtain⟨e1,e2,e3,e4,_⟩:=hr;have:B=C:=by grind
  rw[←this];exact fm.refl B
 |true=>
  have:(r.1,r.2.1,r.2.2.1,r.2.2.2.1)=C:=by grind
  rw[←this];refine yPn hb ?_ h3;have hw:=JL (JM (t:=t) hl) (by omega) f;have hs:=vE7.1 h.final;unfold wk wc;rw[Ax.2 hw.1,aa hw.2];simp;rw[gw];intro j hj;have:=hs j hj;unfold tN at this;simp_all
theorem vFv {C D:BT}{m n d e:List zH}(h:(C.1,C.2.1,C.2.2.1,C.2.2.2,m,d)=(D.1,D.2.1,D.2.2.1,D.2.2.2,n,e)):C=D∧m=n∧d=e:=by
 grind
theorem vAj {k}(hk:200≤k){B}(hb:qP B){l}(hd:qN l)(hl:∀q∈l,yH B.1.length q)(bU:l.length≤64) t all {X:BT}{mx dx:List zH}
  (hr:wx k B.1 B.2.1 B.2.2.1 B.2.2.2 l t all=some (X.1,X.2.1,X.2.2.1,X.2.2.2,mx,dx)):fm B X:=by
 obtain⟨C,m,d,f1,f2,f3,f4,f5⟩:=Fj hk hb hd (by omega) t;have q1:=f2.keptC (by omega) hb;have p1:=f2.perm hd;have l1:=p1.length_eq;rw[List.length_append] at l1;unfold wx at hr;rw[f1] at hr;simp only[ae] at hr;cases all with
 |false=>
  grind
 |true=>
  have hm:qN m:=List.Pairwise.sublist f5 hd;have Mq:∀q∈m,yH C.1.length q:=fun q hq=>by grind
  obtain⟨D,n,x,g1,g2,g3,g4,g5,g6⟩:=Wl hk f3 hm Mq (by omega) t;have q2:=vRh hk f3 Mq (by omega) t g1;have l2:=g5.length_eq;rw[List.length_append] at l2;rw[g1] at hr;simp only[ae] at hr;cases x with
  |nil=>
   grind
  |cons p x=>
   have e1:decide ((((p::x).length:Nat):Int)=0)=false:=by grind
   rw[e1] at hr;simp only[an] at hr;have hn:qN n:=List.Pairwise.sublist g4 hm;obtain⟨E,o,y,k1,k2,k3,k4,k5⟩:=Fj hk g2 hn (by omega) t;have q3:=k2.keptC (by omega) g2;have p3:=k2.perm hn;have l3:=p3.length_eq;rw[List.length_append] at l3;have r1:zN (d.length+(p::x).length) 56=true:=by grind
   have r2:zN ((d++(p::x)).length+y.length) 56=true:=by grind
   rw[k1] at hr;simp only[ae,r1,r2,aj] at hr;have qm:some (E.1,E.2.1,E.2.2.1,E.2.2.2,o,d++(p::x)++y)=some (X.1,X.2.1,X.2.2.1,X.2.2.2,mx,dx):=hr;rw[←(vFv (Option.some.inj qm)).1];exact(q1.trans q2).trans q3
theorem vGi {k}(hk:200≤k){B}(hb:qP B){m}(hd:qN m)(hm:∀q∈m,yH B.1.length q)(bU:m.length≤64) pa (sa:List (Int×Int)) cu cl pe t (ht:0≤t∧t<1099511627776)(JV:pe≠0) pr ho ids to:
  ∃(C:BT) (m':List zH) (ov:Bool) (o:List yK),w6 k pa sa cu cl pe t B.1 B.2.1 B.2.2.1 B.2.2.2 pr ho m ids to false=some (t+1,C.1,C.2.1,C.2.2.1,C.2.2.2,pr,ho,m',ids,to,ov,o)∧Wo t cl B C m m' ov o∧fm B C∧(ov=false→fE k C (wA m' (t+1))=none)∧
   ((ov=true∧m'=[]∧o=m.map (wK 22)++iA B B.1.length∧C=B)∨∃l d n,o=l.map (wK 21)++vN d∧List.Perm (l++n) m∧List.Perm (d++m') n∧ov=false):=by
 have gD:=hb.n6;have w:zA (t+1)=t+1:=zO (by omega) (by omega);unfold w6 AY;simp only[w,an,ae];cases hc:decide (t+1=cl) with
 |true=>
  simp only[aj];rw[yKh gD hk (by omega)];simp only[ae];refine⟨B,[],true,_,rfl,⟨hb,rfl,List.nil_sublist m,hc.symm,fun _=>rfl,(fun e=>by cases e),(fun p hp=>by cases hp),fun p hp _=>?_,fun q hq=>?_,?_⟩,fm.refl B,(fun e=>by cases e),.inl ⟨rfl,rfl,rfl,rfl⟩⟩
  ·rw[AW,(Fo (.inr rfl) hd).1 hp,vBi]
  ·rw[AW,(Fo (.inr rfl) hd).2 hq,vBi]
  ·rw[List.length_append,List.length_map];unfold iA;rw[List.length_map,List.length_range];simp;omega
 |false=>
  simp only[an];rw[yR4 hk (by omega)];simp only[ae];have hs:∃x,Fw k pa sa cu cl pe (t+1)=some x:=by
   unfold Fw;cases decide (t+1>0) with
   |false=>exact⟨_,rfl⟩
   |true=>
    cases decide (t+1<cl) with
    |false=>exact⟨_,rfl⟩
    |true=>
     have:decide (pe=0)=false:=ab JV;rw[this];exact⟨_,rfl⟩
  obtain⟨x,hx⟩:=hs;rw[hx];simp only[ae];have cM:List.Sublist (m.filter (fun p=> !vE (t+1) p)) m:=List.filter_sublist;have eG:=cM.length_le;have oc:qN (m.filter (fun p=> !vE (t+1) p)):=List.Pairwise.sublist cM hd;obtain⟨C,m',d,f1,f2,f3,f4,f5,f6,f7⟩:=vR7 hk hb oc (fun q hq=>hm q (cM.subset hq)) (by omega) (t+1) x;have hlen:=f5.length_eq;rw[List.length_append] at hlen;have hSt:tO k (t+1) B.1 B.2.1 B.2.2.1 B.2.2.2 pr ho (m.filter (fun p=> !vE (t+1) p)) ids to false x=some (t+1,C.1,C.2.1,C.2.2.1,C.2.2.2,pr,ho,m',ids,to,false,vN d):=by
   unfold tO;rw[f1];simp only[ae];rw[vCz (by omega) (by omega)];rfl
  rw[hSt];have abL:(m.filter (vE (t+1))).length+(m.filter (fun p=> !vE (t+1) p)).length=m.length:=by
   rw[←List.countP_eq_length_filter,←List.countP_eq_length_filter];have:=List.length_eq_countP_add_countP (vE (t+1)) (l:=m);simp only[Bool.not_eq_true,Bool.decide_eq_false] at this;exact this.symm
  have qs:=Fk d;have hr:zN (((m.filter (vE (t+1))).map (wK 21)).length+(vN d).length) 64=true:=qH (by rw[List.length_map];omega) (by rw[List.length_map];omega);simp only[ae,hr,aj];have hdd:qN (d++m'):=oc.perm f5;have tP:qN d:=(List.pairwise_append.1 hdd).1;have hdm:∀p∈d,p∈m.filter (fun p=> !vE (t+1) p):=by grind
  have mz:∀p∈d,yH B.1.length p:=fun p hp=>hm p (cM.subset (hdm p hp))
  have tQ:qN (m.filter (vE (t+1))):=hd.filter _;have w7:∀p∈m,vE (t+1) p=false→∀q∈m.filter (vE (t+1)),q.1≠p.1:=by
   intro p hp hl q hq e;have h1:=List.mem_filter.1 hq;have:=hd.eq_of h1.1 hp e;subst this;rw[hl] at h1;exact absurd h1.2 (by simp)
  refine⟨C,m',false,_,rfl,⟨f2,f3,f4.trans cM,hc.symm,(fun e=>by cases e),fun _ p hp=>?_,fun p hp=>?_,fun p hp hn=>?_,fun q hq=>?_,?_⟩,vAj hk hb oc (fun q hq=>hm q (cM.subset hq)) (by omega) (t+1) x f1,(fun _=>f6),.inr ⟨m.filter (vE (t+1)),d,m.filter (fun p=> !vE (t+1) p),rfl,List.filter_append_perm _ _,f5,rfl⟩⟩
  ·have:=(List.mem_filter.1 (f4.subset hp)).2
   simpa using this
  ·have h1:=List.mem_filter.1 (f4.subset hp);have hl:vE (t+1) p=false:=by simpa using h1.2
   rw[AW,(Fo (.inl rfl) tQ).2 (w7 p h1.1 hl),(OA tP mz).2 (hdd.not_in (l:=d) hp)]
  ·cases hl:vE (t+1) p with
   |true=>
    have h1:p∈m.filter (vE (t+1)):=List.mem_filter.2 ⟨hp,hl⟩;have h2:∀q∈d,q.1≠p.1:=by
     grind
    rw[AW,(Fo (.inl rfl) tQ).1 h1,(OA tP mz).2 h2]
   |false=>
    have h1:p∈m.filter (fun p=> !vE (t+1) p):=List.mem_filter.2 ⟨hp,by rw[hl];rfl⟩;have h2:p∈d:=by
     rcases List.mem_append.1 (f5.symm.subset h1) with h|h
     ·exact h
     ·exact absurd h hn
    rw[AW,(Fo (.inl rfl) tQ).2 (w7 p hp hl),(OA tP mz).1 h2]
  ·rw[AW,(Fo (.inl rfl) tQ).2 (by grind),(OA tP mz).2 (fun p hp=>hq p (cM.subset (hdm p hp)))]
  ·rw[List.length_append,List.length_map];simp;omega
abbrev jE:=EQ
abbrev qL:=Int×List oq×Int×Int×Int
abbrev wZ:=Int×Int×Int×Int×Int×Int×Int
abbrev vGm:=Int×List oq×Int×Int×Int×Int×List qY×jE×AC×jE×AC×jE×List zH×AC×Int×Bool×Int×List yK
structure zZ where
 t:Int
 B:BT
 pr:AC
 ho:jE
 m:List zH
 ids:AC
 to:Int
 ov:Bool
abbrev tR:=Int×List qY×jE×AC×jE×AC×jE×List zH×AC×Int×Bool
def zZ.st (s:zZ):tR:=(s.t,s.B.1,s.B.2.1,s.B.2.2.1,s.B.2.2.2,s.pr,s.ho,s.m,s.ids,s.to,s.ov)
def dk (r:qL)(s:zZ)(who:Int)(l:List yK):vGm:=(r.1,r.2.1,r.2.2.1,r.2.2.2.1,r.2.2.2.2,s.t,s.B.1,s.B.2.1,s.B.2.2.1,s.B.2.2.2,s.pr,s.ho,s.m,s.ids,s.to,s.ov,who,l)
structure jB (r:qL):Prop where
 pa:1≤r.1∧r.1≤6
 n3:r.2.1.length≤3
 price:∀i,i<r.2.1.length→0≤(r.2.1.getD i tJ).1∧(r.2.1.getD i tJ).1≤1048576
 cut:∀i,i<r.2.1.length→0≤(r.2.1.getD i tJ).2∧(r.2.1.getD i tJ).2≤10000
 cu:0≤r.2.2.1∧r.2.2.1≤r.2.2.2.1
 cl:1≤r.2.2.2.1∧r.2.2.2.1≤1048576
 pe:1≤r.2.2.2.2∧r.2.2.2.2≤1048576
def oD (m:List zH):Prop:=List.Pairwise (fun p q=>jC p q=true) m
structure jm (n:Nat) (m:List zH) (ids:AC):Prop where
 dist:qN m
 len:m.length≤40
 sort:oD m
 may:∀p∈m,yH n p
 time:∀p∈m,0≤p.2.2.2.2.2.1∧p.2.2.2.2.2.1≤p.2.2.2.2.2.2∧p.2.2.2.2.2.2≤1048576
 were:∀p∈m,p.1∈ids
 asc:tH ids
 pos:∀x∈ids,1≤x
 idl:ids.length≤200
structure yE (r:qL) (s:zZ):Prop where
 tk:0≤s.t∧s.t≤r.2.2.2.1
 bk:qP s.B
 n:(s.B.1.length:Int)=r.1
 hol:s.ho.length=s.B.1.length
 laid:∀i,i<s.B.1.length→kx r.2.1 s.pr (s.ho.getD i [])
 cred:∀i,i<s.B.1.length→(s.B.1.getD i ad).2.1=ot r.2.1 s.pr (s.ho.getD i [])
 most:∀i,i<s.B.1.length→(s.B.1.getD i ad).2.1≤1152921504606846976
 waits:jm s.B.1.length s.m s.ids
 sum:qI (fun i=>(s.B.1.getD i ad).1) s.B.1.length=s.to
 tot:0≤s.to∧s.to≤1152921504606846976
 over:s.ov=decide (s.t=r.2.2.2.1)
 none:s.ov=true→s.m=[]
theorem mA k a b c:vH k a b c=some (decide (a≥b)&&decide (a≤c)):=by
 unfold vH;grind
theorem mW {α:Type} c (a b:α):(bif c then some a else some b)=some (bif c then a else b):=by grind
def kA (pa t:Int)(p:zH):Bool:=
 decide (p.2.1≥0)&&decide (p.2.1<pa)&&(decide (p.2.2.1≥0)&&decide (p.2.2.1<pa)&&(decide (p.1≥1)&&(decide (p.2.2.2.1≥1)&&(decide (p.2.2.2.1≤1099511627776)&&(decide (p.2.2.2.2.1≥1)&&(!decide (p.2.1=p.2.2.1)&&(decide (p.2.2.2.2.1≤3)&&(decide (p.2.2.2.2.2.1≥0)&&(decide (p.2.2.2.2.2.1≤p.2.2.2.2.2.2)&&(decide (p.2.2.2.2.2.2≥t)&&decide (p.2.2.2.2.2.2≤1048576)))))))))))
theorem Wp k (r:qL) w:JW k r w=some (decide (w≥0)&&decide (w<r.1)):=by
 unfold JW;grind
theorem vD8 k (r:qL) t (p:zH):OC k r t p=some (kA r.1 t p):=by
 unfold OC kA;simp[Wp,mW]
def pD (cu cl t c:Int):Int:=bif decide (t≥cl) then 7 else bif decide (c=3)&&decide (t≥cu) then 7 else 0
theorem yL5 k (r:qL) t c:AZ k r t c=some (pD r.2.2.1 r.2.2.2.1 t c):=by
 unfold AZ pD;grind
def mB (r:qL)(t:Int)(p:zH):Int:=bif !kA r.1 t p then 1 else pD r.2.2.1 r.2.2.2.1 t p.2.2.2.2.1
theorem vI2 k (r:qL) t (p:zH):Fx k r t p=some (mB r t p):=by
 unfold Fx mB;rw[vD8];simp[yL5];grind
def fG (who:Int)(f:wZ):zH:=(f.2.1,who,f.2.2)
def iB (r:qL)(s:zZ)(who:Int)(f:wZ):Int×List zH×AC:=
 bif !(decide (f.2.2.1≥0)&&decide (f.2.2.1≤r.1-1)) then(1,s.m,s.ids)
 else bif !(decide (f.2.2.2.2.1≥1)&&decide (f.2.2.2.2.1≤3)) then(1,s.m,s.ids)
 else bif !decide (mB r s.t (fG who f)=0) then(mB r s.t (fG who f),s.m,s.ids)
 else bif decide (f.2.1∈s.ids) then(6,s.m,s.ids)
 else bif decide (200≤s.ids.length) then(3,s.m,s.ids)
 else bif (vS s.m f.2.1).isSome then(6,s.m,s.ids)
 else bif decide (40≤s.m.length) then(3,s.m,s.ids)
 else(0,oh s.m (fG who f),py s.ids f.2.1)
theorem vS8 {k}(hk:1000≤k){r}(hr:jB r){s}(h:jm s.B.1.length s.m s.ids) who l f:
  ∃d,OD k (dk r s who l) f.2=some ((iB r s who f).1,d)∧((iB r s who f).1=0→d=dk r {s with m:=(iB r s who f).2.1,ids:=(iB r s who f).2.2} who l):=by
 have hp:=hr.pa;have hi:=h.idl;have hm:=h.len;have w1:zA (r.1-1)=r.1-1:=zO (by omega) (by omega);have eD:OD k (dk r s who l) f.2=(vH k f.2.2.1 0 (zA (r.1-1))).bind fun x0=>
  bif !x0 then some (1,dk r s who l)
  else(vH k f.2.2.2.2.1 1 3).bind fun x1=>
  bif !x1 then some (1,dk r s who l)
  else(Fx k r s.t (fG who f)).bind fun x2=>
  bif !(decide (x2=0)) then some (x2,dk r s who l)
  else(EO k s.ids f.2.1).bind fun x3=>
  bif !(decide (x3.2=0)) then some (x3.2,dk r s who l)
  else(wi k s.m (fG who f)).bind fun x4=>
  bif !(decide (x4.2=0)) then some (x4.2,dk r s who l)
  else some (0,dk r {s with m:=x4.1,ids:=x3.1} who l):=rfl
 rw[eD,mA,mA,vI2,w1,vEg (by omega) (by omega) h.asc,VP (by omega) (by omega) (by unfold qT;omega)];simp only[ae];unfold iB;cases decide (f.2.2.1≥0)&&decide (f.2.2.1≤r.1-1) with
 |false=>exact by simp
 |true=>
 cases decide (f.2.2.2.2.1≥1)&&decide (f.2.2.2.2.1≤3) with
 |false=>exact by simp
 |true=>
 by_cases hc:mB r s.t (fG who f)=0
 ·rw[aa hc];by_cases h1:f.2.1∈s.ids
  ·rw[aa h1];exact by simp
  ·rw[ab h1];by_cases h2:200≤s.ids.length
   ·rw[aa h2];exact by simp
   ·rw[ab h2];have e1:(fG who f).1=f.2.1:=rfl;rw[e1];cases(vS s.m f.2.1).isSome with
    |true=>exact by simp
    |false=>
     by_cases h3:40≤s.m.length
     ·rw[aa h3];exact by simp
     ·rw[ab h3];exact by simp
 ·rw[ab hc];exact by simp
def mC (who kd a:Int):yK:=(who,kd,a,0,0,0,0,0)
theorem yIv {k l}(hl:l.length≤1000) r s who kd a:w8 k (dk r s who l) kd [a]=some (dk r s who (l++[mC who kd a])):=by
 have e:w8 k (dk r s who l) kd [a]=bif zN (l.length+1) 64 then some (dk r s who (l++[mC who kd a])) else none:=rfl
 rw[e,qH (by omega) (by omega)];rfl
def kB (r:qL)(s:zZ)(who:Int)(f:wZ):Int×List zH×List yK:=match vS s.m f.2.1 with
 |none=>(4,s.m,[])
 |some x=>
  bif !decide ((s.m.getD x pd).2.1=who) then(4,s.m,[])
  else bif decide (f.1=2) then(0,yC s.m x,[mC who 20 f.2.1])
  else bif decide (f.1 = 4) then (bif !(decide (f.2.2.1≥1)&&decide (f.2.2.1≤3)) then(1,s.m,[])
   else bif !decide (pD r.2.2.1 r.2.2.2.1 s.t f.2.2.1=0) then(pD r.2.2.1 r.2.2.2.1 s.t f.2.2.1,s.m,[])
   else(0,oh (yC s.m x) ((s.m.getD x pd).1,(s.m.getD x pd).2.1,(s.m.getD x pd).2.2.1,(s.m.getD x pd).2.2.2.1,f.2.2.1,(s.m.getD x pd).2.2.2.2.2.1,(s.m.getD x pd).2.2.2.2.2.2),[]))
  else bif decide (f.2.2.1=0) then(0,Jv (yC s.m x) (s.m.getD x pd),[])
  else bif decide (f.2.2.1=1) then(0,oh (yC s.m x) (s.m.getD x pd),[])
  else(1,s.m,[])
theorem Wq {k}(hk:1000≤k){r s}(h:jm s.B.1.length s.m s.ids) who {l}(hl:l.length≤1000)(f:wZ):
  ∃d,A0 k (dk r s who l) f=some ((kB r s who f).1,d)∧((kB r s who f).1=0→d=dk r {s with m:=(kB r s who f).2.1} who (l++(kB r s who f).2.2)):=by
 have hm:=h.len;have nS:qT s.m:=by unfold qT;omega
 have eD : A0 k (dk r s who l) f = ((og k s.m f.2.1).bind fun x0=>
   bif decide (x0<0) then some (((0,0,0,0,0,0,0):zH),(4:Int))
   else bif zB x0 s.m.length then (bif !(decide ((s.m.getD x0.toNat (0,0,0,0,0,0,0)).2.1=who)) then some ((0,0,0,0,0,0,0),4)
    else bif zB x0 s.m.length then some ((s.m.getD x0.toNat (0,0,0,0,0,0,0)),0)
    else none)
   else none).bind fun x0=>
  bif !(decide (x0.2=0)) then some (x0.2,dk r s who l)
  else bif decide (f.1 = 2) then ((px k s.m f.2.1).bind fun x1=>
   (w8 k (dk r {s with m:=x1.1} who l) 20 [f.2.1]).bind fun x2=>
   some (x1.2.2.2.2.2.2.2.2,x2))
  else bif decide (f.1 = 4) then ((vH k f.2.2.1 1 3).bind fun x3=>
   bif !x3 then some (1,dk r s who l)
   else(AZ k r s.t f.2.2.1).bind fun x4=>
   bif !(decide (x4=0)) then some (x4,dk r s who l)
   else(EJ k s.m f.2.1 f.2.2.1).bind fun x5=>
   some (x5.2,dk r {s with m:=x5.1} who l))
  else bif decide (f.2.2.1 = 0) then ((EM k s.m f.2.1).bind fun x6=>
   some (x6.2,dk r {s with m:=x6.1} who l))
  else bif decide (f.2.2.1 = 1) then ((EK k s.m f.2.1).bind fun x7=>
   some (x7.2,dk r {s with m:=x7.1} who l))
  else some (1,dk r s who l):=rfl
 rw[eD,EC (by omega) (by omega)];unfold kB kt;cases hx:vS s.m f.2.1 with
 |none=>exact by simp
 |some x=>
  have dj:=ku hx;have e1:decide ((x:Int)<0)=false:=by simp
  simp only[ae,e1,an,qC,aa dj.1,aj,aq];by_cases hw:(s.m.getD x (0,0,0,0,0,0,0)).2.1=who
  ·have uY:(s.m.getD x pd).2.1=who:=hw;rw[aa hw];by_cases h2:f.1=2
   ·rw[aa h2];simp only[aj,AL (show s.m.length<k by omega) nS,ae,yIv hl];unfold g9;rw[hx];exact by simp
   ·rw[ab h2];simp only[an];by_cases h4:f.1=4
    ·rw[aa h4];simp only[aj,mA,ae,yL5,vQh (show 3≤k by omega) (by grind) nS h.dist hm hx];cases decide (f.2.2.1≥1)&&decide (f.2.2.1≤3) with
     |false=>exact by simp
     |true=>
      simp only[aE,an];by_cases hc:pD r.2.2.1 r.2.2.2.1 s.t f.2.2.1=0
      all_goals simp_all
    ·rw[ab h4];simp only[an];by_cases h0:f.2.2.1=0
     ·rw[aa h0];simp only[aj,vQk (show 3≤k by omega) (by grind) nS hx,ae];exact by simp
     ·rw[ab h0];simp only[an];by_cases h1:f.2.2.1=1
      ·rw[aa h1];simp only[aj,vWr (show 3≤k by omega) (by grind) nS h.dist hm hx,ae];exact by simp
      ·rw[ab h1];exact by simp
  ·have uY:¬(s.m.getD x pd).2.1=who:=hw;rw[ab hw];exact by simp
def Wr (s:zZ)(a:List qY)(b:jE)(m:AC):zZ:={s with B:=(a,b,m,s.B.2.2.2)}
def kC (r:qL)(s:zZ)(who:Int)(f:wZ):Int×zZ:=
 bif decide (f.1 = 5) then (bif !((decide (f.2.1≥0)&&decide (f.2.1≤r.1-1))&& !decide (f.2.1=who)) then(1,s)
  else bif !(decide (f.2.2.1≥-1)&&decide (f.2.2.1≤1152921504606846976)) then(1,s)
  else(0,Wr s s.B.1 (s.B.2.1.set who.toNat ((s.B.2.1.getD who.toNat []).set f.2.1.toNat f.2.2.1)) s.B.2.2.1))
 else bif decide (f.1 = 6) then (bif !(decide (f.2.1≥-1)&&decide (f.2.1≤1152921504606846976)) then(1,s)
  else(0,Wr s s.B.1 s.B.2.1 (s.B.2.2.1.set who.toNat f.2.1)))
 else bif !(decide (f.2.1≥0)&&decide (f.2.1≤1152921504606846976)) then(1,s)
 else(0,Wr s (s.B.1.set who.toNat ((s.B.1.getD who.toNat ad).1,(s.B.1.getD who.toNat ad).2.1,f.2.1)) s.B.2.1 s.B.2.2.1)
theorem vJy {k}(hk:1000≤k){r}(hr:jB r){s}(hb:qP s.B)(hn:(s.B.1.length:Int)=r.1){who}(hw:0≤who∧who<r.1) l (f:wZ):
    ∃d,A2 k (dk r s who l) f=some ((kC r s who f).1,d)∧((kC r s who f).1=0→d=dk r (kC r s who f).2 who l):=by
  have hp:=hr.pa;have w1:zA (r.1-1)=r.1-1:=zO (by omega) (by omega);obtain⟨w,rfl⟩:=Int.eq_ofNat_of_zero_le hw.1;have gd:w<s.B.1.length:=by omega
  have eD:A2 k (dk r s w l) f=(gb k s.B.1 s.B.2.1 s.B.2.2.1 s.B.2.2.2).bind fun x0=>
    bif decide (f.1 = 5) then (((vH k f.2.1 0 (zA (r.1-1))).bind fun x0=>bif x0 then some (!(decide (f.2.1=(w:Int)))) else some false).bind fun x1=>
      bif !x1 then some (1,dk r s w l)
      else(vH k f.2.2.1 (-1) 1152921504606846976).bind fun x2=>
      bif !x2 then some (1,dk r s w l)
      else bif zB (w : Int) x0.2.1.length then (bif zB f.2.1 (x0.2.1.getD (w:Int).toNat []).length then
        some (0,dk r {s with B:=(x0.1,(x0.2.1.set (w:Int).toNat ((x0.2.1.getD (w:Int).toNat []).set f.2.1.toNat f.2.2.1)),x0.2.2.1,x0.2.2.2)} w l)
       else none)
      else none)
    else bif decide (f.1 = 6) then ((vH k f.2.1 (-1) 1152921504606846976).bind fun x3=>
      bif !x3 then some (1,dk r s w l)
      else bif zB (w:Int) x0.2.2.1.length then some (0,dk r {s with B:=(x0.1,x0.2.1,(x0.2.2.1.set (w:Int).toNat f.2.1),x0.2.2.2)} w l)
      else none)
    else(vH k f.2.1 0 1152921504606846976).bind fun x4=>
    bif !x4 then some (1,dk r s w l)
    else bif zB (w:Int) x0.1.length then some (0,dk r {s with B:=((x0.1.set (w:Int).toNat ((x0.1.getD (w:Int).toNat (0,0,0)).1,(x0.1.getD (w:Int).toNat (0,0,0)).2.1,f.2.1)),x0.2.1,x0.2.2.1,x0.2.2.2)} w l)
    else none:=rfl
  rw[eD,IU (by omega) hb.toSized,w1];simp only[ae,mA,qC,aq];unfold kC;rw[aq];by_cases h5:f.1=5
  · rw[aa h5];simp only[aj];cases hc:decide (f.2.1≥0)&&decide (f.2.1≤r.1-1) with
    |false=>exact by simp
    |true=>
      simp  at hc;cases decide (f.2.1=(w:Int)) with
      |true=>exact by simp
      |false=>
        cases decide (f.2.2.1≥-1)&&decide (f.2.2.1≤1152921504606846976) with
        |false=>exact by simp
        |true=>
          have b1:decide (w<s.B.2.1.length)=true:=aa (by rw[hb.bl];exact gd);have b2:zB f.2.1 (s.B.2.1.getD w []).length=true:=wT hc.1 (by rw[hb.br w gd];omega);simp only[aj,ae,cp,aE,an,b1,b2,Bool.and_self];exact⟨_,rfl,fun _=>rfl⟩
  · rw[ab h5];simp only[an];by_cases h6:f.1=6
    · rw[aa h6];cases decide (f.2.1≥-1)&&decide (f.2.1≤1152921504606846976) with
      |false=>exact by simp
      |true=>
        have b1:decide (w<s.B.2.2.1.length)=true:=aa (by rw[hb.ml];exact gd);simp only[aj,aE,an,b1];exact⟨_,rfl,fun _=>rfl⟩
    · rw[ab h6];cases decide (f.2.1≥0)&&decide (f.2.1≤1152921504606846976) with
      |false=>exact by simp
      |true=>
        have b1:decide (w<s.B.1.length)=true:=by grind
        simp only[aj,aE,an,b1];exact⟨_,rfl,fun _=>rfl⟩
def Fy (s:zZ)(w:Nat)(h:AC)(n:Int):Int×zZ:=
 bif decide (n>1152921504606846976) then(8,s)
 else bif decide (n<(s.B.1.getD w ad).2.1)&&decide ((s.B.1.getD w ad).1+n<0) then(9,s)
 else(0,{s with B:=(s.B.1.set w ((s.B.1.getD w ad).1,n,(s.B.1.getD w ad).2.2),s.B.2.1,s.B.2.2.1,s.B.2.2.2),ho:=s.ho.set w h})
def kD (r:qL)(s:zZ)(who a many:Int):Int×zZ:=
 bif !(decide (a≥0)&&decide (a≤(r.2.1.length:Int)-1)) then(1,s)
 else bif !(decide (many≥0)&&decide (many≤1099511627776)) then(1,s)
 else Fy s who.toNat ((s.ho.getD who.toNat []).set a.toNat many) (ot r.2.1 s.pr ((s.ho.getD who.toNat []).set a.toNat many))
theorem kx.set {sa pr h}(L:kx sa pr h){i}(hi:i<sa.length){v}(hv:0≤v∧v≤1099511627776):kx sa pr (h.set i v):=
 ⟨L.n3,L.pl,by rw[List.length_set];exact L.hl,L.cut,L.price,fun j hj=>by
  rw[fj];split
  ·exact hv
  ·exact L.hold j hj⟩
theorem kx.setP {sa pr h}(L:kx sa pr h){i}(hi:i<sa.length){v}(hv:0≤v∧v≤1048576):kx sa (pr.set i v) h:=
 ⟨L.n3,by rw[List.length_set];exact L.pl,L.hl,L.cut,fun j hj=>by
  rw[fj];split
  ·exact hv
  ·exact L.price j hj,L.hold⟩
theorem vGn {k}{l:jE}(hl:l.length≤1000):Fz k l=some l:=by
 unfold Fz;rw[qH (by omega) (by omega)];rfl
theorem vMw {k}(hk:1000≤k){r}(hr:jB r){s}(h:yE r s){who}(hw:0≤who∧who<r.1) l a many:
    ∃d,OE k (dk r s who l) a many=some ((kD r s who a many).1,d)∧((kD r s who a many).1=0→d=dk r (kD r s who a many).2 who l):=by
  have hp:=hr.pa;have h3:=hr.n3;have hn:=h.n;have gD:=h.bk.n6;have hol:=h.hol;have w1:zA ((r.2.1.length:Int)-1)=(r.2.1.length:Int)-1:=zO (by omega) (by omega);obtain⟨w,rfl⟩:=Int.eq_ofNat_of_zero_le hw.1;have gd:w<s.B.1.length:=by omega
  have eD:OE k (dk r s w l) a many=((vH k a 0 (zA ((r.2.1.length:Int)-1))).bind fun x0=>some x0).bind fun x0=>
    bif !x0 then some (1,dk r s w l)
    else(vH k many 0 1099511627776).bind fun x1=>
    bif !x1 then some (1,dk r s w l)
    else(Fz k s.ho).bind fun x2=>
    bif zB (w : Int) x2.length then ((pA k (x2.getD (w:Int).toNat []) a many).bind fun x3=>
      bif zB (w:Int) x2.length then(
       bif zB (w : Int) (x2.set (w : Int).toNat x3).length then ((rL k r.2.1 s.pr ((x2.set (w:Int).toNat x3).getD (w:Int).toNat [])).bind fun x4=>
        bif zB (w : Int) s.B.1.length then (bif !x4.2 then some (8,dk r s w l)
         else bif decide (x4.1>1152921504606846976) then some (8,dk r s w l)
         else bif decide (x4.1 < (s.B.1.getD (w : Int).toNat (0, 0, 0)).2.1) then (bif decide ((zA ((s.B.1.getD (w:Int).toNat (0,0,0)).1+x4.1))<0) then some (9,dk r s w l)
          else(gb k s.B.1 s.B.2.1 s.B.2.2.1 s.B.2.2.2).bind fun x5=>
          bif zB (w:Int) x5.1.length then
           some (0,dk r {s with B:=((x5.1.set (w:Int).toNat ((x5.1.getD (w:Int).toNat (0,0,0)).1,x4.1,(x5.1.getD (w:Int).toNat (0,0,0)).2.2)),x5.2.1,x5.2.2.1,x5.2.2.2),ho:=x2.set (w:Int).toNat x3} w l)
          else none)
         else(gb k s.B.1 s.B.2.1 s.B.2.2.1 s.B.2.2.2).bind fun x6=>
         bif zB (w:Int) x6.1.length then
          some (0,dk r {s with B:=((x6.1.set (w:Int).toNat ((x6.1.getD (w:Int).toNat (0,0,0)).1,x4.1,(x6.1.getD (w:Int).toNat (0,0,0)).2.2)),x6.2.1,x6.2.2.1,x6.2.2.2),ho:=x2.set (w:Int).toNat x3} w l)
         else none)
        else none)
       else none)
      else none)
    else none:=rfl
  rw[eD,w1,mA,mA,IU (by omega) h.bk.toSized,vGn (by omega)];simp only[ae,qC,aq];unfold kD;simp only[aq];cases hc:decide (a≥0)&&decide (a≤(r.2.1.length:Int)-1) with
  |false=>exact by simp
  |true=>
  simp only[bb,aY] at hc;cases hm:decide (many≥0)&&decide (many≤1099511627776) with
  |false=>exact by simp
  |true=>
  obtain⟨i,rfl⟩:=Int.eq_ofNat_of_zero_le hc.1;have hi:i<r.2.1.length:=by omega
  have L:=h.laid w gd;have L2:=L.set hi (v:=many) (by grind);have b1:decide (w<s.ho.length)=true:=by grind
  have b2:decide (w<s.B.1.length)=true:=aa gd;have lG:pA k (s.ho.getD w []) (i:Int) many=some ((s.ho.getD w []).set i many):=by
    have:=yGv (k:=k) (l:=s.ho.getD w []) (by rw[L.hl];omega) (i:=(i:Int)) (by omega) (by rw[L.hl];omega) many;simp_all
  have JX:(s.ho.set w ((s.ho.getD w []).set i many)).getD w []=(s.ho.getD w []).set i many:=by
    rw[fj,if_pos ⟨rfl,by omega⟩]
  have hv:=V2 (k:=k) L2 (by omega);have hb:=h.bk.nums.bal w gd;have yr:=EW L2;simp only[aE,an,b1,aj,lG,ae,List.length_set,JX,hv,b2,aq];clear hv L2 JX eD;generalize ot r.2.1 s.pr ((s.ho.getD w []).set i many)=n at yr⊢;unfold Fy;cases Ws:decide (n>1152921504606846976) with
  |true=>exact by simp
  |false=>
    have h8:¬n>1152921504606846976:=gv Ws;have w2:zA ((s.B.1.getD w (0,0,0)).1+n)=(s.B.1.getD w (0,0,0)).1+n:=zO (by have:=hb.1;simp only[ad] at this;omega) (by have:=hb.2;simp only[ad] at this;omega);simp only[w2,an];cases decide (n<(s.B.1.getD w (0,0,0)).2.1) with
    |false=>exact by simp
    |true=>
      cases decide ((s.B.1.getD w (0,0,0)).1+n<0) with
      |true=>exact by simp
      |false=>exact by simp
def jO (a:qY)(n:Int):qY×Int:=bif fk (a.1+n,a.2.1,a.2.2) then((a.1+n,a.2.1,a.2.2),0) else(a,8)
theorem yEv {k}{a:qY}(ha:-4611686018427387904<a.1∧a.1<4611686018427387904){n}(hn:-1099511627776≤n∧n≤1099511627776):JY k a n=some (jO a n):=by
 have abY:OF k a.1 n=some (a.1+n,true):=by
  unfold OF;have w1:n>0→zA (9223372036854775807-n)=9223372036854775807-n:=fun h=>zO (by omega) (by omega)
  have w2:n<0→zA (-9223372036854775808-n)= -9223372036854775808-n:=fun h=>zO (by omega) (by omega)
  have w3:zA (a.1+n)=a.1+n:=zO (by omega) (by omega);grind
 unfold JY jO;simp[yPk];grind
abbrev iC:=Int×wZ
theorem vJh k kd:∃n,tv k kd=some n∧-1≤n∧n≤6:=by
 have c:∀(b:Bool) (x y:Option Int),(∃n,x=some n∧-1≤n∧n≤6)→(∃n,y=some n∧-1≤n∧n≤6)→∃n,(bif b then x else y)=some n∧-1≤n∧n≤6:=by
  simp_all
 iterate 23 (refine c _ _ _ (by simp) ?_)
 simp
theorem vCs {k}{s:AC}(hs:s.length≤6):∀n i,s.length<i+n→i≤s.length→∃x,mD k n s (s.length:Int) (i:Int)=some x
 |0,i,h,g=>by omega
 |n+1,i,h,g=>by
  show∃x,oE k (mD k n) s (s.length:Int) (i:Int)=some x;unfold oE;by_cases hi:i<s.length
  ·simp only[qU,aa hi,qC,aq];cases decide (s.getD i 0=0) with
   |false=>simp
   |true=>
    rw[qE hi (by omega)];exact vCs hs n (i+1) (by omega) hi
  ·simp only[qU,ab hi];simp
theorem OG {k}(hk:10≤k)(f:wZ):∃b,nr k f=some b:=by
 unfold nr;obtain⟨n,h1,h2,h3⟩:=vJh k f.1;rw[h1];simp;by_cases h0:n<0
 ·simp_all
 ·rw[ab h0,aa (by grind),aa h3];have hl:(qR [f.2.1,f.2.2.1,f.2.2.2.1,f.2.2.2.2.1,f.2.2.2.2.2.1,f.2.2.2.2.2.2] n.toNat (6-n.toNat)).length≤6:=by
   unfold qR;simp
  obtain⟨x,hx⟩:=vCs (k:=k) hl k 0 (by omega) (by simp);rw[show((0:Nat):Int)=0 from rfl] at hx;rw[hx];cases x<;>exact by simp
theorem Wt k a:OH k a=some (decide (a≥10)&&decide (a≤14)):=by
 unfold OH;grind
theorem Wu k a:JZ k a=some (decide (a≥1)&&decide (a≤14)):=by
 unfold JZ;grind
def yN2 (A B C D E F G b o:Bool):Int:=
 bif !(D&&C) then 5 else bif !b then 5 else bif B&&C then(bif !E then 5 else bif o&& !G then 7 else 0) else bif !(A&&F) then 5 else bif o&& !G then 7 else 0
theorem vN3:∀{A B C D E F G b o},yN2 A B C D E F G b o=0→(D&&C&&((B&&E)||(!B&&A&&F))&&(!o||G))=true:=by
 intro A B C D E F G b o h;cases A<;>cases B<;>cases C<;>cases D<;>cases E<;>cases F<;>cases G<;>cases b<;>cases o<;>first|rfl|exact absurd h (by decide)
theorem vH4 {k}(hk:10≤k)(r:qL)(s:zZ)(c:iC):∃b,w9 k r s.st c=some (yN2 (decide (c.1≥0)) (decide (c.2.1≥10)) (decide (c.2.1≤14)) (decide (c.2.1≥1)) (decide (c.1= -1)) (decide (c.1<r.1)) (decide (c.2.1=9)) b s.ov):=by
 unfold w9;rw[Wt,Wu];obtain⟨b,hb⟩:=OG hk c.2;rw[hb];have eo:s.st.2.2.2.2.2.2.2.2.2.2=s.ov:=rfl;rw[eo];refine⟨b,?_⟩;generalize decide (c.1≥0)=A;generalize decide (c.2.1≥10)=B;generalize decide (c.2.1≤14)=C;generalize decide (c.2.1≥1)=D;generalize decide (c.1= -1)=E;generalize decide (c.1<r.1)=F;generalize decide (c.2.1=9)=G;generalize s.ov=o;cases A<;>cases B<;>cases C<;>cases D<;>cases E<;>cases F<;>cases G<;>cases b<;>cases o<;>rfl
theorem vNg {k}(hk:10≤k)(r:qL)(s:zZ)(c:iC):∃e,w9 k r s.st c=some e∧
  (e=0→((10≤c.2.1∧c.2.1≤14∧c.1= -1)∨(1≤c.2.1∧c.2.1≤9∧0≤c.1∧c.1<r.1))∧(s.ov=true→c.2.1=9)):=by
 obtain⟨b,hb⟩:=vH4 hk r s c;refine⟨_,hb,fun e=>?_⟩;have:=vN3 e;grind
def wI (f:wZ):AC:=[f.2.1,f.2.2.1,f.2.2.2.1,f.2.2.2.2.1,f.2.2.2.2.2.1,f.2.2.2.2.2.2]
theorem yVy {k:Nat}{s:AC}:∀(n i:Nat),s.length≤6→mD k n s (s.length:Int) (i:Int)=some (.inl ())→∀j,i≤j→j<s.length→s.getD j 0=0
 |0,i,_,h,_,_,_=>by cases h
 |n+1,i,h6,h,j,h1,h2=>by
  have h:oE k (mD k n) s (s.length:Int) (i:Int)=some (.inl ()):=h;unfold oE at h;have hi:i<s.length:=by omega
  rw[aa (show(i:Int)<s.length by omega),qC,aa hi,aq] at h;simp only[aj] at h;cases hz:decide (s.getD i 0=0) with
  |false=>rw[hz] at h;cases h
  |true=>
   rw[hz] at h;simp only[aE,an] at h;rw[qE hi (by omega)] at h;by_cases e:j=i
   ·subst e;exact Iv hz
   ·exact yVy n (i+1) h6 h j (by omega) h2
theorem Wv {k:Nat}{f:wZ}(h:nr k f=some true):0≤vR f.1∧∀j,(vR f.1).toNat≤j→j<6→(wI f).getD j 0=0:=by
 unfold nr at h;rw[UB,ae] at h;have hm:=Iy f.1;by_cases h0:vR f.1<0
 ·rw[aa h0] at h;cases h
 ·rw[ab h0,aa (show(0:Int)≤vR f.1 by omega),aa hm] at h;simp only[an,Bool.and_self,aj] at h;refine⟨by omega,fun j h1 h2=>?_⟩;have hs:qR [f.2.1,f.2.2.1,f.2.2.2.1,f.2.2.2.2.1,f.2.2.2.2.2.1,f.2.2.2.2.2.2] (vR f.1).toNat (6-(vR f.1).toNat)=(wI f).drop (vR f.1).toNat:=by
   unfold qR;show List.take _ ((wI f).drop _)=_;exact List.take_of_length_le (by rw[List.length_drop];show 6-_≤_;omega)
  rw[hs] at h;have hl:((wI f).drop (vR f.1).toNat).length=6-(vR f.1).toNat:=by rw[List.length_drop];rfl
  cases hz:mD k k ((wI f).drop (vR f.1).toNat) (((wI f).drop (vR f.1).toNat).length:Int) 0 with
  |none=>rw[hz] at h;cases h
  |some z=>
   rw[hz] at h;cases z with
   |inr b=>
    exfalso;have key:∀(n i:Nat) (b:Bool),mD k n ((wI f).drop (vR f.1).toNat) (((wI f).drop (vR f.1).toNat).length:Int) (i:Int)=some (.inr b)→i≤6→b=false:=by
     intro n
     induction n with
     |zero=>intro i b h;cases h
     |succ n ih=>
      intro i b h h6;have h:oE k (mD k n) _ _ _=some (.inr b):=h;unfold oE at h;by_cases hi:i<((wI f).drop (vR f.1).toNat).length
      ·rw[aa (by omega),qC,aa hi] at h;simp only[aj] at h;cases hz:decide (((wI f).drop (vR f.1).toNat).getD (i:Int).toNat 0=0) with
       |false=>rw[hz] at h;cases h;rfl
       |true=>
        rw[hz] at h;simp only[aE,an] at h;rw[qE hi (by omega)] at h;exact ih (i+1) b h (by omega)
      ·rw[ab (by omega)] at h;cases h
    have:=key k 0 b hz (by omega);subst this;cases h
   |inl u=>
    have:=yVy (k:=k) k 0 (by omega) hz (j-(vR f.1).toNat) (Nat.zero_le _) (by omega);rw[List.getD_eq_getElem?_getD,List.getElem?_drop] at this;rw[List.getD_eq_getElem?_getD,←this]
    congr 2
    omega
theorem vPf {k}(hk:10≤k)(f:zC):∃b,rQ k f=some b∧(b=true→0≤vR f.1):=by
 have key:∀(c n i:Nat),i+c=6→c<n→∀x:Int,∃z,xa k n x (i:Int) f=some z∧(z=.inl x∨z=.inr false):=by
  intro c
  induction c with
  |zero=>
   intro n i h1 h2 x;obtain⟨n,rfl⟩:∃m,n=m+1:=⟨n-1,by omega⟩;obtain rfl:i=6:=by omega
   exact⟨_,rfl,.inl rfl⟩
  |succ c ih=>
   intro n i h1 h2 x;obtain⟨n,rfl⟩:∃m,n=m+1:=⟨n-1,by omega⟩;obtain⟨z,g1,g2⟩:=ih n (i+1) (by omega) (by omega) x;have st:∀v:Int,∃z',(bif !decide (v=0) then some (.inr false) else xa k n x ((i+1:Nat):Int) f)=some z'∧(z'=.inl x∨z'=.inr false):=by grind
   have:i=0∨i=1∨i=2∨i=3∨i=4∨i=5:=by omega
   rcases this with rfl|rfl|rfl|rfl|rfl|rfl
   ·exact st f.2.1
   ·exact st f.2.2.1
   ·exact st f.2.2.2.1
   ·exact st f.2.2.2.2.1
   ·exact st f.2.2.2.2.2.1
   ·exact st f.2.2.2.2.2.2
 have hm:=Iy f.1;have e:wU false (vR f.1) 0=(((vR f.1).toNat:Nat):Int):=by
  grind
 obtain⟨z,g1,g2⟩:=key (6-(vR f.1).toNat) k (vR f.1).toNat (by omega) (by omega) (vR f.1);unfold rQ;rw[UA,ae,e,g1,ae];rcases g2 with rfl|rfl
 all_goals simp
structure fc (k:Nat) (l:AC):Prop where
 n:l.length<k
 m:l.length≤100000
 w:kT l
theorem A3 x l b:qA (x::l)++b=qV x++(qA l++b):=by simp[qA]
theorem J0 {k}(hk:9≤k){l}(h:fc k l){b}(hb:b.length≤1000000):xc k (qV l++b,false)=some (l,b,false):=by
 unfold xc;rw[vJq hk h.n h.m h.w b hb];rfl
theorem Ww {k}(hk:9≤k){l}(h:fc k l){n}(hn:l.length=n){b}(hb:b.length≤1000000):FA k (qV l++b,false) (n:Int)=some (l,b,false):=by
 unfold FA;rw[J0 hk h hb];simp_all
theorem vAr {k}(hk:9≤k){b}:∀l n r,(∀x∈l,fc k x)→l.length<n→(qA l++b).length≤1000000→r.length+l.length≤1000000→J1 k n (l.length:Int) (qA l++b,false) r=some ((b,false),r++l)
 |[],n,r,_,hn,_,_=>by
  obtain⟨n,rfl⟩:∃m,n=m+1:=⟨n-1,by omega⟩;rw[List.append_nil];rfl
 |x::l,n,r,h,hn,hb,hr=>by
  obtain⟨n,rfl⟩:∃m,n=m+1:=⟨n-1,by omega⟩;rw[A3,List.length_append] at hb;simp  at hn hr;have ih:=vAr hk (b:=b) l n (r++[x]) (by grind) (by omega) (by omega) (by grind);rw[A3];show OI k (J1 k n) ((l.length+1:Nat):Int) (qV x++(qA l++b),false) r=_;unfold OI;rw[J0 hk (by grind) (by omega)];rw[qH (by omega) (by omega),show zA (((l.length+1:Nat):Int)-1)=(l.length:Int) by rw[zO (by omega) (by omega)];omega];simp_all
theorem Wx {k}(hk:9≤k){l}(h:∀x∈l,fc k x)(hn:l.length<k)(hm:l.length≤1000000){b}(hb:(qA l++b).length≤1000000):FB k (qA l++b,false) (l.length:Int)=some (l,b,false):=by
 unfold FB;rw[vAr hk l k [] h hn hb (by simp_all)];rfl
theorem yRw {k}(hk:9≤k){b s0 r2}{b0 b3:Int×Int×Bool}:∀l n (r:List (Int×Int×Int)),(∀x∈l,fc k (vZ x))→l.length<n→(qA (l.map vZ)++b).length≤1000000→r.length+l.length≤1000000→
  FC k n s0 (l.length:Int) b0 (qA (l.map vZ)++b,false) r2 b3 r=some (s0,b0,(b,false),r2,b3,r++l)
 |[],n,r,_,hn,_,_=>by
  obtain⟨n,rfl⟩:∃m,n=m+1:=⟨n-1,by omega⟩;rw[List.append_nil];rfl
 |x::l,n,r,h,hn,hb,hr=>by
  obtain⟨n,rfl⟩:∃m,n=m+1:=⟨n-1,by omega⟩;rw[List.map_cons,A3,List.length_append] at hb;simp  at hn hr;have ih:=yRw hk (b:=b) (s0:=s0) (r2:=r2) (b0:=b0) (b3:=b3) l n (r++[x]) (by grind) (by omega) (by omega) (by grind);show OJ k (FC k n) s0 ((l.length+1:Nat):Int) b0 (qV (vZ x)++(qA (l.map vZ)++b),false) r2 b3 r=_;unfold OJ;rw[aa (by omega)];have hj:=Ww hk (h x (by simp)) (n:=3) rfl (b:=qA (l.map vZ)++b) (by omega);rw[show((3:Nat):Int)=3 from rfl] at hj;rw[hj];rw[qH (by omega) (by omega),show zA (((l.length+1:Nat):Int)-1)=(l.length:Int) by rw[zO (by omega) (by omega)];omega];show FC k n s0 (l.length:Int) b0 (qA (l.map vZ)++b,false) r2 b3 (r++[x])=_;simp_all
theorem yVf {k}(hk:9≤k){b s0}{b0 b2:Int×Int×Bool}{r3:List (Int×Int×Int)}{r4 r6 r8 r5 r7}:∀l n (r:List (Int×Int×Int×Int×Int×Int×Int)),(∀x∈l,fc k (vI x))→l.length<n→(qA (l.map vI)++b).length≤1000000→r.length+l.length≤1000000→
  FD k n s0 (l.length:Int) b0 (qA (l.map vI)++b,false) b2 r3 r4 r5 r6 r7 r8 r=some (s0,b0,(b,false),b2,r3,r4,r5,r6,r7,r8,r++l)
 |[],n,r,_,hn,_,_=>by
  obtain⟨n,rfl⟩:∃m,n=m+1:=⟨n-1,by omega⟩;rw[List.append_nil];rfl
 |x::l,n,r,h,hn,hb,hr=>by
  obtain⟨n,rfl⟩:∃m,n=m+1:=⟨n-1,by omega⟩;rw[List.map_cons,A3,List.length_append] at hb;simp only[List.length_cons] at hn hr;have ih:=yVf hk (b:=b) (s0:=s0) (b0:=b0) (b2:=b2) (r3:=r3) (r4:=r4) (r5:=r5) (r6:=r6) (r7:=r7) (r8:=r8) l n (r++[x]) (by grind) (by omega) (by omega) (by grind);show OK k (FD k n) s0 ((l.length+1:Nat):Int) b0 (qV (vI x)++(qA (l.map vI)++b),false) b2 r3 r4 r5 r6 r7 r8 r=_;unfold OK;rw[aa (by omega)];have hj:=Ww hk (h x (by simp)) (n:=7) rfl (b:=qA (l.map vI)++b) (by omega);rw[show((7:Nat):Int)=7 from rfl] at hj;rw[hj];simp only[ae];rw[qH (by omega) (by omega),show zA (((l.length+1:Nat):Int)-1)=(l.length:Int) by rw[zO (by omega) (by omega)];omega];show FD k n s0 (l.length:Int) b0 (qA (l.map vI)++b,false) b2 r3 r4 r5 r6 r7 r8 (r++[x])=_;simp_all
theorem Wy s:qA (vV s)=qV [s.1,s.2.2.2.2.2.2.2.2.2.1,bif s.2.2.2.2.2.2.2.2.2.2 then 1 else 0,(s.2.1.length:Int),(s.2.2.1.length:Int),(s.2.2.2.1.length:Int),(s.2.2.2.2.1.length:Int),(s.2.2.2.2.2.2.1.length:Int),(s.2.2.2.2.2.2.2.1.length:Int)]++
  (qA (s.2.1.map vZ)++(qA s.2.2.1++(qV s.2.2.2.1++(qA s.2.2.2.2.1++(qV s.2.2.2.2.2.1++(qA s.2.2.2.2.2.2.1++(qA (s.2.2.2.2.2.2.2.1.map vI)++(qV s.2.2.2.2.2.2.2.2.1++[])))))))):=by
 simp[vV,qA]
theorem vLy {k}(hk:1000≤k){s}(hf:wQ (vV s))(hg:∀x∈vV s,fc k x)(hb:(qA (vV s)).length≤1000000):J2 k (qA (vV s))=some (s,true):=by
 have J3:=yLq hk hf;have hn:=hf.n;have e:=Wy s;obtain⟨S,hS⟩:∃S,qA (vV s)=S:=⟨_,rfl⟩;rw[hS] at J3 hb e⊢;obtain⟨t,ac,bi,mu,po,pr,ho,pa,ids,to,ov⟩:=s;have aX : ∀ x, (x = [t, to, bif ov then 1 else 0, (ac.length : Int), (bi.length : Int), (mu.length : Int), (po.length : Int), (ho.length : Int), (pa.length : Int)] ∨ x ∈ ac.map vZ ∨ x ∈ bi ∨ x = mu ∨ x ∈ po ∨ x = pr ∨ x ∈ ho ∨ x ∈ pa.map vI ∨ x = ids) → fc k x := fun x hx => hg x (by
  simp only[vV,List.mem_append,List.mem_singleton];rcases hx with h|h|h|h|h|h|h|h|h<;>simp[h])
 simp only[vV,List.length_append,List.length_cons,List.length_nil,List.length_map] at hn;dsimp only at e;have l1:=congrArg List.length e;simp only[List.length_append,jX] at l1;have k9:9≤k:=by omega
 unfold J2;rw[e];have j9:=Ww k9 (aX _ (.inl rfl)) (n:=9) rfl (b:=qA (ac.map vZ)++(qA bi++(qV mu++(qA po++(qV pr++(qA ho++(qA (pa.map vI)++(qV ids++[])))))))) (by simp only[List.length_append,jX];omega);rw[show((9:Nat):Int)=9 from rfl] at j9;rw[j9,←e];simp only[ae];have a0:=yRw k9 (s0:=S) (r2:=[t,to,bif ov then 1 else 0,(ac.length:Int),(bi.length:Int),(mu.length:Int),(po.length:Int),(ho.length:Int),(pa.length:Int)]) (b0:=(0,0,false)) (b3:=(t,to,decide ((bif ov then(1:Int) else 0)=1))) (b:=qA bi++(qV mu++(qA po++(qV pr++(qA ho++(qA (pa.map vI)++(qV ids++[]))))))) ac k [] (fun x hx=>aX _ (.inr (.inl (List.mem_map_of_mem hx)))) (by omega) (by simp only[List.length_append,jX];omega) (by simp;omega);refine(congrArg (fun z=>Option.bind z _) a0).trans ?_;simp only[ae];have q1:=Wx k9 (l:=bi) (fun x hx=>aX _ (.inr (.inr (.inl hx)))) (by omega) (by omega) (b:=qV mu++(qA po++(qV pr++(qA ho++(qA (pa.map vI)++(qV ids++[])))))) (by simp only[List.length_append,jX];omega);refine(congrArg (fun z=>Option.bind z _) q1).trans ?_;simp only[ae];rw[J0 k9 (aX mu (.inr (.inr (.inr (.inl rfl))))) (by simp only[List.length_append,jX];omega)];simp only[ae];have q2:=Wx k9 (l:=po) (fun x hx=>aX _ (.inr (.inr (.inr (.inr (.inl hx)))))) (by omega) (by omega) (b:=qV pr++(qA ho++(qA (pa.map vI)++(qV ids++[])))) (by simp only[List.length_append,jX];omega);refine(congrArg (fun z=>Option.bind z _) q2).trans ?_;simp only[ae];rw[J0 k9 (aX pr (.inr (.inr (.inr (.inr (.inr (.inl rfl))))))) (by simp only[List.length_append,jX];omega)];simp only[ae];have q3:=Wx k9 (l:=ho) (fun x hx=>aX _ (.inr (.inr (.inr (.inr (.inr (.inr (.inl hx)))))))) (by omega) (by omega) (b:=qA (pa.map vI)++(qV ids++[])) (by simp only[List.length_append,jX];omega);refine(congrArg (fun z=>Option.bind z _) q3).trans ?_;simp only[ae];have p1:=yVf k9 (s0:=S) (b0:=(0,0,false)) (b2:=(t,to,decide ((bif ov then(1:Int) else 0)=1))) (r3:=[]++ac) (r4:=bi) (r5:=mu) (r6:=po) (r7:=pr) (r8:=ho) (b:=qV ids++[]) pa k [] (fun x hx=>aX _ (.inr (.inr (.inr (.inr (.inr (.inr (.inr (.inl (List.mem_map_of_mem hx)))))))))) (by omega) (by simp only[List.length_append,jX];omega) (by simp;omega);refine(congrArg (fun z=>Option.bind z _) p1).trans ?_;simp only[ae];rw[J0 k9 (aX ids (.inr (.inr (.inr (.inr (.inr (.inr (.inr (.inr rfl))))))))) (by simp)];simp only[ae,an,List.nil_append];have Wz:decide ((bif ov then(1:Int) else 0)=1)=ov:=by cases ov<;>rfl
 rw[Wz];refine(congrArg (fun z=>Option.bind z _) J3).trans ?_;simp only[ae];unfold WA;rw[show qa S S=true from by simp[qa]];rfl
theorem vOv n (i:Nat)(hi:i≤7):IntKind.wrap .u8 (shr .u64 (IntKind.wrap .u64 n) (IntKind.wrap .u64 (8*(i:Int))))=vD n i:=by
 rw[vB3 n i hi];have e:∀x:Int,∀j:Nat,j≤56→shr .u64 x (j:Int)=x/2^j:=fun x j hj=>by
  unfold shr;rw[aq,Nat.min_eq_left (show j≤IntKind.bits .u64 from Nat.le_trans hj (by decide)),Int.fdiv_eq_ediv_of_nonneg _ (by grind)]
 have w:IntKind.wrap .u64 (8*(i:Int))=((8*i:Nat):Int):=by
  rw[Dq];omega
 rw[w,e _ _ (by omega),Dq,Dp];have:i=0∨i=1∨i=2∨i=3∨i=4∨i=5∨i=6∨i=7:=by omega
 rcases this with rfl|rfl|rfl|rfl|rfl|rfl|rfl|rfl<;>(omega)<;>omega
theorem vLr {k l}(j:Nat)(hj:j<l.length)(hl:l.length≤1000000):∀c n,c<n→c≤8→∀r:AC,r.length+c≤100000000→J4 k n l (j:Int) (8*(c:Int)-8) r=some (l,(j:Int),r++(yL (l.getD j 0)).drop (8-c)):=by
 intro c
 induction c with
 |zero=>
  intro n h1 _ r hr;obtain⟨n,rfl⟩:∃m,n=m+1:=⟨n-1,by omega⟩;rw[show(yL (l.getD j 0)).drop (8-0)=[] from rfl,List.append_nil];rfl
 |succ c ih=>
  intro n h1 h2 r hr;obtain⟨n,rfl⟩:∃m,n=m+1:=⟨n-1,by omega⟩;have g:=ih n (by omega) (by omega) (r++[vD (l.getD j 0) c]) (by grind);show OM k (J4 k n) l _ _ r=_;unfold OM;have e8:8*((c+1:Nat):Int)-8=8*(c:Int):=by omega
  have w:IntKind.wrap .u64 (8*(c:Int))=8*(c:Int):=by rw[Dq];omega
  rw[e8,aa (by omega),aj,wT (by omega) (by omega),aj];rw[show decide (IntKind.wrap .u64 (8*(c:Int))<0)=false from by grind,cp,aj,qH (by omega) (by omega),aj,aq];rw[vOv _ _ (by omega),show zA (8*(c:Int)-8)=8*(c:Int)-8 by rw[zO (by omega) (by omega)],g,List.append_assoc];have:c=0∨c=1∨c=2∨c=3∨c=4∨c=5∨c=6∨c=7:=by omega
  rcases this with rfl|rfl|rfl|rfl|rfl|rfl|rfl|rfl<;>rfl
theorem J5 {k}(hk:9≤k){l}(hl:l.length≤1000000)(oQ:l.length<k):xd k l=some (yT l):=by
 have all:∀(c n j:Nat),j+c=l.length→c<n→A4 k n l (j:Int) (yT (l.take j))=some (yT l):=by
  intro c
  induction c with
  |zero=>
   intro n j h1 h2;obtain⟨n,rfl⟩:∃m,n=m+1:=⟨n-1,by omega⟩;show FE k (A4 k n) l _ _=_;unfold FE;rw[ab (by omega),List.take_of_length_le (by omega)];rfl
  |succ c ih=>
   intro n j h1 h2;obtain⟨n,rfl⟩:∃m,n=m+1:=⟨n-1,by omega⟩;have hj:j<l.length:=by omega
   have g:=ih n (j+1) (by omega) (by omega);have hlen:(yT (l.take j)).length=8*j:=by rw[jg,List.length_take];omega
   have g1:=vLr (k:=k) j hj hl 8 k (by omega) (by omega) (yT (l.take j)) (by omega);rw[show(8*((8:Nat):Int)-8)=56 from rfl] at g1;show FE k (A4 k n) l _ _=_;unfold FE;rw[aa (by omega),aj,g1,ae];rw[qE hj (by omega)];have e:yT (l.take (j+1))=yT (l.take j)++(yL (l.getD j 0)).drop (8-8):=by
    rw[←jW l j 0 hj];simp[yT]
   rw[e] at g;exact g
 unfold xd;have:=all l.length k 0 (by omega) (by omega);have this:A4 k k l 0 []=some (yT l):=this;rw[this];rfl
theorem A5 {k}(hk:9≤k){l}(hl:l.length≤1000000)(oQ:l.length<k):jn k l=some (qV l):=by
 unfold jn;rw[J5 hk (by simp) (by grind),ae,J5 hk hl oQ,ae,qH (by simp[jg];omega) (by simp[jg];omega),aj];rfl
theorem WB {k}(hk:1000≤k){l}(h:wQ l):oF k l=some (qA l):=by
 have hn:=h.n;unfold oF;obtain ⟨s, h1, h2⟩ := yS (L := fun n i (s : AC) => FF k n l i s) (N := l.length) (fun s => s) (fun i s => s = qA (l.take i)) (fun n s _=>by
  show FG k (FF k n) l _ s=_;unfold FG;simp) (fun n i s hi hs=>by
  refine⟨s++qV (l.getD i []),?_,by rw[hs,yO8 hi]⟩;show FG k (FF k n) l (i:Int) s=_;unfold FG;have hr:=h.r _ (jQ (d:=[]) hi);have sV:s.length≤8000*1000:=by
   have:=IA (l:=l.take i) fun x hx=>h.r x (by grind)
   grind
  rw[aa (by omega),aj,wT (by omega) (by omega),aj,aq,A5 (by omega) (by omega) (by omega),ae,
   qH (by rw[jX];omega) (by rw[jX];omega),aj,qE (N:=l.length) hi (by omega)]) (n:=k) (s:=[]) (by omega) rfl
 simp_all
theorem J6 a b:qA (a++b)=qA a++qA b:=by simp[qA]
theorem WC {k}(hk:1000≤k){s:Dm}{b1:List (Int×Int×Int)×EQ×AC×EQ}(hl:b1.1.length≤900) r (hr:r.length≤100000000):tS k k 0 s b1 r=some (s,b1,r++qA (b1.1.map vZ)):=by
 obtain ⟨t, h1, h2⟩ := yS (L := fun n i (t : AC) => tS k n i s b1 t) (N := b1.1.length) (fun t => (s, b1, t)) (fun i t => t = r ++ qA ((b1.1.take i).map vZ)) (fun n t _=>by
  show FH k (tS k n) _ s b1 t=_;unfold FH;simp) (fun n i t hi ht=>by
  refine⟨t++qV (vZ (b1.1.getD i (0,0,0))),?_,by rw[ht,List.append_assoc,←Nd vZ (0,0,0) hi,J6];rfl⟩;show FH k (tS k n) (i:Int) s b1 t=_;unfold FH;have hlen:t.length≤100000000+8000*900:=by
   have:=IA (l:=(b1.1.take i).map vZ) fun x hx=>by
    obtain⟨y,_,rfl⟩:=List.mem_map.1 hx;show 3≤900
    decide
   grind
  rw[aa (by omega),aj,wT (by omega) (by omega),aj,aj,aj];have aR:=A5 (k:=k) (by omega) (l:=vZ (b1.1.getD i (0,0,0))) (by show 3≤1000000;decide) (by show 3<k;omega);refine(congrArg (fun z=>Option.bind z _) aR).trans ?_;have h32:(qV (vZ (b1.1.getD i (0,0,0)))).length=32:=rfl;simp only[ae];rw[qH (by omega) (by omega),aj,qE (N:=b1.1.length) hi (by omega)]) (n:=k) (s:=r) (by omega) (by simp[qA])
 simp_all
theorem vW5 {k}(hk:1000≤k){s:Dm}(hl:s.2.2.2.2.2.2.2.1.length≤900) r (hr:r.length≤100000000):tT k k 0 s r=some (s,r++qA (s.2.2.2.2.2.2.2.1.map vI)):=by
 obtain ⟨t, h1, h2⟩ := yS (L := fun n i (t : AC) => tT k n i s t) (N := s.2.2.2.2.2.2.2.1.length) (fun t => (s, t)) (fun i t => t = r ++ qA ((s.2.2.2.2.2.2.2.1.take i).map vI)) (fun n t _=>by
  show FI k (tT k n) _ s t=_;unfold FI;simp) (fun n i t hi ht=>by
  refine⟨t++qV (vI (s.2.2.2.2.2.2.2.1.getD i (0,0,0,0,0,0,0))),?_,by rw[ht,List.append_assoc,←Nd vI (0,0,0,0,0,0,0) hi,J6];rfl⟩;show FI k (tT k n) (i:Int) s t=_;unfold FI;have hlen:t.length≤100000000+8000*900:=by
   have:=IA (l:=(s.2.2.2.2.2.2.2.1.take i).map vI) fun x hx=>by
    obtain⟨y,_,rfl⟩:=List.mem_map.1 hx;show 7≤900
    decide
   grind
  rw[aa (by omega),aj,wT (by omega) (by omega),aj];have aR:=A5 (k:=k) (by omega) (l:=vI (s.2.2.2.2.2.2.2.1.getD i (0,0,0,0,0,0,0))) (by show 7≤1000000;decide) (by show 7<k;omega);refine(congrArg (fun z=>Option.bind z _) aR).trans ?_;have bU:(qV (vI (s.2.2.2.2.2.2.2.1.getD i (0,0,0,0,0,0,0)))).length=64:=rfl;simp only[ae];rw[qH (by omega) (by omega),aj,qE (N:=s.2.2.2.2.2.2.2.1.length) hi (by omega)]) (n:=k) (s:=r) (by omega) (by simp[qA])
 simp_all
theorem yZ2 {k}(hk:1000≤k){s}(h:wQ (vV s)):FJ k s=some (qA (vV s)):=by
  have hn:=h.n;have CG:=h.n;have hr:=h.r;have bg:=IA hr;have eq:=Wy s;obtain⟨S,hS⟩:∃S,qA (vV s)=S:=⟨_,rfl⟩;rw[hS] at eq bg⊢;obtain⟨t,ac,bi,mu,po,pr,ho,pa,ids,to,ov⟩:=s;have aX : ∀ x, (x ∈ bi ∨ x = mu ∨ x ∈ po ∨ x = pr ∨ x ∈ ho ∨ x = ids) → x.length ≤ 900 := fun x hx => hr x (by
    simp only[vV,List.mem_append,List.mem_singleton];rcases hx with h|h|h|h|h|h<;>simp[h])
  simp only[vV,List.length_append,List.length_cons,List.length_nil,List.length_map] at hn;dsimp only at eq;have l1:=congrArg List.length eq;simp only[List.length_append] at l1;have fb:wQ bi:=⟨by omega,fun x hx=>aX x (.inl hx)⟩;have fp:wQ po:=⟨by omega,fun x hx=>aX x (.inr (.inr (.inl hx)))⟩;have fh:wQ ho:=⟨by omega,fun x hx=>aX x (.inr (.inr (.inr (.inr (.inl hx)))))⟩;have hmu:=aX mu (.inr (.inl rfl));have od:=aX pr (.inr (.inr (.inr (.inl rfl))));have ke:=aX ids (.inr (.inr (.inr (.inr (.inr rfl)))));have go : ∀ (o : Int), ((jn k [t,to,o,(ac.length:Int),(bi.length:Int),(mu.length:Int),(po.length:Int),(ho.length:Int),(pa.length:Int)]).bind fun x0=>
      (tS k k 0 (t,ac,bi,mu,po,pr,ho,pa,ids,to,ov) (ac,bi,mu,po) x0).bind fun z=>
      (oF k z.2.1.2.1).bind fun x2=>
      bif zN (z.2.2.length + x2.length) 1 then ((jn k z.2.1.2.2.1).bind fun x3=>
       bif zN ((z.2.2 ++ x2).length + x3.length) 1 then ((oF k z.2.1.2.2.2).bind fun x4=>
        bif zN (((z.2.2 ++ x2) ++ x3).length + x4.length) 1 then ((jn k z.1.2.2.2.2.2.1).bind fun x5=>
         bif zN ((((z.2.2 ++ x2) ++ x3) ++ x4).length + x5.length) 1 then ((oF k z.1.2.2.2.2.2.2.1).bind fun x6=>
          bif zN (((((z.2.2 ++ x2) ++ x3) ++ x4) ++ x5).length + x6.length) 1 then ((tT k k 0 z.1 (((((z.2.2++x2)++x3)++x4)++x5)++x6)).bind fun z1=>
           (jn k z1.1.2.2.2.2.2.2.2.2.1).bind fun x8=>
           bif zN (z1.2.length+x8.length) 1 then some (z1.2++x8)
           else none)
          else none)
         else none)
        else none)
       else none)
      else none)=some (qV [t,to,o,(ac.length:Int),(bi.length:Int),(mu.length:Int),(po.length:Int),(ho.length:Int),(pa.length:Int)]++(qA (ac.map vZ)++(qA bi++(qV mu++(qA po++(qV pr++(qA ho++(qA (pa.map vI)++(qV ids++[]))))))))):=fun o=>by
    have h9:(qV [t,to,o,(ac.length:Int),(bi.length:Int),(mu.length:Int),(po.length:Int),(ho.length:Int),(pa.length:Int)]).length=80:=rfl;have h9':(qV [t,to,bif ov then 1 else 0,(ac.length:Int),(bi.length:Int),(mu.length:Int),(po.length:Int),(ho.length:Int),(pa.length:Int)]).length=80:=rfl;rw[h9'] at l1;rw[A5 (by omega) (by simp) (by simp;omega)];simp only[ae];rw[WC hk (by show ac.length≤900;omega) _ (by omega)];simp only[ae];rw[WB hk fb,ae,qH (by simp only[List.length_append];omega) (by simp only[List.length_append];omega),aj];rw[A5 (by omega) (by omega) (by omega),ae,qH (by simp only[List.length_append];omega) (by simp only[List.length_append];omega),aj];rw[WB hk fp,ae,qH (by simp only[List.length_append];omega) (by simp only[List.length_append];omega),aj];rw[A5 (by omega) (by omega) (by omega),ae,qH (by simp only[List.length_append];omega) (by simp only[List.length_append];omega),aj];rw[WB hk fh,ae,qH (by simp only[List.length_append];omega) (by simp only[List.length_append];omega),aj];rw[vW5 hk (by show pa.length≤900;omega) _ (by simp only[List.length_append];omega)];simp only[ae];rw[A5 (by omega) (by omega) (by omega),ae,qH (by simp only[List.length_append];omega) (by simp only[List.length_append];omega),aj];simp only[List.append_assoc,List.append_nil]
  rw[eq];unfold FJ;cases ov with
  |false=>exact go 0
  |true=>exact go 1
theorem J7 {k}(hk:9≤k){l}(h:fc k l){b}(hb:b.length≤1000000):A6 k (qV l++b,true)=some (l,b,true):=by
 have hl:=h.n;have hm:=h.m;have hlen:(qV l++b).length=8*l.length+8+b.length:=by rw[List.length_append,jX];omega
 have hn:WD k (qV l++b)=some (l,b,true):=by
  unfold WD;rw[ab (by omega),an,aa (by omega),aj];have h8:(yL (l.length:Int)).length=8:=rfl;have t1:List.take 8 (qV l++b)=yL (l.length:Int):=by
   rfl
  rw[t1,yT2 hk _ h8,yQr (by omega) (by omega),ae,ab (by omega),an];have wd:zA (Int.tdiv (zA (((qV l++b).length:Int)-8)) 8)=((l.length+b.length/8:Nat):Int):=by
   rw[zO (x:=((qV l++b).length:Int)-8) (by omega) (by omega),hlen];have:((8*l.length+8+b.length:Nat):Int)-8=((8*l.length+b.length:Nat):Int):=by omega
   rw[this];have:Int.tdiv ((8*l.length+b.length:Nat):Int) 8=(((8*l.length+b.length)/8:Nat):Int):=rfl;rw[this,zO (by omega) (by omega)];omega
  rw[wd,ab (by omega),an];have we:zA (8+zA (8*(l.length:Int)))=((8+8*l.length:Nat):Int):=by
   rw[zO (x:=8*(l.length:Int)) (by omega) (by omega),zO (by omega) (by omega)];omega
  rw[we,aa (by omega),aa (by omega),Bool.and_self,aj,aq];have s1:qR (qV l++b) 8 (8+8*l.length-8)=yT l:=by
   unfold qR qV;rw[List.append_assoc,List.drop_append_of_le_length (by omega),List.drop_of_length_le (by omega),List.nil_append,List.take_append_of_le_length (by rw[jg];omega),List.take_of_length_le (by rw[jg];omega)]
  have d1:List.drop (8+8*l.length) (qV l++b)=b:=by
   rw[List.drop_append_of_le_length (by grind),List.drop_of_length_le (by grind),List.nil_append]
  rw[s1,vHz hk (by rw[jg];omega) (by rw[jg];omega),UH h.w,ae,d1];rfl
 unfold A6;rw[hn];rfl
theorem WE {k}(hk:9≤k){l}(h:fc k l){n}(hn:l.length=n){b}(hb:b.length≤1000000):J8 k (qV l++b,true) (n:Int)=some (l,b,true):=by
 unfold J8;rw[J7 hk h hb];simp_all
theorem WG {k}(hk:9≤k){b l}(h:∀x∈l,fc k x)(hn:l.length<k)(hm:l.length≤1000000)(hb:(qA l++b).length≤1000000):J9 k (qA l++b,true) (l.length:Int)=some (l,b,true):=by
 have all:∀(c n j:Nat),j+c=l.length→c<n→Ka k n (l.length:Int) (j:Int) (qA (l.drop j)++b,true) (l.take j)=some ((b,true),l):=by
  intro c
  induction c with
  |zero=>
   intro n j h1 h2;obtain⟨n,rfl⟩:∃m,n=m+1:=⟨n-1,by omega⟩;show Kb k (Ka k n) _ _ _ _=_;unfold Kb;rw[ab (by omega),List.take_of_length_le (by omega),List.drop_of_length_le (by omega)];rfl
  |succ c ih=>
   intro n j h1 h2;obtain⟨n,rfl⟩:∃m,n=m+1:=⟨n-1,by omega⟩;have hj:j<l.length:=by omega
   have g:=ih n (j+1) (by omega) (by omega);have ed:l.drop j=l.getD j []::l.drop (j+1):=by rw[List.drop_eq_getElem_cons hj,List.getD_eq_getElem?_getD,List.getElem?_eq_getElem hj];rfl
   have hle:(qA (l.drop (j+1))++b).length≤1000000:=by
    have e2:qA l=qA (l.take (j+1))++qA (l.drop (j+1)):=by rw[←J6,List.take_append_drop]
    rw[e2] at hb;simp  at hb⊢;omega
   show Kb k (Ka k n) _ _ _ _=_;unfold Kb;rw[aa (by omega),ed,A3];rw[J7 hk (h _ (jQ hj)) hle];simp only[ae];rw[qH (by rw[List.length_take];omega) (by rw[List.length_take];omega),aj,qE hj (by omega),jW l j [] hj];exact g
 unfold J9;have:=all l.length k 0 (by omega) hn;have this:Ka k k (l.length:Int) 0 (qA l++b,true) []=some ((b,true),l):=this;rw[this];rfl
theorem WH {k}(hk:9≤k){b s0 r2}{b0 b3:Int×Int×Bool}(h8:r2.length=9){l:List (Int×Int×Int)}(h3:r2.getD 3 0=(l.length:Int))(h:∀x∈l,fc k (vZ x))(hn:l.length<k)(hm:l.length≤1000000)(hb:(qA (l.map vZ)++b).length≤1000000):
  Kc k k s0 0 b0 (qA (l.map vZ)++b,true) r2 b3 []=some (s0,b0,(b,true),r2,b3,l):=by
 have all:∀(c n j:Nat),j+c=l.length→c<n→Kc k n s0 (j:Int) b0 (qA ((l.drop j).map vZ)++b,true) r2 b3 (l.take j)=some (s0,b0,(b,true),r2,b3,l):=by
  intro c
  induction c with
  |zero=>
   intro n j h1 h2;obtain⟨n,rfl⟩:∃m,n=m+1:=⟨n-1,by omega⟩;show Ke k (Kc k n) _ _ _ _ _ _ _=_;unfold Ke;rw[wT (by omega) (by omega),h3,ab (by omega),List.take_of_length_le (by omega),List.drop_of_length_le (by omega)];rfl
  |succ c ih=>
   intro n j h1 h2;obtain⟨n,rfl⟩:∃m,n=m+1:=⟨n-1,by omega⟩;have hj:j<l.length:=by omega
   have g:=ih n (j+1) (by omega) (by omega);have ed:l.drop j=l.getD j (0,0,0)::l.drop (j+1):=by rw[List.drop_eq_getElem_cons hj,List.getD_eq_getElem?_getD,List.getElem?_eq_getElem hj];rfl
   have hle:(qA ((l.drop (j+1)).map vZ)++b).length≤1000000:=by
    have e2:qA (l.map vZ)=qA ((l.take (j+1)).map vZ)++qA ((l.drop (j+1)).map vZ):=by rw[←J6,←List.map_append,List.take_append_drop]
    rw[e2] at hb;simp  at hb⊢;omega
   show Ke k (Kc k n) _ _ _ _ _ _ _=_;unfold Ke;rw[wT (by omega) (by omega),h3,aa (by omega),ed,List.map_cons,A3];have mc:=WE hk (h _ (jQ (d:=(0,0,0)) hj)) (n:=3) rfl hle;rw[show((3:Nat):Int)=3 from rfl] at mc;rw[mc];rw[qH (by rw[List.length_take];omega) (by rw[List.length_take];omega),qE hj (by omega)];rw[←jW l j (0,0,0) hj] at g;exact g
 exact all l.length k 0 (by omega) hn
theorem vEm {k}(hk:9≤k){b s0 r2 r6 r8}{b0 b3:Int×Int×Bool}{r4:List (Int×Int×Int)}{r5 r7 r9}(h8:r2.length=9){l:List (Int×Int×Int×Int×Int×Int×Int)}(h3:r2.getD 8 0=(l.length:Int))(h:∀x∈l,fc k (vI x))(hn:l.length<k)(hm:l.length≤1000000)(hb:(qA (l.map vI)++b).length≤1000000):
  Kf k k s0 0 b0 (qA (l.map vI)++b,true) r2 b3 r4 r5 r6 r7 r8 r9 []=some (s0,b0,(b,true),b3,r4,r5,r6,r7,r8,r9,l):=by
 have all:∀(c n j:Nat),j+c=l.length→c<n→Kf k n s0 (j:Int) b0 (qA ((l.drop j).map vI)++b,true) r2 b3 r4 r5 r6 r7 r8 r9 (l.take j)=some (s0,b0,(b,true),b3,r4,r5,r6,r7,r8,r9,l):=by
  intro c
  induction c with
  |zero=>
   intro n j h1 h2;obtain⟨n,rfl⟩:∃m,n=m+1:=⟨n-1,by omega⟩;show Kg k (Kf k n) _ _ _ _ _ _ _ _ _ _ _ _ _=_;unfold Kg;rw[wT (by omega) (by omega),h3,ab (by omega),List.take_of_length_le (by omega),List.drop_of_length_le (by omega)];rfl
  |succ c ih=>
   intro n j h1 h2;obtain⟨n,rfl⟩:∃m,n=m+1:=⟨n-1,by omega⟩;have hj:j<l.length:=by omega
   have g:=ih n (j+1) (by omega) (by omega);have ed:l.drop j=l.getD j (0,0,0,0,0,0,0)::l.drop (j+1):=by rw[List.drop_eq_getElem_cons hj,List.getD_eq_getElem?_getD,List.getElem?_eq_getElem hj];rfl
   have hle:(qA ((l.drop (j+1)).map vI)++b).length≤1000000:=by
    have e2:qA (l.map vI)=qA ((l.take (j+1)).map vI)++qA ((l.drop (j+1)).map vI):=by rw[←J6,←List.map_append,List.take_append_drop]
    rw[e2] at hb;simp  at hb⊢;omega
   show Kg k (Kf k n) _ _ _ _ _ _ _ _ _ _ _ _ _=_;unfold Kg;rw[wT (by omega) (by omega),h3,aa (by omega),ed,List.map_cons,A3];have mc:=WE hk (h _ (jQ (d:=(0,0,0,0,0,0,0)) hj)) (n:=7) rfl hle;rw[show((7:Nat):Int)=7 from rfl] at mc;rw[mc];rw[qH (by rw[List.length_take];omega) (by rw[List.length_take];omega),qE hj (by omega)];rw[←jW l j (0,0,0,0,0,0,0) hj] at g;exact g
 exact all l.length k 0 (by omega) hn
theorem vHi {k}(hk:1000≤k){s}(hf:wQ (vV s))(hg:∀x∈vV s,fc k x)(hb:(qA (vV s)).length≤1000000):WI k (qA (vV s))=some (s,true):=by
 have J3:=yZ2 hk hf;have hn:=hf.n;have e:=Wy s;obtain⟨S,hS⟩:∃S,qA (vV s)=S:=⟨_,rfl⟩;rw[hS] at J3 hb e⊢;obtain⟨t,ac,bi,mu,po,pr,ho,pa,ids,to,ov⟩:=s;have aX : ∀ x, (x = [t, to, bif ov then 1 else 0, (ac.length : Int), (bi.length : Int), (mu.length : Int), (po.length : Int), (ho.length : Int), (pa.length : Int)] ∨ x ∈ ac.map vZ ∨ x ∈ bi ∨ x = mu ∨ x ∈ po ∨ x = pr ∨ x ∈ ho ∨ x ∈ pa.map vI ∨ x = ids) → fc k x := fun x hx => hg x (by
  simp only[vV,List.mem_append,List.mem_singleton];rcases hx with h|h|h|h|h|h|h|h|h<;>simp[h])
 simp only[vV,List.length_append,List.length_cons,List.length_nil,List.length_map] at hn;dsimp only at e;have l1:=congrArg List.length e;simp only[List.length_append,jX] at l1;have k9:9≤k:=by omega
 unfold WI;rw[e];have j9:=WE k9 (aX _ (.inl rfl)) (n:=9) rfl (b:=qA (ac.map vZ)++(qA bi++(qV mu++(qA po++(qV pr++(qA ho++(qA (pa.map vI)++(qV ids++[])))))))) (by simp only[List.length_append,jX];omega);rw[show((9:Nat):Int)=9 from rfl] at j9;rw[j9,←e];simp only[ae];have a0:=WH k9 (s0:=S) (r2:=[t,to,bif ov then 1 else 0,(ac.length:Int),(bi.length:Int),(mu.length:Int),(po.length:Int),(ho.length:Int),(pa.length:Int)]) (b0:=(0,0,false)) (b3:=(t,to,decide ((bif ov then(1:Int) else 0)=1))) (b:=qA bi++(qV mu++(qA po++(qV pr++(qA ho++(qA (pa.map vI)++(qV ids++[]))))))) rfl (l:=ac) rfl (fun x hx=>aX _ (.inr (.inl (List.mem_map_of_mem hx)))) (by omega) (by omega) (by simp only[List.length_append,jX];omega);refine(congrArg (fun z=>Option.bind z _) a0).trans ?_;simp only[ae];have q1:=WG k9 (l:=bi) (fun x hx=>aX _ (.inr (.inr (.inl hx)))) (by omega) (by omega) (b:=qV mu++(qA po++(qV pr++(qA ho++(qA (pa.map vI)++(qV ids++[])))))) (by simp only[List.length_append,jX];omega);refine(congrArg (fun z=>Option.bind z _) q1).trans ?_;simp only[ae];rw[J7 k9 (aX mu (.inr (.inr (.inr (.inl rfl))))) (by simp only[List.length_append,jX];omega)];simp only[ae];have q2:=WG k9 (l:=po) (fun x hx=>aX _ (.inr (.inr (.inr (.inr (.inl hx)))))) (by omega) (by omega) (b:=qV pr++(qA ho++(qA (pa.map vI)++(qV ids++[])))) (by simp only[List.length_append,jX];omega);refine(congrArg (fun z=>Option.bind z _) q2).trans ?_;simp only[ae];rw[J7 k9 (aX pr (.inr (.inr (.inr (.inr (.inr (.inl rfl))))))) (by simp only[List.length_append,jX];omega)];simp only[ae];have q3:=WG k9 (l:=ho) (fun x hx=>aX _ (.inr (.inr (.inr (.inr (.inr (.inr (.inl hx)))))))) (by omega) (by omega) (b:=qA (pa.map vI)++(qV ids++[])) (by simp only[List.length_append,jX];omega);refine(congrArg (fun z=>Option.bind z _) q3).trans ?_;simp only[ae];have p1:=vEm k9 (s0:=S) (b0:=(0,0,false)) (b3:=(t,to,decide ((bif ov then(1:Int) else 0)=1))) (r2:=[t,to,bif ov then 1 else 0,(ac.length:Int),(bi.length:Int),(mu.length:Int),(po.length:Int),(ho.length:Int),(pa.length:Int)]) (r4:=ac) (r5:=bi) (r6:=mu) (r7:=po) (r8:=pr) (r9:=ho) (b:=qV ids++[]) rfl (l:=pa) rfl (fun x hx=>aX _ (.inr (.inr (.inr (.inr (.inr (.inr (.inr (.inl (List.mem_map_of_mem hx)))))))))) (by omega) (by omega) (by simp only[List.length_append,jX];omega);refine(congrArg (fun z=>Option.bind z _) p1).trans ?_;simp only[ae];rw[J7 k9 (aX ids (.inr (.inr (.inr (.inr (.inr (.inr (.inr (.inr rfl))))))))) (by simp)];simp only[ae,aE,an];have Wz:decide ((bif ov then(1:Int) else 0)=1)=ov:=by cases ov<;>rfl
 rw[Wz];rw[show decide ((([]:AC).length:Int)>0)=false from rfl];simp only[an];refine(congrArg (fun z=>Option.bind z _) J3).trans ?_;simp only[ae];rw[show qa S S=true from by simp[qa]];rfl
theorem WJ x (s:Nat)(h:s≤62):shr .i64 x (s:Int)=x/2^s:=by
 have e:shr .i64 x (s:Int)=x.fdiv (2^(min (s:Int).toNat 64)):=rfl;grind
theorem rR x:shr .i64 x 16=x/65536:=WJ x 16 (by decide)
theorem yZi x:shr .i64 x 32=x/4294967296:=WJ x 32 (by decide)
theorem yK7 x:shr .i64 x 48=x/281474976710656:=WJ x 48 (by decide)
theorem vYo x:shr .i64 x 0=x:=by grind
theorem tU x:yJ .i64 x 65535=x%65536:=vIe 16 (by decide) x
theorem WK m (hm:m≤62){x y}(hx:0≤x)(hy:0≤y∧y<2^m)(hs:x*2^m+y<9223372036854775808):wD .i64 (x*2^m) y=x*2^m+y:=by
 obtain⟨a,rfl⟩:=Int.eq_ofNat_of_zero_le hx;obtain⟨b,rfl⟩:=Int.eq_ofNat_of_zero_le hy.1;have hp:(2:Int)^m=((2^m:Nat):Int):=by simp
 rw[hp] at hs hy⊢;have e1:(a:Int)*((2^m:Nat):Int)=((a*2^m:Nat):Int):=by simp
 rw[e1] at hs⊢;have hb:b<2^m:=by omega
 unfold wD sn;have Kh:IntKind.i64.bits=64:=rfl;have e2:(BitVec.ofInt IntKind.i64.bits ((a*2^m:Nat):Int)|||BitVec.ofInt IntKind.i64.bits (b:Int)).toNat=a*2^m+b:=by
  rw[BitVec.toNat_or,BitVec.ofInt_natCast,BitVec.ofInt_natCast,BitVec.toNat_ofNat,BitVec.toNat_ofNat,Kh,Nat.mod_eq_of_lt (by omega),Nat.mod_eq_of_lt (by omega)];have:=Nat.shiftLeft_add_eq_or_of_lt hb a;rw[Nat.shiftLeft_eq] at this;exact this.symm
 rw[e2];exact zO (by omega) (by omega)
def V9 (l0 l1 l2 l3 l4 l5 l6 l7 l8:Int):Int:=l0+65536*(l1+65536*(l2+65536*(l3+65536*(l4+65536*(l5+65536*(l6+65536*(l7+65536*l8)))))))
theorem vZa (l0 l1 l2 l3 l4 l5 l6 l7 l8:Int){c1 c2 c3 c4 c5 c6 c7 c8:Int}(h1:c1=zA (l1+shr .i64 l0 16))(h2:c2=zA (l2+shr .i64 c1 16))(h3:c3=zA (l3+shr .i64 c2 16))(h4:c4=zA (l4+shr .i64 c3 16))(h5:c5=zA (l5+shr .i64 c4 16))(h6:c6=zA (l6+shr .i64 c5 16))(h7:c7=zA (l7+shr .i64 c6 16))(h8:c8=zA (l8+shr .i64 c7 16)):
  FK 1000 [l0,l1,l2,l3,l4,l5,l6,l7,l8]=some [yJ .i64 l0 65535,yJ .i64 c1 65535,yJ .i64 c2 65535,yJ .i64 c3 65535,yJ .i64 c4 65535,yJ .i64 c5 65535,yJ .i64 c6 65535,yJ .i64 c7 65535,c8]:=by
 subst h8;subst h7;subst h6;subst h5;subst h4;subst h3;subst h2;subst h1
 kernel_rfl
theorem yYt {l0 l1 l2 l3 l4 l5 l6 l7 l8:Int}(g0:0≤l0∧l0≤1099511627776)(g1:0≤l1∧l1≤1099511627776)(g2:0≤l2∧l2≤1099511627776)(g3:0≤l3∧l3≤1099511627776)(g4:0≤l4∧l4≤1099511627776)(g5:0≤l5∧l5≤1099511627776)(g6:0≤l6∧l6≤1099511627776)(g7:0≤l7∧l7≤1099511627776)(g8:0≤l8∧l8≤1099511627776):∃d0 d1 d2 d3 d4 d5 d6 d7 d8,
  FK 1000 [l0,l1,l2,l3,l4,l5,l6,l7,l8]=some [d0,d1,d2,d3,d4,d5,d6,d7,d8]∧V9 d0 d1 d2 d3 d4 d5 d6 d7 d8=V9 l0 l1 l2 l3 l4 l5 l6 l7 l8∧(0≤d0∧d0<65536)∧(0≤d1∧d1<65536)∧(0≤d2∧d2<65536)∧(0≤d3∧d3<65536)∧(0≤d4∧d4<65536)∧(0≤d5∧d5<65536)∧(0≤d6∧d6<65536)∧(0≤d7∧d7<65536)∧0≤d8:=by
 obtain⟨c1,pc⟩:∃c,c=l1+l0/65536:=⟨_,rfl⟩;have b1:0≤c1∧c1≤2199023255552:=by omega
 have h1:c1=zA (l1+shr .i64 l0 16):=by rw[rR,←pc,zO (by omega) (by omega)]
 obtain⟨c2,dp⟩:∃c,c=l2+c1/65536:=⟨_,rfl⟩;have b2:0≤c2∧c2≤2199023255552:=by omega
 have h2:c2=zA (l2+shr .i64 c1 16):=by rw[rR,←dp,zO (by omega) (by omega)]
 obtain⟨c3,dU⟩:∃c,c=l3+c2/65536:=⟨_,rfl⟩;have b3:0≤c3∧c3≤2199023255552:=by omega
 have h3:c3=zA (l3+shr .i64 c2 16):=by rw[rR,←dU,zO (by omega) (by omega)]
 obtain⟨c4,gu⟩:∃c,c=l4+c3/65536:=⟨_,rfl⟩;have b4:0≤c4∧c4≤2199023255552:=by omega
 have h4:c4=zA (l4+shr .i64 c3 16):=by rw[rR,←gu,zO (by omega) (by omega)]
 obtain⟨c5,mi⟩:∃c,c=l5+c4/65536:=⟨_,rfl⟩;have b5:0≤c5∧c5≤2199023255552:=by omega
 have h5:c5=zA (l5+shr .i64 c4 16):=by rw[rR,←mi,zO (by omega) (by omega)]
 obtain⟨c6,C3⟩:∃c,c=l6+c5/65536:=⟨_,rfl⟩;have b6:0≤c6∧c6≤2199023255552:=by omega
 have h6:c6=zA (l6+shr .i64 c5 16):=by rw[rR,←C3,zO (by omega) (by omega)]
 obtain⟨c7,C4⟩:∃c,c=l7+c6/65536:=⟨_,rfl⟩;have b7:0≤c7∧c7≤2199023255552:=by omega
 have h7:c7=zA (l7+shr .i64 c6 16):=by rw[rR,←C4,zO (by omega) (by omega)]
 obtain⟨c8,hc8⟩:∃c,c=l8+c7/65536:=⟨_,rfl⟩;have b8:0≤c8∧c8≤2199023255552:=by omega
 have h8:c8=zA (l8+shr .i64 c7 16):=by rw[rR,←hc8,zO (by omega) (by omega)]
 have run:=vZa l0 l1 l2 l3 l4 l5 l6 l7 l8 h1 h2 h3 h4 h5 h6 h7 h8;simp only[tU] at run;refine⟨_,_,_,_,_,_,_,_,_,run,?_,⟨Int.emod_nonneg _ (by decide),Int.emod_lt_of_pos _ (by decide)⟩,⟨Int.emod_nonneg _ (by decide),Int.emod_lt_of_pos _ (by decide)⟩,⟨Int.emod_nonneg _ (by decide),Int.emod_lt_of_pos _ (by decide)⟩,⟨Int.emod_nonneg _ (by decide),Int.emod_lt_of_pos _ (by decide)⟩,⟨Int.emod_nonneg _ (by decide),Int.emod_lt_of_pos _ (by decide)⟩,⟨Int.emod_nonneg _ (by decide),Int.emod_lt_of_pos _ (by decide)⟩,⟨Int.emod_nonneg _ (by decide),Int.emod_lt_of_pos _ (by decide)⟩,⟨Int.emod_nonneg _ (by decide),Int.emod_lt_of_pos _ (by decide)⟩,b8.1⟩;unfold V9;clear run h1 h2 h3 h4 h5 h6 h7 h8;omega
theorem WL l0 l1 l2 l3 l4 l5 l6 l7 l8 n:ON 1000 [l0,l1,l2,l3,l4,l5,l6,l7,l8] n=FK 1000 [zA (l0*n),zA (l1*n),zA (l2*n),zA (l3*n),zA (l4*n),zA (l5*n),zA (l6*n),zA (l7*n),zA (l8*n)]:=by
 have e:OO 1000 1000 n 0 [l0,l1,l2,l3,l4,l5,l6,l7,l8]=some [zA (l0*n),zA (l1*n),zA (l2*n),zA (l3*n),zA (l4*n),zA (l5*n),zA (l6*n),zA (l7*n),zA (l8*n)]:=by kernel_rfl
 unfold ON;simp_all
theorem vVk l0 l1 l2 l3 l4 l5 l6 l7 l8 n:V9 l0 l1 l2 l3 l4 l5 l6 l7 l8*n=V9 (l0*n) (l1*n) (l2*n) (l3*n) (l4*n) (l5*n) (l6*n) (l7*n) (l8*n):=by
 unfold V9;grind
theorem vKf l0 l1 l2 l3 l4 l5 l6 l7 l8 {x0 x1 x2 x3 x4 x5 x6 x7 x8 r0 r1 r2 r3 r4 r5 r6 r7 r8 r9}(h8:x8=zA (shl .i64 r9 16+l8))(h7:x7=zA (shl .i64 r8 16+l7))(h6:x6=zA (shl .i64 r7 16+l6))(h5:x5=zA (shl .i64 r6 16+l5))(h4:x4=zA (shl .i64 r5 16+l4))(h3:x3=zA (shl .i64 r4 16+l3))(h2:x2=zA (shl .i64 r3 16+l2))(h1:x1=zA (shl .i64 r2 16+l1))(h0:x0=zA (shl .i64 r1 16+l0))(h9:r9=0)(k8:r8=Int.tmod x8 10000)(k7:r7=Int.tmod x7 10000)(k6:r6=Int.tmod x6 10000)(k5:r5=Int.tmod x5 10000)(k4:r4=Int.tmod x4 10000)(k3:r3=Int.tmod x3 10000)(k2:r2=Int.tmod x2 10000)(k1:r1=Int.tmod x1 10000)(k0:r0=Int.tmod x0 10000):
  Ki 1000 1000 10000 0 8 [l0,l1,l2,l3,l4,l5,l6,l7,l8]=some [zA (Int.tdiv x0 10000),zA (Int.tdiv x1 10000),zA (Int.tdiv x2 10000),zA (Int.tdiv x3 10000),zA (Int.tdiv x4 10000),zA (Int.tdiv x5 10000),zA (Int.tdiv x6 10000),zA (Int.tdiv x7 10000),zA (Int.tdiv x8 10000)]:=by
 subst h0;subst k1;subst h1;subst k2;subst h2;subst k3;subst h3;subst k4;subst h4;subst k5;subst h5;subst k6;subst h6;subst k7;subst h7;subst k8;subst h8;subst h9
 kernel_rfl
theorem tV x:shl .i64 x 16=zA (x*65536):=rfl
theorem vWv q0 q1 q2 q3 (h : decide (q3 ≥ 32768) = false) : ((FL 1000 1000 4 [q0,q1,q2,q3,0,0,0,0,0]).bind fun z1=>
 match z1 with
 | .inl z2 => bif zB 3 z2.length then (bif decide ((z2.getD 3 0)≥32768) then some ((0:Int),false)
   else bif zB 3 z2.length then (bif zB 2 z2.length then (bif zB 1 z2.length then (bif zB 0 z2.length then some ((wD .i64 (wD .i64 (wD .i64 (shl .i64 (z2.getD 3 0) 48) (shl .i64 (z2.getD 2 0) 32)) (shl .i64 (z2.getD 1 0) 16)) (z2.getD 0 0)),true)
      else none)
     else none)
    else none)
   else none)
  else none
 |.inr z3=>some (z3.1,z3.2))=some (wD .i64 (wD .i64 (wD .i64 (shl .i64 q3 48) (shl .i64 q2 32)) (shl .i64 q1 16)) q0,true):=by
  have e:FL 1000 1000 4 [q0,q1,q2,q3,0,0,0,0,0]=some (.inl [q0,q1,q2,q3,0,0,0,0,0]):=by rfl
  rw[e];simp only[ae];have e3:([q0,q1,q2,q3,0,0,0,0,0]:AC).getD 3 0=q3:=rfl;rw[e3,h];rfl
theorem WM {q0 q1 q2 q3}(h0:0≤q0∧q0<65536)(h1:0≤q1∧q1<65536)(h2:0≤q2∧q2<65536)(h3:0≤q3∧q3<32768):
  wD .i64 (wD .i64 (wD .i64 (shl .i64 q3 48) (shl .i64 q2 32)) (shl .i64 q1 16)) q0=q0+65536*(q1+65536*(q2+65536*q3)):=by
 have s3:shl .i64 q3 48=zA (q3*281474976710656):=rfl;have s2:shl .i64 q2 32=zA (q2*4294967296):=rfl;have s1:shl .i64 q1 16=zA (q1*65536):=rfl;rw[s3,s2,s1,zO (x:=q3*281474976710656) (by omega) (by omega),zO (x:=q2*4294967296) (by omega) (by omega),zO (x:=q1*65536) (by omega) (by omega)];have b1:=WK 48 (by decide) (x:=q3) (y:=q2*4294967296) h3.1 (by omega) (by omega);have p48:(2:Int)^48=281474976710656:=rfl;rw[p48] at b1;have b2:=WK 32 (by decide) (x:=q3*65536+q2) (y:=q1*65536) (by omega) (by omega) (by omega);have p32:(2:Int)^32=4294967296:=rfl;rw[p32] at b2;have b3:=WK 16 (by decide) (x:=(q3*65536+q2)*65536+q1) (y:=q0) (by omega) (by omega) (by omega);grind
theorem vKh {l0 l1 l2 l3 l4 l5 l6 l7 l8}(g0:0≤l0∧l0<65536)(g1:0≤l1∧l1<65536)(g2:0≤l2∧l2<65536)(g3:0≤l3∧l3<65536)(g4:0≤l4∧l4<65536)(g5:0≤l5∧l5<65536)(g6:0≤l6∧l6<65536)(g7:0≤l7∧l7<65536)(g8:0≤l8∧l8≤0)(hV:V9 l0 l1 l2 l3 l4 l5 l6 l7 l8/10000≤1152921504606846976):OP 1000 [l0,l1,l2,l3,l4,l5,l6,l7,l8] 10000=some (V9 l0 l1 l2 l3 l4 l5 l6 l7 l8/10000,true):=by
  obtain⟨r9,h9⟩:∃r:Int,r=0:=⟨_,rfl⟩;obtain⟨x8,hx8⟩:∃x,x=r9*65536+l8:=⟨_,rfl⟩;obtain⟨r8,hr8⟩:∃r,r=x8%10000:=⟨_,rfl⟩;obtain⟨q8,hq8⟩:∃q,q=x8/10000:=⟨_,rfl⟩;have v8:x8=10000*q8+r8∧0≤r8∧r8<10000∧0≤x8∧x8<655360000:=by omega
  have h8:x8=zA (shl .i64 r9 16+l8):=by rw[tV,zO (x:=r9*65536) (by omega) (by omega),←hx8,zO (by omega) (by omega)]
  have k8:r8=Int.tmod x8 10000:=by rw[Int.tmod_eq_emod_of_nonneg (by omega)];exact hr8
  have t8:zA (Int.tdiv x8 10000)=q8:=by rw[Int.tdiv_eq_ediv_of_nonneg (by omega),←hq8,zO (by omega) (by omega)]
  obtain⟨x7,hx7⟩:∃x,x=r8*65536+l7:=⟨_,rfl⟩;obtain⟨r7,hr7⟩:∃r,r=x7%10000:=⟨_,rfl⟩;obtain⟨q7,hq7⟩:∃q,q=x7/10000:=⟨_,rfl⟩;have v7:x7=10000*q7+r7∧0≤r7∧r7<10000∧0≤x7∧x7<655360000:=by omega
  have h7:x7=zA (shl .i64 r8 16+l7):=by rw[tV,zO (x:=r8*65536) (by omega) (by omega),←hx7,zO (by omega) (by omega)]
  have k7:r7=Int.tmod x7 10000:=by rw[Int.tmod_eq_emod_of_nonneg (by omega)];exact hr7
  have t7:zA (Int.tdiv x7 10000)=q7:=by rw[Int.tdiv_eq_ediv_of_nonneg (by omega),←hq7,zO (by omega) (by omega)]
  obtain⟨x6,MU⟩:∃x,x=r7*65536+l6:=⟨_,rfl⟩;obtain⟨r6,hr6⟩:∃r,r=x6%10000:=⟨_,rfl⟩;obtain⟨q6,hq6⟩:∃q,q=x6/10000:=⟨_,rfl⟩;have v6:x6=10000*q6+r6∧0≤r6∧r6<10000∧0≤x6∧x6<655360000:=by omega
  have h6:x6=zA (shl .i64 r7 16+l6):=by rw[tV,zO (x:=r7*65536) (by omega) (by omega),←MU,zO (by omega) (by omega)]
  have k6:r6=Int.tmod x6 10000:=by rw[Int.tmod_eq_emod_of_nonneg (by omega)];exact hr6
  have t6:zA (Int.tdiv x6 10000)=q6:=by rw[Int.tdiv_eq_ediv_of_nonneg (by omega),←hq6,zO (by omega) (by omega)]
  obtain⟨x5,hx5⟩:∃x,x=r6*65536+l5:=⟨_,rfl⟩;obtain⟨r5,hr5⟩:∃r,r=x5%10000:=⟨_,rfl⟩;obtain⟨q5,hq5⟩:∃q,q=x5/10000:=⟨_,rfl⟩;have v5:x5=10000*q5+r5∧0≤r5∧r5<10000∧0≤x5∧x5<655360000:=by omega
  have h5:x5=zA (shl .i64 r6 16+l5):=by rw[tV,zO (x:=r6*65536) (by omega) (by omega),←hx5,zO (by omega) (by omega)]
  have k5:r5=Int.tmod x5 10000:=by rw[Int.tmod_eq_emod_of_nonneg (by omega)];exact hr5
  have t5:zA (Int.tdiv x5 10000)=q5:=by rw[Int.tdiv_eq_ediv_of_nonneg (by omega),←hq5,zO (by omega) (by omega)]
  obtain⟨x4,hx4⟩:∃x,x=r5*65536+l4:=⟨_,rfl⟩;obtain⟨r4,hr4⟩:∃r,r=x4%10000:=⟨_,rfl⟩;obtain⟨q4,hq4⟩:∃q,q=x4/10000:=⟨_,rfl⟩;have v4:x4=10000*q4+r4∧0≤r4∧r4<10000∧0≤x4∧x4<655360000:=by omega
  have h4:x4=zA (shl .i64 r5 16+l4):=by rw[tV,zO (x:=r5*65536) (by omega) (by omega),←hx4,zO (by omega) (by omega)]
  have k4:r4=Int.tmod x4 10000:=by rw[Int.tmod_eq_emod_of_nonneg (by omega)];exact hr4
  have t4:zA (Int.tdiv x4 10000)=q4:=by rw[Int.tdiv_eq_ediv_of_nonneg (by omega),←hq4,zO (by omega) (by omega)]
  obtain⟨x3,WN⟩:∃x,x=r4*65536+l3:=⟨_,rfl⟩;obtain⟨r3,hr3⟩:∃r,r=x3%10000:=⟨_,rfl⟩;obtain⟨q3,hq3⟩:∃q,q=x3/10000:=⟨_,rfl⟩;have v3:x3=10000*q3+r3∧0≤r3∧r3<10000∧0≤x3∧x3<655360000:=by omega
  have h3:x3=zA (shl .i64 r4 16+l3):=by rw[tV,zO (x:=r4*65536) (by omega) (by omega),←WN,zO (by omega) (by omega)]
  have k3:r3=Int.tmod x3 10000:=by rw[Int.tmod_eq_emod_of_nonneg (by omega)];exact hr3
  have t3:zA (Int.tdiv x3 10000)=q3:=by rw[Int.tdiv_eq_ediv_of_nonneg (by omega),←hq3,zO (by omega) (by omega)]
  obtain⟨x2,Cy⟩:∃x,x=r3*65536+l2:=⟨_,rfl⟩;obtain⟨r2,qt⟩:∃r,r=x2%10000:=⟨_,rfl⟩;obtain⟨q2,hq2⟩:∃q,q=x2/10000:=⟨_,rfl⟩;have v2:x2=10000*q2+r2∧0≤r2∧r2<10000∧0≤x2∧x2<655360000:=by omega
  have h2:x2=zA (shl .i64 r3 16+l2):=by rw[tV,zO (x:=r3*65536) (by omega) (by omega),←Cy,zO (by omega) (by omega)]
  have k2:r2=Int.tmod x2 10000:=by rw[Int.tmod_eq_emod_of_nonneg (by omega)];exact qt
  have t2:zA (Int.tdiv x2 10000)=q2:=by rw[Int.tdiv_eq_ediv_of_nonneg (by omega),←hq2,zO (by omega) (by omega)]
  obtain⟨x1,dj⟩:∃x,x=r2*65536+l1:=⟨_,rfl⟩;obtain⟨r1,uL⟩:∃r,r=x1%10000:=⟨_,rfl⟩;obtain⟨q1,hq1⟩:∃q,q=x1/10000:=⟨_,rfl⟩;have v1:x1=10000*q1+r1∧0≤r1∧r1<10000∧0≤x1∧x1<655360000:=by omega
  have h1:x1=zA (shl .i64 r2 16+l1):=by rw[tV,zO (x:=r2*65536) (by omega) (by omega),←dj,zO (by omega) (by omega)]
  have k1:r1=Int.tmod x1 10000:=by rw[Int.tmod_eq_emod_of_nonneg (by omega)];exact uL
  have t1:zA (Int.tdiv x1 10000)=q1:=by rw[Int.tdiv_eq_ediv_of_nonneg (by omega),←hq1,zO (by omega) (by omega)]
  obtain⟨x0,WO⟩:∃x,x=r1*65536+l0:=⟨_,rfl⟩;obtain⟨r0,sH⟩:∃r,r=x0%10000:=⟨_,rfl⟩;obtain⟨q0,hq0⟩:∃q,q=x0/10000:=⟨_,rfl⟩;have v0:x0=10000*q0+r0∧0≤r0∧r0<10000∧0≤x0∧x0<655360000:=by omega
  have h0:x0=zA (shl .i64 r1 16+l0):=by rw[tV,zO (x:=r1*65536) (by omega) (by omega),←WO,zO (by omega) (by omega)]
  have k0:r0=Int.tmod x0 10000:=by rw[Int.tmod_eq_emod_of_nonneg (by omega)];exact sH
  have t0:zA (Int.tdiv x0 10000)=q0:=by rw[Int.tdiv_eq_ediv_of_nonneg (by omega),←hq0,zO (by omega) (by omega)]
  have run:=vKf l0 l1 l2 l3 l4 l5 l6 l7 l8 h8 h7 h6 h5 h4 h3 h2 h1 h0 h9 k8 k7 k6 k5 k4 k3 k2 k1 k0;rw[t0,t1,t2,t3,t4,t5,t6,t7,t8] at run;clear h0 k0 t0 h1 k1 t1 h2 k2 t2 h3 k3 t3 h4 k4 t4 h5 k5 t5 h6 k6 t6 h7 k7 t7 h8 k8 t8;have hv:10000*V9 q0 q1 q2 q3 q4 q5 q6 q7 q8+r0=V9 l0 l1 l2 l3 l4 l5 l6 l7 l8:=by unfold V9;omega
  have hq:V9 q0 q1 q2 q3 q4 q5 q6 q7 q8=V9 l0 l1 l2 l3 l4 l5 l6 l7 l8/10000:=by omega
  rw[←hq] at hV⊢;unfold V9 at hV;have z8:q8=0:=by omega
  have z7:q7=0:=by omega
  have z6:q6=0:=by omega
  have z5:q5=0:=by omega
  have z4:q4=0:=by omega
  have z3:q3<32768:=by omega
  rw[z4,z5,z6,z7,z8] at run;have eU:OP 1000 [l0,l1,l2,l3,l4,l5,l6,l7,l8] 10000=(Ki 1000 1000 10000 0 8 [l0,l1,l2,l3,l4,l5,l6,l7,l8]).bind fun z=>(FL 1000 1000 4 z).bind fun z1=>
   match z1 with
   | .inl z2 => bif zB 3 z2.length then (bif decide ((z2.getD 3 0)≥32768) then some ((0:Int),false)
     else bif zB 3 z2.length then (bif zB 2 z2.length then (bif zB 1 z2.length then (bif zB 0 z2.length then some ((wD .i64 (wD .i64 (wD .i64 (shl .i64 (z2.getD 3 0) 48) (shl .i64 (z2.getD 2 0) 32)) (shl .i64 (z2.getD 1 0) 16)) (z2.getD 0 0)),true)
        else none)
       else none)
      else none)
     else none)
    else none
   |.inr z3=>some (z3.1,z3.2):=rfl
  rw[eU,run];simp only[ae];refine(vWv q0 q1 q2 q3 (ab (by omega))).trans ?_;rw[WM ⟨by omega,by omega⟩ ⟨by omega,by omega⟩ ⟨by omega,by omega⟩ ⟨by omega,z3⟩];unfold V9;rw[z4,z5,z6,z7,z8];exact by simp
theorem vLl (a b x0 x1 x2 x3:Int):OQ 1000 1000 b 0 [x0,x1,x2,x3] [0,0,0,0,0,0,0,0,0]=some [zA (0+zA (x0*yJ .i64 (shr .i64 b 0) 65535)),zA (zA (0+zA (x0*yJ .i64 (shr .i64 b 16) 65535))+zA (x1*yJ .i64 (shr .i64 b 0) 65535)),zA (zA (zA (0+zA (x0*yJ .i64 (shr .i64 b 32) 65535))+zA (x1*yJ .i64 (shr .i64 b 16) 65535))+zA (x2*yJ .i64 (shr .i64 b 0) 65535)),zA (zA (zA (zA (0+zA (x0*yJ .i64 (shr .i64 b 48) 65535))+zA (x1*yJ .i64 (shr .i64 b 32) 65535))+zA (x2*yJ .i64 (shr .i64 b 16) 65535))+zA (x3*yJ .i64 (shr .i64 b 0) 65535)),zA (zA (zA (0+zA (x1*yJ .i64 (shr .i64 b 48) 65535))+zA (x2*yJ .i64 (shr .i64 b 32) 65535))+zA (x3*yJ .i64 (shr .i64 b 16) 65535)),zA (zA (0+zA (x2*yJ .i64 (shr .i64 b 48) 65535))+zA (x3*yJ .i64 (shr .i64 b 32) 65535)),zA (0+zA (x3*yJ .i64 (shr .i64 b 48) 65535)),0,0]:=by kernel_rfl
theorem vH3 {x0 x1 x2 x3 y0 y1 y2 y3}:(x0+65536*x1+4294967296*x2+281474976710656*x3)*(y0+65536*y1+4294967296*y2+281474976710656*y3)=V9 (x0*y0) (x0*y1+x1*y0) (x0*y2+x1*y1+x2*y0) (x0*y3+x1*y2+x2*y1+x3*y0) (x1*y3+x2*y2+x3*y1) (x2*y3+x3*y2) (x3*y3) 0 0:=by
 have row:∀x:Int,x*(y0+65536*y1+4294967296*y2+281474976710656*y3)=x*y0+65536*(x*y1)+4294967296*(x*y2)+281474976710656*(x*y3):=by grind
 rw[Int.add_mul,Int.add_mul,Int.add_mul,Int.mul_assoc,Int.mul_assoc,Int.mul_assoc,row,row,row,row];unfold V9;omega
theorem WQ {a b}(ha:0≤a∧a≤1048576)(hb:0≤b∧b≤1099511627776):∃d0 d1 d2 d3 d4 d5 d6 d7 d8,
  OR 1000 a b=some [d0,d1,d2,d3,d4,d5,d6,d7,d8]∧V9 d0 d1 d2 d3 d4 d5 d6 d7 d8=a*b∧(0≤d0∧d0<65536)∧(0≤d1∧d1<65536)∧(0≤d2∧d2<65536)∧(0≤d3∧d3<65536)∧(0≤d4∧d4<65536)∧(0≤d5∧d5<65536)∧(0≤d6∧d6<65536)∧(0≤d7∧d7<65536)∧d8=0:=by
 obtain⟨x0,WO⟩:∃z,z=a%65536:=⟨_,rfl⟩;have xe:0≤x0∧x0≤65535:=by omega
 obtain⟨x1,dj⟩:∃z,z=a/65536%65536:=⟨_,rfl⟩;have xf:0≤x1∧x1≤65535:=by omega
 obtain⟨x2,Cy⟩:∃z,z=a/4294967296%65536:=⟨_,rfl⟩;have xg:0≤x2∧x2≤65535:=by omega
 obtain⟨x3,WN⟩:∃z,z=a/281474976710656%65536:=⟨_,rfl⟩;have xh:0≤x3∧x3≤65535:=by omega
 obtain⟨y0,SD⟩:∃z,z=b%65536:=⟨_,rfl⟩;have xi:0≤y0∧y0≤65535:=by omega
 obtain⟨y1,Te⟩:∃z,z=b/65536%65536:=⟨_,rfl⟩;have xj:0≤y1∧y1≤65535:=by omega
 obtain⟨y2,Tf⟩:∃z,z=b/4294967296%65536:=⟨_,rfl⟩;have xk:0≤y2∧y2≤65535:=by omega
 obtain⟨y3,hy3⟩:∃z,z=b/281474976710656%65536:=⟨_,rfl⟩;have xl:0≤y3∧y3≤65535:=by omega
 have ea:a=x0+65536*x1+4294967296*x2+281474976710656*x3:=by omega
 have eb:b=y0+65536*y1+4294967296*y2+281474976710656*y3:=by omega
 have dg:OT 1000 a=some [x0,x1,x2,x3]:=by
  unfold OT;rw[rR,yZi,yK7,tU,tU,tU,tU,←WO,←dj,←Cy,←WN]
 have run:=vLl a b x0 x1 x2 x3;rw[vYo,rR,yZi,yK7,tU,tU,tU,tU,←SD,←Te,←Tf,←hy3] at run;have Ck:=vH3 (x0:=x0) (x1:=x1) (x2:=x2) (x3:=x3) (y0:=y0) (y1:=y1) (y2:=y2) (y3:=y3);rw[←ea,←eb] at Ck;have hm:=vX ha.1 ha.2 hb.1 hb.2;have m00:=vX xe.1 xe.2 xi.1 xi.2;have m01:=vX xe.1 xe.2 xj.1 xj.2;have m02:=vX xe.1 xe.2 xk.1 xk.2;have m03:=vX xe.1 xe.2 xl.1 xl.2;have m10:=vX xf.1 xf.2 xi.1 xi.2;have m11:=vX xf.1 xf.2 xj.1 xj.2;have m12:=vX xf.1 xf.2 xk.1 xk.2;have m13:=vX xf.1 xf.2 xl.1 xl.2;have m20:=vX xg.1 xg.2 xi.1 xi.2;have m21:=vX xg.1 xg.2 xj.1 xj.2;have m22:=vX xg.1 xg.2 xk.1 xk.2;have m23:=vX xg.1 xg.2 xl.1 xl.2;have m30:=vX xh.1 xh.2 xi.1 xi.2;have m31:=vX xh.1 xh.2 xj.1 xj.2;have m32:=vX xh.1 xh.2 xk.1 xk.2;have m33:=vX xh.1 xh.2 xl.1 xl.2;generalize x0*y0=WR at*
 generalize x0*y1=OU at*
 generalize x0*y2=Kj at*
 generalize x0*y3=FM at*
 generalize x1*y0=WS at*
 generalize x1*y1=OV at*
 generalize x1*y2=Kk at*
 generalize x1*y3=Kl at*
 generalize x2*y0=WT at*
 generalize x2*y1=OW at*
 generalize x2*y2=OX at*
 generalize x2*y3=OY at*
 generalize x3*y0=WU at*
 generalize x3*y1=WV at*
 generalize x3*y2=WW at*
 generalize x3*y3=WX at*
 rw[zO (x:=WR) (by omega) (by omega)] at run;rw[zO (x:=OU) (by omega) (by omega)] at run;rw[zO (x:=Kj) (by omega) (by omega)] at run;rw[zO (x:=FM) (by omega) (by omega)] at run;rw[zO (x:=WS) (by omega) (by omega)] at run;rw[zO (x:=OV) (by omega) (by omega)] at run;rw[zO (x:=Kk) (by omega) (by omega)] at run;rw[zO (x:=Kl) (by omega) (by omega)] at run;rw[zO (x:=WT) (by omega) (by omega)] at run;rw[zO (x:=OW) (by omega) (by omega)] at run;rw[zO (x:=OX) (by omega) (by omega)] at run;rw[zO (x:=OY) (by omega) (by omega)] at run;rw[zO (x:=WU) (by omega) (by omega)] at run;rw[zO (x:=WV) (by omega) (by omega)] at run;rw[zO (x:=WW) (by omega) (by omega)] at run;rw[zO (x:=WX) (by omega) (by omega)] at run;rw[zO (x:=0+WR) (by omega) (by omega)] at run;rw[zO (x:=0+OU) (by omega) (by omega)] at run;rw[zO (x:=0+Kj) (by omega) (by omega)] at run;rw[zO (x:=0+FM) (by omega) (by omega)] at run;rw[zO (x:=0+OU+WS) (by omega) (by omega)] at run;rw[zO (x:=0+Kj+OV) (by omega) (by omega)] at run;rw[zO (x:=0+FM+Kk) (by omega) (by omega)] at run;rw[zO (x:=0+Kl) (by omega) (by omega)] at run;rw[zO (x:=0+Kj+OV+WT) (by omega) (by omega)] at run;rw[zO (x:=0+FM+Kk+OW) (by omega) (by omega)] at run;rw[zO (x:=0+Kl+OX) (by omega) (by omega)] at run;rw[zO (x:=0+OY) (by omega) (by omega)] at run;rw[zO (x:=0+FM+Kk+OW+WU) (by omega) (by omega)] at run;rw[zO (x:=0+Kl+OX+WV) (by omega) (by omega)] at run;rw[zO (x:=0+OY+WW) (by omega) (by omega)] at run;rw[zO (x:=0+WX) (by omega) (by omega)] at run;obtain⟨d0,d1,d2,d3,d4,d5,d6,d7,d8,c1,c2,n0,n1,n2,n3,n4,n5,n6,n7,n8⟩:=yYt (l0:=0+WR) (l1:=0+OU+WS) (l2:=0+Kj+OV+WT) (l3:=0+FM+Kk+OW+WU) (l4:=0+Kl+OX+WV) (l5:=0+OY+WW) (l6:=0+WX) (l7:=0) (l8:=0) (by omega) (by omega) (by omega) (by omega) (by omega) (by omega) (by omega) (by omega) (by omega);refine⟨d0,d1,d2,d3,d4,d5,d6,d7,d8,?_,?_,n0,n1,n2,n3,n4,n5,n6,n7,?_⟩
 ·unfold OR;rw[dg];simp only[ae];rw[run];simp only[ae];rw[c1];rfl
 ·rw[c2,Ck];unfold V9;omega
 ·have:V9 d0 d1 d2 d3 d4 d5 d6 d7 d8=a*b:=by
   rw[c2,Ck];unfold V9;omega
  unfold V9 at this;omega
theorem WY {p m c:Int}(hp:0≤p∧p≤1048576)(hm:0≤m∧m≤1099511627776)(hc:0≤c∧c≤10000):OZ 1000 p m c=some (tI p m c,true):=by
 obtain⟨d0,d1,d2,d3,d4,d5,d6,d7,d8,e1,e2,n0,n1,n2,n3,n4,n5,n6,n7,n8⟩:=WQ hp hm;have xm:=vX hp.1 hp.2 hm.1 hm.2;have hn:0≤10000-c∧10000-c≤10000:=by omega
 have wn:zA (10000-c)=10000-c:=zO (by omega) (by omega);have hw:=yHk hp hm hc;unfold tI at hw⊢;have hpn:=vX xm.1 xm.2 hn.1 hn.2;have eV:=vVk d0 d1 d2 d3 d4 d5 d6 d7 d8 (10000-c);rw[e2] at eV;unfold OZ;rw[ab (show¬p<0 by omega),ab (show¬m<0 by omega),ab (show¬c<0 by omega),ab (show¬c>10000 by omega),e1,wn];simp only[an,ae];rw[WL];generalize 10000-c=n at*
 have u0:=vX n0.1 (show d0≤65535 by omega) hn.1 hn.2;have u1:=vX n1.1 (show d1≤65535 by omega) hn.1 hn.2;have u2:=vX n2.1 (show d2≤65535 by omega) hn.1 hn.2;have u3:=vX n3.1 (show d3≤65535 by omega) hn.1 hn.2;have u4:=vX n4.1 (show d4≤65535 by omega) hn.1 hn.2;have u5:=vX n5.1 (show d5≤65535 by omega) hn.1 hn.2;have u6:=vX n6.1 (show d6≤65535 by omega) hn.1 hn.2;have u7:=vX n7.1 (show d7≤65535 by omega) hn.1 hn.2;have u8:0≤d8*n∧d8*n≤0:=by rw[n8,Int.zero_mul];omega
 generalize d0*n=t0 at*
 generalize d1*n=t1 at*
 generalize d2*n=t2 at*
 generalize d3*n=t3 at*
 generalize d4*n=t4 at*
 generalize d5*n=t5 at*
 generalize d6*n=t6 at*
 generalize d7*n=t7 at*
 generalize d8*n=t8 at*
 rw[zO (x:=t0) (by omega) (by omega),zO (x:=t1) (by omega) (by omega),zO (x:=t2) (by omega) (by omega),zO (x:=t3) (by omega) (by omega),zO (x:=t4) (by omega) (by omega),zO (x:=t5) (by omega) (by omega),zO (x:=t6) (by omega) (by omega),zO (x:=t7) (by omega) (by omega),zO (x:=t8) (by omega) (by omega)];obtain⟨e0,e1,e2,e3,e4,e5,e6,e7,e8,f1,f2,k0,k1,k2,k3,k4,k5,k6,k7,k8⟩:=yYt (l0:=t0) (l1:=t1) (l2:=t2) (l3:=t3) (l4:=t4) (l5:=t5) (l6:=t6) (l7:=t7) (l8:=t8) (by omega) (by omega) (by omega) (by omega) (by omega) (by omega) (by omega) (by omega) (by omega);rw[f1];simp only[ae];rw[←eV] at f2;have z8:e8≤0:=by unfold V9 at f2;omega
 rw[vKh k0 k1 k2 k3 k4 k5 k6 k7 ⟨k8,z8⟩ (by rw[f2];exact hw.2),f2];rfl
theorem yM6 k x y:Km k x.1 x.2.1 x.2.2.1 x.2.2.2.1 x.2.2.2.2.1 x.2.2.2.2.2.1 x.2.2.2.2.2.2 y.1 y.2.1 y.2.2.1 y.2.2.2.1 y.2.2.2.2.1 y.2.2.2.2.2.1 y.2.2.2.2.2.2=some (jC x y):=by
 unfold Km jC;grind
theorem vOr k {a b}(ha:0≤a∧a≤4611686018427387904)(hb:0≤b∧b≤1152921504606846976):FN k a b=some (a+b,true):=by
 unfold FN;rw[zO (x:=a+b) (by omega) (by omega),zO (x:=9223372036854775807-b) (by omega) (by omega),ab (show¬a>9223372036854775807-b by omega),ab (show¬b<0 by omega)];simp
theorem vAv {sa pr h}(L:kx sa pr h):A7 1000 sa pr h=some (ot sa pr h,true):=by
 have h3:=L.n3;obtain ⟨s', g1, g2⟩ := yS (L := fun n i (v : Int) => Kn 1000 n sa pr h v i) (N := sa.length) (fun v => (.inl v : Int ⊕ Int × Bool)) (fun i v => v = qI (nq sa pr h) i) (fun n v _=>by
  show FO 1000 _ sa pr h v (sa.length:Int)=_;unfold FO;simp) (fun n i v hi hv=>by
  refine⟨v+nq sa pr h i,?_,by rw[hv];rfl⟩;show FO 1000 (Kn 1000 n) sa pr h v (i:Int)=_;unfold FO;have hw:=JD L hi;have hb:=Of (g:=nq sa pr h) (n:=i) (fun j hj=>JD L (by omega));have ed:sa.getD i (0,0)=sa.getD i tJ:=rfl;rw[aa (by grind),qC,qC,qC,aa hi,aa (show i<pr.length by rw[L.pl];exact hi),aa (show i<h.length by rw[L.hl];exact hi),aq,ed,WY (L.price i hi) (L.hold i hi) (L.cut i hi)];simp only[ae];have e:tI (pr.getD i 0) (h.getD i 0) (sa.getD i tJ).2=nq sa pr h i:=rfl;rw[e,vOr _ (by omega) hw,qE hi (by omega)];rfl) (n:=1000) (s:=0) (by omega) rfl
 unfold A7;rw[aa (show(pr.length:Int)=(sa.length:Int) by rw[L.pl]),aa (show(h.length:Int)=(sa.length:Int) by rw[L.hl]),g1,g2];rfl
theorem FP {α:Type}{d}(l:List α){i} h:l.getD i d=l[i]:=by
 simp_all
theorem Ko {X:Type}{L:Nat→Int→Option X}{N:Nat}{e}(bK:∀n,L (n+1) (N:Int)=some e)(aK:∀n i,i<N→L (n+1) (i:Int)=L n ((i+1:Nat):Int)){n}(hn:N<n):L n 0=some e:=by
 obtain⟨_,h,_⟩:=yS (L:=fun n i (_:Unit)=>L n i) (N:=N) (fun _=>e) (fun _ _=>True) (by grind) (fun n i _ hi _=>⟨(),by grind,trivial⟩) (n:=n) (s:=()) hn trivial;exact h
theorem tW {k l}(hk:l.length<k)(hl:qT l) id:nu k l id=some (g9 l id):=by
 unfold qT at hl;unfold nu;rw[N1 hk (by omega)];unfold kt g9;cases hp:vS l id with
 |none=>rfl
 |some x=>
  have hx:=(ku hp).1;have e1:decide ((x:Int)<0)=false:=ab (by omega);have e2:decide ((0:Int)≤(x:Int))=true:=by simp
  have e3:decide ((x:Int)≤(l.length:Int))=true:=aa (by omega);have e4:decide ((0:Int)≤((x+1:Nat):Int))=true:=aa (by omega);have e5:decide (((x+1:Nat):Int)≤(l.length:Int))=true:=aa (by omega);have l1:=List.length_take_le x l;have l2:(l.drop (x+1)).length≤l.length:=by rw[List.length_drop];omega
  have e6:zN (0+(l.take x).length) 56=true:=qH (by omega) (by omega);have e7:zN ((l.take x).length+(l.drop (x+1)).length) 56=true:=qH (by omega) (by omega);simp only[ae,e3,e5,qE hx (show l.length<9223372036854775808 by omega),qC,aa hx,aq,e6,e7];rfl
theorem WZ (q p:zH):jl q p= !jC p q:=by
 unfold jl jC;rcases Int.lt_trichotomy q.2.1 p.2.1 with h|h|h
 ·have h1:¬p.2.1<q.2.1:=by omega
  have h2:¬p.2.1=q.2.1:=by omega
  simp[h,h1,h2]
 ·rcases Int.lt_trichotomy q.2.2.2.2.1 p.2.2.2.2.1 with g|g|g
  ·have g1:¬p.2.2.2.2.1≤q.2.2.2.2.1:=by omega
   simp[h,g,g1]
  ·simp[h,g]
  ·have g1:¬q.2.2.2.2.1<p.2.2.2.2.1:=by omega
   have g2:p.2.2.2.2.1≤q.2.2.2.2.1:=by omega
   simp[h,g1,g2]
 ·have h1:¬q.2.1<p.2.1:=by omega
  have h2:¬q.2.1=p.2.1:=by omega
  simp[h,h1,h2]
theorem O0 {k}{l:List zH}(hl:l.length≤1000){x}(hx:x≤l.length) y:A8 k l x y.1 y.2.1 y.2.2.1 y.2.2.2.1 y.2.2.2.2.1 y.2.2.2.2.2.1 y.2.2.2.2.2.2=some (l.take x++(y::l.drop x)):=by
 unfold A8;have e1:(decide (0≤(x:Int))&&decide ((x:Int)≤((l.length:Nat):Int)))=true:=by simp_all
 have e2:zN (0+(l.take x).length) 56=true:=qH (by grind) (by grind);have e3:zN ((l.take x).length+1) 56=true:=qH (by grind) (by grind);rw[e1,aq,e2,e3];have e4:zN ((l.take x++[(y.1,(y.2.1,(y.2.2.1,(y.2.2.2.1,(y.2.2.2.2.1,(y.2.2.2.2.2.1,y.2.2.2.2.2.2))))))]).length+(l.drop x).length) 56=true:=qH (by grind) (by grind);grind
theorem W0 {k}{l:List zH}(hk:l.length<k)(hl:l.length≤1000) y:FQ k l y.1 y.2.1 y.2.2.1 y.2.2.2.1 y.2.2.2.2.1 y.2.2.2.2.2.1 y.2.2.2.2.2.2=some (((l.takeWhile (fun q=>jC q y)).length:Nat):Int):=by
 have := EG (L := fun n i => FR k n l i y.1 y.2.1 y.2.2.1 y.2.2.2.1 y.2.2.2.2.1 y.2.2.2.2.2.1 y.2.2.2.2.2.2) (N := l.length) (fun x => jC (l.getD x pd) y) (fun i => (i : Int)) (fun n=>by
  show FT k _ l l.length _ _ _ _ _ _ _=_;unfold FT;simp) (fun n i hi=>by
  show FT k _ l i _ _ _ _ _ _ _=_;unfold FT;have h1:=yM6 k (l.getD i pd) y;simp only[qC,qU,aq,aa hi,aj,h1,ae,qE hi (by grind)]
  ) l.length 0 k (by omega) hk
 have e:((0:Nat):Int)=0:=rfl;unfold FQ;have h':FR k k l 0 y.1 y.2.1 y.2.2.1 y.2.2.2.1 y.2.2.2.2.1 y.2.2.2.2.2.1 y.2.2.2.2.2.2=_:=this;rw[h',EH (fun q=>jC q y) l pd l.length 0 (by omega),List.drop_zero,Nat.zero_add];rfl
theorem vWt {k:Nat}{l:List zH}(hk:l.length<k)(hl:l.length≤1000)(p:zH):
  A9 k l p.1 p.2.1 p.2.2.1 p.2.2.2.1 p.2.2.2.2.1 p.2.2.2.2.2.1 p.2.2.2.2.2.2=some (bif (vS l p.1).isSome then(l,6) else bif decide (40≤l.length) then(l,3) else(oh l p,0)):=by
 unfold A9;rw[N1 hk (by omega)];unfold kt;cases hp:vS l p.1 with
 |some x=>
  have e1:decide ((x:Int)≥0)=true:=aa (by omega);simp only[ae,e1,aj,Option.isSome_some]
 |none=>
  have e1:decide ((-1:Int)≥0)=false:=rfl;simp only[ae,e1,an,Option.isSome_none];by_cases h:40≤l.length
  ·rw[aa h,aa (show(l.length:Int)≥40 by omega)];rfl
  ·rw[ab h,ab (show¬(l.length:Int)≥40 by omega)];simp only[an];rw[W0 hk hl p];simp only[ae];rw[O0 hl (AM _ l) p,(np _ l).1,(np _ l).2];rfl
theorem vJ1 {k l}(bL:l.length<k)(hl:qT l){id x}(hx:vS l id=some x) c:
  Kp k l id c=some (oh (yC l x) ((l.getD x pd).1,(l.getD x pd).2.1,(l.getD x pd).2.2.1,(l.getD x pd).2.2.2.1,c,(l.getD x pd).2.2.2.2.2.1,(l.getD x pd).2.2.2.2.2.2),0):=by
 have dj:=ku hx;have hlen:=nn dj.1;have dK:=hl;unfold qT at dK;unfold Kp;rw[tW bL hl];unfold g9;rw[hx];simp only[ae];have h1:=W0 (k:=k) (l:=yC l x) (by omega) (by omega) ((l.getD x pd).1,(l.getD x pd).2.1,(l.getD x pd).2.2.1,(l.getD x pd).2.2.2.1,c,(l.getD x pd).2.2.2.2.2.1,(l.getD x pd).2.2.2.2.2.2);rw[h1];simp only[ae];have h2:=O0 (k:=k) (l:=yC l x) (by omega) (AM (fun q=>jC q ((l.getD x pd).1,(l.getD x pd).2.1,(l.getD x pd).2.2.1,(l.getD x pd).2.2.2.1,c,(l.getD x pd).2.2.2.2.2.1,(l.getD x pd).2.2.2.2.2.2)) (yC l x)) ((l.getD x pd).1,(l.getD x pd).2.1,(l.getD x pd).2.2.1,(l.getD x pd).2.2.2.1,c,(l.getD x pd).2.2.2.2.2.1,(l.getD x pd).2.2.2.2.2.2);rw[h2,(np _ (yC l x)).1,(np _ (yC l x)).2];rfl
theorem W1 {k l}(bL:l.length<k)(hl:qT l){id x}(hx:vS l id=some x):
  Kq k l id=some (oh (yC l x) (l.getD x pd),0):=by
 have dj:=ku hx;have hlen:=nn dj.1;have dK:=hl;unfold qT at dK;unfold Kq;rw[tW bL hl];unfold g9;rw[hx];simp only[ae];rw[W0 (k:=k) (l:=yC l x) (by omega) (by omega) (l.getD x pd)];simp only[ae];rw[O0 (k:=k) (l:=yC l x) (by omega) (AM (fun q=>jC q (l.getD x pd)) (yC l x)) (l.getD x pd),(np _ (yC l x)).1,(np _ (yC l x)).2];rfl
theorem vJb {k l}(bL:l.length<k)(hl:qT l){id x}(hx:vS l id=some x):
  Kr k l id=some (Jv (yC l x) (l.getD x pd),0):=by
 have dj:=ku hx;have hlen:=nn dj.1;have dK:=hl;unfold qT at dK;have pE:∀(l:List zH),l.length<k→l.length≤1000→∀p:zH,Ks k k l 0 p=some (l,(((l.takeWhile (fun q=>jl q p)).length:Nat):Int),p):=by
  intro l bL hl p;have := EG (L := fun n i => Ks k n l i p) (N := l.length) (fun x => jl (l.getD x pd) p) (fun i => (l, (i : Int), p)) (fun n=>by
   show FU k _ l l.length p=_;unfold FU;simp) (fun n i hi=>by
   show FU k _ l i p=_;unfold FU;have h1:=yM6 k p (l.getD i pd);simp only[qC,qU,aq,aa hi,h1,qE hi (by grind),WZ];rfl) l.length 0 k (by omega) bL
  have e:((0:Nat):Int)=0:=rfl;rw[e] at this;rw[this,EH (fun q=>jl q p) l pd l.length 0 (by omega),List.drop_zero,Nat.zero_add]
 unfold Kr;rw[tW bL hl];unfold g9;rw[hx];have h1:=pE (yC l x) (by omega) (by omega) (l.getD x pd);refine(congrArg (fun z=>Option.bind z _) h1).trans ?_;simp only[ae];rw[O0 (k:=k) (l:=yC l x) (by omega) (AM (fun q=>jl q (l.getD x pd)) (yC l x)) (l.getD x pd),(np _ (yC l x)).1,(np _ (yC l x)).2];rfl
theorem vH8 {k:Nat}{l:AC}(hk:l.length<k)(hl:l.length≤1000)(id:Int):O1 k l id=some (decide (id∈l)):=by
 have := mn (L := fun n i => FV k n l id i) (N := l.length) (fun i => !decide (l.getD i 0 = id)) (.inl ()) (.inr true) (fun n=>by
  show FW k _ l id l.length=_;unfold FW;rw [ab (Int.lt_irrefl _)]; rfl) (fun n i hi=>by
  show FW k (FV k n) l id i=_;unfold FW;rw[aa (show(i:Int)<l.length by omega),qC,aa hi,aq,qE hi (by omega)];cases decide (l.getD i 0=id)<;>rfl) hk
 unfold O1;have h':FV k k l id 0=_:=this;rw[h'];have e:qG (fun i=> !decide (l.getD i 0=id)) l.length 0= !decide (id∈l):=by
  by_cases hm:id∈l
  ·rw[aa hm];cases ha:qG (fun i=> !decide (l.getD i 0=id)) l.length 0 with
   |false=>rfl
   |true=>
    obtain⟨i,hi,e⟩:=List.getElem_of_mem hm;have:=gw.1 ha i hi;rw[FP l hi,e] at this;simp at this
  ·rw[ab hm];refine gw.2 fun i hi=>?_
   rw[ab (show¬l.getD i 0=id from fun e=>hm (by rw[←e];exact jQ hi))];rfl
 rw[e];cases decide (id∈l)<;>rfl
theorem vU0 {k:Nat}{l:AC}(hk:l.length<k)(hl:l.length≤1000)(id:Int):
  Ba k l id=some (bif decide (id∈l) then(l,6) else bif decide (200≤l.length) then(l,3) else(py l id,0)):=by
 unfold Ba;rw[vH8 hk hl];simp only[ae];by_cases hm:id∈l
 ·rw[aa hm];rfl
 ·rw[ab hm];simp only[an];by_cases h:200≤l.length
  ·rw[aa h,aa (show(l.length:Int)≥200 by omega)];rfl
  ·rw[ab h,ab (show¬(l.length:Int)≥200 by omega)];have := EG (L := fun n i => Kt k n l id i) (N := l.length) (fun x => decide (l.getD x 0 < id)) (fun i => (l, id, (i : Int))) (fun n=>by
    show FX k _ l id l.length=_;unfold FX;simp only [qU, ab (Nat.lt_irrefl _), an]) (fun n i hi=>by
    show FX k _ l id i=_;unfold FX;simp only[qC,qU,aq,aa hi,aj,qE hi (show l.length<9223372036854775808 by omega)];rfl) l.length 0 k (by omega) hk
   have e:((0:Nat):Int)=0:=rfl;rw[e,EH (fun x=>decide (x<id)) l 0 l.length 0 (by omega),List.drop_zero,Nat.zero_add] at this;have h':Kt k k l id 0=_:=this;simp only[an];rw[h'];have hn:=AM (fun x=>decide (x<id)) l;obtain⟨t1,t2⟩:=np (fun x=>decide (x<id)) l;have e1:(decide (0≤(((l.takeWhile (fun x=>decide (x<id))).length:Nat):Int))&&decide ((((l.takeWhile (fun x=>decide (x<id))).length:Nat):Int)≤((l.length:Nat):Int)))=true:=by simp;exact hn
   have hd:=(List.dropWhile_sublist (fun x=>decide (x<id)) (l:=l)).length_le;simp only[ae,e1,aj,aq,t1,t2];rw[qH (n:=0+(l.takeWhile (fun x=>decide (x<id))).length) (by omega) (by omega),qH (n:=(l.takeWhile (fun x=>decide (x<id))).length+1) (by omega) (by omega),qH (n:=(l.takeWhile (fun x=>decide (x<id))++[id]).length+(l.dropWhile (fun x=>decide (x<id))).length) (by rw[List.length_append];simp;omega) (by rw[List.length_append];simp;omega)];simp only[aj];unfold py;simp
abbrev vYx:=Int×List oq×Int×Int×Int×Int×List qY×jE×AC×jE×AC×jE×List zH×AC×Int×Bool×Int
def gf (r:qL)(s:zZ)(who:Int):vYx:=(r.1,r.2.1,r.2.2.1,r.2.2.2.1,r.2.2.2.2,s.t,s.B.1,s.B.2.1,s.B.2.2.1,s.B.2.2.2,s.pr,s.ho,s.m,s.ids,s.to,s.ov,who)
def O2 (s:zZ)(i:Nat)(a:qY)(to:Int):zZ:={s with B:=(s.B.1.set i a,s.B.2.1,s.B.2.2.1,s.B.2.2.2),to:=to}
def Ku (s:zZ)(i:Nat)(n:Int):Int×zZ:=
 bif decide ((s.B.1.getD i ad).1+(s.B.1.getD i ad).2.1-(s.B.1.getD i ad).2.2<n) then(9,s)
 else bif decide (s.to-n<0) then(9,s)
 else bif !decide ((jO (s.B.1.getD i ad) (-n)).2=0) then((jO (s.B.1.getD i ad) (-n)).2,s)
 else bif decide (s.to-n>1152921504606846976) then(8,s)
 else(0,O2 s i (jO (s.B.1.getD i ad) (-n)).1 (s.to-n))
def Kv (s:zZ)(i:Nat)(n:Int):Int×zZ:=
 bif !decide ((jO (s.B.1.getD i ad) n).2=0) then((jO (s.B.1.getD i ad) n).2,s)
 else bif decide (s.to+n>1152921504606846976) then(8,s)
 else(0,O2 s i (jO (s.B.1.getD i ad) n).1 (s.to+n))
def kE (r:qL)(s:zZ)(kd to n:Int):Int×zZ:=
 bif !(decide (to≥0)&&decide (to≤r.1-1)) then(1,s)
 else bif !(decide (n≥1)&&decide (n≤1099511627776)) then(1,s)
 else bif decide (kd=11) then Ku s to.toNat n else Kv s to.toNat n
theorem vVe {k}(hk:1000≤k){r}(hr:jB r){s}(h:yE r s) who kd to n:
    ∃d,FY k (gf r s who) kd to n=some ((kE r s kd to n).1,d)∧((kE r s kd to n).1=0→d=dk r (kE r s kd to n).2 who []):=by
  have hp:=hr.pa;have hn:=h.n;have ht:=h.tot;have w1:zA (r.1-1)=r.1-1:=zO (by omega) (by omega);have eD:FY k (gf r s who) kd to n=(vH k to 0 (zA (r.1-1))).bind fun x0=>
    bif !x0 then some (1,dk r s who [])
    else(vH k n 1 1099511627776).bind fun x1=>
    bif !x1 then some (1,dk r s who [])
    else bif zB to s.B.1.length then ((FZ k (s.B.1.getD to.toNat (0,0,0)) n).bind fun x2=>
      bif decide (kd = 11) then ((F0 k (s.B.1.getD to.toNat (0,0,0)) n 3).bind fun x3=>
       (F1 k (s.B.1.getD to.toNat (0,0,0)) 3).bind fun x4=>
       bif decide (x4<n) then some (9,dk r s who [])
       else bif decide ((zA (s.to-n))<0) then some (9,dk r s who [])
       else bif !(decide (x3.2=0)) then some (x3.2,dk r s who [])
       else bif decide ((zA (s.to-n))>1152921504606846976) then some (8,dk r s who [])
       else(gb k s.B.1 s.B.2.1 s.B.2.2.1 s.B.2.2.2).bind fun x5=>
       bif zB to x5.1.length then some (0,dk r {s with B:=(x5.1.set to.toNat x3.1,x5.2.1,x5.2.2.1,x5.2.2.2),to:=zA (s.to-n)} who [])
       else none)
      else bif !(decide (x2.2=0)) then some (x2.2,dk r s who [])
      else bif decide ((zA (s.to+n))>1152921504606846976) then some (8,dk r s who [])
      else(gb k s.B.1 s.B.2.1 s.B.2.2.1 s.B.2.2.2).bind fun x6=>
      bif zB to x6.1.length then some (0,dk r {s with B:=(x6.1.set to.toNat x2.1,x6.2.1,x6.2.2.1,x6.2.2.2),to:=zA (s.to+n)} who [])
      else none)
    else none:=rfl
  rw[eD,w1,mA,mA,IU (by omega) h.bk.toSized];simp only[ae];unfold kE;cases hc:decide (to≥0)&&decide (to≤r.1-1) with
  |false=>exact by simp
  |true=>
  simp only[bb,aY] at hc;cases hm:decide (n≥1)&&decide (n≤1099511627776) with
  |false=>exact by simp
  |true=>
  simp only[bb,aY] at hm;obtain⟨i,rfl⟩:=Int.eq_ofNat_of_zero_le hc.1;have hi:i<s.B.1.length:=by omega
  have hb:=h.bk.nums.bal i hi;have kj:=h.bk.nums.res i hi;have hcr:=h.most i hi;have W2:0≤(s.B.1.getD i ad).2.1:=by rw[h.cred i hi];exact EW (h.laid i hi)
  have b0:zB (i:Int) s.B.1.length=true:=by rw[qC,aa hi]
  have Kw:FZ k (s.B.1.getD i (0,0,0)) n=some (jO (s.B.1.getD i ad) n):=by
    unfold FZ;rw[yEv hb (by omega)];rfl
  have Kx:F0 k (s.B.1.getD i (0,0,0)) n 3=some (jO (s.B.1.getD i ad) (-n)):=by
    unfold F0;rw[show zA (0-n)= -n by rw[zO (by omega) (by omega)];omega,yEv hb (by omega)];simp
  have xn:F1 k (s.B.1.getD i (0,0,0)) 3=some ((s.B.1.getD i ad).1+(s.B.1.getD i ad).2.1-(s.B.1.getD i ad).2.2):=by
    unfold F1;have d1:decide ((3:Int)=3)=true:=rfl;rw[d1,aj];have q1:zA ((s.B.1.getD i (0,0,0)).1+(s.B.1.getD i (0,0,0)).2.1)=(s.B.1.getD i ad).1+(s.B.1.getD i ad).2.1:=zO (by simp only[ad] at*;omega) (by simp only[ad] at*;omega);rw[q1];exact congrArg some (zO (by simp only[ad] at*;omega) (by simp only[ad] at*;omega))
  have q2:zA (s.to-n)=s.to-n:=zO (by omega) (by omega);have q3:zA (s.to+n)=s.to+n:=zO (by omega) (by omega);simp only[aE,an,b0,aj,aq,Kw,Kx,xn,ae,q2,q3];clear Kw Kx xn eD;cases decide (kd=11) with
  |true=>
    simp only[aj];unfold Ku;cases decide ((s.B.1.getD i ad).1+(s.B.1.getD i ad).2.1-(s.B.1.getD i ad).2.2<n) with
    |true=>exact by simp
    |false=>
    cases decide (s.to-n<0) with
    |true=>exact by simp
    |false=>
    cases hz:decide ((jO (s.B.1.getD i ad) (-n)).2=0) with
    |false=>exact by simp
    |true=>
    cases decide (s.to-n>1152921504606846976) with
    |true=>exact by simp
    |false=>exact⟨_,rfl,fun _=>rfl⟩
  |false=>
    simp only[an];unfold Kv;cases hz:decide ((jO (s.B.1.getD i ad) n).2=0) with
    |false=>exact by simp
    |true=>
    cases decide (s.to+n>1152921504606846976) with
    |true=>exact by simp
    |false=>exact⟨_,rfl,fun _=>rfl⟩
def gg (sa:List oq)(pr:AC)(ho:jE)(j:Nat):Int:=ot sa pr (ho.getD j [])
def tX (sa:List oq)(pr:AC)(ho:jE)(a:List qY):List qY:=(List.range a.length).map fun j=>((a.getD j ad).1,gg sa pr ho j,(a.getD j ad).2.2)
def F2 (r:qL)(s:zZ)(pr:AC):Int×zZ:=
 bif qG (fun j=> !decide (gg r.2.1 pr s.ho j>1152921504606846976)) s.B.1.length 0 then(0,{s with B:=(tX r.2.1 pr s.ho s.B.1,s.B.2.1,s.B.2.2.1,s.B.2.2.2),pr:=pr}) else(8,s)
def kF (r:qL)(s:zZ)(a p:Int):Int×zZ:=
 bif !(decide (a≥0)&&decide (a≤(r.2.1.length:Int)-1)) then(1,s)
 else bif !(decide (p≥0)&&decide (p≤1048576)) then(1,s)
 else F2 r s (s.pr.set a.toNat p)
theorem W3 sa pr ho a:(tX sa pr ho a).length=a.length:=by simp[tX]
theorem W4 sa pr ho a {j}(hj:j<a.length):(tX sa pr ho a).getD j ad=((a.getD j ad).1,gg sa pr ho j,(a.getD j ad).2.2):=by
 unfold tX;simp_all
theorem vZc {k:Nat}(hk:1000≤k){r:qL}{s:zZ}(who:Int){pr:AC}(hL:∀i,i<s.B.1.length→kx r.2.1 pr (s.ho.getD i []))(hol:s.ho.length=s.B.1.length)(gD:s.B.1.length≤6):
  (qG (fun j=> !decide (gg r.2.1 pr s.ho j>1152921504606846976)) s.B.1.length 0=true∧tY k k s.ho s.ho.length 0 (gf r s who) pr s.B.1 s.B.2.1 s.B.2.2.1 s.B.2.2.2=some (.inl (gf r s who,pr,tX r.2.1 pr s.ho s.B.1,s.B.2.1,s.B.2.2.1,s.B.2.2.2)))∨
  (qG (fun j=> !decide (gg r.2.1 pr s.ho j>1152921504606846976)) s.B.1.length 0=false∧tY k k s.ho s.ho.length 0 (gf r s who) pr s.B.1 s.B.2.1 s.B.2.2.1 s.B.2.2.2=some (.inr (8,gf r s who))):=by
 rw[hol];have:=NJ (L:=fun n i (a:List qY)=>tY k n s.ho s.B.1.length i (gf r s who) pr a s.B.2.1 s.B.2.2.1 s.B.2.2.2) (N:=s.B.1.length) (fun j=> !decide (gg r.2.1 pr s.ho j>1152921504606846976))
  (fun a=>.inl (gf r s who,pr,a,s.B.2.1,s.B.2.2.1,s.B.2.2.2)) (.inr (8,gf r s who))
  (fun i a => a.length = s.B.1.length ∧ ∀ j, j < s.B.1.length → a.getD j ad = if j < i then ((s.B.1.getD j ad).1, gg r.2.1 pr s.ho j, (s.B.1.getD j ad).2.2) else s.B.1.getD j ad) (fun n a _=>by
   show F3 k _ s.ho s.B.1.length s.B.1.length (gf r s who) pr a s.B.2.1 s.B.2.2.1 s.B.2.2.2=_;unfold F3;simp only [qU, ab (Nat.lt_irrefl _), an]) (fun n i a hi ha=>by
   have hv:=V2 (k:=k) (hL i hi) (by omega);have aK:tY k (n+1) s.ho s.B.1.length i (gf r s who) pr a s.B.2.1 s.B.2.2.1 s.B.2.2.2=bif decide (gg r.2.1 pr s.ho i>1152921504606846976) then some (.inr (8,gf r s who)) else tY k n s.ho s.B.1.length ((i+1:Nat):Int) (gf r s who) pr (a.set i ((a.getD i ad).1,gg r.2.1 pr s.ho i,(a.getD i ad).2.2)) s.B.2.1 s.B.2.2.1 s.B.2.2.2:=by
    show F3 k _ s.ho s.B.1.length i (gf r s who) pr a s.B.2.1 s.B.2.2.1 s.B.2.2.2=_;unfold F3;have iq:rL k (gf r s who).2.1 pr (s.ho.getD i [])=some (gg r.2.1 pr s.ho i,true):=hv;simp only[qU,qC,aq,aa hi,aa (show i<s.ho.length by omega),aa (show i<a.length by rw[ha.1];exact hi),aj,iq,ae,aE,an,qE hi (show s.B.1.length<9223372036854775808 by omega)];rfl
   refine⟨fun ho=>?_,fun ho=>?_⟩
   ·have h1:decide (gg r.2.1 pr s.ho i>1152921504606846976)=false:=by simpa using ho
    refine⟨_,by rw[aK,h1];rfl,by rw[List.length_set];exact ha.1,fun j hj=>?_⟩;rw[fj];by_cases e:i=j
    ·subst e;rw[if_pos ⟨rfl,by rw[ha.1];exact hi⟩,if_pos (by omega),ha.2 i hi,if_neg (Nat.lt_irrefl _)]
    ·rw[if_neg (by omega),ha.2 j hj];by_cases h:j<i
     ·rw[if_pos h,if_pos (by omega)]
     ·rw[if_neg h,if_neg (by omega)]
   ·have h1:decide (gg r.2.1 pr s.ho i>1152921504606846976)=true:=by simpa using ho
    rw[aK,h1];rfl) s.B.1.length 0 k s.B.1 (by omega) (by omega) ⟨rfl,fun j _=>by rw[if_neg (Nat.not_lt_zero _)]⟩
 rcases this with⟨h1,a,h2,h3,h4⟩|⟨h1,h2⟩
 ·refine .inl ⟨h1,?_⟩;have e:a=tX r.2.1 pr s.ho s.B.1:=Db ad (by rw[h3,W3]) fun j hj=>by
   rw[h3] at hj;rw[h4 j hj,if_pos hj,W4 _ _ _ _ hj]
  rw[←e];exact h2
 ·exact .inr ⟨h1,h2⟩
theorem vEd {k:Nat}(hk:1000≤k){r:qL}(hr:jB r){s:zZ}(h:yE r s)(who a p:Int):
  ∃d,O3 k (gf r s who) a p=some ((kF r s a p).1,d)∧((kF r s a p).1=0→d=dk r (kF r s a p).2 who []):=by
 have h3:=hr.n3;have gD:=h.bk.n6;have mh:=h.bk.n1;have w1:zA ((r.2.1.length:Int)-1)=(r.2.1.length:Int)-1:=zO (by omega) (by omega);have eD:O3 k (gf r s who) a p=((vH k a 0 (zA ((r.2.1.length:Int)-1))).bind fun x0=>some x0).bind fun x0=>
  bif !x0 then some (1,dk r s who [])
  else(vH k p 0 1048576).bind fun x1=>
  bif !x1 then some (1,dk r s who [])
  else(pA k s.pr a p).bind fun x2=>
  (gb k s.B.1 s.B.2.1 s.B.2.2.1 s.B.2.2.2).bind fun x3=>
  (tY k k s.ho (s.ho.length:Int) 0 (gf r s who) x2 x3.1 x3.2.1 x3.2.2.1 x3.2.2.2).bind fun z=>
  match z with
  |.inl z1=>some (0,(jF z1.1 (Bb z1 (z1.2.1,(W5 z1.1 [])))))
  |.inr z2=>some (jL z2 []):=rfl
 rw[eD,w1,mA,mA,IU (by omega) h.bk.toSized];simp only[ae];unfold kF;cases hc:decide (a≥0)&&decide (a≤(r.2.1.length:Int)-1) with
 |false=>exact⟨_,rfl,fun e=>by cases e⟩
 |true=>
 simp only[bb,aY] at hc;cases hm:decide (p≥0)&&decide (p≤1048576) with
 |false=>exact⟨_,rfl,fun e=>by cases e⟩
 |true=>
 simp only[bb,aY] at hm;obtain⟨i,rfl⟩:=Int.eq_ofNat_of_zero_le hc.1;have hi:i<r.2.1.length:=by omega
 have L0:=h.laid 0 (by omega);have lG:pA k s.pr (i:Int) p=some (s.pr.set i p):=by
  have:=yGv (k:=k) (l:=s.pr) (by rw[L0.pl];omega) (i:=(i:Int)) (by omega) (by rw[L0.pl];omega) p;rw[aq] at this;exact this
 simp only[aE,an,lG,ae,aq];unfold F2;rcases vZc (r:=r) (s:=s) hk who (pr:=s.pr.set i p) (fun j hj=>(h.laid j hj).setP hi ⟨by omega,by omega⟩) h.hol gD with⟨g1,g2⟩|⟨g1,g2⟩
 ·rw[g2,g1];exact⟨_,rfl,fun _=>rfl⟩
 ·rw[g2,g1];exact⟨_,rfl,fun e=>by cases e⟩
theorem Ky {q p}:jC q p=true↔q.2.1<p.2.1∨(q.2.1=p.2.1∧q.2.2.2.2.1≤p.2.2.2.2.1):=by
 unfold jC;simp
theorem W6 {q p}:jl q p=true↔q.2.1<p.2.1∨(q.2.1=p.2.1∧q.2.2.2.2.1<p.2.2.2.2.1):=by
 unfold jl;simp
theorem W7 {a b c}(h:jC a b=true)(g:jC b c=true):jC a c=true:=by
 rw[Ky] at*;omega
theorem vRc {a b}(h:¬jC a b=true):jC b a=true:=by
 rw[Ky] at*;omega
theorem W8 {a b}(h:jl a b=true):jC a b=true:=by
 rw[W6] at h;rw[Ky];omega
theorem vKe {a b}(h:¬jl a b=true):jC b a=true:=by
 rw[W6] at h;rw[Ky];omega
theorem yN1 f l (p:zH):List.Perm (l.takeWhile f++(p::l.dropWhile f)) (p::l):=by
 have:=List.perm_middle (a:=p) (l₁:=l.takeWhile f) (l₂:=l.dropWhile f);simp_all
theorem vAx {l:List zH}(hs:oD l)(p:zH)(f:zH→Bool)(h1:∀q,f q=true→jC q p=true)(h2:∀q,¬f q=true→jC p q=true):oD (l.takeWhile f++(p::l.dropWhile f)):=by
 have sV:=hs;unfold oD at hs sV⊢;rw[←List.takeWhile_append_dropWhile (p:=f) (l:=l)] at hs;obtain⟨a1,a2,a3⟩:=List.pairwise_append.1 hs;have W9:∀q∈l.takeWhile f,f q=true:=fun q hq=>List.all_eq_true.1 (List.all_takeWhile (p:=f) (l:=l)) q hq
 have Xa:∀q∈l.dropWhile f,jC p q=true:=by
  cases hd:l.dropWhile f with
  |nil=>intro q hq;cases hq
  |cons x m=>
   have hx:¬f x=true:=by
    have bp:l.dropWhile f≠[]:=by rw[hd];simp
    have:=List.head_dropWhile_not f bp;have e:(l.dropWhile f).head bp=x:=by simp only[hd,List.head_cons]
    rw[e] at this;simp[this]
   intro q hq;rcases List.mem_cons.1 hq with rfl|hq
   ·exact h2 _ hx
   ·rw[hd] at a2;exact W7 (h2 x hx) ((List.pairwise_cons.1 a2).1 q hq)
 refine List.pairwise_append.2 ⟨a1,List.pairwise_cons.2 ⟨Xa,a2⟩,fun a ha b hb=>?_⟩;rcases List.mem_cons.1 hb with rfl|hb
 ·exact h1 a (W9 a ha)
 ·exact a3 a ha b hb
theorem Xb {l}(hs:oD l) p:oD (oh l p):=vAx hs p _ (by simp) (fun _ h=>vRc h)
theorem vV8 {l}(hs:oD l) p:oD (Jv l p):=vAx hs p _ (fun _ h=>W8 h) (fun _ h=>vKe h)
theorem Xc l p:List.Perm (oh l p) (p::l):=yN1 _ l p
theorem Xd l p:List.Perm (Jv l p) (p::l):=yN1 _ l p
theorem oD.cut {l}(h:oD l) x:oD (yC l x):=List.Pairwise.sublist (tG l x) h
theorem vZw {l:AC}(ha:tH l){id:Int}(hn:id∉l):tH (py l id):=by
 unfold py;have qf:=ha;unfold tH at ha qf⊢;rw[←List.takeWhile_append_dropWhile (p:=fun x=>decide (x<id)) (l:=l)] at ha;obtain⟨a1,a2,a3⟩:=List.pairwise_append.1 ha;have W9:∀q∈l.takeWhile (fun x=>decide (x<id)),q<id:=fun q hq=>by simpa using List.all_eq_true.1 (List.all_takeWhile (p:=fun x=>decide (x<id)) (l:=l)) q hq
 have Xa:∀q∈l.dropWhile (fun x=>decide (x<id)),id<q:=by
  cases hd:l.dropWhile (fun x=>decide (x<id)) with
  |nil=>intro q hq;cases hq
  |cons x m=>
   have yx:x∈l:=(List.dropWhile_sublist _).subset (by rw[hd];exact List.mem_cons_self ..);have hx:¬x<id:=by
    have bp:l.dropWhile (fun x=>decide (x<id))≠[]:=by rw[hd];simp
    have:=List.head_dropWhile_not (fun x=>decide (x<id)) bp;have e:(l.dropWhile (fun x=>decide (x<id))).head bp=x:=by simp only[hd,List.head_cons]
    rw[e] at this
    simpa using this
   have bp:x≠id:=fun e=>hn (e▸yx)
   intro q hq;rcases List.mem_cons.1 hq with rfl|hq
   ·omega
   ·rw[hd] at a2;have:=(List.pairwise_cons.1 a2).1 q hq;omega
 refine List.pairwise_append.2 ⟨a1,List.pairwise_cons.2 ⟨Xa,a2⟩,fun a ha b hb=>?_⟩;rcases List.mem_cons.1 hb with rfl|hb
 ·exact W9 a ha
 ·exact a3 a ha b hb
theorem Xe l id:List.Perm (py l id) (id::l):=by
 have:=List.perm_middle (a:=id) (l₁:=l.takeWhile (fun x=>decide (x<id))) (l₂:=l.dropWhile (fun x=>decide (x<id)))
 rwa [List.takeWhile_append_dropWhile] at this
theorem jm.sub {n m m' ids}(h:jm n m ids)(hs:List.Sublist m' m):jm n m' ids:=
 ⟨List.Pairwise.sublist hs h.dist,by have:=hs.length_le;have:=h.len;omega,List.Pairwise.sublist hs h.sort,fun p hp=>h.may p (by grind),fun p hp=>h.time p (by grind),fun p hp=>h.were p (by grind),h.asc,h.pos,h.idl⟩
theorem jm.turn {n:Nat}{m:List zH}{ids:AC}(h:jm n m ids){x:Nat}(hx:x<m.length){p:zH}{m':List zH}(hp:List.Perm m' (p::yC m x))(hs:oD m')(h1:p.1=(m.getD x pd).1)
  (h2:yH n p) (h3:0≤p.2.2.2.2.2.1∧p.2.2.2.2.2.1≤p.2.2.2.2.2.2∧p.2.2.2.2.2.2≤1048576):jm n m' ids:=by
 have hc:=tG m x;have hl:=nn hx;have hd:qN (p::yC m x):=by
  refine List.pairwise_cons.2 ⟨fun q hq=>?_,h.dist.cut x⟩;rw[h1];have hd:=h.dist;unfold qN at hd;rw[NZ m x pd hx] at hd;have Jy:=List.pairwise_append.1 hd;have VR:=List.pairwise_cons.1 Jy.2.1;unfold yC at hq;rcases List.mem_append.1 hq with hq|hq
  ·exact fun e=>Jy.2.2 _ hq _ (List.mem_cons_self ..) e.symm
  ·exact VR.1 _ hq
 have hlen:=hp.length_eq;rw[List.length_cons] at hlen;refine⟨hd.perm hp,by have:=h.len;omega,hs,fun q hq=>?_,fun q hq=>?_,fun q hq=>?_,h.asc,h.pos,h.idl⟩;all_goals rcases List.mem_cons.1 (hp.subset hq) with rfl|om
 ·exact h2
 ·exact h.may q (hc.subset om)
 ·exact h3
 ·exact h.time q (hc.subset om)
 ·rw[h1];exact h.were _ (jQ hx)
 ·exact h.were q (hc.subset om)
theorem vK4 {r:qL}{s:zZ}(hr:jB r)(h:yE r s){who:Int}{f:wZ}(h0:(iB r s who f).1=0):jm s.B.1.length (iB r s who f).2.1 (iB r s who f).2.2:=by
 have hw:=h.waits;have hn:=h.n;have ht:=h.tk;unfold iB at h0⊢;cases hc:decide (f.2.2.1≥0)&&decide (f.2.2.1≤r.1-1) with
 |false=>rw[hc] at h0;cases h0
 |true=>
 cases dp:decide (f.2.2.2.2.1≥1)&&decide (f.2.2.2.2.1≤3) with
 |false=>rw[hc,dp] at h0;cases h0
 |true=>
 cases dU:decide (mB r s.t (fG who f)=0) with
 |false=>rw[hc,dp,dU] at h0;exact absurd h0 (gv dU)
 |true=>
 cases gu:decide (f.2.1∈s.ids) with
 |true=>rw[hc,dp,dU,gu] at h0;cases h0
 |false=>
 cases mi:decide (200≤s.ids.length) with
 |true=>rw[hc,dp,dU,gu,mi] at h0;cases h0
 |false=>
 cases C3:(vS s.m f.2.1).isSome with
 |true=>rw[hc,dp,dU,gu,mi,C3] at h0;cases h0
 |false=>
 cases C4:decide (40≤s.m.length) with
 |true=>rw[hc,dp,dU,gu,mi,C3,C4] at h0;cases h0
 |false=>
 show jm s.B.1.length (oh s.m (fG who f)) (py s.ids f.2.1);have Mn:f.2.1∉s.ids:=gv gu;have hi:=gv mi;have hm:=gv C4;have Bc:=Iv dU;have Xf:kA r.1 s.t (fG who f)=true:=by
  unfold mB at Bc;cases hb:kA r.1 s.t (fG who f) with
  |true=>rfl
  |false=>rw[hb] at Bc;cases Bc
 unfold kA at Xf;simp only[bb,aY,Bool.not_eq_true',decide_eq_false_iff_not] at Xf;obtain⟨⟨p1,p2⟩,⟨p3,p4⟩,p5,p6,p7,p8,p9,tp,p11,p12,p13,p14⟩:=Xf;have xm:=Xc s.m (fG who f);have O4:=Xe s.ids f.2.1;have hlen:=xm.length_eq;have ph:=O4.length_eq;rw[List.length_cons] at hlen ph;have bN:yH s.B.1.length (fG who f):=⟨p1,by omega,p3,by omega,p9,p6,p7,p8,tp⟩;have eZ:∀x,x∈s.ids→x∈py s.ids f.2.1:=fun x hx=>O4.symm.subset (List.mem_cons_of_mem _ hx)
 have Kz:qN (fG who f::s.m):=List.pairwise_cons.2 ⟨fun q hq e=>Mn (by have:=hw.were q hq;rw[←e] at this;exact this),hw.dist⟩;refine⟨Kz.perm xm,by omega,Xb hw.sort _,fun q hq=>?_,fun q hq=>?_,fun q hq=>?_,vZw hw.asc Mn,fun x hx=>?_,by omega⟩
 ·rcases List.mem_cons.1 (xm.subset hq) with rfl|om
  ·exact bN
  ·exact hw.may q om
 ·rcases List.mem_cons.1 (xm.subset hq) with rfl|om
  ·exact⟨p11,p12,p14⟩
  ·exact hw.time q om
 ·rcases List.mem_cons.1 (xm.subset hq) with rfl|om
  ·exact O4.symm.subset (List.mem_cons_self ..)
  ·exact eZ _ (hw.were q om)
 ·rcases List.mem_cons.1 (O4.subset hx) with rfl|oT
  ·exact p5
  ·exact hw.pos x oT
theorem vIn {r s}(h:yE r s){who f}(h0:(kB r s who f).1=0):jm s.B.1.length (kB r s who f).2.1 s.ids:=by
 have hw:=h.waits;unfold kB at h0⊢;cases hx:vS s.m f.2.1 with
 |none=>omega
 |some x=>
 rw[hx] at h0;have dj:=(ku hx).1;have aX:s.m.getD x pd∈s.m:=by grind
 have hm:=hw.may _ aX;have ht:=hw.time _ aX;simp only at h0⊢;cases hc:decide ((s.m.getD x pd).2.1=who) with
 |false=>simp_all
 |true=>
 cases dp:decide (f.1=2) with
 |true=>exact hw.sub (tG _ _)
 |false=>
 cases dU:decide (f.1=4) with
 |true=>
  cases gu:decide (f.2.2.1≥1)&&decide (f.2.2.1≤3) with
  |false=>simp_all
  |true=>
  cases mi:decide (pD r.2.2.1 r.2.2.2.1 s.t f.2.2.1=0) with
  |false=>simp_all
  |true=>
  simp  at gu;obtain⟨m1,m2,m3,m4,m5,m6,m7,m8,m9⟩:=hm;exact hw.turn dj (Xc _ _) (Xb (hw.sort.cut x) _) rfl ⟨m1,m2,m3,m4,m5,m6,m7,gu.1,gu.2⟩ ht
 |false=>
  cases gu:decide (f.2.2.1=0) with
  |true=>exact hw.turn dj (Xd _ _) (vV8 (hw.sort.cut x) _) rfl hm ht
  |false=>
   cases mi:decide (f.2.2.1=1) with
   |true=>exact hw.turn dj (Xc _ _) (Xb (hw.sort.cut x) _) rfl hm ht
   |false=>simp_all
theorem yO7 {n}(h:-1≤n∧n≤1152921504606846976):wL n=true:=by
 unfold wL;grind
theorem pF {a}:fk a=true↔(-4611686018427387904<a.1∧a.1<4611686018427387904)∧(0≤a.2.1∧a.2.1≤2305843009213693952)∧(0≤a.2.2∧a.2.2≤2305843009213693952):=by
 unfold fk;grind
theorem wM.setBil {a}{b:jE}{m}{p:jE}(h:wM a b m p){w i}(hw:w<a.length)(hi:i<a.length){n}(hn:-1≤n∧n≤1152921504606846976):wM a (b.set w ((b.getD w []).set i n)) m p:=
  { h with
    bl:=by rw[List.length_set];exact h.bl
    br:=fun j hj=>by
      rw[fj];split
      · rw[List.length_set];exact h.br w hw
      · exact h.br j hj
    bil:=fun j hj k hk=>by
      unfold cell;rw[fj];split
      · rw[fj];split
        · exact yO7 hn
        · exact h.bil w hw k hk
      · exact h.bil j hj k hk}
theorem wM.setMul {a}{b:jE}{m}{p:jE}(h:wM a b m p) w {n}(hn:-1≤n∧n≤1152921504606846976):wM a b (m.set w n) p:=
  { h with
    ml:=by rw[List.length_set];exact h.ml
    mul:=fun j hj=>by
      rw[fj];split
      · exact yO7 hn
      · exact h.mul j hj}
theorem wM.setAcct {a}{b:jE}{m}{p:jE}(h:wM a b m p){a'}(hl:a'.length=a.length)(ha:∀i,i<a.length→fk (a'.getD i ad)=true):wM a' b m p where
 n1:=by rw[hl];exact h.n1
 n6:=by rw[hl];exact h.n6
 bl:=by rw[hl];exact h.bl
 br:=by rw[hl];exact h.br
 ml:=by rw[hl];exact h.ml
 pl:=by rw[hl];exact h.pl
 pr:=by rw[hl];exact h.pr
 mul:=by rw[hl];exact h.mul
 bil:=by rw[hl];exact h.bil
 acct:=by simp_all
 net:=by rw[hl];exact h.net
 turn:=by rw[hl];exact h.turn
theorem vZz {n g i}(hi:i<n) d:qI (fun j=>if j=i then g j+d else g j) n=qI g n+d:=by
 have e:qI (fun j=>if j=i then g j+d else g j) n=qI (fun j=>g j+(if j=i then d else 0)) n:=by grind
 rw[e,Da,zx,if_pos hi]
theorem yE.books {r s}(h:yE r s){B}(hb:qP B)(hl:B.1.length=s.B.1.length)(AA:∀i,i<s.B.1.length→(B.1.getD i ad).1=(s.B.1.getD i ad).1)(hc:∀i,i<s.B.1.length→(B.1.getD i ad).2.1=(s.B.1.getD i ad).2.1):yE r {s with B:=B} where
 tk:=h.tk
 bk:=hb
 n:=by rw[hl];exact h.n
 hol:=by rw[hl];exact h.hol
 laid:=by rw[hl];exact h.laid
 cred:=by rw[hl];intro i hi;rw[hc i hi];exact h.cred i hi
 most:=by rw[hl];intro i hi;rw[hc i hi];exact h.most i hi
 waits:=by rw[hl];exact h.waits
 sum:=by rw[hl,rE AA];exact h.sum
 tot:=h.tot
 over:=h.over
 none:=h.none
theorem yE.queue {r s}(h:yE r s)(ho:s.ov=false){m ids}(hw:jm s.B.1.length m ids):yE r {s with m:=m,ids:=ids} where
 tk:=h.tk
 bk:=h.bk
 n:=h.n
 hol:=h.hol
 laid:=h.laid
 cred:=h.cred
 most:=h.most
 waits:=hw
 sum:=h.sum
 tot:=h.tot
 over:=h.over
 none:=by grind
theorem vPh {r:qL}{s:zZ}(h:yE r s){who:Int}(hw:0≤who∧who<r.1){f:wZ}(h0:(kC r s who f).1=0):yE r (kC r s who f).2:=by
 have hn:=h.n;have hb:wM s.B.1 s.B.2.1 s.B.2.2.1 s.B.2.2.2:=h.bk;obtain⟨w,rfl⟩:=Int.eq_ofNat_of_zero_le hw.1;have gd:w<s.B.1.length:=by omega
 unfold kC at h0⊢;cases hc:decide (f.1=5) with
 |true=>
  rw[hc] at h0;simp only[aj] at h0⊢;cases dp:decide (f.2.1≥0)&&decide (f.2.1≤r.1-1) with
  |false=>rw[dp] at h0;cases h0
  |true=>
  cases dU:decide (f.2.1=(w:Int)) with
  |true=>rw[dp,dU] at h0;cases h0
  |false=>
  cases gu:decide (f.2.2.1≥-1)&&decide (f.2.2.1≤1152921504606846976) with
  |false=>rw[dp,dU,gu] at h0;cases h0
  |true=>
  simp only[bb,aY] at dp gu;exact h.books (B:=(s.B.1,s.B.2.1.set w ((s.B.2.1.getD w []).set f.2.1.toNat f.2.2.1),s.B.2.2.1,s.B.2.2.2)) (hb.setBil gd (by omega) (by grind)) rfl (by simp) (by simp)
 |false=>
  rw[hc] at h0;simp only[an] at h0⊢;cases dp:decide (f.1=6) with
  |true=>
   rw[dp] at h0;simp only[aj] at h0⊢;cases dU:decide (f.2.1≥-1)&&decide (f.2.1≤1152921504606846976) with
   |false=>rw[dU] at h0;cases h0
   |true=>
   simp only[bb,aY] at dU;exact h.books (B:=(s.B.1,s.B.2.1,s.B.2.2.1.set w f.2.1,s.B.2.2.2)) (hb.setMul w (by grind)) rfl (fun _ _=>rfl) (by simp)
  |false=>
   rw[dp] at h0;simp only[an] at h0⊢;cases dU:decide (f.2.1≥0)&&decide (f.2.1≤1152921504606846976) with
   |false=>rw[dU] at h0;cases h0
   |true=>
   have hg:∀i,(s.B.1.set w ((s.B.1.getD w ad).1,(s.B.1.getD w ad).2.1,f.2.1)).getD i ad=if i=w then((s.B.1.getD w ad).1,(s.B.1.getD w ad).2.1,f.2.1) else s.B.1.getD i ad:=by grind
   refine h.books (B:=(s.B.1.set w ((s.B.1.getD w ad).1,(s.B.1.getD w ad).2.1,f.2.1),s.B.2.1,s.B.2.2.1,s.B.2.2.2)) (hb.setAcct (by rw[List.length_set]) fun i hi=>?_) (by simp) (fun i hi=>?_) (fun i hi=>?_)
   ·rw[hg];split
    ·have:=pF.1 (hb.acct w gd);rw[pF];grind
    ·exact hb.acct i hi
   all_goals grind
theorem Xg {r}(hr:jB r){s}(h:yE r s){who}(hw:0≤who∧who<r.1){a many}(h0:(kD r s who a many).1=0):yE r (kD r s who a many).2:=by
  have hn:=h.n;have hb:wM s.B.1 s.B.2.1 s.B.2.2.1 s.B.2.2.2:=h.bk;obtain⟨w,rfl⟩:=Int.eq_ofNat_of_zero_le hw.1;have gd:w<s.B.1.length:=by omega
  have hol:=h.hol;unfold kD at h0⊢;simp only[aq] at h0⊢;cases hc:decide (a≥0)&&decide (a≤(r.2.1.length:Int)-1) with
  |false=>simp_all
  |true=>
  cases dp:decide (many≥0)&&decide (many≤1099511627776) with
  |false=>simp_all
  |true=>
  rw[hc,dp] at h0;simp only[aE,an] at h0⊢;simp  at hc dp;have L2:=(h.laid w gd).set (i:=a.toNat) (by omega) (v:=many) (by grind);have yr:=EW L2;obtain⟨n,bp⟩:∃n,n=ot r.2.1 s.pr ((s.ho.getD w []).set a.toNat many):=by simp
  rw[←bp] at h0 yr⊢;unfold Fy at h0⊢;cases dU:decide (n>1152921504606846976) with
  |true=>simp_all
  |false=>
  cases gu:decide (n<(s.B.1.getD w ad).2.1)&&decide ((s.B.1.getD w ad).1+n<0) with
  |true=>simp_all
  |false=>
  have dU:=gv dU;have hg:∀i,(s.B.1.set w ((s.B.1.getD w ad).1,n,(s.B.1.getD w ad).2.2)).getD i ad=if i=w then((s.B.1.getD w ad).1,n,(s.B.1.getD w ad).2.2) else s.B.1.getD i ad:=by grind
  have hgh:∀i,(s.ho.set w ((s.ho.getD w []).set a.toNat many)).getD i []=if i=w then(s.ho.getD w []).set a.toNat many else s.ho.getD i []:=by grind
  simp only[an];have gh:(s.B.1.set w ((s.B.1.getD w ad).1,n,(s.B.1.getD w ad).2.2)).length=s.B.1.length:=by simp
  exact{
    tk:=h.tk
    bk:=hb.setAcct gh fun i hi=>by
      rw[hg];split
      · have:=pF.1 (hb.acct w gd);rw[pF];grind
      · exact hb.acct i hi
    n:=by simp_all
    hol:=by simp_all
    laid:=by
      rw[gh];intro i hi;rw[hgh];split
      · exact L2
      · exact h.laid i hi
    cred:=by
      rw[gh];intro i hi;rw[hg,hgh];split
      · exact bp
      · exact h.cred i hi
    most:=by
      rw[gh];intro i hi;rw[hg];split
      · show n≤_;omega
      · exact h.most i hi
    waits:=by rw[gh];exact h.waits
    sum:=by
      rw[gh,rE (h:=fun i=>(s.B.1.getD i ad).1) (by grind)];exact h.sum
    tot:=h.tot
    over:=h.over
    none:=h.none}
theorem yTj {r s}(h:yE r s){i}(hi:i<s.B.1.length){n}(hz:(jO (s.B.1.getD i ad) n).2=0)(ht:0≤s.to+n∧s.to+n≤1152921504606846976):
    yE r (O2 s i (jO (s.B.1.getD i ad) n).1 (s.to+n)):=by
  have hb:wM s.B.1 s.B.2.1 s.B.2.2.1 s.B.2.2.2:=h.bk;unfold jO at hz⊢;cases hc:fk ((s.B.1.getD i ad).1+n,(s.B.1.getD i ad).2.1,(s.B.1.getD i ad).2.2) with
  |false=>simp_all
  |true=>
  simp only[aj];have hg:∀j,(s.B.1.set i ((s.B.1.getD i ad).1+n,(s.B.1.getD i ad).2.1,(s.B.1.getD i ad).2.2)).getD j ad=if j=i then((s.B.1.getD i ad).1+n,(s.B.1.getD i ad).2.1,(s.B.1.getD i ad).2.2) else s.B.1.getD j ad:=by grind
  have gh:(s.B.1.set i ((s.B.1.getD i ad).1+n,(s.B.1.getD i ad).2.1,(s.B.1.getD i ad).2.2)).length=s.B.1.length:=by simp
  unfold O2;exact{
    tk:=h.tk
    bk:=hb.setAcct gh fun j hj=>by
      rw[hg];split
      · exact hc
      · exact hb.acct j hj
    n:=by rw[gh];exact h.n
    hol:=by rw[gh];exact h.hol
    laid:=by rw[gh];exact h.laid
    cred:=by
      rw[gh];intro j hj;rw[hg];split
      · rename_i e;rw[e];exact h.cred i hi
      · exact h.cred j hj
    most:=by
      rw[gh];intro j hj;rw[hg];split
      · exact h.most i hi
      · exact h.most j hj
    waits:=by rw[gh];exact h.waits
    sum:=by
      rw[gh,rE (h:=fun j=>if j=i then(s.B.1.getD j ad).1+n else(s.B.1.getD j ad).1) (by grind),vZz hi,h.sum]
    tot:=ht
    over:=h.over
    none:=h.none}
theorem Xh {r s}(h:yE r s){kd to n}(h0:(kE r s kd to n).1=0):yE r (kE r s kd to n).2∧(kE r s kd to n).2.to=s.to+(if kd=11 then-n else n)∧(kE r s kd to n).2.m=s.m∧(kE r s kd to n).2.ids=s.ids∧(kE r s kd to n).2.t=s.t:=by
 have hn:=h.n;have ht:=h.tot;unfold kE at h0⊢;cases hc:decide (to≥0)&&decide (to≤r.1-1) with
 |false=>rw[hc] at h0;cases h0
 |true=>
 cases dp:decide (n≥1)&&decide (n≤1099511627776) with
 |false=>simp_all
 |true=>
 rw[hc,dp] at h0;simp  at hc dp;have hi:to.toNat<s.B.1.length:=by omega
 by_cases hk:kd=11
 ·rw[aa hk] at h0⊢;rw[if_pos hk];unfold Ku at h0⊢;cases dU:decide ((s.B.1.getD to.toNat ad).1+(s.B.1.getD to.toNat ad).2.1-(s.B.1.getD to.toNat ad).2.2<n) with
  |true=>rw[dU] at h0;cases h0
  |false=>
  cases gu:decide (s.to-n<0) with
  |true=>simp_all
  |false=>
  cases hz:decide ((jO (s.B.1.getD to.toNat ad) (-n)).2=0) with
  |false=>grind
  |true=>
  cases mi:decide (s.to-n>1152921504606846976) with
  |true=>grind
  |false=>
  have gu:=gv gu;have:=yTj h hi (n:= -n) (by grind) (by omega);exact⟨this,rfl,rfl,rfl,rfl⟩
 ·rw[ab hk] at h0⊢;rw[if_neg hk];unfold Kv at h0⊢;cases hz:decide ((jO (s.B.1.getD to.toNat ad) n).2=0) with
  |false=>simp_all
  |true=>
  cases mi:decide (s.to+n>1152921504606846976) with
  |true=>simp_all
  |false=>
  have mi:=gv mi;exact⟨yTj h hi (by grind) (by omega),rfl,rfl,rfl,rfl⟩
theorem vZb {r s}(h:yE r s){a p}(h0:(kF r s a p).1=0):yE r (kF r s a p).2:=by
  have hb:wM s.B.1 s.B.2.1 s.B.2.2.1 s.B.2.2.2:=h.bk;unfold kF at h0⊢;cases hc:decide (a≥0)&&decide (a≤(r.2.1.length:Int)-1) with
  |false=>simp_all
  |true=>
  cases dp:decide (p≥0)&&decide (p≤1048576) with
  |false=>simp_all
  |true=>
  simp  at hc dp;have hL:∀i,i<s.B.1.length→kx r.2.1 (s.pr.set a.toNat p) (s.ho.getD i []):=fun i hi=>(h.laid i hi).setP (by omega) (by grind)
  generalize s.pr.set a.toNat p=pr at*
  unfold F2 at h0⊢;cases dU:qG (fun j=> !decide (gg r.2.1 pr s.ho j>1152921504606846976)) s.B.1.length 0 with
  |false=>simp_all
  |true=>
  simp;have hle:∀i,i<s.B.1.length→gg r.2.1 pr s.ho i≤1152921504606846976:=fun i hi=>by
    have:=gw.1 dU i hi;simp_all
  have gh:=W3 r.2.1 pr s.ho s.B.1;have hg:=fun(j:Nat) (hj:j<s.B.1.length)=>W4 r.2.1 pr s.ho s.B.1 hj
  exact{
    tk:=h.tk
    bk:=hb.setAcct gh fun i hi=>by
      rw[hg i hi];have:=pF.1 (hb.acct i hi);have h1:=EW (hL i hi);rw[pF];exact⟨this.1,⟨h1,by grind⟩,this.2.2⟩
    n:=by rw[gh];exact h.n
    hol:=by rw[gh];exact h.hol
    laid:=by simp_all
    cred:=by
      rw[gh];intro i hi;rw[hg i hi];rfl
    most:=by
      simp_all
    waits:=by rw[gh];exact h.waits
    sum:=by
      rw[gh,rE (h:=fun i=>(s.B.1.getD i ad).1) (by grind)];exact h.sum
    tot:=h.tot
    over:=h.over
    none:=h.none}
abbrev MT:=Int×List oq×Int×Int×Int×Int×List qY×jE×AC×jE×AC×jE×List zH×AC×Int×Bool×Int×Int
abbrev Xi:=Int×List oq×Int×Int×Int×Int×List qY×jE×AC×jE×AC×jE×List zH×AC×Int×Bool×Int×List yK×Int
def rk (r:qL)(s:zZ)(who:Int):MT:=(r.1,r.2.1,r.2.2.1,r.2.2.2.1,r.2.2.2.2,s.t,s.B.1,s.B.2.1,s.B.2.2.1,s.B.2.2.2,s.pr,s.ho,s.m,s.ids,s.to,s.ov,who,0)
def qO (r:qL)(s:zZ)(who:Int)(l:List yK)(paid:Int):Xi:=(r.1,r.2.1,r.2.2.1,r.2.2.2.1,r.2.2.2.2,s.t,s.B.1,s.B.2.1,s.B.2.2.1,s.B.2.2.2,s.pr,s.ho,s.m,s.ids,s.to,s.ov,who,l,paid)
def F4 (pa n:Int):Int:=bif decide (n<0) then-1 else bif decide (n≥pa) then-1 else n
theorem Xj k r s who l p n:tZ k (qO r s who l p) n=some (F4 r.1 n):=by
 unfold tZ F4;have e:(qO r s who l p).1=r.1:=rfl;grind
theorem Xk {pa n}(h:0≤n∧n<pa):F4 pa n=n:=by
 unfold F4;grind
theorem Xl {pa n}(h:¬(0≤n∧n<pa)):F4 pa n= -1:=by
 unfold F4;grind
theorem yLx k (r:qL) t c:F5 k r t c=some (pD r.2.2.1 r.2.2.2.1 t c):=by
 unfold F5 pD;grind
theorem yIc k (r:qL) t (p:zH):Bd k r t p=some (mB r t p):=by
 unfold Bd mB;rw[yLx];simp only[ae];have no:¬(p.2.1≥0∧p.2.1<r.1∧p.2.2.1≥0∧p.2.2.1<r.1∧p.1≥1∧p.2.2.2.1≥1∧p.2.2.2.1≤1099511627776∧p.2.2.2.2.1≥1∧¬p.2.1=p.2.2.1∧p.2.2.2.2.1≤3∧p.2.2.2.2.2.1≥0∧p.2.2.2.2.2.1≤p.2.2.2.2.2.2∧p.2.2.2.2.2.2≥t∧p.2.2.2.2.2.2≤1048576)→kA r.1 t p=false:=by
  intro h;cases e:kA r.1 t p with
  |false=>rfl
  |true=>
   unfold kA at e;grind
 by_cases c1:p.1<1
 ·rw[aa c1,no (fun⟨_,_,_,_,h,_⟩=>by omega)];rfl
 by_cases c2:p.2.1<0
 ·rw[ab c1,aa c2,no (fun⟨h,_⟩=>by omega)];rfl
 by_cases c3:p.2.1≥r.1
 ·rw[ab c1,ab c2,aa c3,no (fun⟨_,h,_⟩=>by omega)];rfl
 by_cases c4:p.2.2.1<0
 ·rw[ab c1,ab c2,ab c3,aa c4,no (fun⟨_,_,h,_⟩=>by omega)];rfl
 by_cases c5:p.2.2.1≥r.1
 ·rw[ab c1,ab c2,ab c3,ab c4,aa c5,no (fun⟨_,_,_,h,_⟩=>by omega)];rfl
 rw[ab c1,ab c2,ab c3,ab c4,ab c5];simp only[an];by_cases c6:p.2.1=p.2.2.1
 ·rw[aa c6,no (fun⟨_,_,_,_,_,_,_,_,h,_⟩=>h c6)];rfl
 by_cases c7:p.2.2.2.1<1
 ·rw[ab c6,aa c7,no (fun⟨_,_,_,_,_,h,_⟩=>by omega)];rfl
 by_cases c8:p.2.2.2.1>1099511627776
 ·rw[ab c6,ab c7,aa c8,no (fun⟨_,_,_,_,_,_,h,_⟩=>by omega)];rfl
 by_cases c9:p.2.2.2.2.1<1
 ·rw[ab c6,ab c7,ab c8,aa c9,no (fun⟨_,_,_,_,_,_,_,h,_⟩=>by omega)];rfl
 by_cases N2:p.2.2.2.2.1>3
 ·rw[ab c6,ab c7,ab c8,ab c9,aa N2,no (by grind)];rfl
 rw[ab c6,ab c7,ab c8,ab c9,ab N2];simp only[an];by_cases AK:p.2.2.2.2.2.1<0
 ·rw[aa AK,no (by grind)];rfl
 by_cases O5:p.2.2.2.2.2.1>p.2.2.2.2.2.2
 ·rw[ab AK,aa O5,no (by grind)];rfl
 by_cases Xm:p.2.2.2.2.2.2<t
 ·rw[ab AK,ab O5,aa Xm,no (by grind)];rfl
 by_cases c14:p.2.2.2.2.2.2>1048576
 ·rw[ab AK,ab O5,ab Xm,aa c14,no (by grind)];rfl
 rw[ab AK,ab O5,ab Xm,ab c14];have e:kA r.1 t p=true:=by
  unfold kA;simp_all
 rw[e];rfl
def Be (k:Nat)(r:qL)(s:zZ)(who:Int)(p:zH):Option (Int×Xi):=
 (Bd k r s.t p).bind fun x1=>
 bif !(decide (x1=0)) then some (x1,qO r s who [] 0)
 else(Ba k s.ids p.1).bind fun x2=>
 bif !(decide (x2.2=0)) then some (x2.2,qO r s who [] 0)
 else(A9 k s.m p.1 p.2.1 p.2.2.1 p.2.2.2.1 p.2.2.2.2.1 p.2.2.2.2.2.1 p.2.2.2.2.2.2).bind fun x3=>
 bif !(decide (x3.2=0)) then some (x3.2,qO r s who [] 0)
 else some (0,qO r {s with m:=x3.1,ids:=x2.1} who [] p.1)
theorem vW0 {k}(hk:1000≤k){r}(hr:jB r){s}(h:jm s.B.1.length s.m s.ids) who f:
  ∃d,O6 k (rk r s who) f.2=some ((iB r s who f).1,d)∧((iB r s who f).1=0→d=qO r {s with m:=(iB r s who f).2.1,ids:=(iB r s who f).2.2} who [] f.2.1):=by
 have hp:=hr.pa;have hi:=h.idl;have hm:=h.len;have eD:O6 k (rk r s who) f.2=(tZ k (qO r s who [] 0) f.2.2.1).bind fun x0=>
  bif decide (f.2.2.2.2.1 ≥ 1) then (bif decide (f.2.2.2.2.1≤3) then Be k r s who (f.2.1,who,x0,f.2.2.2)
   else Be k r s who (f.2.1,who,x0,f.2.2.2.1,0,f.2.2.2.2.2))
  else Be k r s who (f.2.1,who,x0,f.2.2.2.1,0,f.2.2.2.2.2):=rfl
 have bad:∀p:zH,kA r.1 s.t p=false→Be k r s who p=some (1,qO r s who [] 0):=by
  intro p hp;unfold Be;rw[yIc];unfold mB;rw[hp];rfl
 have abZ:∀p:zH,¬(p.2.2.1≥0∧p.2.2.2.2.1≥1)→kA r.1 s.t p=false:=by
  intro p hn;cases e:kA r.1 s.t p with
  |false=>rfl
  |true=>
   unfold kA at e;simp  at e;obtain⟨_,⟨a3,_⟩,_,_,_,a8,_⟩:=e;exact absurd ⟨a3,a8⟩ hn
 rw[eD,Xj];simp only[ae];unfold iB;by_cases O7:0≤f.2.2.1∧f.2.2.1<r.1
 ·rw[Xk O7,aa (show f.2.2.1≥0 by omega),aa (show f.2.2.1≤r.1-1 by omega)];by_cases hc:f.2.2.2.2.1≥1∧f.2.2.2.2.1≤3
  ·rw[aa hc.1,aa hc.2];simp only[Bool.and_self,aE,an,aj];have ep:((f.2.1,who,f.2.2.1,f.2.2.2):zH)=fG who f:=rfl;rw[ep];unfold Be;rw[yIc];simp only[ae];by_cases hz:mB r s.t (fG who f)=0
   ·rw[aa hz];have e1:(fG who f).1=f.2.1:=rfl;simp only[aE,an];rw[e1,vU0 (by omega) (by omega)];simp only[ae];by_cases h1:f.2.1∈s.ids
    ·rw[aa h1];exact⟨_,rfl,fun e=>by cases e⟩
    ·rw[ab h1];by_cases h2:200≤s.ids.length
     ·rw[aa h2];exact⟨_,rfl,fun e=>by cases e⟩
     ·rw[ab h2];have e3:=vWt (k:=k) (l:=s.m) (by omega) (by omega) (fG who f);rw[e1] at e3;simp only[an,decide_true,aE];rw[e3];simp only[ae];cases(vS s.m f.2.1).isSome with
      |true=>exact⟨_,rfl,fun e=>by cases e⟩
      |false=>
       by_cases h3:40≤s.m.length
       ·rw[aa h3];exact⟨_,rfl,fun e=>by cases e⟩
       ·rw[ab h3];exact⟨_,rfl,fun _=>rfl⟩
   ·rw[ab hz];exact⟨_,rfl,fun e=>absurd e hz⟩
  ·have e0:=bad (f.2.1,who,f.2.2.1,f.2.2.2.1,0,f.2.2.2.2.2) (by grind);rw[e0];have g:(!(decide (f.2.2.2.2.1≥1)&&decide (f.2.2.2.2.1≤3)))=true:=by
    by_cases a:f.2.2.2.2.1≥1
    ·rw[aa a,ab (fun b=>hc ⟨a,b⟩)];rfl
    ·rw[ab a];rfl
   rw[g];refine⟨qO r s who [] 0,?_,fun e=>by cases e⟩;by_cases a:f.2.2.2.2.1≥1
   ·rw[aa a,ab (fun b=>hc ⟨a,b⟩)];rfl
   ·rw[ab a];rfl
 ·have g:(!(decide (f.2.2.1≥0)&&decide (f.2.2.1≤r.1-1)))=true:=by
   by_cases a:f.2.2.1≥0
   ·rw[aa a,ab (show¬f.2.2.1≤r.1-1 by omega)];rfl
   ·rw[ab a];rfl
  have q:∀x:Int×Int×Int×Int,Be k r s who (f.2.1,who,-1,x)=some (1,qO r s who [] 0):=by grind
  rw[g,Xl O7,q,q];refine⟨qO r s who [] 0,?_,fun e=>by cases e⟩;cases decide (f.2.2.2.2.1≥1)<;>cases decide (f.2.2.2.2.1≤3)<;>rfl
theorem vWn {k}(hk:1000≤k){r s}(h:jm s.B.1.length s.m s.ids) who f (hf:f.1=2∨f.1=3∨f.1=4):
    ∃d,Bf k (rk r s who) f.1 f.2=some ((kB r s who f).1,d)∧((kB r s who f).1=0→d=qO r {s with m:=(kB r s who f).2.1} who (kB r s who f).2.2 0):=by
  have hm:=h.len;have nS:qT s.m:=by unfold qT;omega
  have eD : Bf k (rk r s who) f.1 f.2 = ((mv k s.m f.2.1).bind fun x0=>
      bif decide (x0<0) then some (((0,0,0,0,0,0,0):zH),false)
      else bif zB x0 s.m.length then (bif !(decide ((s.m.getD x0.toNat (0,0,0,0,0,0,0)).2.1=who)) then some ((0,0,0,0,0,0,0),false)
        else bif zB x0 s.m.length then some ((s.m.getD x0.toNat (0,0,0,0,0,0,0)),true)
        else none)
      else none).bind fun x0=>
    bif !x0.2 then some (4,qO r s who [] 0)
    else bif decide (f.1 = 2) then ((nu k s.m f.2.1).bind fun x1=>
      (eP k 20 [f.2.1]).bind fun x2=>
      some (0,qO r {s with m:=x1.1} who [(who,x2)] 0))
    else bif decide (f.1 = 3) then (bif decide (f.2.2.1 = 0) then ((Kr k s.m f.2.1).bind fun x3=>
       some (0,qO r {s with m:=x3.1} who [] 0))
      else bif decide (f.2.2.1 = 1) then ((Kq k s.m f.2.1).bind fun x4=>
       some (0,qO r {s with m:=x4.1} who [] 0))
      else some (1,qO r s who [] 0))
    else bif decide (f.2.2.1<1) then some (1,qO r s who [] 0)
    else bif decide (f.2.2.1>3) then some (1,qO r s who [] 0)
    else(F5 k r s.t f.2.2.1).bind fun x5=>
    bif !(decide (x5=0)) then some (x5,qO r s who [] 0)
    else(Kp k s.m f.2.1 f.2.2.1).bind fun x6=>
    some (0,qO r {s with m:=x6.1} who [] 0):=rfl
  rw[eD,N1 (by omega) (by omega)];unfold kB kt;cases hx:vS s.m f.2.1 with
  |none=>exact by simp
  |some x=>
    have dj:=ku hx;have e1:decide ((x:Int)<0)=false:=ab (by omega);simp only[ae,e1,an,qC,aa dj.1,aj,aq];by_cases hw:(s.m.getD x (0,0,0,0,0,0,0)).2.1=who
    · have uY:(s.m.getD x pd).2.1=who:=hw;rw[aa hw];simp only[aE,an,ae];by_cases h2:f.1=2
      · rw[aa h2];obtain⟨n,rfl⟩:∃n,k=n+5:=⟨k-5,by omega⟩;have eo:eP (n+5) 20 [f.2.1]=some (20,f.2.1,0,0,0,0,0):=by kernel_rfl
        simp only[aj,tW (show s.m.length<n+5 by omega) nS,ae,eo];unfold g9;rw[hx];exact⟨_,rfl,fun _=>rfl⟩
      · rw[ab h2];simp only[an];by_cases h3:f.1=3
        · rw[aa h3,ab (show¬f.1=4 by omega)];simp only[aj,an];by_cases h0:f.2.2.1=0
          · rw[aa h0];simp only[aj,vJb (show s.m.length<k by omega) nS hx,ae];exact⟨_,rfl,fun _=>rfl⟩
          · rw[ab h0];simp only[an];by_cases h1:f.2.2.1=1
            · rw[aa h1];simp only[aj,W1 (show s.m.length<k by omega) nS hx,ae];exact⟨_,rfl,fun _=>rfl⟩
            · rw[ab h1];exact by simp
        · rw[ab h3,aa (show f.1=4 by omega)];simp only[an,aj,yLx,ae,vJ1 (show s.m.length<k by omega) nS hx];by_cases c1:f.2.2.1<1
          · rw[aa c1,ab (show¬f.2.2.1≥1 by omega)];exact⟨_,rfl,fun e=>by cases e⟩
          · rw[ab c1,aa (show f.2.2.1≥1 by omega)];by_cases c2:f.2.2.1>3
            · rw[aa c2,ab (show¬f.2.2.1≤3 by omega)];exact⟨_,rfl,fun e=>by cases e⟩
            · rw[ab c2,aa (show f.2.2.1≤3 by omega)];simp only[Bool.and_self,aE,an];by_cases hc:pD r.2.2.1 r.2.2.2.1 s.t f.2.2.1=0
              · rw[aa hc];exact⟨_,rfl,fun _=>rfl⟩
              · rw[ab hc];exact by simp
    · rw[ab hw];exact⟨_,rfl,fun e=>by cases e⟩
theorem vNl {k}(hk:1000≤k){r}(hr:jB r){s}(hb:qP s.B)(hn:(s.B.1.length:Int)=r.1){who}(hw:0≤who∧who<r.1) f:
    ∃d,Bg k (rk r s who) f.1 f.2=some ((kC r s who f).1,d)∧((kC r s who f).1=0→d=qO r (kC r s who f).2 who [] 0):=by
  obtain⟨w,rfl⟩:=Int.eq_ofNat_of_zero_le hw.1;have gd:w<s.B.1.length:=by omega
  have eD:Bg k (rk r s w) f.1 f.2=(oe k s.B.1 s.B.2.1 s.B.2.2.1 s.B.2.2.2).bind fun x0=>
    bif decide (f.1 = 5) then ((tZ k (qO r s w [] 0) f.2.1).bind fun x1=>
      bif decide (x1<0) then some (1,qO r s w [] 0)
      else bif decide (x1=(w:Int)) then some (1,qO r s w [] 0)
      else bif decide (f.2.2.1<(-1)) then some (1,qO r s w [] 0)
      else bif decide (f.2.2.1>1152921504606846976) then some (1,qO r s w [] 0)
      else bif zB (w : Int) x0.2.1.length then (bif zB x1 (x0.2.1.getD (w:Int).toNat []).length then
        some (0,qO r {s with B:=(x0.1,(x0.2.1.set (w:Int).toNat ((x0.2.1.getD (w:Int).toNat []).set x1.toNat f.2.2.1)),x0.2.2.1,x0.2.2.2)} w [] 0)
       else none)
      else none)
    else bif decide (f.1 = 6) then (bif decide (f.2.1<(-1)) then some (1,qO r s w [] 0)
      else bif decide (f.2.1>1152921504606846976) then some (1,qO r s w [] 0)
      else bif zB (w:Int) x0.2.2.1.length then some (0,qO r {s with B:=(x0.1,x0.2.1,(x0.2.2.1.set (w:Int).toNat f.2.1),x0.2.2.2)} w [] 0)
      else none)
    else bif decide (f.2.1<0) then some (1,qO r s w [] 0)
    else bif decide (f.2.1>1152921504606846976) then some (1,qO r s w [] 0)
    else bif zB (w:Int) x0.1.length then some (0,qO r {s with B:=((x0.1.set (w:Int).toNat ((x0.1.getD (w:Int).toNat (0,0,0)).1,(x0.1.getD (w:Int).toNat (0,0,0)).2.1,f.2.1)),x0.2.1,x0.2.2.1,x0.2.2.2)} w [] 0)
    else none:=rfl
  rw[eD,IT (by omega) hb.toSized,Xj];simp only[ae,qC,aq];have two:∀a b:Int,∀x:Int,decide (x<a)= !decide (x≥a)∧decide (x>b)= !decide (x≤b):=by
    intro a b x;constructor
    · by_cases h:x<a
      · rw[aa h,ab (show¬x≥a by omega)];rfl
      · rw[ab h,aa (show x≥a by omega)];rfl
    · by_cases h:x>b
      · rw[aa h,ab (show¬x≤b by omega)];rfl
      · rw[ab h,aa (show x≤b by omega)];rfl
  unfold kC;rw[aq,(two (-1) 1152921504606846976 f.2.2.1).1,(two (-1) 1152921504606846976 f.2.2.1).2,(two (-1) 1152921504606846976 f.2.1).1,(two (-1) 1152921504606846976 f.2.1).2,(two 0 0 f.2.1).1];by_cases h5:f.1=5
  · rw[aa h5];simp only[aj];by_cases hc:0≤f.2.1∧f.2.1<r.1
    · rw[Xk hc,aa (show f.2.1≥0 by omega),aa (show f.2.1≤r.1-1 by omega),ab (show¬f.2.1<0 by omega)];have b1:decide (w<s.B.2.1.length)=true:=aa (by rw[hb.bl];exact gd);have b2:zB f.2.1 (s.B.2.1.getD w []).length=true:=wT hc.1 (by rw[hb.br w gd];omega);rw[b1,b2];cases decide (f.2.1=(w:Int)) with
      |true=>exact⟨_,rfl,fun e=>by cases e⟩
      |false=>
        cases decide (f.2.2.1≥-1) with
        |false=>exact⟨_,rfl,fun e=>by cases e⟩
        |true=>
          cases decide (f.2.2.1≤1152921504606846976) with
          |false=>exact⟨_,rfl,fun e=>by cases e⟩
          |true=>exact⟨_,rfl,fun _=>rfl⟩
    · rw[Xl hc];have g:(decide (f.2.1≥0)&&decide (f.2.1≤r.1-1))=false:=by
        by_cases a:f.2.1≥0
        · rw[aa a,ab (show¬f.2.1≤r.1-1 by omega)];rfl
        · rw[ab a];rfl
      rw[g];exact⟨_,rfl,fun e=>by cases e⟩
  · rw[ab h5];by_cases h6:f.1=6
    · rw[aa h6];have b1:decide (w<s.B.2.2.1.length)=true:=aa (by rw[hb.ml];exact gd);rw[b1];cases decide (f.2.1≥-1) with
      |false=>exact⟨_,rfl,fun e=>by cases e⟩
      |true=>
        cases decide (f.2.1≤1152921504606846976) with
        |false=>exact⟨_,rfl,fun e=>by cases e⟩
        |true=>exact⟨_,rfl,fun _=>rfl⟩
    · rw[ab h6];have b1:decide (w<s.B.1.length)=true:=aa gd;rw[b1];cases decide (f.2.1≥0) with
      |false=>exact⟨_,rfl,fun e=>by cases e⟩
      |true=>
        cases decide (f.2.1≤1152921504606846976) with
        |false=>exact⟨_,rfl,fun e=>by cases e⟩
        |true=>exact⟨_,rfl,fun _=>rfl⟩
theorem yEj {k l}(hl:l.length≤1000){i:Nat}(h1:i<l.length) v:ua k l i v=some (l.set i v):=by
 unfold ua;rw[qH (n:=0+l.length) (by omega) (by omega),aa (by simp),aa (by grind),qC,aa h1,aq];rfl
theorem vRq {r}(hr:jB r){s}(h:yE r s){who}(hw:0≤who∧who<r.1) a many:
    ∃d,O8 1000 (rk r s who) a many=some ((kD r s who a many).1,d)∧((kD r s who a many).1=0→d=qO r (kD r s who a many).2 who [] 0):=by
  have h3:=hr.n3;have hn:=h.n;have gD:=h.bk.n6;have hol:=h.hol;obtain⟨w,rfl⟩:=Int.eq_ofNat_of_zero_le hw.1;have gd:w<s.B.1.length:=by omega
  have eD:O8 1000 (rk r s w) a many=
    bif decide (a<0) then some (1,qO r s w [] 0)
    else bif decide (a≥(r.2.1.length:Int)) then some (1,qO r s w [] 0)
    else bif decide (many<0) then some (1,qO r s w [] 0)
    else bif decide (many>1099511627776) then some (1,qO r s w [] 0)
    else bif zB (w : Int) s.ho.length then ((ua 1000 (s.ho.getD (w:Int).toNat []) a many).bind fun x0=>
      (A7 1000 r.2.1 s.pr x0).bind fun x1=>
      bif !x1.2 then some (8,qO r s w [] 0)
      else bif decide (x1.1>1152921504606846976) then some (8,qO r s w [] 0)
      else(oe 1000 s.B.1 s.B.2.1 s.B.2.2.1 s.B.2.2.2).bind fun x2=>
      bif zB (w : Int) x2.1.length then (bif decide (x1.1 < (x2.1.getD (w : Int).toNat (0, 0, 0)).2.1) then (bif decide ((zA ((x2.1.getD (w:Int).toNat (0,0,0)).1+x1.1))<0) then some (9,qO r s w [] 0)
         else bif zB (w:Int) x2.1.length then(
          bif zN (0 + s.ho.length) 24 then (bif zB (w:Int) s.ho.length then
           some (0,qO r {s with B:=((x2.1.set (w:Int).toNat ((x2.1.getD (w:Int).toNat (0,0,0)).1,x1.1,(x2.1.getD (w:Int).toNat (0,0,0)).2.2)),x2.2.1,x2.2.2.1,x2.2.2.2),ho:=s.ho.set (w:Int).toNat x0} w [] 0)
           else none)
          else none)
         else none)
        else bif zB (w:Int) x2.1.length then(
         bif zN (0 + s.ho.length) 24 then (bif zB (w:Int) s.ho.length then
           some (0,qO r {s with B:=((x2.1.set (w:Int).toNat ((x2.1.getD (w:Int).toNat (0,0,0)).1,x1.1,(x2.1.getD (w:Int).toNat (0,0,0)).2.2)),x2.2.1,x2.2.2.1,x2.2.2.2),ho:=s.ho.set (w:Int).toNat x0} w [] 0)
          else none)
         else none)
        else none)
      else none)
    else none:=rfl
  rw[eD,IT (by omega) h.bk.toSized];simp only[ae,qC,aq];unfold kD;simp only[aq];by_cases c1:a<0
  · rw[aa c1,ab (show¬a≥0 by omega)];exact⟨_,rfl,fun e=>by cases e⟩
  rw[ab c1,aa (show a≥0 by omega)];by_cases c2:a≥(r.2.1.length:Int)
  · rw[aa c2,ab (show¬a≤(r.2.1.length:Int)-1 by omega)];exact⟨_,rfl,fun e=>by cases e⟩
  rw[ab c2,aa (show a≤(r.2.1.length:Int)-1 by omega)];by_cases c3:many<0
  · rw[aa c3,ab (show¬many≥0 by omega)];exact⟨_,rfl,fun e=>by cases e⟩
  rw[ab c3,aa (show many≥0 by omega)];by_cases c4:many>1099511627776
  · rw[aa c4,ab (show¬many≤1099511627776 by omega)];exact⟨_,rfl,fun e=>by cases e⟩
  rw[ab c4,aa (show many≤1099511627776 by omega)];obtain⟨i,rfl⟩:=Int.eq_ofNat_of_zero_le (show 0≤a by omega);have hi:i<r.2.1.length:=by omega
  have L:=h.laid w gd;have L2:=L.set hi (v:=many) ⟨by omega,by omega⟩;have b1:decide (w<s.ho.length)=true:=aa (by omega);have b2:decide (w<s.B.1.length)=true:=aa gd;have lG:ua 1000 (s.ho.getD w []) (i:Int) many=some ((s.ho.getD w []).set i many):=yEj (by rw[L.hl];omega) (by rw[L.hl];omega) many;have hv:=vAv L2;have hb:=h.bk.nums.bal w gd;have yr:=EW L2;have e24:zN (0+s.ho.length) 24=true:=qH (by omega) (by omega);simp only[Bool.and_self,aE,an,b1,aj,lG,ae,hv,b2,aq,e24];clear hv L2 eD;generalize ot r.2.1 s.pr ((s.ho.getD w []).set i many)=n at yr⊢;unfold Fy;cases Ws:decide (n>1152921504606846976) with
  |true=>exact⟨_,rfl,fun e=>by cases e⟩
  |false=>
    have h8:¬n>1152921504606846976:=gv Ws;have w2:zA ((s.B.1.getD w (0,0,0)).1+n)=(s.B.1.getD w (0,0,0)).1+n:=zO (by have:=hb.1;simp only[ad] at this;omega) (by have:=hb.2;simp only[ad] at this;omega);simp only[w2,an];cases decide (n<(s.B.1.getD w (0,0,0)).2.1) with
    |false=>exact⟨_,rfl,fun _=>rfl⟩
    |true=>
      cases decide ((s.B.1.getD w (0,0,0)).1+n<0) with
      |true=>exact⟨_,rfl,fun e=>by cases e⟩
      |false=>exact⟨_,rfl,fun _=>rfl⟩
theorem In9 {k}{a:qY}(ha:-4611686018427387904<a.1∧a.1<4611686018427387904){n}(hn:1≤n∧n≤1099511627776):F6 k a n=some (jO a n):=by
 unfold F6 jO FN;rw[aa (by grind),zO (x:=9223372036854775807-n) (by omega) (by omega),ab (by grind),ab (by grind),zO (x:=a.1+n) (by omega) (by omega)];simp[UL];grind
theorem Xn {r}(hr:jB r){s}(h:yE r s) who kd to n (Ik:kd=10∨kd=11):
    ∃d,F7 1000 (rk r s who) (decide (kd=10)) to n=some ((kE r s kd to n).1,d)∧((kE r s kd to n).1=0→d=qO r (kE r s kd to n).2 who [] 0):=by
  have hn:=h.n;have ht:=h.tot;have eD:F7 1000 (rk r s who) (decide (kd=10)) to n=(tZ 1000 (qO r s who [] 0) to).bind fun x0=>
    bif decide (x0<0) then some (1,qO r s who [] 0)
    else bif decide (n<1) then some (1,qO r s who [] 0)
    else bif decide (n>1099511627776) then some (1,qO r s who [] 0)
    else(oe 1000 s.B.1 s.B.2.1 s.B.2.2.1 s.B.2.2.2).bind fun x1=>
    bif decide (kd = 10) then (bif zB x0 x1.1.length then ((F6 1000 (x1.1.getD x0.toNat (0,0,0)) n).bind fun x2=>
      bif decide ((zA (s.to+n))>1152921504606846976) then some (8,qO r s who [] 0)
      else bif !(decide (x2.2=0)) then some (8,qO r s who [] 0)
      else bif zB x0 x1.1.length then some (0,qO r {s with B:=((x1.1.set x0.toNat x2.1),x1.2.1,x1.2.2.1,x1.2.2.2),to:=zA (s.to+n)} who [] 0)
      else none)
     else none)
    else bif zB x0 x1.1.length then (bif decide ((zA ((zA ((x1.1.getD x0.toNat (0,0,0)).1+(x1.1.getD x0.toNat (0,0,0)).2.1))-(x1.1.getD x0.toNat (0,0,0)).2.2))<n) then some (9,qO r s who [] 0)
     else bif decide (s.to<n) then some (9,qO r s who [] 0)
     else bif zB x0 x1.1.length then
      some (0,qO r {s with B:=((x1.1.set x0.toNat ((zA ((x1.1.getD x0.toNat (0,0,0)).1-n)),(x1.1.getD x0.toNat (0,0,0)).2)),x1.2.1,x1.2.2.1,x1.2.2.2),to:=zA (s.to-n)} who [] 0)
     else none)
    else none:=rfl
  rw[eD,Xj,IT (by omega) h.bk.toSized];simp only[ae];unfold kE;by_cases hc:0≤to∧to<r.1
  · rw[Xk hc,ab (show¬to<0 by omega),aa (show to≥0 by omega),aa (show to≤r.1-1 by omega)];by_cases c1:n<1
    · rw[aa c1,ab (show¬n≥1 by omega)];exact⟨_,rfl,fun e=>by cases e⟩
    rw[ab c1,aa (show n≥1 by omega)];by_cases c2:n>1099511627776
    · rw[aa c2,ab (show¬n≤1099511627776 by omega)];exact⟨_,rfl,fun e=>by cases e⟩
    rw[ab c2,aa (show n≤1099511627776 by omega)];obtain⟨i,rfl⟩:=Int.eq_ofNat_of_zero_le hc.1;have hi:i<s.B.1.length:=by omega
    have hb:=h.bk.nums.bal i hi;have kj:=h.bk.nums.res i hi;have hcr:=h.most i hi;have W2:0≤(s.B.1.getD i ad).2.1:=by rw[h.cred i hi];exact EW (h.laid i hi)
    have Xo:=pF.1 (h.bk.acct i hi);have b0:zB (i:Int) s.B.1.length=true:=by rw[qC,aa hi]
    have q2:zA (s.to-n)=s.to-n:=zO (by omega) (by omega);have q3:zA (s.to+n)=s.to+n:=zO (by omega) (by omega);have Kw:F6 1000 (s.B.1.getD i (0,0,0)) n=some (jO (s.B.1.getD i ad) n):=In9 hb ⟨by omega,by omega⟩;simp only[Bool.and_self,aE,an,b0,aj,aq,Kw,ae,q2,q3];clear Kw eD;rcases Ik with e|e
    · rw[aa e,ab (show¬kd=11 by omega)];simp only[aj,an];unfold Kv;cases hz:decide ((jO (s.B.1.getD i ad) n).2=0) with
      |false=>
        have e8:(jO (s.B.1.getD i ad) n).2=8:=by
          have:=gv hz;unfold jO at this⊢;cases hx:fk ((s.B.1.getD i ad).1+n,(s.B.1.getD i ad).2.1,(s.B.1.getD i ad).2.2) with
          |true=>rw[hx] at this;exact absurd rfl this
          |false=>rfl
        rw[e8];cases decide (s.to+n>1152921504606846976)<;>exact⟨_,rfl,fun e=>by cases e⟩
      |true=>
        cases decide (s.to+n>1152921504606846976) with
        |true=>exact⟨_,rfl,fun e=>by cases e⟩
        |false=>exact⟨_,rfl,fun _=>rfl⟩
    · rw[ab (show¬kd=10 by omega),aa e];simp only[aj,an];unfold Ku;have q1:zA ((s.B.1.getD i (0,0,0)).1+(s.B.1.getD i (0,0,0)).2.1)=(s.B.1.getD i ad).1+(s.B.1.getD i ad).2.1:=zO (by simp only[ad] at*;omega) (by simp only[ad] at*;omega);have q4:zA ((s.B.1.getD i ad).1+(s.B.1.getD i ad).2.1-(s.B.1.getD i (0,0,0)).2.2)=(s.B.1.getD i ad).1+(s.B.1.getD i ad).2.1-(s.B.1.getD i ad).2.2:=zO (by simp only[ad] at*;omega) (by simp only[ad] at*;omega);have q5:zA ((s.B.1.getD i (0,0,0)).1-n)=(s.B.1.getD i ad).1+-n:=by rw[zO (by simp only[ad] at*;omega) (by simp only[ad] at*;omega)];rfl
      simp only[q1,q4,q5];by_cases c5:(s.B.1.getD i ad).1+(s.B.1.getD i ad).2.1-(s.B.1.getD i ad).2.2<n
      · rw[aa c5];exact⟨_,rfl,fun e=>by cases e⟩
      rw[ab c5];by_cases c6:s.to<n
      · rw[aa c6,aa (show s.to-n<0 by omega)];exact⟨_,rfl,fun e=>by cases e⟩
      rw[ab c6,ab (show¬s.to-n<0 by omega),ab (show¬s.to-n>1152921504606846976 by omega)];have em:jO (s.B.1.getD i ad) (-n)=(((s.B.1.getD i ad).1+-n,(s.B.1.getD i ad).2.1,(s.B.1.getD i ad).2.2),0):=by
        unfold jO;have:fk ((s.B.1.getD i ad).1+-n,(s.B.1.getD i ad).2.1,(s.B.1.getD i ad).2.2)=true:=pF.2 ⟨by simp only;omega,Xo.2⟩;rw[this];rfl
      rw[em];exact⟨_,rfl,fun _=>rfl⟩
  · rw[Xl hc];have g:(decide (to≥0)&&decide (to≤r.1-1))=false:=by
      by_cases a:to≥0
      · rw[aa a,ab (show¬to≤r.1-1 by omega)];rfl
      · rw[ab a];rfl
    rw[g];exact⟨_,rfl,fun e=>by cases e⟩
theorem vPv {r s} who {pr}(hL:∀i,i<s.B.1.length→kx r.2.1 pr (s.ho.getD i []))(hol:s.ho.length=s.B.1.length)(gD:s.B.1.length≤6):
  (qG (fun j=> !decide (gg r.2.1 pr s.ho j>1152921504606846976)) s.B.1.length 0=true∧ub 1000 1000 0 (rk r s who) pr s.B.1 s.B.2.1 s.B.2.2.1 s.B.2.2.2=some (.inl (rk r s who,pr,tX r.2.1 pr s.ho s.B.1,s.B.2.1,s.B.2.2.1,s.B.2.2.2)))∨
  (qG (fun j=> !decide (gg r.2.1 pr s.ho j>1152921504606846976)) s.B.1.length 0=false∧ub 1000 1000 0 (rk r s who) pr s.B.1 s.B.2.1 s.B.2.2.1 s.B.2.2.2=some (.inr (8,rk r s who))):=by
 have:=NJ (L:=fun n i (a:List qY)=>ub 1000 n i (rk r s who) pr a s.B.2.1 s.B.2.2.1 s.B.2.2.2) (N:=s.B.1.length) (fun j=> !decide (gg r.2.1 pr s.ho j>1152921504606846976))
  (fun a=>.inl (rk r s who,pr,a,s.B.2.1,s.B.2.2.1,s.B.2.2.2)) (.inr (8,rk r s who))
  (fun i a => a.length = s.B.1.length ∧ ∀ j, j < s.B.1.length → a.getD j ad = if j < i then ((s.B.1.getD j ad).1, gg r.2.1 pr s.ho j, (s.B.1.getD j ad).2.2) else s.B.1.getD j ad) (fun n a ha=>by
   show F8 1000 _ s.B.1.length (rk r s who) pr a s.B.2.1 s.B.2.2.1 s.B.2.2.2=_;unfold F8;simp_all) (fun n i a hi ha=>by
   have hv:=vAv (hL i hi);have aK:ub 1000 (n+1) i (rk r s who) pr a s.B.2.1 s.B.2.2.1 s.B.2.2.2=bif decide (gg r.2.1 pr s.ho i>1152921504606846976) then some (.inr (8,rk r s who)) else ub 1000 n ((i+1:Nat):Int) (rk r s who) pr (a.set i ((a.getD i ad).1,gg r.2.1 pr s.ho i,(a.getD i ad).2.2)) s.B.2.1 s.B.2.2.1 s.B.2.2.2:=by
    show F8 1000 _ i (rk r s who) pr a s.B.2.1 s.B.2.2.1 s.B.2.2.2=_;unfold F8;have iq:A7 1000 (rk r s who).2.1 pr (s.ho.getD i [])=some (gg r.2.1 pr s.ho i,true):=hv;have eh:(rk r s who).2.2.2.2.2.2.2.2.2.2.2.1=s.ho:=rfl;simp only[eh,qU,qC,aq,aa (show i<s.ho.length by omega),aa (show i<a.length by omega),aj,iq,aE,an,qE hi (by grind)];rfl
   grind) s.B.1.length 0 1000 s.B.1 (by omega) (by omega) (by simp)
 rcases this with⟨h1,a,h2,h3,h4⟩|⟨h1,h2⟩
 ·have e:a=tX r.2.1 pr s.ho s.B.1:=Db ad (by rw[h3,W3]) fun j hj=>by
   rw[h3] at hj;rw[h4 j hj,if_pos hj,W4 _ _ _ _ hj]
  simp_all
 simp_all
theorem vTd {r}(hr:jB r){s}(h:yE r s) who a p:
  ∃d,O9 1000 (rk r s who) a p=some ((kF r s a p).1,d)∧((kF r s a p).1=0→d=qO r (kF r s a p).2 who [] 0):=by
 have h3:=hr.n3;have gD:=h.bk.n6;have mh:=h.bk.n1;have eD:O9 1000 (rk r s who) a p=
  bif decide (a<0) then some (1,qO r s who [] 0)
  else bif decide (a≥(r.2.1.length:Int)) then some (1,qO r s who [] 0)
  else bif decide (p<0) then some (1,qO r s who [] 0)
  else bif decide (p>1048576) then some (1,qO r s who [] 0)
  else(ua 1000 s.pr a p).bind fun x0=>
  (oe 1000 s.B.1 s.B.2.1 s.B.2.2.1 s.B.2.2.2).bind fun x1=>
  (ub 1000 1000 0 (rk r s who) x0 x1.1 x1.2.1 x1.2.2.1 x1.2.2.2).bind fun z=>
  match z with
  |.inl z1=>some (0,(jF z1.1 (Bb z1 (z1.2.1,(yKm z1.1 ([],z1.1.2.2.2.2.2.2.2.2.2.2.2.2.2.2.2.2.2))))))
  |.inr z2=>some (yTz z2 ([],z2.2.2.2.2.2.2.2.2.2.2.2.2.2.2.2.2.2.2)):=rfl
 rw[eD,IT (by omega) h.bk.toSized];simp only[ae];unfold kF;by_cases c1:a<0
 ·rw[aa c1,ab (show¬a≥0 by omega)];exact by simp
 rw[ab c1,aa (show a≥0 by omega)];by_cases c2:a≥(r.2.1.length:Int)
 ·grind
 rw[ab c2,aa (show a≤(r.2.1.length:Int)-1 by omega)];by_cases c3:p<0
 ·rw[aa c3,ab (show¬p≥0 by omega)];exact by simp
 rw[ab c3,aa (show p≥0 by omega)];by_cases c4:p>1048576
 ·rw[aa c4,ab (show¬p≤1048576 by omega)];exact by simp
 rw[ab c4,aa (show p≤1048576 by omega)];obtain⟨i,rfl⟩:=Int.eq_ofNat_of_zero_le (show 0≤a by omega);have hi:i<r.2.1.length:=by omega
 have L0:=h.laid 0 (by omega);have lG:ua 1000 s.pr (i:Int) p=some (s.pr.set i p):=yEj (by rw[L0.pl];omega) (by rw[L0.pl];omega) p;simp only[Bool.and_self,aE,an,lG,ae,aq];unfold F2;rcases vPv (r:=r) (s:=s) who (pr:=s.pr.set i p) (fun j hj=>(h.laid j hj).setP hi ⟨by omega,by omega⟩) h.hol gD with⟨g1,g2⟩|⟨g1,g2⟩
 ·rw[g2,g1];exact⟨_,rfl,fun _=>rfl⟩
 ·rw[g2,g1];exact⟨_,rfl,fun e=>by cases e⟩
theorem yJa {m}(hd:qN m){i}(hi:i<m.length):kt m (m.getD i pd).1=(i:Int):=by
 obtain⟨x,hx⟩:=N0 (jQ (d:=pd) hi);have h:=ku hx;unfold kt;have:x=i:=by
  rcases Nat.lt_trichotomy x i with g|g|g
  ·have:=List.pairwise_iff_getElem.1 hd x i h.1 hi g;grind
  ·exact g
  ·have:=List.pairwise_iff_getElem.1 hd i x hi h.1 g;grind
 simp_all
theorem vOe {k}(hk:100<k){B}(h:qP B){l:List zH}(hl:l.length≤80):I8 k B.1 B.2.1 B.2.2.1 B.2.2.2 l=some (wk B l):=vNk hk h hl
theorem Pb {k}(hk:100<k){B}(h:qP B){l:List zH}(hl:l.length≤80):
  ∃C:BT,uc k B.1 B.2.1 B.2.2.1 B.2.2.2 l=some (C.1,C.2.1,C.2.2.1,C.2.2.2,(hZ k B l).isSome)∧(∀D,hZ k B l=some D→D=C):=by
 obtain⟨r,h1,h2,h3⟩:=EX hk h hl;unfold uc hZ;rw[h2,h1,vOe hk h hl];refine⟨(r.1,r.2.1,r.2.2.1,r.2.2.2.1),?_,?_⟩;all_goals grind
theorem yEh {k}(hk:100<k){B}(h:qP B)(m:List zH)(hm:m.length≤1000):∀c i n,i+c=m.length→c<n→
  KA k n i B.1 B.2.1 B.2.2.1 B.2.2.2 0 0 0 0 0 0 0 m = some (match fE k B (m.drop i) with
   |some (p,C)=>.inr (true,p.1,p.2.1,p.2.2.1,p.2.2.2.1,p.2.2.2.2.1,p.2.2.2.2.2.1,p.2.2.2.2.2.2)
   |none=>.inl (0,0,0,0,0,0,0))
 |0,i,n,e,hn=>by
  obtain⟨n,rfl⟩:∃x,n=x+1:=⟨n-1,by omega⟩;have:i=m.length:=by omega
  subst this;show F9 k _ m.length B.1 B.2.1 B.2.2.1 B.2.2.2 0 0 0 0 0 0 0 m=_;unfold F9;simp;rfl
 |c+1,i,n,e,hn=>by
  obtain⟨n,rfl⟩:∃x,n=x+1:=⟨n-1,by omega⟩;have hi:i<m.length:=by omega
  have ih:=yEh hk h m hm c (i+1) n (by omega) (by omega);show F9 k _ i B.1 B.2.1 B.2.2.1 B.2.2.2 0 0 0 0 0 0 0 m=_;unfold F9;obtain⟨C,h1,h2⟩:=Pb hk h (l:=[m.getD i pd]) (by simp);have c1:decide ((0:Int)≤(i:Int))=true:=by simp
  have c2:decide ((i:Int)≤((i+1:Nat):Int))=true:=by grind
  have c3:decide (((i+1:Nat):Int)≤(m.length:Int))=true:=by grind
  simp only[qC,qE hi (by grind),aq,vPg m i hi];rw[yC1 k B hi];grind
theorem yYm {k} (hk : 100 < k) {B} (h : qP B) {l} (bL : l.length < k) (hl : qT l) t : Pc k B.1 B.2.1 B.2.2.1 B.2.2.2 l t = some (match fE k B (wA l t) with
   |some (p,C)=>(p.1,p.2.1,p.2.2.1,p.2.2.2.1,p.2.2.2.2.1,p.2.2.2.2.2.1,p.2.2.2.2.2.2,true)
   |none=>(0,0,0,0,0,0,0,false)):=by
 unfold Pc;rw[yOu bL hl];have E0:=Oh l t;unfold qT at hl;have:=yEh hk h (wA l t) (by omega) (wA l t).length 0 k (by omega) (by omega);grind
theorem vYz {k}(hk:100<k) t {B C l m done}(h:gA k t B l done C m):∀n (r:List zH),qP B→l.length≤100→l.length<n→r.length+l.length≤1000→
  KB k n l t B.1 B.2.1 B.2.2.1 B.2.2.2 r=some (m,C.1,C.2.1,C.2.2.1,C.2.2.2,r++done):=by
 induction h with
 |@stop B l hx=>
  intro n r hb hl hn hr;obtain⟨n,rfl⟩:∃x,n=x+1:=⟨n-1,by omega⟩;have h2:=yYm hk hb (l:=l) (by omega) (by show l.length≤1000;omega) t;rw[hx] at h2;show Ga k _ l t B.1 B.2.1 B.2.2.1 B.2.2.2 r=_;unfold Ga;simp_all
 |@step B C D l m done p hx _ ih=>
  intro n r hb hl hn hr;obtain⟨n,rfl⟩:∃x,n=x+1:=⟨n-1,by omega⟩;have h2:=yYm hk hb (l:=l) (by omega) (by show l.length≤1000;omega) t;rw[hx] at h2;obtain⟨hp,hg⟩:=AP hx;have CC:=EY hp;obtain⟨sG,mR⟩:=tK CC;obtain⟨pc,dp⟩:=rM hk hb (by simp) hg;have g2:=ih n (r++[p]) pc (by omega) (by omega) (by grind);show Ga k _ l t B.1 B.2.1 B.2.2.1 B.2.2.2 r=_;unfold Ga;rw[h2];obtain⟨C',e1,e2⟩:=Pb hk hb (l:=[p]) (by simp);have:=e2 C hg;subst this;simp[tW (show l.length<k by omega) (show qT l by show l.length≤1000;omega),nk (show r.length≤1000 by omega)];rw[List.append_cons r p done,←g2];have KC:uc k B.1 B.2.1 B.2.2.1 B.2.2.2 [(p.1,p.2.1,p.2.2.1,p.2.2.2.1,p.2.2.2.2.1,p.2.2.2.2.2.1,p.2.2.2.2.2.2)]=_:=e1;rw[KC];rfl
theorem yDo {k}(hk:200≤k){B C}(hb:qP B){l m done}(hl:l.length≤100){t}(h:gA k t B l done C m):Pd k B.1 B.2.1 B.2.2.1 B.2.2.2 l t=some (C.1,C.2.1,C.2.2.1,C.2.2.2,m,done):=by
 unfold Pd;rw[vYz (by omega) t h k [] hb hl (by omega) (by grind)];rfl
def Xp (x:Option (zH×zH×BT)):Int×Int×Int×Int×Int×Int×Int×Int×Int×Int×Int×Int×Int×Int×Bool:=match x with
 |some (p,q,C)=>(p.1,p.2.1,p.2.2.1,p.2.2.2.1,p.2.2.2.2.1,p.2.2.2.2.2.1,p.2.2.2.2.2.2,q.1,q.2.1,q.2.2.1,q.2.2.2.1,q.2.2.2.2.1,q.2.2.2.2.2.1,q.2.2.2.2.2.2,true)
 |none=>(0,0,0,0,0,0,0,0,0,0,0,0,0,0,false)
theorem yMb {k}(hk:100<k){B}(h:qP B)(m:List zH)(hm:m.length≤1000){j}(hj:j<m.length):∀c i n,i+c=m.length→c<n→
  KD k n j i B.1 B.2.1 B.2.2.1 B.2.2.2 0 0 0 0 0 0 0 0 0 0 0 0 0 0 m = some (match ou k B (m.getD j pd) (m.drop i) with
   |some (q,C)=>.inr (true,(m.getD j pd).1,(m.getD j pd).2.1,(m.getD j pd).2.2.1,(m.getD j pd).2.2.2.1,(m.getD j pd).2.2.2.2.1,(m.getD j pd).2.2.2.2.2.1,(m.getD j pd).2.2.2.2.2.2,q.1,q.2.1,q.2.2.1,q.2.2.2.1,q.2.2.2.2.1,q.2.2.2.2.2.1,q.2.2.2.2.2.2)
   |none=>.inl ((j:Int),B.1,B.2.1,B.2.2.1,B.2.2.2,0,0,0,0,0,0,0,0,0,0,0,0,0,0,m))
 |0,i,n,e,hn=>by
  obtain⟨n,rfl⟩:∃x,n=x+1:=⟨n-1,by omega⟩;have:i=m.length:=by omega
  subst this;show Gc k _ j m.length B.1 B.2.1 B.2.2.1 B.2.2.2 0 0 0 0 0 0 0 0 0 0 0 0 0 0 m=_;unfold Gc;simp;rfl
 |c+1,i,n,e,hn=>by
  obtain⟨n,rfl⟩:∃x,n=x+1:=⟨n-1,by omega⟩;have hi:i<m.length:=by omega
  have ih:=yMb hk h m hm hj c (i+1) n (by omega) (by omega);show Gc k _ j i B.1 B.2.1 B.2.2.1 B.2.2.2 0 0 0 0 0 0 0 0 0 0 0 0 0 0 m=_;unfold Gc;obtain⟨C,h1,h2⟩:=Pb hk h (l:=[m.getD j pd,m.getD i pd]) (by simp);simp[qC,qE hi (by grind),h1];rw[vC2 k B _ hi];unfold pB;grind
theorem vA5 {k}(hk:100<k){B}(h:qP B)(m:List zH)(hm:m.length≤1000)(JH:m.length<k):∀c i n,i+c=m.length→c<n→
  KE k n i B.1 B.2.1 B.2.2.1 B.2.2.2 0 0 0 0 0 0 0 0 0 0 0 0 0 0 m = some (match rN k B m (m.drop i) with
   |some (p,q,C)=>.inr (true,p.1,p.2.1,p.2.2.1,p.2.2.2.1,p.2.2.2.2.1,p.2.2.2.2.2.1,p.2.2.2.2.2.2,q.1,q.2.1,q.2.2.1,q.2.2.2.1,q.2.2.2.2.1,q.2.2.2.2.2.1,q.2.2.2.2.2.2)
   |none=>.inl (0,0,0,0,0,0,0,0,0,0,0,0,0,0))
 |0,i,n,e,hn=>by
  obtain⟨n,rfl⟩:∃x,n=x+1:=⟨n-1,by omega⟩;have:i=m.length:=by omega
  subst this;show Gd k _ m.length B.1 B.2.1 B.2.2.1 B.2.2.2 0 0 0 0 0 0 0 0 0 0 0 0 0 0 m=_;unfold Gd;simp;rfl
 |c+1,i,n,e,hn=>by
  obtain⟨n,rfl⟩:∃x,n=x+1:=⟨n-1,by omega⟩;have hi:i<m.length:=by omega
  have ih:=vA5 hk h m hm JH c (i+1) n (by omega) (by omega);show Gd k _ i B.1 B.2.1 B.2.2.1 B.2.2.2 0 0 0 0 0 0 0 0 0 0 0 0 0 0 m=_;unfold Gd;have eZ:=yMb hk h m hm hi m.length 0 k (by omega) JH;have e0:((0:Nat):Int)=0:=rfl;rw[e0,List.drop_zero] at eZ;simp[aa hi];rw[eZ];rw[yUb k B m hi];cases ou k B (m.getD i pd) m with
  |none=>
   simp[qE hi (by grind)];exact ih
  |some x=>rfl
theorem yDt {k}(hk:100<k){B}(h:qP B){l}(bL:l.length<k)(hl:qT l) t:Pe k B.1 B.2.1 B.2.2.1 B.2.2.2 l t=some (Xp (fx k B l t)):=by
 unfold Pe fx;rw[yOu bL hl];have E0:=Oh l t;unfold qT at hl;have:=vA5 hk h (wA l t) (by omega) (by omega) (wA l t).length 0 k (by omega) (by omega);have e:((0:Nat):Int)=0:=rfl;rw[e,List.drop_zero] at this;simp;rw[this];cases rN k B (wA l t) (wA l t) with
 |none=>rfl
 |some x=>rfl
theorem vUv {k}(hk:100<k) t {B C l m done}(h:jT k t B l done C m):∀n (r:List zH),qP B→qN l→l.length≤100→l.length<n→r.length+l.length≤900→
  KF k n l t B.1 B.2.1 B.2.2.1 B.2.2.2 r=some (m,C.1,C.2.1,C.2.2.1,C.2.2.2,r++done):=by
 induction h with
 |@stop B l hx=>
  intro n r hb hd hl hn hr;obtain⟨n,rfl⟩:∃x,n=x+1:=⟨n-1,by omega⟩;have h2:=yDt hk hb (l:=l) (by omega) (by show l.length≤1000;omega) t;rw[hx] at h2;show Ge k _ l t B.1 B.2.1 B.2.2.1 B.2.2.2 r=_;unfold Ge;rw[h2];simp only[ae,Xp,cp,aj,List.append_nil]
 |@step B C D l m done p q hx _ ih=>
  intro n r hb hd hl hn hr;obtain⟨n,rfl⟩:∃x,n=x+1:=⟨n-1,by omega⟩;have h2:=yDt hk hb (l:=l) (by omega) (by show l.length≤1000;omega) t;rw[hx] at h2;obtain⟨hp,hq,ow,hg⟩:=E2 hx;obtain⟨sG,mR⟩:=E3 hd hp hq ow;obtain⟨pc,dp⟩:=rM hk hb (by simp) hg;have oc:(eN l p.1).length≤l.length:=(tK hp).2.length_le;have g2:=ih n (r++[p,q]) pc (List.Pairwise.sublist mR hd) (by omega) (by omega) (by grind);have e2:r++[p,q]++done=r++p::q::done:=by rw[List.append_assoc];rfl
  show Ge k _ l t B.1 B.2.1 B.2.2.1 B.2.2.2 r=_;unfold Ge;rw[h2];obtain⟨C',e1,e2'⟩:=Pb hk hb (l:=[p,q]) (by simp);have:=e2' C hg;subst this;have KC:uc k B.1 B.2.1 B.2.2.1 B.2.2.2 [(p.1,p.2.1,p.2.2.1,p.2.2.2.1,p.2.2.2.2.1,p.2.2.2.2.2.1,p.2.2.2.2.2.2),(q.1,q.2.1,q.2.2.1,q.2.2.2.1,q.2.2.2.2.1,q.2.2.2.2.2.1,q.2.2.2.2.2.2)]=_:=e1;have d1:=tW (show l.length<k by omega) (show qT l by show l.length≤1000;omega) p.1;have d2:=tW (k:=k) (l:=(g9 l p.1).1) (Nat.lt_of_le_of_lt oc (by omega)) (Nat.le_trans oc (by omega)) q.1;have e3:zN (r.length+2) 56=true:=qH (by omega) (by omega);simp only[ae,Xp,KC,d1,d2,e3];rw[←e2,←g2];rfl
theorem yEe {k}(hk:200≤k){B C}(hb:qP B){l m done}(hd:qN l)(hl:l.length≤100){t}(h:jT k t B l done C m):Pf k B.1 B.2.1 B.2.2.1 B.2.2.2 l t=some (C.1,C.2.1,C.2.2.1,C.2.2.2,m,done):=by
 unfold Pf;rw[vUv (by omega) t h k [] hb hd hl (by omega) (by grind)];rfl
theorem Xq {k l}(hk:l.length<k)(hl:qT l) many:Gf k l many=some (vJ l many):=by
 unfold qT at hl;unfold Gf;obtain ⟨s', h1, h2⟩ := yS (L := fun n i s => Gg k n l many i s) (N := l.length) (fun s => s) (fun i s => s = mw l many i) (fun n s _=>by
  show Gh k _ l many l.length s=_;unfold Gh;simp) (fun n i s hi hs=>by
  have eG:s.length≤i:=by rw[hs];exact V7 l many i
  refine⟨bif rO l many i then s++[l.getD i pd] else s,?_,?_⟩
  ·show Gh k _ l many i s=_;unfold Gh;have c1:decide ((0:Int)≤(i:Int))=true:=by simp
   have c2:decide ((i:Int)≤(l.length:Int))=true:=by grind
   have VB:=NV (k:=k) (l:=l.take i) (by grind) (by show(l.take i).length≤1000;grind) (l.getD i pd).2.1;simp only[qC,qE hi (by grind),qU,aq,aa hi,nk (show s.length≤1000 by omega),c2,VB];unfold rO jS;cases e1:decide ((l.getD i (0,(0,(0,(0,(0,(0,0))))))).2.1≥0) with
   |false=>rfl
   |true=>
    cases e2:decide ((l.getD i (0,(0,(0,(0,(0,(0,0))))))).2.1<(many.length:Int)) with
    |false=>rfl
    |true=>
     rw[aY] at e1 e2;have hb:zB (l.getD i (0,(0,(0,(0,(0,(0,0))))))).2.1 many.length=true:=wT e1 (by omega);grind
  ·show _=mw l many i++_;grind) (s:=[]) hk rfl
 have fW:Gg k k l many 0 []=some s':=h1;rw[fW,h2];rfl
theorem Xr {k}{B:BT}{l}(hk:l.length<k)(hl:qT l)(hn:B.1.length<k)(hn':B.1.length≤1000):
  Bh k k 0 B.1 B.2.1 B.2.2.1 B.2.2.2 l []=some (B.1,B.2.1,B.2.2.1,B.2.2.2,l,gC l B.1.length):=by
 obtain ⟨s', h1, h2⟩ := yS (L := fun n i (s : AC) => Bh k n i B.1 B.2.1 B.2.2.1 B.2.2.2 l s) (N := B.1.length) (fun s => (B.1, B.2.1, B.2.2.1, B.2.2.2, l, s)) (fun i s => s = gC l i) (fun n s _=>by
  show Gj k _ B.1.length B.1 B.2.1 B.2.2.1 B.2.2.2 l s=_;unfold Gj;simp) (fun n i s hi hs=>by
  refine⟨_,?_,(yKa l i).symm⟩;show Gj k _ i B.1 B.2.1 B.2.2.1 B.2.2.2 l s=_;unfold Gj;have hr:zN (s.length+1) 8=true:=by rw[hs,wu];exact qH (by omega) (by omega)
  simp[aa hi,NV hk hl,hr,qE hi (by grind)];rw[hs];rfl) (s:=[]) hn rfl
 simp_all
theorem Xs {k}{B:BT}{l:List zH}{s m}(hk:s.length<k)(hs:s.length≤1000)(eZ:∀x∈s,0≤x∧x<(m.length:Int))(h0:oz m)(hm:∀i,m.getD i 0≤1000) aN:
  Gk k k aN 0 B.1 B.2.1 B.2.2.1 B.2.2.2 l m s=some (aN,B.1,B.2.1,B.2.2.1,B.2.2.2,l,eO s m):=by
 obtain ⟨s', h1, h2⟩ := yS (L := fun n i (r : AC) => Gk k n aN i B.1 B.2.1 B.2.2.1 B.2.2.2 l r s) (N := s.length) (fun r => (aN, B.1, B.2.1, B.2.2.1, B.2.2.2, l, r)) (fun i r => r = eO (s.take i) m) (fun n r _=>by
  show Gl k _ aN s.length B.1 B.2.1 B.2.2.1 B.2.2.2 l r s=_;unfold Gl;simp) (fun n i r hi hr=>by
  refine⟨_,?_,(yH3 s m i hi).symm⟩;show Gl k _ aN i B.1 B.2.1 B.2.2.1 B.2.2.2 l r s=_;unfold Gl;obtain⟨b1,b2⟩:=eZ _ (jQ (d:=0) hi);have uI:r.length=m.length:=by rw[hr,tM]
  have hb:zB (s.getD i 0) r.length=true:=wT b1 (by omega);have Us:=JK (s.take i) m (s.getD i 0).toNat;have HQ:=h0 (s.getD i 0).toNat;have vi:=hm (s.getD i 0).toNat;have bj:(s.take i).length≤s.length:=by grind
  have hw:zA (r.getD (s.getD i 0).toNat 0-1)=r.getD (s.getD i 0).toNat 0-1:=by
   rw[hr];exact zO (by omega) (by omega)
  simp only[qU,qC,aq,aa hi,aj,hb,hw,qE hi (by grind)];rw[hr]) (s:=m) hk rfl
 simp_all
theorem vDj {k}(hk:100<k){B}(hb:qP B){l}(hl:∀q∈l,yH B.1.length q)(bU:l.length≤64){m f n}(h:ky B l m f n):
  ∀N (s7:Int),m.length=B.1.length→oz m→(∀i,m.getD i 0≤1000)→n<N→0≤s7→s7+n<1000000→
  KG k N s7 B.1 B.2.1 B.2.2.1 B.2.2.2 l m=some (s7+n,f):=by
 induction h with
 |@stop m h=>
  intro N s7 hm h0 h1 hn hs sV;obtain⟨N,rfl⟩:∃x,N=x+1:=⟨N-1,by omega⟩;show Gm k _ s7 B.1 B.2.1 B.2.2.1 B.2.2.2 l m=_;unfold Gm;have hS:=yCt hk hb (JL hl bU m);have nP:tC k B.1 B.2.1 B.2.2.1 B.2.2.2 (vJ l m)=some (jV B (vJ l m)):=hS;rw[Xq (by omega) (show qT l by show l.length≤1000;omega)];simp_all
 |@step m f n h h' ih=>
  intro N s7 hm h0 h1 hn hs sV;obtain⟨N,rfl⟩:∃x,N=x+1:=⟨N-1,by omega⟩;have gD:=hb.n6;show Gm k _ s7 B.1 B.2.1 B.2.2.1 B.2.2.2 l m=_;unfold Gm;have hS:=yCt hk hb (JL hl bU m);have nP:tC k B.1 B.2.1 B.2.2.1 B.2.2.2 (vJ l m)=some (jV B (vJ l m)):=hS;rw[Xq (by omega) (show qT l by show l.length≤1000;omega)];simp only[ae];rw[nP];simp only[ae];have w:zA (s7+1)=s7+1:=zO (by omega) (by omega);have bp : decide ((((jV B (vJ l m)).length : Nat) : Int) = 0) = false := ab (by
   have:=List.length_pos_iff.2 h;omega)
  have eG:(jV B (vJ l m)).length≤B.1.length:=by
   unfold jV tE;grind
  rw[bp];simp;rw[Xs (by omega) (by omega) (by rw[hm];exact V6) h0 h1];simp[w];have Wi:=Oo hl hm h0;have:=ih N (s7+1) ((tM _ _).trans hm) Wi (fun i=>by have:=(JK (jV B (vJ l m)) m i).2;have:=h1 i;omega) (by omega) (by omega) (by omega);rw[this]
  congr 2
  omega
theorem vMm {k}(hk:100<k){B}(hb:qP B){l}(hl:∀q∈l,yH B.1.length q)(bU:l.length≤64) t {f n}(hn:n≤l.length)(h:ky B (yX l t) (gC (yX l t) B.1.length) f n):
  Pg k B.1 B.2.1 B.2.2.1 B.2.2.2 l t=some (f,((n+1:Nat):Int)):=by
 have gD:=hb.n6;have hr:=wv l t;have h1:=Oq (l:=yX l t) (by omega) B.1.length;unfold Pg;rw[Vz (by omega) (by show l.length≤1000;omega)];simp;have e:Bh k k 0 B.1 B.2.1 B.2.2.1 B.2.2.2 (l.filter (jk t)) []=_:=Xr (k:=k) (B:=B) (l:=yX l t) (by omega) (by show(yX l t).length≤1000;omega) (by omega) (by omega);rw[e];simp;rw[vDj hk hb (JM hl) (by omega) h k 1 (wu _ _) h1.1 h1.2 (by omega) (by omega) (by omega)];grind
theorem Xt {k}{C:BT}{l hs:List zH}(hl:l.length<k)(dK:l.length≤1000)(hk:hs.length<k)(hh:hs.length≤1000):
  Bi k k l 0 hs C.1 C.2.1 C.2.2.1 C.2.2.2=some (oC l hs,hs,C.1,C.2.1,C.2.2.1,C.2.2.2):=by
 obtain ⟨s', h1, h2⟩ := yS (L := fun n i (s : List zH) => Bi k n s i hs C.1 C.2.1 C.2.2.1 C.2.2.2) (N := hs.length) (fun s => (s, hs, C.1, C.2.1, C.2.2.1, C.2.2.2)) (fun i s => s = oC l (hs.take i)) (fun n s _=>by
  show Gn k _ s hs.length hs C.1 C.2.1 C.2.2.1 C.2.2.2=_;unfold Gn;simp) (fun n i s hi hr=>by
  refine⟨_,?_,(vCk l hs i hi).symm⟩;show Gn k _ s i hs C.1 C.2.1 C.2.2.1 C.2.2.2=_;unfold Gn;have eG:=(Ot (hs.take i) l).1;rw[←hr] at eG⊢;simp[qC,aa hi,tW (show s.length<k by omega) (show qT s by show s.length≤1000;omega),qE hi (by grind)];rfl) (s:=l) hk rfl
 simp_all
theorem vJr {k}(hk:100<k){B}(hb:qP B){l}(hl:∀q∈l,yH B.1.length q)(bU:l.length≤64) t {f n}(hn:n≤l.length)(h:ky B (yX l t) (gC (yX l t) B.1.length) f n)
  {r:List qY×EQ×AC×EQ×Int} (hr:Az k B.1 B.2.1 B.2.2.1 B.2.2.2 (vJ (yX l t) f)=some r):KH k B.1 B.2.1 B.2.2.1 B.2.2.2 l t=some (E7 B l (vJ (yX l t) f) r):=by
 have uI:=wv l t;have Ov:=(wq (yX l t) f).length_le;unfold KH;rw[vMm hk hb hl bU t hn h,Vz (by omega) (by show l.length≤1000;omega)];simp;have e:Gf k (l.filter (jk t)) f=_:=Xq (k:=k) (l:=yX l t) (by omega) (by show(yX l t).length≤1000;omega) f;rw[e];simp;rw[hr];simp;unfold E7;cases decide (r.2.2.2.2=0) with
 |false=>rfl
 |true=>
  have e2:Bi k k l 0 (vJ (yX l t) f) r.1 r.2.1 r.2.2.1 r.2.2.2.1=_:=Xt (C:=(r.1,r.2.1,r.2.2.1,r.2.2.2.1)) (by omega) (by omega) (by omega) (by omega);simp_all
theorem gA.books {k}(hk:100<k){t B C l done m}(h:gA k t B l done C m)(hb:qP B)(hd:qN l):qP C∧C.1.length=B.1.length∧List.Sublist m l:=by
 induction h with
 |stop _=>simp_all
 |step h _ ih=>
  obtain⟨hp,hg⟩:=AP h;obtain⟨h1,h2⟩:=tK (EY hp);obtain⟨h3,h4⟩:=rM hk hb (by simp) hg;obtain⟨g1,g2,g3⟩:=ih h3 (List.Pairwise.sublist h2 hd);exact⟨g1,g2.trans h4,g3.trans h2⟩
theorem jT.books {k}(hk:100<k){t B C l done m}(h:jT k t B l done C m)(hb:qP B)(hd:qN l):qP C∧C.1.length=B.1.length∧List.Sublist m l:=by
 induction h with
 |stop _=>simp_all
 |step h _ ih=>
  obtain⟨hp,hq,ow,hg⟩:=E2 h;obtain⟨h1,h2⟩:=E3 hd hp hq ow;obtain⟨h3,h4⟩:=rM hk hb (by simp) hg;obtain⟨g1,g2,g3⟩:=ih h3 (List.Pairwise.sublist h2 hd);exact⟨g1,g2.trans h4,g3.trans h2⟩
theorem vE4 {k}(hk:200≤k){t B C l m done}(h:lF k t B l done C m):∀n (r:List zH),qP B→qN l→l.length≤100→l.length<n→r.length+l.length≤900→
  KI k n l t B.1 B.2.1 B.2.2.1 B.2.2.2 r=some (m,C.1,C.2.1,C.2.2.1,C.2.2.2,r++done):=by
 induction h with
 |@stop B C l m d h1 h2=>
  intro n r hb hd hl hn hr;obtain⟨n,rfl⟩:∃x,n=x+1:=⟨n-1,by omega⟩;have p1:=h1.perm hd;have l1:=p1.length_eq;rw[List.length_append] at l1;obtain⟨g1,g2,g3⟩:=h1.books (by omega) hb hd;have f1:=yDo hk hb hl h1;have f2:=yEe hk g1 (List.Pairwise.sublist g3 hd) (by omega) (jT.stop (t:=t) h2);have r1:zN (r.length+d.length) 56=true:=qH (by omega) (by omega);show Gp k _ l t B.1 B.2.1 B.2.2.1 B.2.2.2 r=_;unfold Gp;grind
 |@step B C D E l m n' o d e f h1 h2 ne h' ih=>
  intro n r hb hd hl hn hr;obtain⟨n,rfl⟩:∃x,n=x+1:=⟨n-1,by omega⟩;have p1:=h1.perm hd;have l1:=p1.length_eq;rw[List.length_append] at l1;obtain⟨g1,g2,g3⟩:=h1.books (by omega) hb hd;have hm:qN m:=List.Pairwise.sublist g3 hd;have p2:=h2.perm hm;have l2:=p2.length_eq;rw[List.length_append] at l2;obtain⟨k1,k2,k3⟩:=h2.books (by omega) g1 hm;have f1:=yDo hk hb hl h1;have f2:=yEe hk g1 hm (by omega) h2;have lh:=List.length_pos_iff.2 ne;have r1:zN (r.length+d.length) 56=true:=qH (by omega) (by omega);have r2:zN ((r++d).length+e.length) 56=true:=qH (by rw[List.length_append];omega) (by rw[List.length_append];omega);have:=ih n (r++d++e) k1 (List.Pairwise.sublist k3 hm) (by omega) (by omega) (by simp;omega);show Gp k _ l t B.1 B.2.1 B.2.2.1 B.2.2.2 r=_;unfold Gp;grind
theorem yCq {k}(hk:200≤k){t B C l m done}(hb:qP B)(hd:qN l)(hl:l.length≤100)(h:lF k t B l done C m):
  KJ k B.1 B.2.1 B.2.2.1 B.2.2.2 l t=some (C.1,C.2.1,C.2.2.1,C.2.2.2,m,done):=by
 unfold KJ;rw[vE4 hk h k [] hb hd hl (by omega) (by grind)];rfl
theorem vLj {k}(hk:200≤k){B}(hb:qP B){l:List zH}(hl:∀q∈l,yH B.1.length q)(bU:l.length≤64) t:
  ∃r,AU k B.1 B.2.1 B.2.2.1 B.2.2.2 l t=some r∧KH k B.1 B.2.1 B.2.2.1 B.2.2.2 l t=some r:=by
 obtain⟨f,n,h,hn⟩:=V8 hb hl bU t;have uI:=wv l t;have Ov:=(wq (yX l t) f).length_le;obtain⟨r,h1,h2,h3⟩:=EX (k:=k) (by omega) hb (l:=vJ (yX l t) f) (by omega);exact⟨_,Wj (k:=k) (by omega) hb hl bU t (by omega) h h1,vJr (k:=k) (by omega) hb hl bU t (by omega) h h2⟩
theorem vNd {k}(hk:200≤k){B}(hb:qP B){l}(hd:qN l)(hl:∀q∈l,yH B.1.length q)(bU:l.length≤64) t all:
  ∃(C:BT) (m done:List zH),wx k B.1 B.2.1 B.2.2.1 B.2.2.2 l t all=some (C.1,C.2.1,C.2.2.1,C.2.2.2,m,done)∧Ph k B.1 B.2.1 B.2.2.1 B.2.2.2 l t all=some (C.1,C.2.1,C.2.2.1,C.2.2.2,m,done)∧
   qP C∧C.1.length=B.1.length∧List.Sublist m l∧List.Perm (done++m) l∧fE k C (wA m t)=none∧fx k C m t=none:=by
 obtain⟨C,m,d,f1,f2,f3,f4,f5⟩:=Fj hk hb hd (by omega) t;have fr:=yCq hk hb hd (by omega) f2;have p1:=f2.perm hd;have l1:=p1.length_eq;rw[List.length_append] at l1;unfold wx Ph;rw[f1,fr];simp only[ae];cases all with
 |false=>exact⟨C,m,d,rfl,rfl,f3,f4,f5,p1,f2.final⟩
 |true=>
  have hm:qN m:=List.Pairwise.sublist f5 hd;have hmm:∀q∈m,yH C.1.length q:=by grind
  obtain⟨D,n,x,g1,g2,g3,g4,g5,g6⟩:=Wl hk f3 hm hmm (by omega) t;obtain⟨R,r1,r2⟩:=vLj hk f3 hmm (by omega) t;have hR:R=(D.1,D.2.1,D.2.2.1,D.2.2.2,n,x):=by rw[g1] at r1;exact(Option.some.inj r1).symm
  subst hR;have l2:=g5.length_eq;rw[List.length_append] at l2;rw[g1,r2];simp only[ae];cases x with
  |nil=>
   obtain⟨rfl,rfl⟩:=g6 rfl;exact⟨D,n,d,rfl,rfl,f3,f4,f5,p1,f2.final⟩
  |cons p x=>
   have e1:decide ((((p::x).length:Nat):Int)=0)=false:=ab (by simp;omega);rw[e1];have hn:qN n:=List.Pairwise.sublist g4 hm;obtain⟨E,o,y,k1,k2,k3,k4,k5⟩:=Fj hk g2 hn (by omega) t;have kr:=yCq hk g2 hn (by omega) k2;have p3:=k2.perm hn;have l3:=p3.length_eq;rw[List.length_append] at l3;have e2:zN (d.length+(p::x).length) 56=true:=qH (by simp at l2⊢;omega) (by simp at l2⊢;omega);have e3:zN ((d++(p::x)).length+y.length) 56=true:=qH (by simp at l2⊢;omega) (by simp at l2⊢;omega);rw[k1,kr];simp only[ae,e2,e3,aj];refine⟨E,o,d++(p::x)++y,rfl,rfl,k3,k4.trans (g3.trans f4),k5.trans (g4.trans f5),?_,k2.final⟩;have e4:d++(p::x)++y++o=d++((p::x)++(y++o)):=by simp
   rw[e4];exact by grind
theorem vBl {B:BT}(hb:qP B){m:List zH}(hd:qN m)(hm:∀q∈m,yH B.1.length q)(bU:m.length≤64)(t:Int)(pr:AC)(ho:EQ)(ids:AC)(to:Int)(ov all:Bool):
  ∃(C:BT) (m' d:List zH),tO 1000 t B.1 B.2.1 B.2.2.1 B.2.2.2 pr ho m ids to ov all=some (t,C.1,C.2.1,C.2.2.1,C.2.2.2,pr,ho,m',ids,to,ov,vN d)∧
   nv 1000 t B.1 B.2.1 B.2.2.1 B.2.2.2 pr ho m ids to ov all=some (t,C.1,C.2.1,C.2.2.1,C.2.2.2,pr,ho,m',ids,to,ov,vN d)∧qP C∧fm B C∧List.Sublist m' m∧List.Perm (d++m') m∧fE 1000 C (wA m' t)=none:=by
 obtain⟨C,m',d,f1,fr,f2,f3,f4,f5,f6,f7⟩:=vNd (k:=1000) (by decide) hb hd hm bU t all;have hlen:=f5.length_eq;rw[List.length_append] at hlen;refine⟨C,m',d,?_,?_,f2,vAj (by decide) hb hd hm bU t all f1,f4,f5,f6⟩
 ·unfold tO;rw[f1];simp only[ae];rw[vCz (by omega) (by omega)];rfl
 ·unfold nv;rw[fr];simp only[ae];rw[vTt (by omega) (by omega)];rfl
theorem Pj kd a:eP 1000 kd [a]=some (kd,a,0,0,0,0,0):=by rfl
theorem Of0 kd:eP 1000 kd []=some (kd,0,0,0,0,0,0):=by rfl
theorem Of5 kd a b c d e:eP 1000 kd [a,b,c,d,e]=some (kd,a,b,c,d,e,0):=by rfl
theorem vXr (s:zZ)(hm:s.m.length≤100)(b:Int×Int×Bool):xo 1000 1000 s.m 0 s.st b []=some (s.st,b,s.m.map (wK 22)):=by
 obtain ⟨s', h1, h2⟩ := yS (L := fun n i (o : List yK) => xo 1000 n s.m i s.st b o) (N := s.m.length) (fun o => (s.st, b, o)) (fun i o => o = (s.m.take i).map (wK 22)) (fun n o _=>by
  show Gq 1000 (xo 1000 n) s.m s.m.length s.st b o=_;unfold Gq;simp) (fun n i o hi ho=>by
  refine⟨_,?_,(yIp (wK 22) s.m i pd hi).symm⟩;show Gq 1000 (xo 1000 n) s.m i s.st b o=_;unfold Gq;have eG:o.length≤900:=by grind
  rw[aa (by grind),qC,aa hi,aq,Pj,qE hi (by omega)];simp only[wy (show o.length≤1000 by omega)];rw[ho];rfl) (s:=[]) (show s.m.length<1000 by omega) rfl
 simp_all
theorem vOp (s:zZ)(hB:s.B.1.length≤6)(b:Int×Int×Bool)(l:List yK)(hl:l.length≤100):xp 1000 1000 0 s.st b l=some (s.st,b,l++iA s.B s.B.1.length):=by
 have ea:s.st.2.1=s.B.1:=rfl;obtain ⟨s', h1, h2⟩ := yS (L := fun n i (o : List yK) => xp 1000 n i s.st b o) (N := s.B.1.length) (fun o => (s.st, b, o)) (fun i o => o = l ++ iA s.B i) (fun n o _=>by
  show Gr 1000 (xp 1000 n) s.B.1.length s.st b o=_;unfold Gr;simp_all) (fun n i o hi ho=>by
  refine⟨_,?_,(show l++iA s.B i++[w5 s.B i]=l++iA s.B (i+1) by rw[yW6,List.append_assoc])⟩;show Gr 1000 (xp 1000 n) i s.st b o=_;unfold Gr;have eG:o.length≤900:=by
   rw[ho,List.length_append];unfold iA;grind
  rw[ea,aa (by grind),qC,aa hi,aq,Pj,qE hi (by omega)];simp only[wy (show o.length≤1000 by omega)];rw[ho];rfl) (s:=l) (show s.B.1.length<1000 by omega) (by show _=_++[];simp)
 simp_all
theorem vM7 {a b p}(hd:qN (a++p::b)):g9 (a++p::b) p.1=(a++b,p.1,p.2.1,p.2.2.1,p.2.2.2.1,p.2.2.2.2.1,p.2.2.2.2.2.1,p.2.2.2.2.2.2,0):=by
 have hl:a.length<(a++p::b).length:=by simp
 have hg:(a++p::b).getD a.length pd=p:=by simp
 have hp:=yJa hd hl;rw[hg] at hp;unfold kt at hp;unfold g9;cases hx:vS (a++p::b) p.1 with
 |none=>simp_all
 |some x=>
  rw[hx] at hp;simp only at hp;obtain rfl:x=a.length:=by omega
  unfold yC;simp
theorem Xu (r:qL)(s:zZ)(hd:qN s.m)(hm:s.m.length≤100)(b:Int×Int×Bool):
  ud 1000 1000 s.m 0 r s.st b []=some (r,zZ.st {s with m:=s.m.filter (fun p=> !vE s.t p)},b,(s.m.filter (vE s.t)).map (wK 21)):=by
 obtain ⟨s', h1, h2, h3⟩ := yS (L := fun n i (x : List zH × List yK) => ud 1000 n s.m i r (zZ.st { s with m := x.1 }) b x.2) (N := s.m.length) (fun x => (r, zZ.st { s with m := x.1 }, b, x.2)) (fun i x => x.1 = (s.m.take i).filter (fun p => !vE s.t p) ++ s.m.drop i ∧ x.2 = ((s.m.take i).filter (vE s.t)).map (wK 21)) (fun n x _=>by
  show Gs 1000 (ud 1000 n) s.m s.m.length r _ b _=_;unfold Gs;rw [ab (Int.lt_irrefl _)]; rfl) (fun n i x hi hx=>by
  have f1:=AI (vE s.t) s.m i pd hi;have f2:=AI (fun p=> !vE s.t p) s.m i pd hi;have hdr:s.m.drop i=s.m.getD i pd::s.m.drop (i+1):=by rw[List.drop_eq_getElem_cons hi,FP _ hi]
  have mR:x.2.length≤900:=by
   rw[hx.2,List.length_map];have:=List.length_filter_le (vE s.t) (s.m.take i);rw[List.length_take] at this;omega
  have sG:x.1.length≤s.m.length:=by
   rw[hx.1,List.length_append,List.length_drop];have:=List.length_filter_le (fun p=> !vE s.t p) (s.m.take i);rw[List.length_take] at this;omega
  have cM:List.Sublist x.1 s.m:=by
   have h:=List.Sublist.append (List.filter_sublist (p:=fun p=> !vE s.t p) (l:=s.m.take i)) (List.Sublist.refl (s.m.drop i));rw[List.take_append_drop] at h;rw[hx.1];exact h
  have hdx:qN x.1:=List.Pairwise.sublist cM hd;have e0:∀p:zH,Xv 1000 p.1 p.2.1 p.2.2.1 p.2.2.2.1 p.2.2.2.2.1 p.2.2.2.2.2.1 p.2.2.2.2.2.2 s.t=some (vE s.t p):=fun p=>rfl
  have ed:s.m.getD i (0,0,0,0,0,0,0)=s.m.getD i pd:=rfl;have et:(zZ.st {s with m:=x.1}).1=s.t:=rfl;have em:(zZ.st {s with m:=x.1}).2.2.2.2.2.2.2.1=x.1:=rfl;show∃s',Gs 1000 (ud 1000 n) s.m i r (zZ.st {s with m:=x.1}) b x.2=_∧_;unfold Gs;rw[aa (show(i:Int)<s.m.length by omega),qC,aa hi,aq,ed,et,em,e0,Pj,qE hi (by omega),tW (by omega) (by unfold qT;omega)];simp only[aj,ae,wy (show x.2.length≤1000 by omega)];cases hb:vE s.t (s.m.getD i pd) with
  |true=>
   have dj:=hx.1;rw[hdr] at dj;have e1:=vM7 (a:=(s.m.take i).filter (fun p=> !vE s.t p)) (b:=s.m.drop (i+1)) (p:=s.m.getD i pd) (by rw[←dj];exact hdx);rw[←dj] at e1;rw[e1];refine⟨((s.m.take i).filter (fun p=> !vE s.t p)++s.m.drop (i+1),x.2++[wK 21 (s.m.getD i pd)]),rfl,?_,?_⟩
   ·show _=_;rw[f2,hb];simp
   ·show x.2++_=_;rw[f1,hb,hx.2];simp
  |false=>
   refine⟨x,rfl,?_,?_⟩
   ·rw[f2,hb,hx.1,hdr];simp
   ·rw[f1,hb,hx.2];simp) (s:=(s.m,[])) (show s.m.length<1000 by omega) ⟨by simp,rfl⟩
 rw[List.take_length,List.drop_length,List.append_nil] at h2;rw[List.take_length] at h3;have fW:ud 1000 1000 s.m 0 r s.st b []=_:=h1;rw[fW,h2,h3]
theorem vWq (r:qL){s:zZ}(hb:qP s.B)(hd:qN s.m)(hm:∀q∈s.m,yH s.B.1.length q)(bU:s.m.length≤64)(ht:0≤s.t∧s.t<1099511627776)(JV:r.2.2.2.2≠0)(ho:s.ov=false):
  ∃x:Int×List qY×jE×AC×jE×AC×jE×List zH×AC×Int×Bool×List yK,w6 1000 r.1 r.2.1 r.2.2.1 r.2.2.2.1 r.2.2.2.2 s.t s.B.1 s.B.2.1 s.B.2.2.1 s.B.2.2.2 s.pr s.ho s.m s.ids s.to s.ov=some x∧Gt 1000 r s.st=some (qS x,x.2.2.2.2.2.2.2.2.2.2.2):=by
 have gD:=hb.n6;have w:zA (s.t+1)=s.t+1:=zO (by omega) (by omega);have eR:Gt 1000 r s.st=bif s.ov then some (s.st,[])
  else(Pk 1000 r (zA (s.t+1))).bind fun x0=>
  bif x0 then ((xo 1000 1000 s.m 0 ((zA (s.t+1)),s.st.2) (0,0,false) []).bind fun z=>
   (xp 1000 1000 0 z.1 z.2.1 z.2.2).bind fun z1=>
   some ((jo z1.1 ([],z1.1.2.2.2.2.2.2.2.2.1,z1.1.2.2.2.2.2.2.2.2.2.1,true)),z1.2.2))
  else(ud 1000 1000 s.m 0 r ((zA (s.t+1)),s.st.2) (0,0,false) []).bind fun z2=>
  (KK 1000 z2.1 z2.2.1.1).bind fun x6=>
  (nv 1000 z2.2.1.1 z2.2.1.2.1 z2.2.1.2.2.1 z2.2.1.2.2.2.1 z2.2.1.2.2.2.2.1 z2.2.1.2.2.2.2.2.1 z2.2.1.2.2.2.2.2.2.1 z2.2.1.2.2.2.2.2.2.2.1 z2.2.1.2.2.2.2.2.2.2.2.1 z2.2.1.2.2.2.2.2.2.2.2.2.1 z2.2.1.2.2.2.2.2.2.2.2.2.2 x6).bind fun x7=>
  bif zN (z2.2.2.2.length+x7.2.2.2.2.2.2.2.2.2.2.2.length) 64 then some ((qS x7),(z2.2.2.2++x7.2.2.2.2.2.2.2.2.2.2.2))
  else none:=rfl
 have eT:((s.t+1,s.st.2):tR)=zZ.st {s with t:=s.t+1}:=rfl;rw[eR,w,eT,ho];unfold w6 AY Pk;simp only[w,an,ae];cases hc:decide (s.t+1=r.2.2.2.1) with
 |true=>
  simp only[aj];rw[yKh gD (by decide) (by omega)];have c0:=vXr {s with t:=s.t+1,ov:=false} (by show s.m.length≤100;omega) (0,0,false);have c1:=vOp {s with t:=s.t+1,ov:=false} (by show s.B.1.length≤6;exact gD) (0,0,false) (s.m.map (wK 22)) (by rw[List.length_map];omega);refine⟨_,rfl,?_⟩;refine(congrArg (fun z=>Option.bind z _) c0).trans ?_;refine(congrArg (fun z=>Option.bind z _) c1).trans ?_;rfl
 |false=>
  simp only[an];rw[yR4 (by decide) (by omega)];have c2:=Xu r {s with t:=s.t+1,ov:=false} hd (by show s.m.length≤100;omega) (0,0,false);have hs:∃x,Fw 1000 r.1 r.2.1 r.2.2.1 r.2.2.2.1 r.2.2.2.2 (s.t+1)=some x∧KK 1000 r (s.t+1)=some x:=by
   unfold Fw KK;cases decide (s.t+1>0) with
   |false=>exact⟨_,rfl,rfl⟩
   |true=>
    cases decide (s.t+1<r.2.2.2.1) with
    |false=>exact⟨_,rfl,rfl⟩
    |true=>
     have:decide (r.2.2.2.2=0)=false:=ab JV;rw[this];exact⟨_,rfl,rfl⟩
  obtain⟨x,hx,oT⟩:=hs;simp only[ae];rw[hx];have cM:List.Sublist (s.m.filter (fun p=> !vE (s.t+1) p)) s.m:=List.filter_sublist;have eG:=cM.length_le;have oc:qN (s.m.filter (fun p=> !vE (s.t+1) p)):=List.Pairwise.sublist cM hd;obtain⟨C,m',d,f1,f1',f2,f3,f4,f5,f6⟩:=vBl hb oc (by grind) (by omega) (s.t+1) s.pr s.ho s.ids s.to false x;have hlen:=f5.length_eq;rw[List.length_append] at hlen;have hla:(s.m.filter (vE (s.t+1))).length≤s.m.length:=by grind
  have qs:=Fk d;have hr:zN (((s.m.filter (vE (s.t+1))).map (wK 21)).length+(vN d).length) 64=true:=qH (by rw[List.length_map];omega) (by rw[List.length_map];omega);simp only[ae];rw[f1];simp only[ae,hr,aj];refine⟨_,rfl,?_⟩;refine(congrArg (fun z=>Option.bind z _) c2).trans ?_;simp only[ae];refine(congrArg (fun z=>Option.bind z _) oT).trans ?_;have Xw:nv 1000 (s.t+1) s.B.1 s.B.2.1 s.B.2.2.1 s.B.2.2.2 s.pr s.ho (s.m.filter (fun p=> !vE (s.t+1) p)) s.ids s.to false x=_:=f1';refine(congrArg (fun z=>Option.bind z _) Xw).trans ?_;grind
theorem yE.settled {r s}(h:yE r s)(ho:s.ov=false){C}(hc:qP C)(kc:fm s.B C){m}(hm:List.Sublist m s.m):yE r {s with B:=C,m:=m}:=by
  have hl:=kc.len;exact{
    tk:=h.tk
    bk:=hc
    n:=by rw[hl];exact h.n
    hol:=by rw[hl];exact h.hol
    laid:=by rw[hl];exact h.laid
    cred:=by rw[hl];intro i hi;rw[kc.cred i hi];exact h.cred i hi
    most:=by rw[hl];intro i hi;rw[kc.cred i hi];exact h.most i hi
    waits:=by rw[hl];exact h.waits.sub hm
    sum:=by rw[hl,kc.sum];exact h.sum
    tot:=h.tot
    over:=h.over
    none:=by grind}
theorem vIp {k}(hk:1000≤k){r}(hr:jB r){s}(h:yE r s)(ho:s.ov=false):
    ∃(C:BT) (m':List zH) (ov:Bool) (o:List yK),w6 k r.1 r.2.1 r.2.2.1 r.2.2.2.1 r.2.2.2.2 s.t s.B.1 s.B.2.1 s.B.2.2.1 s.B.2.2.2 s.pr s.ho s.m s.ids s.to s.ov=some (s.t+1,C.1,C.2.1,C.2.2.1,C.2.2.2,s.pr,s.ho,m',s.ids,s.to,ov,o)∧
      yE r {s with t:=s.t+1,B:=C,m:=m',ov:=ov}∧fm s.B C∧(ov=false→fE k C (wA m' (s.t+1))=none)∧o.length≤100∧
      ((ov=true∧m'=[]∧o=s.m.map (wK 22)++iA s.B s.B.1.length∧C=s.B)∨∃l d n,o=l.map (wK 21)++vN d∧List.Perm (l++n) s.m∧List.Perm (d++m') n∧ov=false):=by
  have Cz:=hr.cl;have JV:=hr.pe;have htk:=h.tk;have hn:=h.n;have bj:s.t≠r.2.2.2.1:=by
    have:=h.over;simp_all
  have hbk:=h.bk;have hm:=h.waits.len;rw[ho];obtain⟨C,m',ov,o,e1,e2,e3,e4,e5⟩:=vGi (k:=k) (by omega) hbk h.waits.dist h.waits.may (by omega) r.1 r.2.1 r.2.2.1 r.2.2.2.1 r.2.2.2.2 s.t (by omega) (by omega) s.pr s.ho s.ids s.to;have hl:=e3.len;refine⟨C,m',ov,o,e1,?_,e3,e4,?_,e5⟩
  · exact{
      tk:=by grind
      bk:=e2.bk
      n:=by simp_all
      hol:=by rw[hl];exact h.hol
      laid:=by rw[hl];exact h.laid
      cred:=by rw[hl];intro i hi;rw[e3.cred i hi];exact h.cred i hi
      most:=by rw[hl];intro i hi;rw[e3.cred i hi];exact h.most i hi
      waits:=by rw[hl];exact h.waits.sub e2.sub
      sum:=by rw[hl,e3.sum];exact h.sum
      tot:=h.tot
      over:=e2.over
      none:=e2.none}
  · have:=e2.room;split at this<;>omega
theorem vRs r s who f:(kC r s who f).2.t=s.t∧(kC r s who f).2.ov=s.ov∧(kC r s who f).2.to=s.to:=by
 unfold kC;cases decide (f.1=5) with
 |true=>
  cases !((decide (f.2.1≥0)&&decide (f.2.1≤r.1-1))&& !decide (f.2.1=who))<;>cases !(decide (f.2.2.1≥-1)&&decide (f.2.2.1≤1152921504606846976))<;>exact⟨rfl,rfl,rfl⟩
 |false=>
  cases decide (f.1=6) with
  |true=>cases !(decide (f.2.1≥-1)&&decide (f.2.1≤1152921504606846976))<;>exact⟨rfl,rfl,rfl⟩
  |false=>cases !(decide (f.2.1≥0)&&decide (f.2.1≤1152921504606846976))<;>exact⟨rfl,rfl,rfl⟩
theorem Xx r s who a n:(kD r s who a n).2.t=s.t∧(kD r s who a n).2.ov=s.ov∧(kD r s who a n).2.to=s.to:=by
 unfold kD;cases !(decide (a≥0)&&decide (a≤(r.2.1.length:Int)-1)) with
 |true=>simp
 |false=>
 cases !(decide (n≥0)&&decide (n≤1099511627776)) with
 |true=>simp
 |false=>
 unfold Fy;grind
theorem vD7 r s a p:(kF r s a p).2.t=s.t∧(kF r s a p).2.ov=s.ov∧(kF r s a p).2.to=s.to:=by
 unfold kF;cases !(decide (a≥0)&&decide (a≤(r.2.1.length:Int)-1)) with
 |true=>simp
 |false=>
 cases !(decide (p≥0)&&decide (p≤1048576)) with
 |true=>simp
 |false=>
 unfold F2;grind
theorem vTp {r s kd to n}:(kE r s kd to n).2.ov=s.ov:=by
 unfold kE;cases !(decide (to≥0)&&decide (to≤r.1-1)) with
 |true=>rfl
 |false=>
 cases !(decide (n≥1)&&decide (n≤1099511627776)) with
 |true=>rfl
 |false=>
 cases decide (kd=11) with
 |true=>
  unfold Ku;cases decide ((s.B.1.getD to.toNat ad).1+(s.B.1.getD to.toNat ad).2.1-(s.B.1.getD to.toNat ad).2.2<n)<;>cases decide (s.to-n<0)<;>cases decide ((jO (s.B.1.getD to.toNat ad) (-n)).2=0)<;>cases decide (s.to-n>1152921504606846976)<;>rfl
 |false=>
  unfold Kv;cases decide ((jO (s.B.1.getD to.toNat ad) n).2=0)<;>cases decide (s.to+n>1152921504606846976)<;>rfl
theorem vO3 {r s who f}:(kB r s who f).2.2.length≤1:=by
 unfold kB;grind
def Kd (o:List yK):Prop:=∀x∈o,x.2.1≠16∧x.2.1≠23
theorem xq:Kd []:=fun x h=>by grind
theorem Xy {x}(h:x.2.1≠16∧x.2.1≠23):Kd [x]:=fun y hy=>by simp_all
theorem Kd.append {a b}(h:Kd a)(g:Kd b):Kd (a++b):=fun x hx=>(List.mem_append.1 hx).elim (h x) (g x)
theorem Xz:∀d:List zH,Kd (vN d)
 |[]=>xq
 | p :: d => (show Kd [fl p.2.1 p,fl p.2.2.1 p] from fun x hx=>by
   rcases List.mem_cons.1 hx with rfl|hx
   ·exact⟨by nofun,by nofun⟩
   ·rw[List.mem_singleton.1 hx];exact⟨by nofun,by nofun⟩).append (Xz d)
theorem yU0 {kd}(hk:kd=21∨kd=22)(l:List zH):Kd (l.map (wK kd)):=fun x hx=>by
 obtain⟨p,_,rfl⟩:=List.mem_map.1 hx;show kd≠16∧kd≠23;omega
theorem vHd {r s who f}:Kd (kB r s who f).2.2:=by
 unfold kB;cases vS s.m f.2.1 with
 |none=>exact xq
 |some x=>
  simp only[];cases !decide ((s.m.getD x pd).2.1=who) with
  |true=>exact xq
  |false=>
  cases decide (f.1=2) with
  |true=>exact Xy ⟨by nofun,by nofun⟩
  |false=>
  cases decide (f.1=4) with
  |true=>
   cases !(decide (f.2.2.1≥1)&&decide (f.2.2.1≤3))<;>cases !decide (pD r.2.2.1 r.2.2.2.1 s.t f.2.2.1=0)<;>exact xq
  |false=>
  cases decide (f.2.2.1=0)<;>cases decide (f.2.2.1=1)<;>exact xq
def ny (o:List yK):Prop:=∀x∈o,x.2.1≠16
theorem Kd.ne {o}(h:Kd o):ny o:=fun x hx=>(h x hx).1
theorem ny.append {a b}(h:ny a)(g:ny b):ny (a++b):=fun x hx=>(List.mem_append.1 hx).elim (h x) (g x)
theorem XA B n:ny (iA B n):=fun x hx=>by
 obtain⟨i,_,rfl⟩:=List.mem_map.1 hx
 nofun
theorem vOx {r:qL}{s:zZ}{who:Int}{f:wZ}(h:(iB r s who f).1=0):∀x∈(iB r s who f).2.2,x∈s.ids∨x=f.2.1:=by
 unfold iB at h⊢;cases h1:decide (f.2.2.1≥0)&&decide (f.2.2.1≤r.1-1) with
 |false=>exact fun _ h=>.inl h
 |true=>
 cases h2:decide (f.2.2.2.2.1≥1)&&decide (f.2.2.2.2.1≤3) with
 |false=>exact fun _ h=>.inl h
 |true=>
 cases decide (mB r s.t (fG who f)=0) with
 |false=>exact fun _ h=>.inl h
 |true=>
 cases decide (f.2.1∈s.ids) with
 |true=>exact fun _ h=>.inl h
 |false=>
 cases decide (200≤s.ids.length) with
 |true=>exact fun _ h=>.inl h
 |false=>
 cases(vS s.m f.2.1).isSome with
 |true=>exact fun _ h=>.inl h
 |false=>
 cases decide (40≤s.m.length) with
 |true=>exact fun _ h=>.inl h
 |false=>
  intro x hx;have hx:x∈py s.ids f.2.1:=hx;unfold py at hx;have e:=List.takeWhile_append_dropWhile (p:=fun x=>decide (x<f.2.1)) (l:=s.ids);rcases List.mem_append.1 hx with hx|hx
  ·exact .inl (e▸List.mem_append_left _ hx)
  ·rcases List.mem_cons.1 hx with hx|hx
   ·exact .inr hx
   ·exact .inl (e▸List.mem_append_right _ hx)
theorem vD3 (r:qL)(s:zZ)(who:Int)(f:wZ):(kC r s who f).2.ids=s.ids:=by
 unfold kC;cases decide (f.1=5) with
 |true=>cases !((decide (f.2.1≥0)&&decide (f.2.1≤r.1-1))&& !decide (f.2.1=who))<;>cases !(decide (f.2.2.1≥-1)&&decide (f.2.2.1≤1152921504606846976))<;>rfl
 |false=>
  cases decide (f.1=6) with
  |true=>cases !(decide (f.2.1≥-1)&&decide (f.2.1≤1152921504606846976))<;>rfl
  |false=>cases !(decide (f.2.1≥0)&&decide (f.2.1≤1152921504606846976))<;>rfl
theorem vXm (r:qL)(s:zZ)(who a n:Int):(kD r s who a n).2.ids=s.ids:=by
 unfold kD;cases !(decide (a≥0)&&decide (a≤(r.2.1.length:Int)-1)) with
 |true=>rfl
 |false=>
 cases !(decide (n≥0)&&decide (n≤1099511627776)) with
 |true=>rfl
 |false=>
 simp only[an];unfold Fy;generalize (s.ho.getD who.toNat []).set a.toNat n=h;cases decide (ot r.2.1 s.pr h>1152921504606846976) with
 |true=>rfl
 |false=>cases decide (ot r.2.1 s.pr h<(s.B.1.getD who.toNat ad).2.1)&&decide ((s.B.1.getD who.toNat ad).1+ot r.2.1 s.pr h<0)<;>rfl
theorem XB (r:qL)(s:zZ)(a p:Int):(kF r s a p).2.ids=s.ids:=by
 unfold kF;cases !(decide (a≥0)&&decide (a≤(r.2.1.length:Int)-1)) with
 |true=>rfl
 |false=>
 cases !(decide (p≥0)&&decide (p≤1048576)) with
 |true=>rfl
 |false=>
 simp only[an];unfold F2;cases qG (fun j=> !decide (gg r.2.1 (s.pr.set a.toNat p) s.ho j>1152921504606846976)) s.B.1.length 0<;>rfl
end Go.Ab.Gi
