/- Plain proofs, part 1. -/
import Derived.Test.YthpehdcmpldloaaGreatGiQA
set_option linter.unusedVariables false
set_option linter.unusedSimpArgs false
set_option maxRecDepth 100000
namespace Go.Ab.Gi
open Go.Ab
structure jJ (B C:BT):Prop where
 len:C.1.length=B.1.length
 sum:qH (fun i=>(C.1.getD i ad).1) B.1.length=qH (fun i=>(B.1.getD i ad).1) B.1.length
 cred:∀i,i<B.1.length→(C.1.getD i ad).2.1=(B.1.getD i ad).2.1
 bil:C.2.1=B.2.1
 mul:C.2.2.1=B.2.2.1
 fell:∀i,i<B.1.length→(C.1.getD i ad).1<(B.1.getD i ad).1→0≤(C.1.getD i ad).1+(C.1.getD i ad).2.1
theorem jJ.refl B:jJ B B:=⟨rfl,rfl,by simp,rfl,rfl,by simp⟩
theorem jJ.trans {B C D}(h:jJ B C)(g:jJ C D):jJ B D:=
 ⟨g.len.trans h.len,by have:=g.sum;rw[h.len] at this;exact this.trans h.sum,fun i hi=>(g.cred i (by rw[h.len];exact hi)).trans (h.cred i hi),g.bil.trans h.bil,g.mul.trans h.mul,fun i hi=>by
  have h1:=h.fell i hi;have h2:=g.fell i (by rw[h.len];exact hi);have h3:=g.cred i (by rw[h.len];exact hi);omega⟩
theorem yXz i:∀{l},(∀p∈l,0≤p.2.2.2.1)→0≤zP (gB i) l+(zP (gN i) l+zP (gR i) l)
 |[],_=>Int.le_refl _
 |p::l,h=>by
  have h1:=yXz i fun q hq=>h q (List.mem_cons_of_mem _ hq)
  have h2:=h p (by simp);have h3:0≤gB i p+(gN i p+gR i p):=by
   unfold gB gN gR;omega
  show 0≤gB i p+zP (gB i) l+(gN i p+zP (gN i) l+(gR i p+zP (gR i) l));omega
theorem vSd {a a' b p p' m l}(x:uv a.length a p l a' p')(hf:xw a b m p l=true)(hl:∀q∈l,yJ a.length q){i}(hi:i<a.length):
  (a'.getD i ad).1<(a.getD i ad).1→0≤(a'.getD i ad).1+(a'.getD i ad).2.1:=by
 have h1:=yXz i (l:=l) fun q hq=>by have:=(hl q hq).a1;omega
 unfold xw at hf;rw[bb] at hf;have h2:=gg.1 hf.2 i hi;unfold gI at h2;rw[x.acct i hi];grind
theorem yHo {B}(h:qO B){l}(hf:xC B l=true){r}(hp:sH B.1 B.2.1 B.2.2.1 B.2.2.2 l r):jJ B (r.1,r.2.1,r.2.2.1,r.2.2.2.1):=by
 have hs:=(OI h hp).1;by_cases c:wC B.1.length l
 ·obtain⟨a',p',x,e⟩:=hp.1 c;cases hi:mV a' B.2.1 B.2.2.1 p' with
  |false=>rw[hi] at e;subst e;exact jJ.refl B
  |true=>
   rw[hi] at e;subst e;exact⟨x.al,hs,fun i bI=>by show(a'.getD i ad).2.1=_;rw[x.acct i bI],rfl,rfl,fun i bI=>vSd x hf c.1 bI⟩
 ·rw[hp.2 c];exact jJ.refl B
theorem yJp {k}(hk:100<k){B C}(h:qO B){l}(hl:l.length≤80)(hg:ik k B l=some C):jJ B C:=by
 obtain⟨r,h1,h3⟩:=N5 hk h hl;unfold ik at hg;rw[h1] at hg;simp only at hg;cases hc:decide (r.2.2.2.2=0)&&xC B l with
 |false=>simp_all
 |true=>
  rw[hc] at hg;simp  at hg;subst hg;rw[bb] at hc;exact yHo h hc.2 h3
theorem gJ.keptC {k}(hk:100<k){t B C l done m}(h:gJ k t B l done C m)(hb:qO B):jJ B C:=by
 induction h with
 |stop _=>exact jJ.refl _
 |@step B C D l m done p h h' ih=>
  have hg:=(Bv h).2;exact(yJp hk hb (by simp) hg).trans (ih (sN hk hb (by simp) hg).1)
theorem jQ.keptC {k}(hk:100<k){t B C l done m}(h:jQ k t B l done C m)(hb:qO B):jJ B C:=by
 induction h with
 |stop _=>exact jJ.refl _
 |@step B C D l m done p q h h' ih=>
  have hg:=(ON h).2.2.2;exact(yJp hk hb (by simp) hg).trans (ih (sN hk hb (by simp) hg).1)
theorem gJ.bk {k}(hk:100<k){t B C l done m}(h:gJ k t B l done C m)(hb:qO B):qO C:=by
 induction h with
 |stop _=>exact hb
 |step h h' ih=>exact ih (sN hk hb (by simp) (Bv h).2).1
theorem jQ.bk {k}(hk:100<k){t B C l done m}(h:jQ k t B l done C m)(hb:qO B):qO C:=by
 induction h with
 |stop _=>exact hb
 |step h h' ih=>exact ih (sN hk hb (by simp) (ON h).2.2.2).1
theorem mf.keptC {k}(hk:100<k){t B C l done m}(h:mf k t B l done C m)(hb:qO B):jJ B C:=by
 induction h with
 |stop h1 _=>exact h1.keptC hk hb
 |step h1 h2 ne h' ih=>
  have b1:=h1.bk hk hb;exact((h1.keptC hk hb).trans (h2.keptC hk b1)).trans (ih (h2.bk hk b1))
theorem vVe {k}(hk:200≤k){B}(hb:qO B){l:List zH}(hl:∀q∈l,yJ B.1.length q)(bP:l.length≤64) t {C:BT}{m done:List zH}(hr:Bz k B.1 B.2.1 B.2.2.1 B.2.2.2 l t=some (C.1,C.2.1,C.2.2.1,C.2.2.2,m,done)):jJ B C:=by
 obtain⟨f,n,h,hn⟩:=VY hb hl bP t;have tM:=xH l t;have cO:=xF (yW l t) f;have OV:=cO.length_le;obtain⟨r,h1,h3⟩:=N5 (k:=k) (by omega) hb (l:=vN (yW l t) f) (by omega);have g1:=V7 (k:=k) (by omega) hb hl bP t (by omega) h h1;unfold FD at g1;rw[g1] at hr;cases c:decide (r.2.2.2.2=0) with
 |false=>
  rw[c] at hr;simp  at hr;obtain⟨e1,e2,e3,e4,_⟩:=hr;have:B=C:=by grind
  rw[←this];exact jJ.refl B
 |true=>
  have:(r.1,r.2.1,r.2.2.1,r.2.2.2.1)=C:=by grind
  rw[←this];refine yHo hb ?_ h3;have hw:=Kf (Kg (t:=t) hl) (by omega) f;have hs:=VU.1 h.final;unfold xC xw;rw[Bd.2 hw.1,aa hw.2];simp;rw[gg];intro j hj;have:=hs j hj;unfold uI at this;simp_all
theorem vPr {C D:BT}{m n d e:List zH}(h:(C.1,C.2.1,C.2.2.1,C.2.2.2,m,d)=(D.1,D.2.1,D.2.2.1,D.2.2.2,n,e)):C=D∧m=n∧d=e:=by
 grind
theorem We {k}(hk:200≤k){B}(hb:qO B){l}(hd:qL l)(hl:∀q∈l,yJ B.1.length q)(bP:l.length≤64) t all {X:BT}{mx dx:List zH}
  (hr:uJ k B.1 B.2.1 B.2.2.1 B.2.2.2 l t all=some (X.1,X.2.1,X.2.2.1,X.2.2.2,mx,dx)):jJ B X:=by
 obtain⟨C,m,d,f1,f2,f3,f4,f5⟩:=FN hk hb hd (by omega) t;have q1:=f2.keptC (by omega) hb;have p1:=f2.perm hd;have l1:=p1.length_eq;rw[List.length_append] at l1;unfold uJ at hr;rw[f1] at hr;simp only[ae] at hr;cases all with
 |false=>
  grind
 |true=>
  have hm:qL m:=List.Pairwise.sublist f5 hd;have MR:∀q∈m,yJ C.1.length q:=fun q hq=>by grind
  obtain⟨D,n,x,g1,g2,g3,g4,g5,g6⟩:=V8 hk f3 hm MR (by omega) t;have q2:=vVe hk f3 MR (by omega) t g1;have l2:=g5.length_eq;rw[List.length_append] at l2;rw[g1] at hr;simp only[ae] at hr;cases x with
  |nil=>
   grind
  |cons p x=>
   have e1:decide ((((p::x).length:Nat):Int)=0)=false:=by grind
   rw[e1] at hr;simp only[an] at hr;have hn:qL n:=List.Pairwise.sublist g4 hm;obtain⟨E,o,y,k1,k2,k3,k4,k5⟩:=FN hk g2 hn (by omega) t;have q3:=k2.keptC (by omega) g2;have p3:=k2.perm hn;have l3:=p3.length_eq;rw[List.length_append] at l3;have r1:zQ (d.length+(p::x).length) 56=true:=by grind
   have r2:zQ ((d++(p::x)).length+y.length) 56=true:=by grind
   rw[k1] at hr;simp only[ae,r1,r2,ak] at hr;have rS:some (E.1,E.2.1,E.2.2.1,E.2.2.2,o,d++(p::x)++y)=some (X.1,X.2.1,X.2.2.1,X.2.2.2,mx,dx):=hr;rw[←(vPr (Option.some.inj rS)).1];exact(q1.trans q2).trans q3
theorem vPm {k}(hk:200≤k){B}(hb:qO B){m}(hd:qL m)(hm:∀q∈m,yJ B.1.length q)(bP:m.length≤64) t pr ho ids to ov all:
  ∃(C:BT) (m' d:List zH),pg k t B.1 B.2.1 B.2.2.1 B.2.2.2 pr ho m ids to ov all=some (t,C.1,C.2.1,C.2.2.1,C.2.2.2,pr,ho,m',ids,to,ov,yZ d)∧
   uJ k B.1 B.2.1 B.2.2.1 B.2.2.2 m t all=some (C.1,C.2.1,C.2.2.1,C.2.2.2,m',d)∧qO C∧jJ B C∧List.Sublist m' m∧List.Perm (d++m') m∧jW k C (vR m' t)=none:=by
 obtain⟨C,m',d,f1,f2,f3,f4,f5,f6,f7⟩:=yN0 hk hb hd hm bP t all;have hlen:=f5.length_eq;rw[List.length_append] at hlen;refine⟨C,m',d,?_,f1,f2,We hk hb hd hm bP t all f1,f4,f5,f6⟩;unfold pg;rw[f1];simp;rw[Wa (by omega) (by omega)];rfl
theorem vQ5 {k}(hk:200≤k){B}(hb:qO B){m}(hd:qL m)(hm:∀q∈m,yJ B.1.length q)(bP:m.length≤64) pa (sa:List (Int×Int)) cu cl pe t (ht:0≤t∧t<1099511627776)(Kq:pe≠0) pr ho ids to:
  ∃(C:BT) (m':List zH) (ov:Bool) (o:List qT),uK k pa sa cu cl pe t B.1 B.2.1 B.2.2.1 B.2.2.2 pr ho m ids to false=some (t+1,C.1,C.2.1,C.2.2.1,C.2.2.2,pr,ho,m',ids,to,ov,o)∧vKl t cl B C m m' ov o∧jJ B C∧(ov=false→jW k C (vR m' (t+1))=none)∧
   ((ov=true∧m'=[]∧o=m.map (wP 22)++iJ B B.1.length∧C=B)∨∃l d n,o=l.map (wP 21)++yZ d∧List.Perm (l++n) m∧List.Perm (d++m') n∧ov=false):=by
 have gL:=hb.n6;have w:zA (t+1)=t+1:=zO (by omega) (by omega);unfold uK BD;simp only[w,an,ae];cases hc:decide (t+1=cl) with
 |true=>
  simp only[ak];rw[yAz gL hk (by omega)];simp only[ae];refine⟨B,[],true,_,rfl,⟨hb,rfl,List.nil_sublist m,hc.symm,fun _=>rfl,(fun e=>by cases e),(fun p hp=>by cases hp),fun p hp _=>?_,fun q hq=>?_,?_⟩,jJ.refl B,(fun e=>by cases e),.inl ⟨rfl,rfl,rfl,rfl⟩⟩
  ·rw[BC,(FR (.inr rfl) hd).1 hp,vAs]
  ·rw[BC,(FR (.inr rfl) hd).2 hq,vAs]
  ·rw[List.length_append,List.length_map];unfold iJ;rw[List.length_map,List.length_range];simp;omega
 |false=>
  simp only[an];rw[yS1 hk (by omega)];simp only[ae];have hs:∃x,FZ k pa sa cu cl pe (t+1)=some x:=by
   unfold FZ;cases decide (t+1>0) with
   |false=>exact⟨_,rfl⟩
   |true=>
    cases decide (t+1<cl) with
    |false=>exact⟨_,rfl⟩
    |true=>
     have:decide (pe=0)=false:=ab Kq;rw[this];exact⟨_,rfl⟩
  obtain⟨x,hx⟩:=hs;rw[hx];simp only[ae];have cO:List.Sublist (m.filter (fun p=> !vD (t+1) p)) m:=List.filter_sublist;have dW:=cO.length_le;have oV:qL (m.filter (fun p=> !vD (t+1) p)):=List.Pairwise.sublist cO hd;obtain⟨C,m',d,f1,f2,f3,f4,f5,f6,f7⟩:=yN0 hk hb oV (fun q hq=>hm q (cO.subset hq)) (by omega) (t+1) x;have hlen:=f5.length_eq;rw[List.length_append] at hlen;have hSt:pg k (t+1) B.1 B.2.1 B.2.2.1 B.2.2.2 pr ho (m.filter (fun p=> !vD (t+1) p)) ids to false x=some (t+1,C.1,C.2.1,C.2.2.1,C.2.2.2,pr,ho,m',ids,to,false,yZ d):=by
   unfold pg;rw[f1];simp only[ae];rw[Wa (by omega) (by omega)];rfl
  rw[hSt];have abl:(m.filter (vD (t+1))).length+(m.filter (fun p=> !vD (t+1) p)).length=m.length:=by
   rw[←List.countP_eq_length_filter,←List.countP_eq_length_filter];have:=List.length_eq_countP_add_countP (vD (t+1)) (l:=m);simp only[Bool.not_eq_true,Bool.decide_eq_false] at this;exact this.symm
  have pE:=BB d;have hr:zQ (((m.filter (vD (t+1))).map (wP 21)).length+(yZ d).length) 64=true:=qK (by rw[List.length_map];omega) (by rw[List.length_map];omega);simp only[ae,hr,ak];have hdd:qL (d++m'):=oV.perm f5;have uL:qL d:=(List.pairwise_append.1 hdd).1;have hdm:∀p∈d,p∈m.filter (fun p=> !vD (t+1) p):=by grind
  have mZ:∀p∈d,yJ B.1.length p:=fun p hp=>hm p (cO.subset (hdm p hp))
  have uM:qL (m.filter (vD (t+1))):=hd.filter _;have xM:∀p∈m,vD (t+1) p=false→∀q∈m.filter (vD (t+1)),q.1≠p.1:=by
   intro p hp hl q hq e;have h1:=List.mem_filter.1 hq;have:=hd.eq_of h1.1 hp e;subst this;rw[hl] at h1;exact absurd h1.2 (by simp)
  refine⟨C,m',false,_,rfl,⟨f2,f3,f4.trans cO,hc.symm,(fun e=>by cases e),fun _ p hp=>?_,fun p hp=>?_,fun p hp hn=>?_,fun q hq=>?_,?_⟩,We hk hb oV (fun q hq=>hm q (cO.subset hq)) (by omega) (t+1) x f1,(fun _=>f6),.inr ⟨m.filter (vD (t+1)),d,m.filter (fun p=> !vD (t+1) p),rfl,List.filter_append_perm _ _,f5,rfl⟩⟩
  ·have:=(List.mem_filter.1 (f4.subset hp)).2
   simpa using this
  ·have h1:=List.mem_filter.1 (f4.subset hp);have hl:vD (t+1) p=false:=by simpa using h1.2
   rw[BC,(FR (.inl rfl) uM).2 (xM p h1.1 hl),(O0 uL mZ).2 (hdd.not_in (l:=d) hp)]
  ·cases hl:vD (t+1) p with
   |true=>
    have h1:p∈m.filter (vD (t+1)):=List.mem_filter.2 ⟨hp,hl⟩;have h2:∀q∈d,q.1≠p.1:=by
     grind
    rw[BC,(FR (.inl rfl) uM).1 h1,(O0 uL mZ).2 h2]
   |false=>
    have h1:p∈m.filter (fun p=> !vD (t+1) p):=List.mem_filter.2 ⟨hp,by rw[hl];rfl⟩;have h2:p∈d:=by
     rcases List.mem_append.1 (f5.symm.subset h1) with h|h
     ·exact h
     ·exact absurd h hn
    rw[BC,(FR (.inl rfl) uM).2 (xM p hp hl),(O0 uL mZ).1 h2]
  ·rw[BC,(FR (.inl rfl) uM).2 (by grind),(O0 uL mZ).2 (fun p hp=>hq p (cO.subset (hdm p hp)))]
  ·rw[List.length_append,List.length_map];simp;omega
abbrev jE:=EQ
abbrev qF:=Int×List oZ×Int×Int×Int
abbrev wM:=Int×Int×Int×Int×Int×Int×Int
abbrev vJw:=Int×List oZ×Int×Int×Int×Int×List qY×jE×AC×jE×AC×jE×List zH×AC×Int×Bool×Int×List qT
structure zT where
 t:Int
 B:BT
 pr:AC
 ho:jE
 m:List zH
 ids:AC
 to:Int
 ov:Bool
abbrev qh:=Int×List qY×jE×AC×jE×AC×jE×List zH×AC×Int×Bool
def zT.st (s:zT):qh:=(s.t,s.B.1,s.B.2.1,s.B.2.2.1,s.B.2.2.2,s.pr,s.ho,s.m,s.ids,s.to,s.ov)
def dk (r:qF)(s:zT)(who:Int)(l:List qT):vJw:=(r.1,r.2.1,r.2.2.1,r.2.2.2.1,r.2.2.2.2,s.t,s.B.1,s.B.2.1,s.B.2.2.1,s.B.2.2.2,s.pr,s.ho,s.m,s.ids,s.to,s.ov,who,l)
structure vT (r:qF):Prop where
 pa:1≤r.1∧r.1≤6
 n3:r.2.1.length≤3
 price:∀i,i<r.2.1.length→0≤(r.2.1.getD i uE).1∧(r.2.1.getD i uE).1≤1048576
 cut:∀i,i<r.2.1.length→0≤(r.2.1.getD i uE).2∧(r.2.1.getD i uE).2≤10000
 cu:0≤r.2.2.1∧r.2.2.1≤r.2.2.2.1
 cl:1≤r.2.2.2.1∧r.2.2.2.1≤1048576
 pe:1≤r.2.2.2.2∧r.2.2.2.2≤1048576
def ph (m:List zH):Prop:=List.Pairwise (fun p q=>jF p q=true) m
structure ka (n:Nat) (m:List zH) (ids:AC):Prop where
 dist:qL m
 len:m.length≤40
 sort:ph m
 may:∀p∈m,yJ n p
 time:∀p∈m,0≤p.2.2.2.2.2.1∧p.2.2.2.2.2.1≤p.2.2.2.2.2.2∧p.2.2.2.2.2.2≤1048576
 were:∀p∈m,p.1∈ids
 asc:uC ids
 pos:∀x∈ids,1≤x
 idl:ids.length≤200
structure qW (r:qF) (s:zT):Prop where
 tk:0≤s.t∧s.t≤r.2.2.2.1
 bk:qO s.B
 n:(s.B.1.length:Int)=r.1
 hol:s.ho.length=s.B.1.length
 laid:∀i,i<s.B.1.length→kP r.2.1 s.pr (s.ho.getD i [])
 cred:∀i,i<s.B.1.length→(s.B.1.getD i ad).2.1=mc r.2.1 s.pr (s.ho.getD i [])
 most:∀i,i<s.B.1.length→(s.B.1.getD i ad).2.1≤1152921504606846976
 waits:ka s.B.1.length s.m s.ids
 sum:qH (fun i=>(s.B.1.getD i ad).1) s.B.1.length=s.to
 tot:0≤s.to∧s.to≤1152921504606846976
 over:s.ov=decide (s.t=r.2.2.2.1)
 none:s.ov=true→s.m=[]
theorem nc k a b c:vF k a b c=some (decide (a≥b)&&decide (a≤c)):=by
 unfold vF;grind
theorem nH {α:Type} c (a b:α):(bif c then some a else some b)=some (bif c then a else b):=by grind
def kS (pa t:Int)(p:zH):Bool:=
 decide (p.2.1≥0)&&decide (p.2.1<pa)&&(decide (p.2.2.1≥0)&&decide (p.2.2.1<pa)&&(decide (p.1≥1)&&(decide (p.2.2.2.1≥1)&&(decide (p.2.2.2.1≤1099511627776)&&(decide (p.2.2.2.2.1≥1)&&(!decide (p.2.1=p.2.2.1)&&(decide (p.2.2.2.2.1≤3)&&(decide (p.2.2.2.2.2.1≥0)&&(decide (p.2.2.2.2.2.1≤p.2.2.2.2.2.2)&&(decide (p.2.2.2.2.2.2≥t)&&decide (p.2.2.2.2.2.2≤1048576)))))))))))
theorem vLu k (r:qF) w:Kr k r w=some (decide (w≥0)&&decide (w<r.1)):=by
 unfold Kr;grind
theorem vIz k (r:qF) t (p:zH):O2 k r t p=some (kS r.1 t p):=by
 unfold O2 kS;simp[vLu,nH]
def qi (cu cl t c:Int):Int:=bif decide (t≥cl) then 7 else bif decide (c=3)&&decide (t≥cu) then 7 else 0
theorem yRm k (r:qF) t c:BE k r t c=some (qi r.2.2.1 r.2.2.2.1 t c):=by
 unfold BE qi;grind
def nf (r:qF)(t:Int)(p:zH):Int:=bif !kS r.1 t p then 1 else qi r.2.2.1 r.2.2.2.1 t p.2.2.2.2.1
theorem vPi k (r:qF) t (p:zH):F0 k r t p=some (nf r t p):=by
 unfold F0 nf;rw[vIz];simp[yRm];grind
def fI (who:Int)(f:wM):zH:=(f.2.1,who,f.2.2)
def iK (r:qF)(s:zT)(who:Int)(f:wM):Int×List zH×AC:=
 bif !(decide (f.2.2.1≥0)&&decide (f.2.2.1≤r.1-1)) then(1,s.m,s.ids)
 else bif !(decide (f.2.2.2.2.1≥1)&&decide (f.2.2.2.2.1≤3)) then(1,s.m,s.ids)
 else bif !decide (nf r s.t (fI who f)=0) then(nf r s.t (fI who f),s.m,s.ids)
 else bif decide (f.2.1∈s.ids) then(6,s.m,s.ids)
 else bif decide (200≤s.ids.length) then(3,s.m,s.ids)
 else bif (vV s.m f.2.1).isSome then(6,s.m,s.ids)
 else bif decide (40≤s.m.length) then(3,s.m,s.ids)
 else(0,oX s.m (fI who f),qb s.ids f.2.1)
theorem yF4 {k}(hk:1000≤k){r}(hr:vT r){s}(h:ka s.B.1.length s.m s.ids) who l f:
  ∃d,O3 k (dk r s who l) f.2=some ((iK r s who f).1,d)∧((iK r s who f).1=0→d=dk r {s with m:=(iK r s who f).2.1,ids:=(iK r s who f).2.2} who l):=by
 have hp:=hr.pa;have hi:=h.idl;have hm:=h.len;have w1:zA (r.1-1)=r.1-1:=zO (by omega) (by omega);have eD:O3 k (dk r s who l) f.2=(vF k f.2.2.1 0 (zA (r.1-1))).bind fun x0=>
  bif !x0 then some (1,dk r s who l)
  else(vF k f.2.2.2.2.1 1 3).bind fun x1=>
  bif !x1 then some (1,dk r s who l)
  else(F0 k r s.t (fI who f)).bind fun x2=>
  bif !(decide (x2=0)) then some (x2,dk r s who l)
  else(Fj k s.ids f.2.1).bind fun x3=>
  bif !(decide (x3.2=0)) then some (x3.2,dk r s who l)
  else(xz k s.m (fI who f)).bind fun x4=>
  bif !(decide (x4.2=0)) then some (x4.2,dk r s who l)
  else some (0,dk r {s with m:=x4.1,ids:=x3.1} who l):=rfl
 rw[eD,nc,nc,vPi,w1,vUk (by omega) (by omega) h.asc,VG (by omega) (by omega) (by unfold qQ;omega)];simp only[ae];unfold iK;cases decide (f.2.2.1≥0)&&decide (f.2.2.1≤r.1-1) with
 |false=>exact by simp
 |true=>
 cases decide (f.2.2.2.2.1≥1)&&decide (f.2.2.2.2.1≤3) with
 |false=>exact by simp
 |true=>
 by_cases hc:nf r s.t (fI who f)=0
 ·rw[aa hc];by_cases h1:f.2.1∈s.ids
  ·rw[aa h1];exact by simp
  ·rw[ab h1];by_cases h2:200≤s.ids.length
   ·rw[aa h2];exact by simp
   ·rw[ab h2];have e1:(fI who f).1=f.2.1:=rfl;rw[e1];cases(vV s.m f.2.1).isSome with
    |true=>exact by simp
    |false=>
     by_cases h3:40≤s.m.length
     ·rw[aa h3];exact by simp
     ·rw[ab h3];exact by simp
 ·rw[ab hc];exact by simp
def gM (who kd a:Int):qT:=(who,kd,a,0,0,0,0,0)
theorem Wg {k l}(hl:l.length≤1000) r s who kd a:uN k (dk r s who l) kd [a]=some (dk r s who (l++[gM who kd a])):=by
 have e:uN k (dk r s who l) kd [a]=bif zQ (l.length+1) 64 then some (dk r s who (l++[gM who kd a])) else none:=rfl
 rw[e,qK (by omega) (by omega)];rfl
def kT (r:qF)(s:zT)(who:Int)(f:wM):Int×List zH×List qT:=match vV s.m f.2.1 with
 |none=>(4,s.m,[])
 |some x=>
  bif !decide ((s.m.getD x pd).2.1=who) then(4,s.m,[])
  else bif decide (f.1=2) then(0,yG s.m x,[gM who 20 f.2.1])
  else bif decide (f.1 = 4) then (bif !(decide (f.2.2.1≥1)&&decide (f.2.2.1≤3)) then(1,s.m,[])
   else bif !decide (qi r.2.2.1 r.2.2.2.1 s.t f.2.2.1=0) then(qi r.2.2.1 r.2.2.2.1 s.t f.2.2.1,s.m,[])
   else(0,oX (yG s.m x) ((s.m.getD x pd).1,(s.m.getD x pd).2.1,(s.m.getD x pd).2.2.1,(s.m.getD x pd).2.2.2.1,f.2.2.1,(s.m.getD x pd).2.2.2.2.2.1,(s.m.getD x pd).2.2.2.2.2.2),[]))
  else bif decide (f.2.2.1=0) then(0,JY (yG s.m x) (s.m.getD x pd),[])
  else bif decide (f.2.2.1=1) then(0,oX (yG s.m x) (s.m.getD x pd),[])
  else(1,s.m,[])
theorem yUj {k}(hk:1000≤k){r s}(h:ka s.B.1.length s.m s.ids) who {l}(hl:l.length≤1000)(f:wM):
  ∃d,xN k (dk r s who l) f=some ((kT r s who f).1,d)∧((kT r s who f).1=0→d=dk r {s with m:=(kT r s who f).2.1} who (l++(kT r s who f).2.2)):=by
 have hm:=h.len;have oJ:qQ s.m:=by unfold qQ;omega
 have eD : xN k (dk r s who l) f = ((nS k s.m f.2.1).bind fun x0=>
   bif decide (x0<0) then some (((0,0,0,0,0,0,0):zH),(4:Int))
   else bif zB x0 s.m.length then (bif !(decide ((s.m.getD x0.toNat (0,0,0,0,0,0,0)).2.1=who)) then some ((0,0,0,0,0,0,0),4)
    else bif zB x0 s.m.length then some ((s.m.getD x0.toNat (0,0,0,0,0,0,0)),0)
    else none)
   else none).bind fun x0=>
  bif !(decide (x0.2=0)) then some (x0.2,dk r s who l)
  else bif decide (f.1 = 2) then ((qa k s.m f.2.1).bind fun x1=>
   (uN k (dk r {s with m:=x1.1} who l) 20 [f.2.1]).bind fun x2=>
   some (x1.2.2.2.2.2.2.2.2,x2))
  else bif decide (f.1 = 4) then ((vF k f.2.2.1 1 3).bind fun x3=>
   bif !x3 then some (1,dk r s who l)
   else(BE k r s.t f.2.2.1).bind fun x4=>
   bif !(decide (x4=0)) then some (x4,dk r s who l)
   else(Fe k s.m f.2.1 f.2.2.1).bind fun x5=>
   some (x5.2,dk r {s with m:=x5.1} who l))
  else bif decide (f.2.2.1 = 0) then ((Fh k s.m f.2.1).bind fun x6=>
   some (x6.2,dk r {s with m:=x6.1} who l))
  else bif decide (f.2.2.1 = 1) then ((Ff k s.m f.2.1).bind fun x7=>
   some (x7.2,dk r {s with m:=x7.1} who l))
  else some (1,dk r s who l):=rfl
 rw[eD,Bo (by omega) (by omega)];unfold kT j7;cases hx:vV s.m f.2.1 with
 |none=>exact by simp
 |some x=>
  have dp:=kO hx;have e1:decide ((x:Int)<0)=false:=by simp
  simp only[ae,e1,an,qC,aa dp.1,ak,au];by_cases hw:(s.m.getD x (0,0,0,0,0,0,0)).2.1=who
  ·have oR:(s.m.getD x pd).2.1=who:=hw;rw[aa hw];by_cases h2:f.1=2
   ·rw[aa h2];simp only[ak,Bq (show s.m.length<k by omega) oJ,ae,Wg hl];unfold ij;rw[hx];exact by simp
   ·rw[ab h2];simp only[an];by_cases h4:f.1=4
    ·rw[aa h4];simp only[ak,nc,ae,yRm,vSl (show 3≤k by omega) (by grind) oJ h.dist hm hx];cases decide (f.2.2.1≥1)&&decide (f.2.2.1≤3) with
     |false=>exact by simp
     |true=>
      simp only[aB,an];by_cases hc:qi r.2.2.1 r.2.2.2.1 s.t f.2.2.1=0
      all_goals simp_all
    ·rw[ab h4];simp only[an];by_cases h0:f.2.2.1=0
     ·rw[aa h0];simp only[ak,vUg (show 3≤k by omega) (by grind) oJ hx,ae];exact by simp
     ·rw[ab h0];simp only[an];by_cases h1:f.2.2.1=1
      ·rw[aa h1];simp only[ak,vMy (show 3≤k by omega) (by grind) oJ h.dist hm hx,ae];exact by simp
      ·rw[ab h1];exact by simp
  ·have oR:¬(s.m.getD x pd).2.1=who:=hw;rw[ab hw];exact by simp
def Wh (s:zT)(a:List qY)(b:jE)(m:AC):zT:={s with B:=(a,b,m,s.B.2.2.2)}
def iL (r:qF)(s:zT)(who:Int)(f:wM):Int×zT:=
 bif decide (f.1 = 5) then (bif !((decide (f.2.1≥0)&&decide (f.2.1≤r.1-1))&& !decide (f.2.1=who)) then(1,s)
  else bif !(decide (f.2.2.1≥-1)&&decide (f.2.2.1≤1152921504606846976)) then(1,s)
  else(0,Wh s s.B.1 (s.B.2.1.set who.toNat ((s.B.2.1.getD who.toNat []).set f.2.1.toNat f.2.2.1)) s.B.2.2.1))
 else bif decide (f.1 = 6) then (bif !(decide (f.2.1≥-1)&&decide (f.2.1≤1152921504606846976)) then(1,s)
  else(0,Wh s s.B.1 s.B.2.1 (s.B.2.2.1.set who.toNat f.2.1)))
 else bif !(decide (f.2.1≥0)&&decide (f.2.1≤1152921504606846976)) then(1,s)
 else(0,Wh s (s.B.1.set who.toNat ((s.B.1.getD who.toNat ad).1,(s.B.1.getD who.toNat ad).2.1,f.2.1)) s.B.2.1 s.B.2.2.1)
theorem yQu {k}(hk:1000≤k){r}(hr:vT r){s}(hb:qO s.B)(hn:(s.B.1.length:Int)=r.1){who}(hw:0≤who∧who<r.1) l (f:wM):
    ∃d,xO k (dk r s who l) f=some ((iL r s who f).1,d)∧((iL r s who f).1=0→d=dk r (iL r s who f).2 who l):=by
  have hp:=hr.pa;have w1:zA (r.1-1)=r.1-1:=zO (by omega) (by omega);obtain⟨w,rfl⟩:=Int.eq_ofNat_of_zero_le hw.1;have gl:w<s.B.1.length:=by omega
  have eD:xO k (dk r s w l) f=(gk k s.B.1 s.B.2.1 s.B.2.2.1 s.B.2.2.2).bind fun x0=>
    bif decide (f.1 = 5) then (((vF k f.2.1 0 (zA (r.1-1))).bind fun x0=>bif x0 then some (!(decide (f.2.1=(w:Int)))) else some false).bind fun x1=>
      bif !x1 then some (1,dk r s w l)
      else(vF k f.2.2.1 (-1) 1152921504606846976).bind fun x2=>
      bif !x2 then some (1,dk r s w l)
      else bif zB (w : Int) x0.2.1.length then (bif zB f.2.1 (x0.2.1.getD (w:Int).toNat []).length then
        some (0,dk r {s with B:=(x0.1,(x0.2.1.set (w:Int).toNat ((x0.2.1.getD (w:Int).toNat []).set f.2.1.toNat f.2.2.1)),x0.2.2.1,x0.2.2.2)} w l)
       else none)
      else none)
    else bif decide (f.1 = 6) then ((vF k f.2.1 (-1) 1152921504606846976).bind fun x3=>
      bif !x3 then some (1,dk r s w l)
      else bif zB (w:Int) x0.2.2.1.length then some (0,dk r {s with B:=(x0.1,x0.2.1,(x0.2.2.1.set (w:Int).toNat f.2.1),x0.2.2.2)} w l)
      else none)
    else(vF k f.2.1 0 1152921504606846976).bind fun x4=>
    bif !x4 then some (1,dk r s w l)
    else bif zB (w:Int) x0.1.length then some (0,dk r {s with B:=((x0.1.set (w:Int).toNat ((x0.1.getD (w:Int).toNat (0,0,0)).1,(x0.1.getD (w:Int).toNat (0,0,0)).2.1,f.2.1)),x0.2.1,x0.2.2.1,x0.2.2.2)} w l)
    else none:=rfl
  rw[eD,Jn (by omega) hb.toSized,w1];simp only[ae,nc,qC,au];unfold iL;rw[au];by_cases h5:f.1=5
  · rw[aa h5];simp only[ak];cases hc:decide (f.2.1≥0)&&decide (f.2.1≤r.1-1) with
    |false=>exact by simp
    |true=>
      simp  at hc;cases decide (f.2.1=(w:Int)) with
      |true=>exact by simp
      |false=>
        cases decide (f.2.2.1≥-1)&&decide (f.2.2.1≤1152921504606846976) with
        |false=>exact by simp
        |true=>
          have b1:decide (w<s.B.2.1.length)=true:=aa (by rw[hb.bl];exact gl);have b2:zB f.2.1 (s.B.2.1.getD w []).length=true:=jS hc.1 (by rw[hb.br w gl];omega);simp only[ak,ae,bZ,aB,an,b1,b2,Bool.and_self];exact⟨_,rfl,fun _=>rfl⟩
  · rw[ab h5];simp only[an];by_cases h6:f.1=6
    · rw[aa h6];cases decide (f.2.1≥-1)&&decide (f.2.1≤1152921504606846976) with
      |false=>exact by simp
      |true=>
        have b1:decide (w<s.B.2.2.1.length)=true:=aa (by rw[hb.ml];exact gl);simp only[ak,aB,an,b1];exact⟨_,rfl,fun _=>rfl⟩
    · rw[ab h6];cases decide (f.2.1≥0)&&decide (f.2.1≤1152921504606846976) with
      |false=>exact by simp
      |true=>
        have b1:decide (w<s.B.1.length)=true:=by grind
        simp only[ak,aB,an,b1];exact⟨_,rfl,fun _=>rfl⟩
def BF (s:zT)(w:Nat)(h:AC)(n:Int):Int×zT:=
 bif decide (n>1152921504606846976) then(8,s)
 else bif decide (n<(s.B.1.getD w ad).2.1)&&decide ((s.B.1.getD w ad).1+n<0) then(9,s)
 else(0,{s with B:=(s.B.1.set w ((s.B.1.getD w ad).1,n,(s.B.1.getD w ad).2.2),s.B.2.1,s.B.2.2.1,s.B.2.2.2),ho:=s.ho.set w h})
def iM (r:qF)(s:zT)(who a many:Int):Int×zT:=
 bif !(decide (a≥0)&&decide (a≤(r.2.1.length:Int)-1)) then(1,s)
 else bif !(decide (many≥0)&&decide (many≤1099511627776)) then(1,s)
 else BF s who.toNat ((s.ho.getD who.toNat []).set a.toNat many) (mc r.2.1 s.pr ((s.ho.getD who.toNat []).set a.toNat many))
theorem kP.set {sa pr h}(L:kP sa pr h){i}(hi:i<sa.length){v}(hv:0≤v∧v≤1099511627776):kP sa pr (h.set i v):=
 ⟨L.n3,L.pl,by rw[List.length_set];exact L.hl,L.cut,L.price,fun j hj=>by
  rw[fm];split
  ·exact hv
  ·exact L.hold j hj⟩
theorem kP.setP {sa pr h}(L:kP sa pr h){i}(hi:i<sa.length){v}(hv:0≤v∧v≤1048576):kP sa (pr.set i v) h:=
 ⟨L.n3,by rw[List.length_set];exact L.pl,L.hl,L.cut,fun j hj=>by
  rw[fm];split
  ·exact hv
  ·exact L.price j hj,L.hold⟩
theorem Wi {k}{l:jE}(hl:l.length≤1000):F1 k l=some l:=by
 unfold F1;rw[qK (by omega) (by omega)];rfl
theorem yI1 {k}(hk:1000≤k){r}(hr:vT r){s}(h:qW r s){who}(hw:0≤who∧who<r.1) l a many:
    ∃d,O4 k (dk r s who l) a many=some ((iM r s who a many).1,d)∧((iM r s who a many).1=0→d=dk r (iM r s who a many).2 who l):=by
  have hp:=hr.pa;have h3:=hr.n3;have hn:=h.n;have gL:=h.bk.n6;have hol:=h.hol;have w1:zA ((r.2.1.length:Int)-1)=(r.2.1.length:Int)-1:=zO (by omega) (by omega);obtain⟨w,rfl⟩:=Int.eq_ofNat_of_zero_le hw.1;have gl:w<s.B.1.length:=by omega
  have eD:O4 k (dk r s w l) a many=((vF k a 0 (zA ((r.2.1.length:Int)-1))).bind fun x0=>some x0).bind fun x0=>
    bif !x0 then some (1,dk r s w l)
    else(vF k many 0 1099511627776).bind fun x1=>
    bif !x1 then some (1,dk r s w l)
    else(F1 k s.ho).bind fun x2=>
    bif zB (w : Int) x2.length then ((qd k (x2.getD (w:Int).toNat []) a many).bind fun x3=>
      bif zB (w:Int) x2.length then(
       bif zB (w : Int) (x2.set (w : Int).toNat x3).length then ((sM k r.2.1 s.pr ((x2.set (w:Int).toNat x3).getD (w:Int).toNat [])).bind fun x4=>
        bif zB (w : Int) s.B.1.length then (bif !x4.2 then some (8,dk r s w l)
         else bif decide (x4.1>1152921504606846976) then some (8,dk r s w l)
         else bif decide (x4.1 < (s.B.1.getD (w : Int).toNat (0, 0, 0)).2.1) then (bif decide ((zA ((s.B.1.getD (w:Int).toNat (0,0,0)).1+x4.1))<0) then some (9,dk r s w l)
          else(gk k s.B.1 s.B.2.1 s.B.2.2.1 s.B.2.2.2).bind fun x5=>
          bif zB (w:Int) x5.1.length then
           some (0,dk r {s with B:=((x5.1.set (w:Int).toNat ((x5.1.getD (w:Int).toNat (0,0,0)).1,x4.1,(x5.1.getD (w:Int).toNat (0,0,0)).2.2)),x5.2.1,x5.2.2.1,x5.2.2.2),ho:=x2.set (w:Int).toNat x3} w l)
          else none)
         else(gk k s.B.1 s.B.2.1 s.B.2.2.1 s.B.2.2.2).bind fun x6=>
         bif zB (w:Int) x6.1.length then
          some (0,dk r {s with B:=((x6.1.set (w:Int).toNat ((x6.1.getD (w:Int).toNat (0,0,0)).1,x4.1,(x6.1.getD (w:Int).toNat (0,0,0)).2.2)),x6.2.1,x6.2.2.1,x6.2.2.2),ho:=x2.set (w:Int).toNat x3} w l)
         else none)
        else none)
       else none)
      else none)
    else none:=rfl
  rw[eD,w1,nc,nc,Jn (by omega) h.bk.toSized,Wi (by omega)];simp only[ae,qC,au];unfold iM;simp only[au];cases hc:decide (a≥0)&&decide (a≤(r.2.1.length:Int)-1) with
  |false=>exact by simp
  |true=>
  simp only[bb,aX] at hc;cases hm:decide (many≥0)&&decide (many≤1099511627776) with
  |false=>exact by simp
  |true=>
  obtain⟨i,rfl⟩:=Int.eq_ofNat_of_zero_le hc.1;have hi:i<r.2.1.length:=by omega
  have L:=h.laid w gl;have L2:=L.set hi (v:=many) (by grind);have b1:decide (w<s.ho.length)=true:=by grind
  have b2:decide (w<s.B.1.length)=true:=aa gl;have mg:qd k (s.ho.getD w []) (i:Int) many=some ((s.ho.getD w []).set i many):=by
    have:=vBs (k:=k) (l:=s.ho.getD w []) (by rw[L.hl];omega) (i:=(i:Int)) (by omega) (by rw[L.hl];omega) many;simp_all
  have Ks:(s.ho.set w ((s.ho.getD w []).set i many)).getD w []=(s.ho.getD w []).set i many:=by
    rw[fm,if_pos ⟨rfl,by omega⟩]
  have hv:=VP (k:=k) L2 (by omega);have hb:=h.bk.nums.bal w gl;have Au:=Fs L2;simp only[aB,an,b1,ak,mg,ae,List.length_set,Ks,hv,b2,au];clear hv L2 Ks eD;generalize mc r.2.1 s.pr ((s.ho.getD w []).set i many)=n at Au⊢;unfold BF;cases Wj:decide (n>1152921504606846976) with
  |true=>exact by simp
  |false=>
    have h8:¬n>1152921504606846976:=gF Wj;have w2:zA ((s.B.1.getD w (0,0,0)).1+n)=(s.B.1.getD w (0,0,0)).1+n:=zO (by have:=hb.1;simp only[ad] at this;omega) (by have:=hb.2;simp only[ad] at this;omega);simp only[w2,an];cases decide (n<(s.B.1.getD w (0,0,0)).2.1) with
    |false=>exact by simp
    |true=>
      cases decide ((s.B.1.getD w (0,0,0)).1+n<0) with
      |true=>exact by simp
      |false=>exact by simp
def wT (a:qY)(n:Int):qY×Int:=bif eM (a.1+n,a.2.1,a.2.2) then((a.1+n,a.2.1,a.2.2),0) else(a,8)
theorem yU5 {k}{a:qY}(ha:-4611686018427387904<a.1∧a.1<4611686018427387904){n}(hn:-1099511627776≤n∧n≤1099511627776):Kt k a n=some (wT a n):=by
 have abz:O5 k a.1 n=some (a.1+n,true):=by
  unfold O5;have w1:n>0→zA (9223372036854775807-n)=9223372036854775807-n:=fun h=>zO (by omega) (by omega)
  have w2:n<0→zA (-9223372036854775808-n)= -9223372036854775808-n:=fun h=>zO (by omega) (by omega)
  have w3:zA (a.1+n)=a.1+n:=zO (by omega) (by omega);grind
 unfold Kt wT;simp[yDk];grind
abbrev fJ:=Int×wM
theorem vJ9 k kd:∃n,uo k kd=some n∧-1≤n∧n≤6:=by
 have c:∀(b:Bool) (x y:Option Int),(∃n,x=some n∧-1≤n∧n≤6)→(∃n,y=some n∧-1≤n∧n≤6)→∃n,(bif b then x else y)=some n∧-1≤n∧n≤6:=by
  simp_all
 iterate 23 (refine c _ _ _ (by simp) ?_)
 simp
theorem yTs {k}{s:AC}(hs:s.length≤6):∀n i,s.length<i+n→i≤s.length→∃x,mh k n s (s.length:Int) (i:Int)=some x
 |0,i,h,g=>by omega
 |n+1,i,h,g=>by
  show∃x,lz k (mh k n) s (s.length:Int) (i:Int)=some x;unfold lz;by_cases hi:i<s.length
  ·simp only[qR,aa hi,qC,au];cases decide (s.getD i 0=0) with
   |false=>simp
   |true=>
    rw[qE hi (by omega)];exact yTs hs n (i+1) (by omega) hi
  ·simp only[qR,ab hi];simp
theorem O6 {k}(hk:10≤k)(f:wM):∃b,kb k f=some b:=by
 unfold kb;obtain⟨n,h1,h2,h3⟩:=vJ9 k f.1;rw[h1];simp;by_cases h0:n<0
 ·simp_all
 ·rw[ab h0,aa (by grind),aa h3];have hl:(qS [f.2.1,f.2.2.1,f.2.2.2.1,f.2.2.2.2.1,f.2.2.2.2.2.1,f.2.2.2.2.2.2] n.toNat (6-n.toNat)).length≤6:=by
   unfold qS;simp
  obtain⟨x,hx⟩:=yTs (k:=k) hl k 0 (by omega) (by simp);rw[show((0:Nat):Int)=0 from rfl] at hx;rw[hx];cases x<;>exact by simp
theorem Wk k a:O7 k a=some (decide (a≥10)&&decide (a≤14)):=by
 unfold O7;grind
theorem Wl k a:Ku k a=some (decide (a≥1)&&decide (a≤14)):=by
 unfold Ku;grind
def yUp (A B C D E F G b o:Bool):Int:=
 bif !(D&&C) then 5 else bif !b then 5 else bif B&&C then(bif !E then 5 else bif o&& !G then 7 else 0) else bif !(A&&F) then 5 else bif o&& !G then 7 else 0
theorem vGe:∀{A B C D E F G b o},yUp A B C D E F G b o=0→(D&&C&&((B&&E)||(!B&&A&&F))&&(!o||G))=true:=by
 intro A B C D E F G b o h;cases A<;>cases B<;>cases C<;>cases D<;>cases E<;>cases F<;>cases G<;>cases b<;>cases o<;>first|rfl|exact absurd h (by decide)
theorem vZs {k}(hk:10≤k)(r:qF)(s:zT)(c:fJ):∃b,uO k r s.st c=some (yUp (decide (c.1≥0)) (decide (c.2.1≥10)) (decide (c.2.1≤14)) (decide (c.2.1≥1)) (decide (c.1= -1)) (decide (c.1<r.1)) (decide (c.2.1=9)) b s.ov):=by
 unfold uO;rw[Wk,Wl];obtain⟨b,hb⟩:=O6 hk c.2;rw[hb];have eo:s.st.2.2.2.2.2.2.2.2.2.2=s.ov:=rfl;rw[eo];refine⟨b,?_⟩;generalize decide (c.1≥0)=A;generalize decide (c.2.1≥10)=B;generalize decide (c.2.1≤14)=C;generalize decide (c.2.1≥1)=D;generalize decide (c.1= -1)=E;generalize decide (c.1<r.1)=F;generalize decide (c.2.1=9)=G;generalize s.ov=o;cases A<;>cases B<;>cases C<;>cases D<;>cases E<;>cases F<;>cases G<;>cases b<;>cases o<;>rfl
theorem yZw {k}(hk:10≤k)(r:qF)(s:zT)(c:fJ):∃e,uO k r s.st c=some e∧
  (e=0→((10≤c.2.1∧c.2.1≤14∧c.1= -1)∨(1≤c.2.1∧c.2.1≤9∧0≤c.1∧c.1<r.1))∧(s.ov=true→c.2.1=9)):=by
 obtain⟨b,hb⟩:=vZs hk r s c;refine⟨_,hb,fun e=>?_⟩;have:=vGe e;grind
def yB (f:wM):AC:=[f.2.1,f.2.2.1,f.2.2.2.1,f.2.2.2.2.1,f.2.2.2.2.2.1,f.2.2.2.2.2.2]
theorem yKk {k:Nat}{s:AC}:∀(n i:Nat),s.length≤6→mh k n s (s.length:Int) (i:Int)=some (.inl ())→∀j,i≤j→j<s.length→s.getD j 0=0
 |0,i,_,h,_,_,_=>by cases h
 |n+1,i,h6,h,j,h1,h2=>by
  have h:lz k (mh k n) s (s.length:Int) (i:Int)=some (.inl ()):=h;unfold lz at h;have hi:i<s.length:=by omega
  rw[aa (show(i:Int)<s.length by omega),qC,aa hi,au] at h;simp only[ak] at h;cases hz:decide (s.getD i 0=0) with
  |false=>rw[hz] at h;cases h
  |true=>
   rw[hz] at h;simp only[aB,an] at h;rw[qE hi (by omega)] at h;by_cases e:j=i
   ·subst e;exact IZ hz
   ·exact yKk n (i+1) h6 h j (by omega) h2
theorem O8 {k:Nat}{f:wM}(h:kb k f=some true):0≤yD f.1∧∀j,(yD f.1).toNat≤j→j<6→(yB f).getD j 0=0:=by
 unfold kb at h;rw[I1,ae] at h;have hm:=A5 f.1;by_cases h0:yD f.1<0
 ·rw[aa h0] at h;cases h
 ·rw[ab h0,aa (show(0:Int)≤yD f.1 by omega),aa hm] at h;simp only[an,Bool.and_self,ak] at h;refine⟨by omega,fun j h1 h2=>?_⟩;have hs:qS [f.2.1,f.2.2.1,f.2.2.2.1,f.2.2.2.2.1,f.2.2.2.2.2.1,f.2.2.2.2.2.2] (yD f.1).toNat (6-(yD f.1).toNat)=(yB f).drop (yD f.1).toNat:=by
   unfold qS;show List.take _ ((yB f).drop _)=_;exact List.take_of_length_le (by rw[List.length_drop];show 6-_≤_;omega)
  rw[hs] at h;have hl:((yB f).drop (yD f.1).toNat).length=6-(yD f.1).toNat:=by rw[List.length_drop];rfl
  cases hz:mh k k ((yB f).drop (yD f.1).toNat) (((yB f).drop (yD f.1).toNat).length:Int) 0 with
  |none=>rw[hz] at h;cases h
  |some z=>
   rw[hz] at h;cases z with
   |inr b=>
    exfalso;have key:∀(n i:Nat) (b:Bool),mh k n ((yB f).drop (yD f.1).toNat) (((yB f).drop (yD f.1).toNat).length:Int) (i:Int)=some (.inr b)→i≤6→b=false:=by
     intro n
     induction n with
     |zero=>intro i b h;cases h
     |succ n ih=>
      intro i b h h6;have h:lz k (mh k n) _ _ _=some (.inr b):=h;unfold lz at h;by_cases hi:i<((yB f).drop (yD f.1).toNat).length
      ·rw[aa (by omega),qC,aa hi] at h;simp only[ak] at h;cases hz:decide (((yB f).drop (yD f.1).toNat).getD (i:Int).toNat 0=0) with
       |false=>rw[hz] at h;cases h;rfl
       |true=>
        rw[hz] at h;simp only[aB,an] at h;rw[qE hi (by omega)] at h;exact ih (i+1) b h (by omega)
      ·rw[ab (by omega)] at h;cases h
    have:=key k 0 b hz (by omega);subst this;cases h
   |inl u=>
    have:=yKk (k:=k) k 0 (by omega) hz (j-(yD f.1).toNat) (Nat.zero_le _) (by omega);rw[List.getD_eq_getElem?_getD,List.getElem?_drop] at this;rw[List.getD_eq_getElem?_getD,←this]
    congr 2
    omega
theorem Wm {k:Nat}(hk:1000≤k){w:Int}{f:wM}(hi:kb k f=some true)(hw:-9223372036854775808≤w∧w<9223372036854775808)(hf:iH (yB f)):
  ∃b,O9 k (w,f)=some b∧sU k b=some ((w,f),0)∧b.length≤57:=by
 obtain⟨h0,hz⟩:=O8 hi;have hm:=A5 f.1;have xg:0≤f.1∧f.1<24:=by
  unfold yD at h0;split at h0
  ·assumption
  ·omega
 obtain⟨n,hn⟩:∃n:Nat,yD f.1=n:=⟨(yD f.1).toNat,by omega⟩;have dW:qS [f.2.1,f.2.2.1,f.2.2.2.1,f.2.2.2.2.1,f.2.2.2.2.2.1,f.2.2.2.2.2.2] 0 (n-0)=(yB f).take n:=by
  unfold qS;show List.take (n-0) ((yB f).drop 0)=_;rw[List.drop_zero,Nat.sub_zero]
 have xP:((yB f).take n).length=n:=by rw[List.length_take];show min n 6=n;omega
 have bP:iH ((yB f).take n):=fun x hx=>hf x (List.mem_of_mem_take hx)
 have pT:=mS ((yB f).take n);have MQ:=mS [w];refine⟨yC w++([IntKind.wrap .u8 f.1]++yF ((yB f).take n)),?_,?_,?_⟩
 ·unfold O9 Wn;dsimp only;rw[hi];simp only[ae,aB,an];rw[I1,hn];simp only[ae];rw[aa (show(0:Int)≤(n:Int) by omega),aa (show(n:Int)≤6 by omega),au,dW];simp only[Bool.and_self,ak];rw[I2 (by omega) _ (by omega) (by omega)];simp only[ae];rw[qK (by omega) (by omega)];simp only[ak,ae];rw[ab (by rw[List.length_append];simp;omega)];simp only[an];rw[I2 (by omega) [w] (by simp) (by simp;omega)];simp only[ae];simp only[List.length_singleton] at MQ;rw[qK (by rw[List.length_append,List.length_singleton];omega) (by rw[List.length_append,List.length_singleton];omega)];simp only[ak];rw[show yF [w]=yC w by simp[yF]]
 ·unfold sU;have hlen:(yC w++([IntKind.wrap .u8 f.1]++yF ((yB f).take n))).length=9+8*n:=by
   rw[List.length_append,List.length_append,pT,xP];show 8+(1+8*n)=_;omega
  have ht:List.take 8 (yC w++([IntKind.wrap .u8 f.1]++yF ((yB f).take n)))=yC w:=rfl;have hd:List.drop 8 (yC w++([IntKind.wrap .u8 f.1]++yF ((yB f).take n)))=[IntKind.wrap .u8 f.1]++yF ((yB f).take n):=rfl;have mK:([IntKind.wrap .u8 f.1]++yF ((yB f).take n)).length=1+8*n:=by rw[List.length_append,pT,xP];rfl
  have Wo:IntKind.wrap .u8 f.1=f.1:=by rw[I4];omega
  have Wp:zA f.1=f.1:=zO (by omega) (by omega);have Kv:lv ([IntKind.wrap .u8 f.1]++yF ((yB f).take n))=(f,0):=by
   unfold lv;have e1:List.drop 1 ([IntKind.wrap .u8 f.1]++yF ((yB f).take n))=yF ((yB f).take n):=rfl;have e2:([IntKind.wrap .u8 f.1]++yF ((yB f).take n)).getD 0 0=f.1:=Wo;rw[if_neg (by simp),e1,e2,Wp,UF bP];simp only[];rw[if_neg (fun h=>h.elim (fun e=>e rfl) fun e=>e (by rw[xP,hn]))];have g:∀j,j<6→((yB f).take n).getD j 0=(yB f).getD j 0:=fun j hj=>by
    by_cases h:j<n
    ·rw[List.getD_eq_getElem?_getD,List.getD_eq_getElem?_getD,List.getElem?_take_of_lt h]
    ·rw[hz j (by omega) hj,List.getD_eq_getElem?_getD,List.getElem?_eq_none (by omega)];rfl
   rw[g 0 (by omega),g 1 (by omega),g 2 (by omega),g 3 (by omega),g 4 (by omega),g 5 (by omega)];rfl
  rw[ab (by omega),aa (by omega),ht,UG (by omega) hw,hd,yYb (by omega) (by omega) (by omega),Kv];simp only[an,ak,ae,decide_true,aB,List.getD_cons_zero];rfl
 ·rw[List.length_append,List.length_append,pT,xP];show 8+(1+8*n)≤57;omega
theorem vGr {k:Nat}(hk:10≤k){f:wM}(h0:0≤yD f.1)(hz:∀j,(yD f.1).toNat≤j→j<6→(yB f).getD j 0=0):kb k f=some true:=by
 have hm:=A5 f.1;unfold kb;rw[I1,ae,ab (by omega),aa (show(0:Int)≤yD f.1 by omega),aa hm];simp only[an,Bool.and_self,ak];have hs:qS [f.2.1,f.2.2.1,f.2.2.2.1,f.2.2.2.2.1,f.2.2.2.2.2.1,f.2.2.2.2.2.2] (yD f.1).toNat (6-(yD f.1).toNat)=(yB f).drop (yD f.1).toNat:=by
  unfold qS;show List.take _ ((yB f).drop _)=_;exact List.take_of_length_le (by rw[List.length_drop];show 6-_≤_;omega)
 rw[hs];have hl:((yB f).drop (yD f.1).toNat).length=6-(yD f.1).toNat:=by rw[List.length_drop];rfl
 have hg:∀i,i<((yB f).drop (yD f.1).toNat).length→((yB f).drop (yD f.1).toNat).getD i 0=0:=fun i hi=>by
  have:=hz ((yD f.1).toNat+i) (by omega) (by omega);rw[List.getD_eq_getElem?_getD] at this;rw[List.getD_eq_getElem?_getD,List.getElem?_drop];exact this
 generalize (yB f).drop (yD f.1).toNat=s at hl hg⊢;have := lu (L := fun n i => mh k n s (s.length : Int) i) (N := s.length) (fun _ => true) (.inl ()) (.inr false) (fun n=>by
  show lz k _ s (s.length:Int) (s.length:Int)=_;unfold lz;rw[ab (Int.lt_irrefl _)];rfl) (fun n i hi=>by
  show lz k _ s (s.length:Int) (i:Int)=_;unfold lz;rw[aa (show(i:Int)<s.length by omega),qC,aa hi,au,hg i hi,qE hi (by omega)];rfl) (n:=k) (by omega)
 rw[show qG (fun _=>true) s.length 0=true from gg.2 fun _ _=>rfl] at this;exact(congrArg (fun z=>Option.bind z _) this).trans rfl
theorem yZ5:∀(n:Nat) (b:AC),iH (xl n b)
 |0,_=>fun x hx=>absurd hx List.not_mem_nil
 |n+1,b=>fun x hx=>by
  have hx:x∈DL (b.take 8)::xl n (b.drop 8):=hx;rcases List.mem_cons.1 hx with rfl|hx
  ·unfold DL;exact⟨vZt _,vXu _⟩
  ·exact yZ5 n _ x hx
theorem vQ6 {k:Nat}(hk:10≤k){b:AC}(h:(lv b).2=0):kb k (lv b).1=some true∧iH (yB (lv b).1):=by
 unfold lv at h⊢;by_cases h1:b=[]
 ·rw[if_pos h1] at h;cases h
 ·rw[if_neg h1] at h⊢;by_cases h2:(ie (b.drop 1)).2≠0∨((ie (b.drop 1)).1.length:Int)≠yD (zA (b.getD 0 0))
  ·rw[if_pos h2] at h;cases h
  ·rw[if_neg h2];have h3:((ie (b.drop 1)).1.length:Int)=yD (zA (b.getD 0 0)):=Decidable.byContradiction fun e=>h2 (.inr e)
   have h4:iH (ie (b.drop 1)).1:=by
    unfold ie;split
    ·exact yZ5 _ _
    ·exact fun x hx=>absurd hx List.not_mem_nil
   generalize (ie (b.drop 1)).1=l at h3 h4;have hg:∀j,j<6→(yB (zA (b.getD 0 0),l.getD 0 0,l.getD 1 0,l.getD 2 0,l.getD 3 0,l.getD 4 0,l.getD 5 0)).getD j 0=l.getD j 0:=fun j hj=>by
    have:j=0∨j=1∨j=2∨j=3∨j=4∨j=5:=by omega
    rcases this with rfl|rfl|rfl|rfl|rfl|rfl<;>rfl
   refine⟨vGr hk (by show 0≤yD (zA (b.getD 0 0));omega) (fun j h5 h6=>?_),fun x hx=>?_⟩
   ·have h5:(yD (zA (b.getD 0 0))).toNat≤j:=h5;rw[hg j h6,List.getD_eq_getElem?_getD,List.getElem?_eq_none (by omega)];rfl
   ·obtain⟨j,hj,rfl⟩:=List.mem_iff_getElem.1 hx;have hj6:j<6:=hj;have:=hg j hj6;rw[List.getD_eq_getElem?_getD,List.getElem?_eq_getElem hj] at this;have:(yB (zA (b.getD 0 0),l.getD 0 0,l.getD 1 0,l.getD 2 0,l.getD 3 0,l.getD 4 0,l.getD 5 0))[j]=l.getD j 0:=this;show-9223372036854775808≤(yB (zA (b.getD 0 0),l.getD 0 0,l.getD 1 0,l.getD 2 0,l.getD 3 0,l.getD 4 0,l.getD 5 0))[j]∧(yB (zA (b.getD 0 0),l.getD 0 0,l.getD 1 0,l.getD 2 0,l.getD 3 0,l.getD 4 0,l.getD 5 0))[j]<9223372036854775808;rw[this];by_cases rY:j<l.length
    ·rw[List.getD_eq_getElem?_getD,List.getElem?_eq_getElem rY];exact h4 _ (List.getElem_mem rY)
    ·rw[List.getD_eq_getElem?_getD,List.getElem?_eq_none (by omega)];show(-9223372036854775808:Int)≤0∧(0:Int)<9223372036854775808;omega
theorem vW1 {k}(hk:10≤k)(f:zC):∃b,sV k f=some b∧(b=true→0≤yD f.1):=by
 have key:∀(c n i:Nat),i+c=6→c<n→∀x:Int,∃z,xQ k n x (i:Int) f=some z∧(z=.inl x∨z=.inr false):=by
  intro c
  induction c with
  |zero=>
   intro n i h1 h2 x;obtain⟨n,rfl⟩:∃m,n=m+1:=⟨n-1,by omega⟩;obtain rfl:i=6:=by omega
   exact⟨_,rfl,.inl rfl⟩
  |succ c ih=>
   intro n i h1 h2 x;obtain⟨n,rfl⟩:∃m,n=m+1:=⟨n-1,by omega⟩;obtain⟨z,g1,g2⟩:=ih n (i+1) (by omega) (by omega) x;have st:∀v:Int,∃z',(bif !decide (v=0) then some (.inr false) else xQ k n x ((i+1:Nat):Int) f)=some z'∧(z'=.inl x∨z'=.inr false):=by grind
   have:i=0∨i=1∨i=2∨i=3∨i=4∨i=5:=by omega
   rcases this with rfl|rfl|rfl|rfl|rfl|rfl
   ·exact st f.2.1
   ·exact st f.2.2.1
   ·exact st f.2.2.2.1
   ·exact st f.2.2.2.2.1
   ·exact st f.2.2.2.2.2.1
   ·exact st f.2.2.2.2.2.2
 have hm:=A5 f.1;have e:vZ false (yD f.1) 0=(((yD f.1).toNat:Nat):Int):=by
  grind
 obtain⟨z,g1,g2⟩:=key (6-(yD f.1).toNat) k (yD f.1).toNat (by omega) (by omega) (yD f.1);unfold sV;rw[UB,ae,e,g1,ae];rcases g2 with rfl|rfl
 all_goals simp
structure kG (k:Nat) (l:AC):Prop where
 n:l.length<k
 m:l.length≤100000
 w:iH l
theorem Pb x l b:yA (x::l)++b=wH x++(yA l++b):=by simp[yA]
theorem Kw {k}(hk:9≤k){l}(h:kG k l){b}(hb:b.length≤1000000):xR k (wH l++b,false)=some (l,b,false):=by
 unfold xR;rw[UH hk h.n h.m h.w b hb];rfl
theorem Wq {k}(hk:9≤k){l}(h:kG k l){n}(hn:l.length=n){b}(hb:b.length≤1000000):F2 k (wH l++b,false) (n:Int)=some (l,b,false):=by
 unfold F2;rw[Kw hk h hb];simp_all
theorem yQ4 {k}(hk:9≤k){b}:∀l n r,(∀x∈l,kG k x)→l.length<n→(yA l++b).length≤1000000→r.length+l.length≤1000000→Kx k n (l.length:Int) (yA l++b,false) r=some ((b,false),r++l)
 |[],n,r,_,hn,_,_=>by
  obtain⟨n,rfl⟩:∃m,n=m+1:=⟨n-1,by omega⟩;rw[List.append_nil];rfl
 |x::l,n,r,h,hn,hb,hr=>by
  obtain⟨n,rfl⟩:∃m,n=m+1:=⟨n-1,by omega⟩;rw[Pb,List.length_append] at hb;simp  at hn hr;have ih:=yQ4 hk (b:=b) l n (r++[x]) (by grind) (by omega) (by omega) (by grind);rw[Pb];show Pc k (Kx k n) ((l.length+1:Nat):Int) (wH x++(yA l++b),false) r=_;unfold Pc;rw[Kw hk (by grind) (by omega)];rw[qK (by omega) (by omega),show zA (((l.length+1:Nat):Int)-1)=(l.length:Int) by rw[zO (by omega) (by omega)];omega];simp_all
theorem Wr {k}(hk:9≤k){l}(h:∀x∈l,kG k x)(hn:l.length<k)(hm:l.length≤1000000){b}(hb:(yA l++b).length≤1000000):F3 k (yA l++b,false) (l.length:Int)=some (l,b,false):=by
 unfold F3;rw[yQ4 hk l k [] h hn hb (by simp_all)];rfl
theorem yIb {k}(hk:9≤k){b s0 r2}{b0 b3:Int×Int×Bool}:∀l n (r:List (Int×Int×Int)),(∀x∈l,kG k (j4 x))→l.length<n→(yA (l.map j4)++b).length≤1000000→r.length+l.length≤1000000→
  F4 k n s0 (l.length:Int) b0 (yA (l.map j4)++b,false) r2 b3 r=some (s0,b0,(b,false),r2,b3,r++l)
 |[],n,r,_,hn,_,_=>by
  obtain⟨n,rfl⟩:∃m,n=m+1:=⟨n-1,by omega⟩;rw[List.append_nil];rfl
 |x::l,n,r,h,hn,hb,hr=>by
  obtain⟨n,rfl⟩:∃m,n=m+1:=⟨n-1,by omega⟩;rw[List.map_cons,Pb,List.length_append] at hb;simp  at hn hr;have ih:=yIb hk (b:=b) (s0:=s0) (r2:=r2) (b0:=b0) (b3:=b3) l n (r++[x]) (by grind) (by omega) (by omega) (by grind);show Pd k (F4 k n) s0 ((l.length+1:Nat):Int) b0 (wH (j4 x)++(yA (l.map j4)++b),false) r2 b3 r=_;unfold Pd;rw[aa (by omega)];have hj:=Wq hk (h x (by simp)) (n:=3) rfl (b:=yA (l.map j4)++b) (by omega);rw[show((3:Nat):Int)=3 from rfl] at hj;rw[hj];rw[qK (by omega) (by omega),show zA (((l.length+1:Nat):Int)-1)=(l.length:Int) by rw[zO (by omega) (by omega)];omega];show F4 k n s0 (l.length:Int) b0 (yA (l.map j4)++b,false) r2 b3 (r++[x])=_;simp_all
theorem yLp {k}(hk:9≤k){b s0}{b0 b2:Int×Int×Bool}{r3:List (Int×Int×Int)}{r4 r6 r8 r5 r7}:∀l n (r:List (Int×Int×Int×Int×Int×Int×Int)),(∀x∈l,kG k (gi x))→l.length<n→(yA (l.map gi)++b).length≤1000000→r.length+l.length≤1000000→
  F5 k n s0 (l.length:Int) b0 (yA (l.map gi)++b,false) b2 r3 r4 r5 r6 r7 r8 r=some (s0,b0,(b,false),b2,r3,r4,r5,r6,r7,r8,r++l)
 |[],n,r,_,hn,_,_=>by
  obtain⟨n,rfl⟩:∃m,n=m+1:=⟨n-1,by omega⟩;rw[List.append_nil];rfl
 |x::l,n,r,h,hn,hb,hr=>by
  obtain⟨n,rfl⟩:∃m,n=m+1:=⟨n-1,by omega⟩;rw[List.map_cons,Pb,List.length_append] at hb;simp only[List.length_cons] at hn hr;have ih:=yLp hk (b:=b) (s0:=s0) (b0:=b0) (b2:=b2) (r3:=r3) (r4:=r4) (r5:=r5) (r6:=r6) (r7:=r7) (r8:=r8) l n (r++[x]) (by grind) (by omega) (by omega) (by grind);show Pe k (F5 k n) s0 ((l.length+1:Nat):Int) b0 (wH (gi x)++(yA (l.map gi)++b),false) b2 r3 r4 r5 r6 r7 r8 r=_;unfold Pe;rw[aa (by omega)];have hj:=Wq hk (h x (by simp)) (n:=7) rfl (b:=yA (l.map gi)++b) (by omega);rw[show((7:Nat):Int)=7 from rfl] at hj;rw[hj];simp only[ae];rw[qK (by omega) (by omega),show zA (((l.length+1:Nat):Int)-1)=(l.length:Int) by rw[zO (by omega) (by omega)];omega];show F5 k n s0 (l.length:Int) b0 (yA (l.map gi)++b,false) b2 r3 r4 r5 r6 r7 r8 (r++[x])=_;simp_all
theorem vFp s:yA (gj s)=wH [s.1,s.2.2.2.2.2.2.2.2.2.1,bif s.2.2.2.2.2.2.2.2.2.2 then 1 else 0,(s.2.1.length:Int),(s.2.2.1.length:Int),(s.2.2.2.1.length:Int),(s.2.2.2.2.1.length:Int),(s.2.2.2.2.2.2.1.length:Int),(s.2.2.2.2.2.2.2.1.length:Int)]++
  (yA (s.2.1.map j4)++(yA s.2.2.1++(wH s.2.2.2.1++(yA s.2.2.2.2.1++(wH s.2.2.2.2.2.1++(yA s.2.2.2.2.2.2.1++(yA (s.2.2.2.2.2.2.2.1.map gi)++(wH s.2.2.2.2.2.2.2.2.1++[])))))))):=by
 simp[gj,yA]
theorem vVh {k}(hk:1000≤k){s}(hf:eL (gj s))(hg:∀x∈gj s,kG k x)(hb:(yA (gj s)).length≤1000000):Ky k (yA (gj s))=some (s,true):=by
 have hsb:=yI4 hk hf;have hn:=hf.n;have e:=vFp s;obtain⟨S,hS⟩:∃S,yA (gj s)=S:=⟨_,rfl⟩;rw[hS] at hsb hb e⊢;obtain⟨t,ac,bi,mu,po,pr,ho,pa,ids,to,ov⟩:=s;have bD : ∀ x, (x = [t, to, bif ov then 1 else 0, (ac.length : Int), (bi.length : Int), (mu.length : Int), (po.length : Int), (ho.length : Int), (pa.length : Int)] ∨ x ∈ ac.map j4 ∨ x ∈ bi ∨ x = mu ∨ x ∈ po ∨ x = pr ∨ x ∈ ho ∨ x ∈ pa.map gi ∨ x = ids) → kG k x := fun x hx => hg x (by
  simp only[gj,List.mem_append,List.mem_singleton];rcases hx with h|h|h|h|h|h|h|h|h<;>simp[h])
 simp only[gj,List.length_append,List.length_cons,List.length_nil,List.length_map] at hn;dsimp only at e;have l1:=congrArg List.length e;simp only[List.length_append,mT] at l1;have k9:9≤k:=by omega
 unfold Ky;rw[e];have j9:=Wq k9 (bD _ (.inl rfl)) (n:=9) rfl (b:=yA (ac.map j4)++(yA bi++(wH mu++(yA po++(wH pr++(yA ho++(yA (pa.map gi)++(wH ids++[])))))))) (by simp only[List.length_append,mT];omega);rw[show((9:Nat):Int)=9 from rfl] at j9;rw[j9,←e];simp only[ae];have a0:=yIb k9 (s0:=S) (r2:=[t,to,bif ov then 1 else 0,(ac.length:Int),(bi.length:Int),(mu.length:Int),(po.length:Int),(ho.length:Int),(pa.length:Int)]) (b0:=(0,0,false)) (b3:=(t,to,decide ((bif ov then(1:Int) else 0)=1))) (b:=yA bi++(wH mu++(yA po++(wH pr++(yA ho++(yA (pa.map gi)++(wH ids++[]))))))) ac k [] (fun x hx=>bD _ (.inr (.inl (List.mem_map_of_mem hx)))) (by omega) (by simp only[List.length_append,mT];omega) (by simp;omega);refine(congrArg (fun z=>Option.bind z _) a0).trans ?_;simp only[ae];have q1:=Wr k9 (l:=bi) (fun x hx=>bD _ (.inr (.inr (.inl hx)))) (by omega) (by omega) (b:=wH mu++(yA po++(wH pr++(yA ho++(yA (pa.map gi)++(wH ids++[])))))) (by simp only[List.length_append,mT];omega);refine(congrArg (fun z=>Option.bind z _) q1).trans ?_;simp only[ae];rw[Kw k9 (bD mu (.inr (.inr (.inr (.inl rfl))))) (by simp only[List.length_append,mT];omega)];simp only[ae];have q2:=Wr k9 (l:=po) (fun x hx=>bD _ (.inr (.inr (.inr (.inr (.inl hx)))))) (by omega) (by omega) (b:=wH pr++(yA ho++(yA (pa.map gi)++(wH ids++[])))) (by simp only[List.length_append,mT];omega);refine(congrArg (fun z=>Option.bind z _) q2).trans ?_;simp only[ae];rw[Kw k9 (bD pr (.inr (.inr (.inr (.inr (.inr (.inl rfl))))))) (by simp only[List.length_append,mT];omega)];simp only[ae];have q3:=Wr k9 (l:=ho) (fun x hx=>bD _ (.inr (.inr (.inr (.inr (.inr (.inr (.inl hx)))))))) (by omega) (by omega) (b:=yA (pa.map gi)++(wH ids++[])) (by simp only[List.length_append,mT];omega);refine(congrArg (fun z=>Option.bind z _) q3).trans ?_;simp only[ae];have p1:=yLp k9 (s0:=S) (b0:=(0,0,false)) (b2:=(t,to,decide ((bif ov then(1:Int) else 0)=1))) (r3:=[]++ac) (r4:=bi) (r5:=mu) (r6:=po) (r7:=pr) (r8:=ho) (b:=wH ids++[]) pa k [] (fun x hx=>bD _ (.inr (.inr (.inr (.inr (.inr (.inr (.inr (.inl (List.mem_map_of_mem hx)))))))))) (by omega) (by simp only[List.length_append,mT];omega) (by simp;omega);refine(congrArg (fun z=>Option.bind z _) p1).trans ?_;simp only[ae];rw[Kw k9 (bD ids (.inr (.inr (.inr (.inr (.inr (.inr (.inr (.inr rfl))))))))) (by simp)];simp only[ae,an,List.nil_append];have eov:decide ((bif ov then(1:Int) else 0)=1)=ov:=by cases ov<;>rfl
 rw[eov];refine(congrArg (fun z=>Option.bind z _) hsb).trans ?_;simp only[ae];unfold Ws;rw[show zd S S=true from by simp[zd]];rfl
theorem vLg n (i:Nat)(hi:i≤7):IntKind.wrap .u8 (shr .u64 (IntKind.wrap .u64 n) (IntKind.wrap .u64 (8*(i:Int))))=vE n i:=by
 rw[yC7 n i hi];have e:∀x:Int,∀j:Nat,j≤56→shr .u64 x (j:Int)=x/2^j:=fun x j hj=>by
  unfold shr;rw[au,Nat.min_eq_left (show j≤IntKind.bits .u64 from Nat.le_trans hj (by decide)),Int.fdiv_eq_ediv_of_nonneg _ (by grind)]
 have w:IntKind.wrap .u64 (8*(i:Int))=((8*i:Nat):Int):=by
  rw[DS];omega
 rw[w,e _ _ (by omega),DS,I4];have:i=0∨i=1∨i=2∨i=3∨i=4∨i=5∨i=6∨i=7:=by omega
 rcases this with rfl|rfl|rfl|rfl|rfl|rfl|rfl|rfl<;>(omega)<;>omega
theorem vW9 {k l}(j:Nat)(hj:j<l.length)(hl:l.length≤1000000):∀c n,c<n→c≤8→∀r:AC,r.length+c≤100000000→Kz k n l (j:Int) (8*(c:Int)-8) r=some (l,(j:Int),r++(yC (l.getD j 0)).drop (8-c)):=by
 intro c
 induction c with
 |zero=>
  intro n h1 _ r hr;obtain⟨n,rfl⟩:∃m,n=m+1:=⟨n-1,by omega⟩;rw[show(yC (l.getD j 0)).drop (8-0)=[] from rfl,List.append_nil];rfl
 |succ c ih=>
  intro n h1 h2 r hr;obtain⟨n,rfl⟩:∃m,n=m+1:=⟨n-1,by omega⟩;have g:=ih n (by omega) (by omega) (r++[vE (l.getD j 0) c]) (by grind);show Pf k (Kz k n) l _ _ r=_;unfold Pf;have e8:8*((c+1:Nat):Int)-8=8*(c:Int):=by omega
  have w:IntKind.wrap .u64 (8*(c:Int))=8*(c:Int):=by rw[DS];omega
  rw[e8,aa (by omega),ak,jS (by omega) (by omega),ak];rw[show decide (IntKind.wrap .u64 (8*(c:Int))<0)=false from by grind,bZ,ak,qK (by omega) (by omega),ak,au];rw[vLg _ _ (by omega),show zA (8*(c:Int)-8)=8*(c:Int)-8 by rw[zO (by omega) (by omega)],g,List.append_assoc];have:c=0∨c=1∨c=2∨c=3∨c=4∨c=5∨c=6∨c=7:=by omega
  rcases this with rfl|rfl|rfl|rfl|rfl|rfl|rfl|rfl<;>rfl
theorem Wt {k}(hk:9≤k){l}(hl:l.length≤1000000)(tJ:l.length<k):Pg k l=some (yF l):=by
 have all:∀(c n j:Nat),j+c=l.length→c<n→BG k n l (j:Int) (yF (l.take j))=some (yF l):=by
  intro c
  induction c with
  |zero=>
   intro n j h1 h2;obtain⟨n,rfl⟩:∃m,n=m+1:=⟨n-1,by omega⟩;show F6 k (BG k n) l _ _=_;unfold F6;rw[ab (by omega),List.take_of_length_le (by omega)];rfl
  |succ c ih=>
   intro n j h1 h2;obtain⟨n,rfl⟩:∃m,n=m+1:=⟨n-1,by omega⟩;have hj:j<l.length:=by omega
   have g:=ih n (j+1) (by omega) (by omega);have hlen:(yF (l.take j)).length=8*j:=by rw[mS,List.length_take];omega
   have g1:=vW9 (k:=k) j hj hl 8 k (by omega) (by omega) (yF (l.take j)) (by omega);rw[show(8*((8:Nat):Int)-8)=56 from rfl] at g1;show F6 k (BG k n) l _ _=_;unfold F6;rw[aa (by omega),ak,g1,ae];rw[qE hj (by omega)];have e:yF (l.take (j+1))=yF (l.take j)++(yC (l.getD j 0)).drop (8-8):=by
    rw[←fG l j 0 hj];simp[yF]
   rw[e] at g;exact g
 unfold Pg;have:=all l.length k 0 (by omega) (by omega);have this:BG k k l 0 []=some (yF l):=this;rw[this];rfl
theorem Wu x (s:Nat)(h:s≤62):shr .i64 x (s:Int)=x/2^s:=by
 have e:shr .i64 x (s:Int)=x.fdiv (2^(min (s:Int).toNat 64)):=rfl;grind
theorem sW x:shr .i64 x 16=x/65536:=Wu x 16 (by decide)
theorem yPi x:shr .i64 x 32=x/4294967296:=Wu x 32 (by decide)
theorem ySz x:shr .i64 x 48=x/281474976710656:=Wu x 48 (by decide)
theorem vL0 x:shr .i64 x 0=x:=by grind
theorem uP x:yL .i64 x 65535=x%65536:=UA 16 (by decide) x
theorem Wv m (hm:m≤62){x y}(hx:0≤x)(hy:0≤y∧y<2^m)(hs:x*2^m+y<9223372036854775808):wN .i64 (x*2^m) y=x*2^m+y:=by
 obtain⟨a,rfl⟩:=Int.eq_ofNat_of_zero_le hx;obtain⟨b,rfl⟩:=Int.eq_ofNat_of_zero_le hy.1;have hp:(2:Int)^m=((2^m:Nat):Int):=by simp
 rw[hp] at hs hy⊢;have e1:(a:Int)*((2^m:Nat):Int)=((a*2^m:Nat):Int):=by simp
 rw[e1] at hs⊢;have hb:b<2^m:=by omega
 unfold wN tw;have KA:IntKind.i64.bits=64:=rfl;have e2:(BitVec.ofInt IntKind.i64.bits ((a*2^m:Nat):Int)|||BitVec.ofInt IntKind.i64.bits (b:Int)).toNat=a*2^m+b:=by
  rw[BitVec.toNat_or,BitVec.ofInt_natCast,BitVec.ofInt_natCast,BitVec.toNat_ofNat,BitVec.toNat_ofNat,KA,Nat.mod_eq_of_lt (by omega),Nat.mod_eq_of_lt (by omega)];have:=Nat.shiftLeft_add_eq_or_of_lt hb a;rw[Nat.shiftLeft_eq] at this;exact this.symm
 rw[e2];exact zO (by omega) (by omega)
def V9 (l0 l1 l2 l3 l4 l5 l6 l7 l8:Int):Int:=l0+65536*(l1+65536*(l2+65536*(l3+65536*(l4+65536*(l5+65536*(l6+65536*(l7+65536*l8)))))))
theorem vZg (l0 l1 l2 l3 l4 l5 l6 l7 l8:Int){c1 c2 c3 c4 c5 c6 c7 c8:Int}(h1:c1=zA (l1+shr .i64 l0 16))(h2:c2=zA (l2+shr .i64 c1 16))(h3:c3=zA (l3+shr .i64 c2 16))(h4:c4=zA (l4+shr .i64 c3 16))(h5:c5=zA (l5+shr .i64 c4 16))(h6:c6=zA (l6+shr .i64 c5 16))(h7:c7=zA (l7+shr .i64 c6 16))(h8:c8=zA (l8+shr .i64 c7 16)):
  F7 1000 [l0,l1,l2,l3,l4,l5,l6,l7,l8]=some [yL .i64 l0 65535,yL .i64 c1 65535,yL .i64 c2 65535,yL .i64 c3 65535,yL .i64 c4 65535,yL .i64 c5 65535,yL .i64 c6 65535,yL .i64 c7 65535,c8]:=by
 subst h8;subst h7;subst h6;subst h5;subst h4;subst h3;subst h2;subst h1
 kernel_rfl
theorem yFk {l0 l1 l2 l3 l4 l5 l6 l7 l8:Int}(g0:0≤l0∧l0≤1099511627776)(g1:0≤l1∧l1≤1099511627776)(g2:0≤l2∧l2≤1099511627776)(g3:0≤l3∧l3≤1099511627776)(g4:0≤l4∧l4≤1099511627776)(g5:0≤l5∧l5≤1099511627776)(g6:0≤l6∧l6≤1099511627776)(g7:0≤l7∧l7≤1099511627776)(g8:0≤l8∧l8≤1099511627776):∃d0 d1 d2 d3 d4 d5 d6 d7 d8,
  F7 1000 [l0,l1,l2,l3,l4,l5,l6,l7,l8]=some [d0,d1,d2,d3,d4,d5,d6,d7,d8]∧V9 d0 d1 d2 d3 d4 d5 d6 d7 d8=V9 l0 l1 l2 l3 l4 l5 l6 l7 l8∧(0≤d0∧d0<65536)∧(0≤d1∧d1<65536)∧(0≤d2∧d2<65536)∧(0≤d3∧d3<65536)∧(0≤d4∧d4<65536)∧(0≤d5∧d5<65536)∧(0≤d6∧d6<65536)∧(0≤d7∧d7<65536)∧0≤d8:=by
 obtain⟨c1,nN⟩:∃c,c=l1+l0/65536:=⟨_,rfl⟩;have b1:0≤c1∧c1≤2199023255552:=by omega
 have h1:c1=zA (l1+shr .i64 l0 16):=by rw[sW,←nN,zO (by omega) (by omega)]
 obtain⟨c2,cN⟩:∃c,c=l2+c1/65536:=⟨_,rfl⟩;have b2:0≤c2∧c2≤2199023255552:=by omega
 have h2:c2=zA (l2+shr .i64 c1 16):=by rw[sW,←cN,zO (by omega) (by omega)]
 obtain⟨c3,dH⟩:∃c,c=l3+c2/65536:=⟨_,rfl⟩;have b3:0≤c3∧c3≤2199023255552:=by omega
 have h3:c3=zA (l3+shr .i64 c2 16):=by rw[sW,←dH,zO (by omega) (by omega)]
 obtain⟨c4,gE⟩:∃c,c=l4+c3/65536:=⟨_,rfl⟩;have b4:0≤c4∧c4≤2199023255552:=by omega
 have h4:c4=zA (l4+shr .i64 c3 16):=by rw[sW,←gE,zO (by omega) (by omega)]
 obtain⟨c5,mP⟩:∃c,c=l5+c4/65536:=⟨_,rfl⟩;have b5:0≤c5∧c5≤2199023255552:=by omega
 have h5:c5=zA (l5+shr .i64 c4 16):=by rw[sW,←mP,zO (by omega) (by omega)]
 obtain⟨c6,DB⟩:∃c,c=l6+c5/65536:=⟨_,rfl⟩;have b6:0≤c6∧c6≤2199023255552:=by omega
 have h6:c6=zA (l6+shr .i64 c5 16):=by rw[sW,←DB,zO (by omega) (by omega)]
 obtain⟨c7,DC⟩:∃c,c=l7+c6/65536:=⟨_,rfl⟩;have b7:0≤c7∧c7≤2199023255552:=by omega
 have h7:c7=zA (l7+shr .i64 c6 16):=by rw[sW,←DC,zO (by omega) (by omega)]
 obtain⟨c8,hc8⟩:∃c,c=l8+c7/65536:=⟨_,rfl⟩;have b8:0≤c8∧c8≤2199023255552:=by omega
 have h8:c8=zA (l8+shr .i64 c7 16):=by rw[sW,←hc8,zO (by omega) (by omega)]
 have run:=vZg l0 l1 l2 l3 l4 l5 l6 l7 l8 h1 h2 h3 h4 h5 h6 h7 h8;simp only[uP] at run;refine⟨_,_,_,_,_,_,_,_,_,run,?_,⟨Int.emod_nonneg _ (by decide),Int.emod_lt_of_pos _ (by decide)⟩,⟨Int.emod_nonneg _ (by decide),Int.emod_lt_of_pos _ (by decide)⟩,⟨Int.emod_nonneg _ (by decide),Int.emod_lt_of_pos _ (by decide)⟩,⟨Int.emod_nonneg _ (by decide),Int.emod_lt_of_pos _ (by decide)⟩,⟨Int.emod_nonneg _ (by decide),Int.emod_lt_of_pos _ (by decide)⟩,⟨Int.emod_nonneg _ (by decide),Int.emod_lt_of_pos _ (by decide)⟩,⟨Int.emod_nonneg _ (by decide),Int.emod_lt_of_pos _ (by decide)⟩,⟨Int.emod_nonneg _ (by decide),Int.emod_lt_of_pos _ (by decide)⟩,b8.1⟩;unfold V9;clear run h1 h2 h3 h4 h5 h6 h7 h8;omega
theorem vFn l0 l1 l2 l3 l4 l5 l6 l7 l8 n:Ph 1000 [l0,l1,l2,l3,l4,l5,l6,l7,l8] n=F7 1000 [zA (l0*n),zA (l1*n),zA (l2*n),zA (l3*n),zA (l4*n),zA (l5*n),zA (l6*n),zA (l7*n),zA (l8*n)]:=by
 have e:Pj 1000 1000 n 0 [l0,l1,l2,l3,l4,l5,l6,l7,l8]=some [zA (l0*n),zA (l1*n),zA (l2*n),zA (l3*n),zA (l4*n),zA (l5*n),zA (l6*n),zA (l7*n),zA (l8*n)]:=by kernel_rfl
 unfold Ph;simp_all
theorem Ww l0 l1 l2 l3 l4 l5 l6 l7 l8 n:V9 l0 l1 l2 l3 l4 l5 l6 l7 l8*n=V9 (l0*n) (l1*n) (l2*n) (l3*n) (l4*n) (l5*n) (l6*n) (l7*n) (l8*n):=by
 unfold V9;grind
theorem vLc l0 l1 l2 l3 l4 l5 l6 l7 l8 {x0 x1 x2 x3 x4 x5 x6 x7 x8 r0 r1 r2 r3 r4 r5 r6 r7 r8 r9}(h8:x8=zA (shl .i64 r9 16+l8))(h7:x7=zA (shl .i64 r8 16+l7))(h6:x6=zA (shl .i64 r7 16+l6))(h5:x5=zA (shl .i64 r6 16+l5))(h4:x4=zA (shl .i64 r5 16+l4))(h3:x3=zA (shl .i64 r4 16+l3))(h2:x2=zA (shl .i64 r3 16+l2))(h1:x1=zA (shl .i64 r2 16+l1))(h0:x0=zA (shl .i64 r1 16+l0))(h9:r9=0)(k8:r8=Int.tmod x8 10000)(k7:r7=Int.tmod x7 10000)(k6:r6=Int.tmod x6 10000)(k5:r5=Int.tmod x5 10000)(k4:r4=Int.tmod x4 10000)(k3:r3=Int.tmod x3 10000)(k2:r2=Int.tmod x2 10000)(k1:r1=Int.tmod x1 10000)(k0:r0=Int.tmod x0 10000):
  KB 1000 1000 10000 0 8 [l0,l1,l2,l3,l4,l5,l6,l7,l8]=some [zA (Int.tdiv x0 10000),zA (Int.tdiv x1 10000),zA (Int.tdiv x2 10000),zA (Int.tdiv x3 10000),zA (Int.tdiv x4 10000),zA (Int.tdiv x5 10000),zA (Int.tdiv x6 10000),zA (Int.tdiv x7 10000),zA (Int.tdiv x8 10000)]:=by
 subst h0;subst k1;subst h1;subst k2;subst h2;subst k3;subst h3;subst k4;subst h4;subst k5;subst h5;subst k6;subst h6;subst k7;subst h7;subst k8;subst h8;subst h9
 kernel_rfl
theorem uQ x:shl .i64 x 16=zA (x*65536):=rfl
theorem Wx q0 q1 q2 q3 (h : decide (q3 ≥ 32768) = false) : ((F8 1000 1000 4 [q0,q1,q2,q3,0,0,0,0,0]).bind fun z1=>
 match z1 with
 | .inl z2 => bif zB 3 z2.length then (bif decide ((z2.getD 3 0)≥32768) then some ((0:Int),false)
   else bif zB 3 z2.length then (bif zB 2 z2.length then (bif zB 1 z2.length then (bif zB 0 z2.length then some ((wN .i64 (wN .i64 (wN .i64 (shl .i64 (z2.getD 3 0) 48) (shl .i64 (z2.getD 2 0) 32)) (shl .i64 (z2.getD 1 0) 16)) (z2.getD 0 0)),true)
      else none)
     else none)
    else none)
   else none)
  else none
 |.inr z3=>some (z3.1,z3.2))=some (wN .i64 (wN .i64 (wN .i64 (shl .i64 q3 48) (shl .i64 q2 32)) (shl .i64 q1 16)) q0,true):=by
  have e:F8 1000 1000 4 [q0,q1,q2,q3,0,0,0,0,0]=some (.inl [q0,q1,q2,q3,0,0,0,0,0]):=by rfl
  rw[e];simp only[ae];have e3:([q0,q1,q2,q3,0,0,0,0,0]:AC).getD 3 0=q3:=rfl;rw[e3,h];rfl
theorem Wy {q0 q1 q2 q3}(h0:0≤q0∧q0<65536)(h1:0≤q1∧q1<65536)(h2:0≤q2∧q2<65536)(h3:0≤q3∧q3<32768):
  wN .i64 (wN .i64 (wN .i64 (shl .i64 q3 48) (shl .i64 q2 32)) (shl .i64 q1 16)) q0=q0+65536*(q1+65536*(q2+65536*q3)):=by
 have s3:shl .i64 q3 48=zA (q3*281474976710656):=rfl;have s2:shl .i64 q2 32=zA (q2*4294967296):=rfl;have s1:shl .i64 q1 16=zA (q1*65536):=rfl;rw[s3,s2,s1,zO (x:=q3*281474976710656) (by omega) (by omega),zO (x:=q2*4294967296) (by omega) (by omega),zO (x:=q1*65536) (by omega) (by omega)];have b1:=Wv 48 (by decide) (x:=q3) (y:=q2*4294967296) h3.1 (by omega) (by omega);have p48:(2:Int)^48=281474976710656:=rfl;rw[p48] at b1;have b2:=Wv 32 (by decide) (x:=q3*65536+q2) (y:=q1*65536) (by omega) (by omega) (by omega);have p32:(2:Int)^32=4294967296:=rfl;rw[p32] at b2;have b3:=Wv 16 (by decide) (x:=(q3*65536+q2)*65536+q1) (y:=q0) (by omega) (by omega) (by omega);grind
theorem vGm {l0 l1 l2 l3 l4 l5 l6 l7 l8}(g0:0≤l0∧l0<65536)(g1:0≤l1∧l1<65536)(g2:0≤l2∧l2<65536)(g3:0≤l3∧l3<65536)(g4:0≤l4∧l4<65536)(g5:0≤l5∧l5<65536)(g6:0≤l6∧l6<65536)(g7:0≤l7∧l7<65536)(g8:0≤l8∧l8≤0)(hV:V9 l0 l1 l2 l3 l4 l5 l6 l7 l8/10000≤1152921504606846976):Pk 1000 [l0,l1,l2,l3,l4,l5,l6,l7,l8] 10000=some (V9 l0 l1 l2 l3 l4 l5 l6 l7 l8/10000,true):=by
  obtain⟨r9,h9⟩:∃r:Int,r=0:=⟨_,rfl⟩;obtain⟨x8,hx8⟩:∃x,x=r9*65536+l8:=⟨_,rfl⟩;obtain⟨r8,hr8⟩:∃r,r=x8%10000:=⟨_,rfl⟩;obtain⟨q8,hq8⟩:∃q,q=x8/10000:=⟨_,rfl⟩;have v8:x8=10000*q8+r8∧0≤r8∧r8<10000∧0≤x8∧x8<655360000:=by omega
  have h8:x8=zA (shl .i64 r9 16+l8):=by rw[uQ,zO (x:=r9*65536) (by omega) (by omega),←hx8,zO (by omega) (by omega)]
  have k8:r8=Int.tmod x8 10000:=by rw[Int.tmod_eq_emod_of_nonneg (by omega)];exact hr8
  have t8:zA (Int.tdiv x8 10000)=q8:=by rw[Int.tdiv_eq_ediv_of_nonneg (by omega),←hq8,zO (by omega) (by omega)]
  obtain⟨x7,hx7⟩:∃x,x=r8*65536+l7:=⟨_,rfl⟩;obtain⟨r7,hr7⟩:∃r,r=x7%10000:=⟨_,rfl⟩;obtain⟨q7,hq7⟩:∃q,q=x7/10000:=⟨_,rfl⟩;have v7:x7=10000*q7+r7∧0≤r7∧r7<10000∧0≤x7∧x7<655360000:=by omega
  have h7:x7=zA (shl .i64 r8 16+l7):=by rw[uQ,zO (x:=r8*65536) (by omega) (by omega),←hx7,zO (by omega) (by omega)]
  have k7:r7=Int.tmod x7 10000:=by rw[Int.tmod_eq_emod_of_nonneg (by omega)];exact hr7
  have t7:zA (Int.tdiv x7 10000)=q7:=by rw[Int.tdiv_eq_ediv_of_nonneg (by omega),←hq7,zO (by omega) (by omega)]
  obtain⟨x6,Np⟩:∃x,x=r7*65536+l6:=⟨_,rfl⟩;obtain⟨r6,hr6⟩:∃r,r=x6%10000:=⟨_,rfl⟩;obtain⟨q6,hq6⟩:∃q,q=x6/10000:=⟨_,rfl⟩;have v6:x6=10000*q6+r6∧0≤r6∧r6<10000∧0≤x6∧x6<655360000:=by omega
  have h6:x6=zA (shl .i64 r7 16+l6):=by rw[uQ,zO (x:=r7*65536) (by omega) (by omega),←Np,zO (by omega) (by omega)]
  have k6:r6=Int.tmod x6 10000:=by rw[Int.tmod_eq_emod_of_nonneg (by omega)];exact hr6
  have t6:zA (Int.tdiv x6 10000)=q6:=by rw[Int.tdiv_eq_ediv_of_nonneg (by omega),←hq6,zO (by omega) (by omega)]
  obtain⟨x5,hx5⟩:∃x,x=r6*65536+l5:=⟨_,rfl⟩;obtain⟨r5,hr5⟩:∃r,r=x5%10000:=⟨_,rfl⟩;obtain⟨q5,hq5⟩:∃q,q=x5/10000:=⟨_,rfl⟩;have v5:x5=10000*q5+r5∧0≤r5∧r5<10000∧0≤x5∧x5<655360000:=by omega
  have h5:x5=zA (shl .i64 r6 16+l5):=by rw[uQ,zO (x:=r6*65536) (by omega) (by omega),←hx5,zO (by omega) (by omega)]
  have k5:r5=Int.tmod x5 10000:=by rw[Int.tmod_eq_emod_of_nonneg (by omega)];exact hr5
  have t5:zA (Int.tdiv x5 10000)=q5:=by rw[Int.tdiv_eq_ediv_of_nonneg (by omega),←hq5,zO (by omega) (by omega)]
  obtain⟨x4,hx4⟩:∃x,x=r5*65536+l4:=⟨_,rfl⟩;obtain⟨r4,hr4⟩:∃r,r=x4%10000:=⟨_,rfl⟩;obtain⟨q4,hq4⟩:∃q,q=x4/10000:=⟨_,rfl⟩;have v4:x4=10000*q4+r4∧0≤r4∧r4<10000∧0≤x4∧x4<655360000:=by omega
  have h4:x4=zA (shl .i64 r5 16+l4):=by rw[uQ,zO (x:=r5*65536) (by omega) (by omega),←hx4,zO (by omega) (by omega)]
  have k4:r4=Int.tmod x4 10000:=by rw[Int.tmod_eq_emod_of_nonneg (by omega)];exact hr4
  have t4:zA (Int.tdiv x4 10000)=q4:=by rw[Int.tdiv_eq_ediv_of_nonneg (by omega),←hq4,zO (by omega) (by omega)]
  obtain⟨x3,Wz⟩:∃x,x=r4*65536+l3:=⟨_,rfl⟩;obtain⟨r3,hr3⟩:∃r,r=x3%10000:=⟨_,rfl⟩;obtain⟨q3,hq3⟩:∃q,q=x3/10000:=⟨_,rfl⟩;have v3:x3=10000*q3+r3∧0≤r3∧r3<10000∧0≤x3∧x3<655360000:=by omega
  have h3:x3=zA (shl .i64 r4 16+l3):=by rw[uQ,zO (x:=r4*65536) (by omega) (by omega),←Wz,zO (by omega) (by omega)]
  have k3:r3=Int.tmod x3 10000:=by rw[Int.tmod_eq_emod_of_nonneg (by omega)];exact hr3
  have t3:zA (Int.tdiv x3 10000)=q3:=by rw[Int.tdiv_eq_ediv_of_nonneg (by omega),←hq3,zO (by omega) (by omega)]
  obtain⟨x2,C7⟩:∃x,x=r3*65536+l2:=⟨_,rfl⟩;obtain⟨r2,rZ⟩:∃r,r=x2%10000:=⟨_,rfl⟩;obtain⟨q2,hq2⟩:∃q,q=x2/10000:=⟨_,rfl⟩;have v2:x2=10000*q2+r2∧0≤r2∧r2<10000∧0≤x2∧x2<655360000:=by omega
  have h2:x2=zA (shl .i64 r3 16+l2):=by rw[uQ,zO (x:=r3*65536) (by omega) (by omega),←C7,zO (by omega) (by omega)]
  have k2:r2=Int.tmod x2 10000:=by rw[Int.tmod_eq_emod_of_nonneg (by omega)];exact rZ
  have t2:zA (Int.tdiv x2 10000)=q2:=by rw[Int.tdiv_eq_ediv_of_nonneg (by omega),←hq2,zO (by omega) (by omega)]
  obtain⟨x1,dp⟩:∃x,x=r2*65536+l1:=⟨_,rfl⟩;obtain⟨r1,wg⟩:∃r,r=x1%10000:=⟨_,rfl⟩;obtain⟨q1,hq1⟩:∃q,q=x1/10000:=⟨_,rfl⟩;have v1:x1=10000*q1+r1∧0≤r1∧r1<10000∧0≤x1∧x1<655360000:=by omega
  have h1:x1=zA (shl .i64 r2 16+l1):=by rw[uQ,zO (x:=r2*65536) (by omega) (by omega),←dp,zO (by omega) (by omega)]
  have k1:r1=Int.tmod x1 10000:=by rw[Int.tmod_eq_emod_of_nonneg (by omega)];exact wg
  have t1:zA (Int.tdiv x1 10000)=q1:=by rw[Int.tdiv_eq_ediv_of_nonneg (by omega),←hq1,zO (by omega) (by omega)]
  obtain⟨x0,WA⟩:∃x,x=r1*65536+l0:=⟨_,rfl⟩;obtain⟨r0,tL⟩:∃r,r=x0%10000:=⟨_,rfl⟩;obtain⟨q0,hq0⟩:∃q,q=x0/10000:=⟨_,rfl⟩;have v0:x0=10000*q0+r0∧0≤r0∧r0<10000∧0≤x0∧x0<655360000:=by omega
  have h0:x0=zA (shl .i64 r1 16+l0):=by rw[uQ,zO (x:=r1*65536) (by omega) (by omega),←WA,zO (by omega) (by omega)]
  have k0:r0=Int.tmod x0 10000:=by rw[Int.tmod_eq_emod_of_nonneg (by omega)];exact tL
  have t0:zA (Int.tdiv x0 10000)=q0:=by rw[Int.tdiv_eq_ediv_of_nonneg (by omega),←hq0,zO (by omega) (by omega)]
  have run:=vLc l0 l1 l2 l3 l4 l5 l6 l7 l8 h8 h7 h6 h5 h4 h3 h2 h1 h0 h9 k8 k7 k6 k5 k4 k3 k2 k1 k0;rw[t0,t1,t2,t3,t4,t5,t6,t7,t8] at run;clear h0 k0 t0 h1 k1 t1 h2 k2 t2 h3 k3 t3 h4 k4 t4 h5 k5 t5 h6 k6 t6 h7 k7 t7 h8 k8 t8;have hv:10000*V9 q0 q1 q2 q3 q4 q5 q6 q7 q8+r0=V9 l0 l1 l2 l3 l4 l5 l6 l7 l8:=by unfold V9;omega
  have hq:V9 q0 q1 q2 q3 q4 q5 q6 q7 q8=V9 l0 l1 l2 l3 l4 l5 l6 l7 l8/10000:=by omega
  rw[←hq] at hV⊢;unfold V9 at hV;have z8:q8=0:=by omega
  have z7:q7=0:=by omega
  have z6:q6=0:=by omega
  have z5:q5=0:=by omega
  have z4:q4=0:=by omega
  have z3:q3<32768:=by omega
  rw[z4,z5,z6,z7,z8] at run;have eU:Pk 1000 [l0,l1,l2,l3,l4,l5,l6,l7,l8] 10000=(KB 1000 1000 10000 0 8 [l0,l1,l2,l3,l4,l5,l6,l7,l8]).bind fun z=>(F8 1000 1000 4 z).bind fun z1=>
   match z1 with
   | .inl z2 => bif zB 3 z2.length then (bif decide ((z2.getD 3 0)≥32768) then some ((0:Int),false)
     else bif zB 3 z2.length then (bif zB 2 z2.length then (bif zB 1 z2.length then (bif zB 0 z2.length then some ((wN .i64 (wN .i64 (wN .i64 (shl .i64 (z2.getD 3 0) 48) (shl .i64 (z2.getD 2 0) 32)) (shl .i64 (z2.getD 1 0) 16)) (z2.getD 0 0)),true)
        else none)
       else none)
      else none)
     else none)
    else none
   |.inr z3=>some (z3.1,z3.2):=rfl
  rw[eU,run];simp only[ae];refine(Wx q0 q1 q2 q3 (ab (by omega))).trans ?_;rw[Wy ⟨by omega,by omega⟩ ⟨by omega,by omega⟩ ⟨by omega,by omega⟩ ⟨by omega,z3⟩];unfold V9;rw[z4,z5,z6,z7,z8];exact by simp
theorem vEb (a b x0 x1 x2 x3:Int):Pl 1000 1000 b 0 [x0,x1,x2,x3] [0,0,0,0,0,0,0,0,0]=some [zA (0+zA (x0*yL .i64 (shr .i64 b 0) 65535)),zA (zA (0+zA (x0*yL .i64 (shr .i64 b 16) 65535))+zA (x1*yL .i64 (shr .i64 b 0) 65535)),zA (zA (zA (0+zA (x0*yL .i64 (shr .i64 b 32) 65535))+zA (x1*yL .i64 (shr .i64 b 16) 65535))+zA (x2*yL .i64 (shr .i64 b 0) 65535)),zA (zA (zA (zA (0+zA (x0*yL .i64 (shr .i64 b 48) 65535))+zA (x1*yL .i64 (shr .i64 b 32) 65535))+zA (x2*yL .i64 (shr .i64 b 16) 65535))+zA (x3*yL .i64 (shr .i64 b 0) 65535)),zA (zA (zA (0+zA (x1*yL .i64 (shr .i64 b 48) 65535))+zA (x2*yL .i64 (shr .i64 b 32) 65535))+zA (x3*yL .i64 (shr .i64 b 16) 65535)),zA (zA (0+zA (x2*yL .i64 (shr .i64 b 48) 65535))+zA (x3*yL .i64 (shr .i64 b 32) 65535)),zA (0+zA (x3*yL .i64 (shr .i64 b 48) 65535)),0,0]:=by kernel_rfl
theorem vTa {x0 x1 x2 x3 y0 y1 y2 y3}:(x0+65536*x1+4294967296*x2+281474976710656*x3)*(y0+65536*y1+4294967296*y2+281474976710656*y3)=V9 (x0*y0) (x0*y1+x1*y0) (x0*y2+x1*y1+x2*y0) (x0*y3+x1*y2+x2*y1+x3*y0) (x1*y3+x2*y2+x3*y1) (x2*y3+x3*y2) (x3*y3) 0 0:=by
 have row:∀x:Int,x*(y0+65536*y1+4294967296*y2+281474976710656*y3)=x*y0+65536*(x*y1)+4294967296*(x*y2)+281474976710656*(x*y3):=by grind
 rw[Int.add_mul,Int.add_mul,Int.add_mul,Int.mul_assoc,Int.mul_assoc,Int.mul_assoc,row,row,row,row];unfold V9;omega
theorem vEe {a b}(ha:0≤a∧a≤1048576)(hb:0≤b∧b≤1099511627776):∃d0 d1 d2 d3 d4 d5 d6 d7 d8,
  Pm 1000 a b=some [d0,d1,d2,d3,d4,d5,d6,d7,d8]∧V9 d0 d1 d2 d3 d4 d5 d6 d7 d8=a*b∧(0≤d0∧d0<65536)∧(0≤d1∧d1<65536)∧(0≤d2∧d2<65536)∧(0≤d3∧d3<65536)∧(0≤d4∧d4<65536)∧(0≤d5∧d5<65536)∧(0≤d6∧d6<65536)∧(0≤d7∧d7<65536)∧d8=0:=by
 obtain⟨x0,WA⟩:∃z,z=a%65536:=⟨_,rfl⟩;have xS:0≤x0∧x0≤65535:=by omega
 obtain⟨x1,dp⟩:∃z,z=a/65536%65536:=⟨_,rfl⟩;have xT:0≤x1∧x1≤65535:=by omega
 obtain⟨x2,C7⟩:∃z,z=a/4294967296%65536:=⟨_,rfl⟩;have xU:0≤x2∧x2≤65535:=by omega
 obtain⟨x3,Wz⟩:∃z,z=a/281474976710656%65536:=⟨_,rfl⟩;have xV:0≤x3∧x3≤65535:=by omega
 obtain⟨y0,SW⟩:∃z,z=b%65536:=⟨_,rfl⟩;have xW:0≤y0∧y0≤65535:=by omega
 obtain⟨y1,Tt⟩:∃z,z=b/65536%65536:=⟨_,rfl⟩;have xX:0≤y1∧y1≤65535:=by omega
 obtain⟨y2,Tu⟩:∃z,z=b/4294967296%65536:=⟨_,rfl⟩;have xY:0≤y2∧y2≤65535:=by omega
 obtain⟨y3,hy3⟩:∃z,z=b/281474976710656%65536:=⟨_,rfl⟩;have xZ:0≤y3∧y3≤65535:=by omega
 have ea:a=x0+65536*x1+4294967296*x2+281474976710656*x3:=by omega
 have eb:b=y0+65536*y1+4294967296*y2+281474976710656*y3:=by omega
 have dg:Pn 1000 a=some [x0,x1,x2,x3]:=by
  unfold Pn;rw[sW,yPi,ySz,uP,uP,uP,uP,←WA,←dp,←C7,←Wz]
 have run:=vEb a b x0 x1 x2 x3;rw[vL0,sW,yPi,ySz,uP,uP,uP,uP,←SW,←Tt,←Tu,←hy3] at run;have CQ:=vTa (x0:=x0) (x1:=x1) (x2:=x2) (x3:=x3) (y0:=y0) (y1:=y1) (y2:=y2) (y3:=y3);rw[←ea,←eb] at CQ;have hm:=wB ha.1 ha.2 hb.1 hb.2;have m00:=wB xS.1 xS.2 xW.1 xW.2;have m01:=wB xS.1 xS.2 xX.1 xX.2;have m02:=wB xS.1 xS.2 xY.1 xY.2;have m03:=wB xS.1 xS.2 xZ.1 xZ.2;have m10:=wB xT.1 xT.2 xW.1 xW.2;have m11:=wB xT.1 xT.2 xX.1 xX.2;have m12:=wB xT.1 xT.2 xY.1 xY.2;have m13:=wB xT.1 xT.2 xZ.1 xZ.2;have m20:=wB xU.1 xU.2 xW.1 xW.2;have m21:=wB xU.1 xU.2 xX.1 xX.2;have m22:=wB xU.1 xU.2 xY.1 xY.2;have m23:=wB xU.1 xU.2 xZ.1 xZ.2;have m30:=wB xV.1 xV.2 xW.1 xW.2;have m31:=wB xV.1 xV.2 xX.1 xX.2;have m32:=wB xV.1 xV.2 xY.1 xY.2;have m33:=wB xV.1 xV.2 xZ.1 xZ.2;generalize x0*y0=WB at*
 generalize x0*y1=Po at*
 generalize x0*y2=KC at*
 generalize x0*y3=F9 at*
 generalize x1*y0=WC at*
 generalize x1*y1=Pp at*
 generalize x1*y2=KD at*
 generalize x1*y3=KE at*
 generalize x2*y0=WD at*
 generalize x2*y1=Pq at*
 generalize x2*y2=Pr at*
 generalize x2*y3=Ps at*
 generalize x3*y0=WE at*
 generalize x3*y1=WG at*
 generalize x3*y2=WH at*
 generalize x3*y3=WI at*
 rw[zO (x:=WB) (by omega) (by omega)] at run;rw[zO (x:=Po) (by omega) (by omega)] at run;rw[zO (x:=KC) (by omega) (by omega)] at run;rw[zO (x:=F9) (by omega) (by omega)] at run;rw[zO (x:=WC) (by omega) (by omega)] at run;rw[zO (x:=Pp) (by omega) (by omega)] at run;rw[zO (x:=KD) (by omega) (by omega)] at run;rw[zO (x:=KE) (by omega) (by omega)] at run;rw[zO (x:=WD) (by omega) (by omega)] at run;rw[zO (x:=Pq) (by omega) (by omega)] at run;rw[zO (x:=Pr) (by omega) (by omega)] at run;rw[zO (x:=Ps) (by omega) (by omega)] at run;rw[zO (x:=WE) (by omega) (by omega)] at run;rw[zO (x:=WG) (by omega) (by omega)] at run;rw[zO (x:=WH) (by omega) (by omega)] at run;rw[zO (x:=WI) (by omega) (by omega)] at run;rw[zO (x:=0+WB) (by omega) (by omega)] at run;rw[zO (x:=0+Po) (by omega) (by omega)] at run;rw[zO (x:=0+KC) (by omega) (by omega)] at run;rw[zO (x:=0+F9) (by omega) (by omega)] at run;rw[zO (x:=0+Po+WC) (by omega) (by omega)] at run;rw[zO (x:=0+KC+Pp) (by omega) (by omega)] at run;rw[zO (x:=0+F9+KD) (by omega) (by omega)] at run;rw[zO (x:=0+KE) (by omega) (by omega)] at run;rw[zO (x:=0+KC+Pp+WD) (by omega) (by omega)] at run;rw[zO (x:=0+F9+KD+Pq) (by omega) (by omega)] at run;rw[zO (x:=0+KE+Pr) (by omega) (by omega)] at run;rw[zO (x:=0+Ps) (by omega) (by omega)] at run;rw[zO (x:=0+F9+KD+Pq+WE) (by omega) (by omega)] at run;rw[zO (x:=0+KE+Pr+WG) (by omega) (by omega)] at run;rw[zO (x:=0+Ps+WH) (by omega) (by omega)] at run;rw[zO (x:=0+WI) (by omega) (by omega)] at run;obtain⟨d0,d1,d2,d3,d4,d5,d6,d7,d8,c1,c2,n0,n1,n2,n3,n4,n5,n6,n7,n8⟩:=yFk (l0:=0+WB) (l1:=0+Po+WC) (l2:=0+KC+Pp+WD) (l3:=0+F9+KD+Pq+WE) (l4:=0+KE+Pr+WG) (l5:=0+Ps+WH) (l6:=0+WI) (l7:=0) (l8:=0) (by omega) (by omega) (by omega) (by omega) (by omega) (by omega) (by omega) (by omega) (by omega);refine⟨d0,d1,d2,d3,d4,d5,d6,d7,d8,?_,?_,n0,n1,n2,n3,n4,n5,n6,n7,?_⟩
 ·unfold Pm;rw[dg];simp only[ae];rw[run];simp only[ae];rw[c1];rfl
 ·rw[c2,CQ];unfold V9;omega
 ·have:V9 d0 d1 d2 d3 d4 d5 d6 d7 d8=a*b:=by
   rw[c2,CQ];unfold V9;omega
  unfold V9 at this;omega
theorem WJ {p m c:Int}(hp:0≤p∧p≤1048576)(hm:0≤m∧m≤1099511627776)(hc:0≤c∧c≤10000):Pt 1000 p m c=some (uD p m c,true):=by
 obtain⟨d0,d1,d2,d3,d4,d5,d6,d7,d8,e1,e2,n0,n1,n2,n3,n4,n5,n6,n7,n8⟩:=vEe hp hm;have ya:=wB hp.1 hp.2 hm.1 hm.2;have hn:0≤10000-c∧10000-c≤10000:=by omega
 have wn:zA (10000-c)=10000-c:=zO (by omega) (by omega);have hw:=yWc hp hm hc;unfold uD at hw⊢;have hpn:=wB ya.1 ya.2 hn.1 hn.2;have eV:=Ww d0 d1 d2 d3 d4 d5 d6 d7 d8 (10000-c);rw[e2] at eV;unfold Pt;rw[ab (show¬p<0 by omega),ab (show¬m<0 by omega),ab (show¬c<0 by omega),ab (show¬c>10000 by omega),e1,wn];simp only[an,ae];rw[vFn];generalize 10000-c=n at*
 have u0:=wB n0.1 (show d0≤65535 by omega) hn.1 hn.2;have u1:=wB n1.1 (show d1≤65535 by omega) hn.1 hn.2;have u2:=wB n2.1 (show d2≤65535 by omega) hn.1 hn.2;have u3:=wB n3.1 (show d3≤65535 by omega) hn.1 hn.2;have u4:=wB n4.1 (show d4≤65535 by omega) hn.1 hn.2;have u5:=wB n5.1 (show d5≤65535 by omega) hn.1 hn.2;have u6:=wB n6.1 (show d6≤65535 by omega) hn.1 hn.2;have u7:=wB n7.1 (show d7≤65535 by omega) hn.1 hn.2;have u8:0≤d8*n∧d8*n≤0:=by rw[n8,Int.zero_mul];omega
 generalize d0*n=t0 at*
 generalize d1*n=t1 at*
 generalize d2*n=t2 at*
 generalize d3*n=t3 at*
 generalize d4*n=t4 at*
 generalize d5*n=t5 at*
 generalize d6*n=t6 at*
 generalize d7*n=t7 at*
 generalize d8*n=t8 at*
 rw[zO (x:=t0) (by omega) (by omega),zO (x:=t1) (by omega) (by omega),zO (x:=t2) (by omega) (by omega),zO (x:=t3) (by omega) (by omega),zO (x:=t4) (by omega) (by omega),zO (x:=t5) (by omega) (by omega),zO (x:=t6) (by omega) (by omega),zO (x:=t7) (by omega) (by omega),zO (x:=t8) (by omega) (by omega)];obtain⟨e0,e1,e2,e3,e4,e5,e6,e7,e8,f1,f2,k0,k1,k2,k3,k4,k5,k6,k7,k8⟩:=yFk (l0:=t0) (l1:=t1) (l2:=t2) (l3:=t3) (l4:=t4) (l5:=t5) (l6:=t6) (l7:=t7) (l8:=t8) (by omega) (by omega) (by omega) (by omega) (by omega) (by omega) (by omega) (by omega) (by omega);rw[f1];simp only[ae];rw[←eV] at f2;have z8:e8≤0:=by unfold V9 at f2;omega
 rw[vGm k0 k1 k2 k3 k4 k5 k6 k7 ⟨k8,z8⟩ (by rw[f2];exact hw.2),f2];rfl
theorem ySr k x y:KF k x.1 x.2.1 x.2.2.1 x.2.2.2.1 x.2.2.2.2.1 x.2.2.2.2.2.1 x.2.2.2.2.2.2 y.1 y.2.1 y.2.2.1 y.2.2.2.1 y.2.2.2.2.1 y.2.2.2.2.2.1 y.2.2.2.2.2.2=some (jF x y):=by
 unfold KF jF;grind
theorem WK k {a b}(ha:0≤a∧a≤4611686018427387904)(hb:0≤b∧b≤1152921504606846976):Ga k a b=some (a+b,true):=by
 unfold Ga;rw[zO (x:=a+b) (by omega) (by omega),zO (x:=9223372036854775807-b) (by omega) (by omega),ab (show¬a>9223372036854775807-b by omega),ab (show¬b<0 by omega)];simp
theorem yR6 {sa pr h}(L:kP sa pr h):BH 1000 sa pr h=some (mc sa pr h,true):=by
 have h3:=L.n3;obtain ⟨s', g1, g2⟩ := vK (L := fun n i (v : Int) => KG 1000 n sa pr h v i) (N := sa.length) (fun v => (.inl v : Int ⊕ Int × Bool)) (fun i v => v = qH (nV sa pr h) i) (fun n v _=>by
  show Gc 1000 _ sa pr h v (sa.length:Int)=_;unfold Gc;simp) (fun n i v hi hv=>by
  refine⟨v+nV sa pr h i,?_,by rw[hv];rfl⟩;show Gc 1000 (KG 1000 n) sa pr h v (i:Int)=_;unfold Gc;have hw:=J6 L hi;have hb:=OH (g:=nV sa pr h) (n:=i) (fun j hj=>J6 L (by omega));have ed:sa.getD i (0,0)=sa.getD i uE:=rfl;rw[aa (by grind),qC,qC,qC,aa hi,aa (show i<pr.length by rw[L.pl];exact hi),aa (show i<h.length by rw[L.hl];exact hi),au,ed,WJ (L.price i hi) (L.hold i hi) (L.cut i hi)];simp only[ae];have e:uD (pr.getD i 0) (h.getD i 0) (sa.getD i uE).2=nV sa pr h i:=rfl;rw[e,WK _ (by omega) hw,qE hi (by omega)];rfl) (n:=1000) (s:=0) (by omega) rfl
 unfold BH;rw[aa (show(pr.length:Int)=(sa.length:Int) by rw[L.pl]),aa (show(h.length:Int)=(sa.length:Int) by rw[L.hl]),g1,g2];rfl
theorem Gd {α:Type}{d}(l:List α){i} h:l.getD i d=l[i]:=by
 simp_all
theorem KH {X:Type}{L:Nat→Int→Option X}{N:Nat}{e}(bM:∀n,L (n+1) (N:Int)=some e)(aL:∀n i,i<N→L (n+1) (i:Int)=L n ((i+1:Nat):Int)){n}(hn:N<n):L n 0=some e:=by
 obtain⟨_,h,_⟩:=vK (L:=fun n i (_:Unit)=>L n i) (N:=N) (fun _=>e) (fun _ _=>True) (by grind) (fun n i _ hi _=>⟨(),by grind,trivial⟩) (n:=n) (s:=()) hn trivial;exact h
theorem uR {k l}(hk:l.length<k)(hl:qQ l) id:nW k l id=some (ij l id):=by
 unfold qQ at hl;unfold nW;rw[Ou hk (by omega)];unfold j7 ij;cases hp:vV l id with
 |none=>rfl
 |some x=>
  have hx:=(kO hp).1;have e1:decide ((x:Int)<0)=false:=ab (by omega);have e2:decide ((0:Int)≤(x:Int))=true:=by simp
  have e3:decide ((x:Int)≤(l.length:Int))=true:=aa (by omega);have e4:decide ((0:Int)≤((x+1:Nat):Int))=true:=aa (by omega);have e5:decide (((x+1:Nat):Int)≤(l.length:Int))=true:=aa (by omega);have l1:=List.length_take_le x l;have l2:(l.drop (x+1)).length≤l.length:=by rw[List.length_drop];omega
  have e6:zQ (0+(l.take x).length) 56=true:=qK (by omega) (by omega);have e7:zQ ((l.take x).length+(l.drop (x+1)).length) 56=true:=qK (by omega) (by omega);simp only[ae,e3,e5,qE hx (show l.length<9223372036854775808 by omega),qC,aa hx,au,e6,e7];rfl
theorem vI2 (q p:zH):j8 q p= !jF p q:=by
 unfold j8 jF;rcases Int.lt_trichotomy q.2.1 p.2.1 with h|h|h
 ·have h1:¬p.2.1<q.2.1:=by omega
  have h2:¬p.2.1=q.2.1:=by omega
  simp[h,h1,h2]
 ·rcases Int.lt_trichotomy q.2.2.2.2.1 p.2.2.2.2.1 with g|g|g
  ·have g1:¬p.2.2.2.2.1≤q.2.2.2.2.1:=by omega
   simp[h,g,g1]
  ·simp[h,g]
  ·have g1:¬q.2.2.2.2.1<p.2.2.2.2.1:=by omega
   have g2:p.2.2.2.2.1≤q.2.2.2.2.1:=by omega
   simp[h,g1,g2]
 ·have h1:¬q.2.1<p.2.1:=by omega
  have h2:¬q.2.1=p.2.1:=by omega
  simp[h,h1,h2]
theorem Pu {k}{l:List zH}(hl:l.length≤1000){x}(hx:x≤l.length) y:BI k l x y.1 y.2.1 y.2.2.1 y.2.2.2.1 y.2.2.2.2.1 y.2.2.2.2.2.1 y.2.2.2.2.2.2=some (l.take x++(y::l.drop x)):=by
 unfold BI;have e1:(decide (0≤(x:Int))&&decide ((x:Int)≤((l.length:Nat):Int)))=true:=by simp_all
 have e2:zQ (0+(l.take x).length) 56=true:=qK (by grind) (by grind);have e3:zQ ((l.take x).length+1) 56=true:=qK (by grind) (by grind);rw[e1,au,e2,e3];have e4:zQ ((l.take x++[(y.1,(y.2.1,(y.2.2.1,(y.2.2.2.1,(y.2.2.2.2.1,(y.2.2.2.2.2.1,y.2.2.2.2.2.2))))))]).length+(l.drop x).length) 56=true:=qK (by grind) (by grind);grind
theorem WL {k}{l:List zH}(hk:l.length<k)(hl:l.length≤1000) y:Ge k l y.1 y.2.1 y.2.2.1 y.2.2.2.1 y.2.2.2.2.1 y.2.2.2.2.2.1 y.2.2.2.2.2.2=some (((l.takeWhile (fun q=>jF q y)).length:Nat):Int):=by
 have := E9 (L := fun n i => Gf k n l i y.1 y.2.1 y.2.2.1 y.2.2.2.1 y.2.2.2.2.1 y.2.2.2.2.2.1 y.2.2.2.2.2.2) (N := l.length) (fun x => jF (l.getD x pd) y) (fun i => (i : Int)) (fun n=>by
  show Gg k _ l l.length _ _ _ _ _ _ _=_;unfold Gg;simp) (fun n i hi=>by
  show Gg k _ l i _ _ _ _ _ _ _=_;unfold Gg;have h1:=ySr k (l.getD i pd) y;simp only[qC,qR,au,aa hi,ak,h1,ae,qE hi (by grind)]
  ) l.length 0 k (by omega) hk
 have e:((0:Nat):Int)=0:=rfl;unfold Ge;have h':Gf k k l 0 y.1 y.2.1 y.2.2.1 y.2.2.2.1 y.2.2.2.2.1 y.2.2.2.2.2.1 y.2.2.2.2.2.2=_:=this;rw[h',Fa (fun q=>jF q y) l pd l.length 0 (by omega),List.drop_zero,Nat.zero_add];rfl
theorem vMc {k:Nat}{l:List zH}(hk:l.length<k)(hl:l.length≤1000)(p:zH):
  BJ k l p.1 p.2.1 p.2.2.1 p.2.2.2.1 p.2.2.2.2.1 p.2.2.2.2.2.1 p.2.2.2.2.2.2=some (bif (vV l p.1).isSome then(l,6) else bif decide (40≤l.length) then(l,3) else(oX l p,0)):=by
 unfold BJ;rw[Ou hk (by omega)];unfold j7;cases hp:vV l p.1 with
 |some x=>
  have e1:decide ((x:Int)≥0)=true:=aa (by omega);simp only[ae,e1,ak,Option.isSome_some]
 |none=>
  have e1:decide ((-1:Int)≥0)=false:=rfl;simp only[ae,e1,an,Option.isSome_none];by_cases h:40≤l.length
  ·rw[aa h,aa (show(l.length:Int)≥40 by omega)];rfl
  ·rw[ab h,ab (show¬(l.length:Int)≥40 by omega)];simp only[an];rw[WL hk hl p];simp only[ae];rw[Pu hl (Br _ l) p,(nU _ l).1,(nU _ l).2];rfl
theorem vG4 {k l}(bN:l.length<k)(hl:qQ l){id x}(hx:vV l id=some x) c:
  KI k l id c=some (oX (yG l x) ((l.getD x pd).1,(l.getD x pd).2.1,(l.getD x pd).2.2.1,(l.getD x pd).2.2.2.1,c,(l.getD x pd).2.2.2.2.2.1,(l.getD x pd).2.2.2.2.2.2),0):=by
 have dp:=kO hx;have hlen:=nT dp.1;have dM:=hl;unfold qQ at dM;unfold KI;rw[uR bN hl];unfold ij;rw[hx];simp only[ae];have h1:=WL (k:=k) (l:=yG l x) (by omega) (by omega) ((l.getD x pd).1,(l.getD x pd).2.1,(l.getD x pd).2.2.1,(l.getD x pd).2.2.2.1,c,(l.getD x pd).2.2.2.2.2.1,(l.getD x pd).2.2.2.2.2.2);rw[h1];simp only[ae];have h2:=Pu (k:=k) (l:=yG l x) (by omega) (Br (fun q=>jF q ((l.getD x pd).1,(l.getD x pd).2.1,(l.getD x pd).2.2.1,(l.getD x pd).2.2.2.1,c,(l.getD x pd).2.2.2.2.2.1,(l.getD x pd).2.2.2.2.2.2)) (yG l x)) ((l.getD x pd).1,(l.getD x pd).2.1,(l.getD x pd).2.2.1,(l.getD x pd).2.2.2.1,c,(l.getD x pd).2.2.2.2.2.1,(l.getD x pd).2.2.2.2.2.2);rw[h2,(nU _ (yG l x)).1,(nU _ (yG l x)).2];rfl
theorem vV6 {k l}(bN:l.length<k)(hl:qQ l){id x}(hx:vV l id=some x):
  KJ k l id=some (oX (yG l x) (l.getD x pd),0):=by
 have dp:=kO hx;have hlen:=nT dp.1;have dM:=hl;unfold qQ at dM;unfold KJ;rw[uR bN hl];unfold ij;rw[hx];simp only[ae];rw[WL (k:=k) (l:=yG l x) (by omega) (by omega) (l.getD x pd)];simp only[ae];rw[Pu (k:=k) (l:=yG l x) (by omega) (Br (fun q=>jF q (l.getD x pd)) (yG l x)) (l.getD x pd),(nU _ (yG l x)).1,(nU _ (yG l x)).2];rfl
theorem vIf {k l}(bN:l.length<k)(hl:qQ l){id x}(hx:vV l id=some x):
  KK k l id=some (JY (yG l x) (l.getD x pd),0):=by
 have dp:=kO hx;have hlen:=nT dp.1;have dM:=hl;unfold qQ at dM;have ql:∀(l:List zH),l.length<k→l.length≤1000→∀p:zH,KL k k l 0 p=some (l,(((l.takeWhile (fun q=>j8 q p)).length:Nat):Int),p):=by
  intro l bN hl p;have := E9 (L := fun n i => KL k n l i p) (N := l.length) (fun x => j8 (l.getD x pd) p) (fun i => (l, (i : Int), p)) (fun n=>by
   show Gh k _ l l.length p=_;unfold Gh;simp) (fun n i hi=>by
   show Gh k _ l i p=_;unfold Gh;have h1:=ySr k p (l.getD i pd);simp only[qC,qR,au,aa hi,h1,qE hi (by grind),vI2];rfl) l.length 0 k (by omega) bN
  have e:((0:Nat):Int)=0:=rfl;rw[e] at this;rw[this,Fa (fun q=>j8 q p) l pd l.length 0 (by omega),List.drop_zero,Nat.zero_add]
 unfold KK;rw[uR bN hl];unfold ij;rw[hx];have h1:=ql (yG l x) (by omega) (by omega) (l.getD x pd);refine(congrArg (fun z=>Option.bind z _) h1).trans ?_;simp only[ae];rw[Pu (k:=k) (l:=yG l x) (by omega) (Br (fun q=>j8 q (l.getD x pd)) (yG l x)) (l.getD x pd),(nU _ (yG l x)).1,(nU _ (yG l x)).2];rfl
theorem vN9 {k:Nat}{l:AC}(hk:l.length<k)(hl:l.length≤1000)(id:Int):Pv k l id=some (decide (id∈l)):=by
 have := lu (L := fun n i => Gj k n l id i) (N := l.length) (fun i => !decide (l.getD i 0 = id)) (.inl ()) (.inr true) (fun n=>by
  show Gk k _ l id l.length=_;unfold Gk;rw [ab (Int.lt_irrefl _)]; rfl) (fun n i hi=>by
  show Gk k (Gj k n) l id i=_;unfold Gk;rw[aa (show(i:Int)<l.length by omega),qC,aa hi,au,qE hi (by omega)];cases decide (l.getD i 0=id)<;>rfl) hk
 unfold Pv;have h':Gj k k l id 0=_:=this;rw[h'];have e:qG (fun i=> !decide (l.getD i 0=id)) l.length 0= !decide (id∈l):=by
  by_cases hm:id∈l
  ·rw[aa hm];cases ha:qG (fun i=> !decide (l.getD i 0=id)) l.length 0 with
   |false=>rfl
   |true=>
    obtain⟨i,hi,e⟩:=List.getElem_of_mem hm;have:=gg.1 ha i hi;rw[Gd l hi,e] at this;simp at this
  ·rw[ab hm];refine gg.2 fun i hi=>?_
   rw[ab (show¬l.getD i 0=id from fun e=>hm (by rw[←e];exact gh hi))];rfl
 rw[e];cases decide (id∈l)<;>rfl
theorem WM {k:Nat}{l:AC}(hk:l.length<k)(hl:l.length≤1000)(id:Int):
  BK k l id=some (bif decide (id∈l) then(l,6) else bif decide (200≤l.length) then(l,3) else(qb l id,0)):=by
 unfold BK;rw[vN9 hk hl];simp only[ae];by_cases hm:id∈l
 ·rw[aa hm];rfl
 ·rw[ab hm];simp only[an];by_cases h:200≤l.length
  ·rw[aa h,aa (show(l.length:Int)≥200 by omega)];rfl
  ·rw[ab h,ab (show¬(l.length:Int)≥200 by omega)];have := E9 (L := fun n i => KM k n l id i) (N := l.length) (fun x => decide (l.getD x 0 < id)) (fun i => (l, id, (i : Int))) (fun n=>by
    show Gl k _ l id l.length=_;unfold Gl;simp only [qR, ab (Nat.lt_irrefl _), an]) (fun n i hi=>by
    show Gl k _ l id i=_;unfold Gl;simp only[qC,qR,au,aa hi,ak,qE hi (show l.length<9223372036854775808 by omega)];rfl) l.length 0 k (by omega) hk
   have e:((0:Nat):Int)=0:=rfl;rw[e,Fa (fun x=>decide (x<id)) l 0 l.length 0 (by omega),List.drop_zero,Nat.zero_add] at this;have h':KM k k l id 0=_:=this;simp only[an];rw[h'];have hn:=Br (fun x=>decide (x<id)) l;obtain⟨t1,t2⟩:=nU (fun x=>decide (x<id)) l;have e1:(decide (0≤(((l.takeWhile (fun x=>decide (x<id))).length:Nat):Int))&&decide ((((l.takeWhile (fun x=>decide (x<id))).length:Nat):Int)≤((l.length:Nat):Int)))=true:=by simp;exact hn
   have hd:=(List.dropWhile_sublist (fun x=>decide (x<id)) (l:=l)).length_le;simp only[ae,e1,ak,au,t1,t2];rw[qK (n:=0+(l.takeWhile (fun x=>decide (x<id))).length) (by omega) (by omega),qK (n:=(l.takeWhile (fun x=>decide (x<id))).length+1) (by omega) (by omega),qK (n:=(l.takeWhile (fun x=>decide (x<id))++[id]).length+(l.dropWhile (fun x=>decide (x<id))).length) (by rw[List.length_append];simp;omega) (by rw[List.length_append];simp;omega)];simp only[ak];unfold qb;simp
abbrev vIr:=Int×List oZ×Int×Int×Int×Int×List qY×jE×AC×jE×AC×jE×List zH×AC×Int×Bool×Int
def eZ (r:qF)(s:zT)(who:Int):vIr:=(r.1,r.2.1,r.2.2.1,r.2.2.2.1,r.2.2.2.2,s.t,s.B.1,s.B.2.1,s.B.2.2.1,s.B.2.2.2,s.pr,s.ho,s.m,s.ids,s.to,s.ov,who)
def Pw (s:zT)(i:Nat)(a:qY)(to:Int):zT:={s with B:=(s.B.1.set i a,s.B.2.1,s.B.2.2.1,s.B.2.2.2),to:=to}
def Gm (s:zT)(i:Nat)(n:Int):Int×zT:=
 bif decide ((s.B.1.getD i ad).1+(s.B.1.getD i ad).2.1-(s.B.1.getD i ad).2.2<n) then(9,s)
 else bif decide (s.to-n<0) then(9,s)
 else bif !decide ((wT (s.B.1.getD i ad) (-n)).2=0) then((wT (s.B.1.getD i ad) (-n)).2,s)
 else bif decide (s.to-n>1152921504606846976) then(8,s)
 else(0,Pw s i (wT (s.B.1.getD i ad) (-n)).1 (s.to-n))
def Gn (s:zT)(i:Nat)(n:Int):Int×zT:=
 bif !decide ((wT (s.B.1.getD i ad) n).2=0) then((wT (s.B.1.getD i ad) n).2,s)
 else bif decide (s.to+n>1152921504606846976) then(8,s)
 else(0,Pw s i (wT (s.B.1.getD i ad) n).1 (s.to+n))
def il (r:qF)(s:zT)(kd to n:Int):Int×zT:=
 bif !(decide (to≥0)&&decide (to≤r.1-1)) then(1,s)
 else bif !(decide (n≥1)&&decide (n≤1099511627776)) then(1,s)
 else bif decide (kd=11) then Gm s to.toNat n else Gn s to.toNat n
theorem yQr {k}(hk:1000≤k){r}(hr:vT r){s}(h:qW r s) who kd to n:
    ∃d,BL k (eZ r s who) kd to n=some ((il r s kd to n).1,d)∧((il r s kd to n).1=0→d=dk r (il r s kd to n).2 who []):=by
  have hp:=hr.pa;have hn:=h.n;have ht:=h.tot;have w1:zA (r.1-1)=r.1-1:=zO (by omega) (by omega);have eD:BL k (eZ r s who) kd to n=(vF k to 0 (zA (r.1-1))).bind fun x0=>
    bif !x0 then some (1,dk r s who [])
    else(vF k n 1 1099511627776).bind fun x1=>
    bif !x1 then some (1,dk r s who [])
    else bif zB to s.B.1.length then ((Gp k (s.B.1.getD to.toNat (0,0,0)) n).bind fun x2=>
      bif decide (kd = 11) then ((Gq k (s.B.1.getD to.toNat (0,0,0)) n 3).bind fun x3=>
       (Gr k (s.B.1.getD to.toNat (0,0,0)) 3).bind fun x4=>
       bif decide (x4<n) then some (9,dk r s who [])
       else bif decide ((zA (s.to-n))<0) then some (9,dk r s who [])
       else bif !(decide (x3.2=0)) then some (x3.2,dk r s who [])
       else bif decide ((zA (s.to-n))>1152921504606846976) then some (8,dk r s who [])
       else(gk k s.B.1 s.B.2.1 s.B.2.2.1 s.B.2.2.2).bind fun x5=>
       bif zB to x5.1.length then some (0,dk r {s with B:=(x5.1.set to.toNat x3.1,x5.2.1,x5.2.2.1,x5.2.2.2),to:=zA (s.to-n)} who [])
       else none)
      else bif !(decide (x2.2=0)) then some (x2.2,dk r s who [])
      else bif decide ((zA (s.to+n))>1152921504606846976) then some (8,dk r s who [])
      else(gk k s.B.1 s.B.2.1 s.B.2.2.1 s.B.2.2.2).bind fun x6=>
      bif zB to x6.1.length then some (0,dk r {s with B:=(x6.1.set to.toNat x2.1,x6.2.1,x6.2.2.1,x6.2.2.2),to:=zA (s.to+n)} who [])
      else none)
    else none:=rfl
  rw[eD,w1,nc,nc,Jn (by omega) h.bk.toSized];simp only[ae];unfold il;cases hc:decide (to≥0)&&decide (to≤r.1-1) with
  |false=>exact by simp
  |true=>
  simp only[bb,aX] at hc;cases hm:decide (n≥1)&&decide (n≤1099511627776) with
  |false=>exact by simp
  |true=>
  simp only[bb,aX] at hm;obtain⟨i,rfl⟩:=Int.eq_ofNat_of_zero_le hc.1;have hi:i<s.B.1.length:=by omega
  have hb:=h.bk.nums.bal i hi;have kJ:=h.bk.nums.res i hi;have hcr:=h.most i hi;have WN:0≤(s.B.1.getD i ad).2.1:=by rw[h.cred i hi];exact Fs (h.laid i hi)
  have b0:zB (i:Int) s.B.1.length=true:=by rw[qC,aa hi]
  have KN:Gp k (s.B.1.getD i (0,0,0)) n=some (wT (s.B.1.getD i ad) n):=by
    unfold Gp;rw[yU5 hb (by omega)];rfl
  have KO:Gq k (s.B.1.getD i (0,0,0)) n 3=some (wT (s.B.1.getD i ad) (-n)):=by
    unfold Gq;rw[show zA (0-n)= -n by rw[zO (by omega) (by omega)];omega,yU5 hb (by omega)];simp
  have yc:Gr k (s.B.1.getD i (0,0,0)) 3=some ((s.B.1.getD i ad).1+(s.B.1.getD i ad).2.1-(s.B.1.getD i ad).2.2):=by
    unfold Gr;have d1:decide ((3:Int)=3)=true:=rfl;rw[d1,ak];have q1:zA ((s.B.1.getD i (0,0,0)).1+(s.B.1.getD i (0,0,0)).2.1)=(s.B.1.getD i ad).1+(s.B.1.getD i ad).2.1:=zO (by simp only[ad] at*;omega) (by simp only[ad] at*;omega);rw[q1];exact congrArg some (zO (by simp only[ad] at*;omega) (by simp only[ad] at*;omega))
  have q2:zA (s.to-n)=s.to-n:=zO (by omega) (by omega);have q3:zA (s.to+n)=s.to+n:=zO (by omega) (by omega);simp only[aB,an,b0,ak,au,KN,KO,yc,ae,q2,q3];clear KN KO yc eD;cases decide (kd=11) with
  |true=>
    simp only[ak];unfold Gm;cases decide ((s.B.1.getD i ad).1+(s.B.1.getD i ad).2.1-(s.B.1.getD i ad).2.2<n) with
    |true=>exact by simp
    |false=>
    cases decide (s.to-n<0) with
    |true=>exact by simp
    |false=>
    cases hz:decide ((wT (s.B.1.getD i ad) (-n)).2=0) with
    |false=>exact by simp
    |true=>
    cases decide (s.to-n>1152921504606846976) with
    |true=>exact by simp
    |false=>exact⟨_,rfl,fun _=>rfl⟩
  |false=>
    simp only[an];unfold Gn;cases hz:decide ((wT (s.B.1.getD i ad) n).2=0) with
    |false=>exact by simp
    |true=>
    cases decide (s.to+n>1152921504606846976) with
    |true=>exact by simp
    |false=>exact⟨_,rfl,fun _=>rfl⟩
def fK (sa:List oZ)(pr:AC)(ho:jE)(j:Nat):Int:=mc sa pr (ho.getD j [])
def sX (sa:List oZ)(pr:AC)(ho:jE)(a:List qY):List qY:=(List.range a.length).map fun j=>((a.getD j ad).1,fK sa pr ho j,(a.getD j ad).2.2)
def BM (r:qF)(s:zT)(pr:AC):Int×zT:=
 bif qG (fun j=> !decide (fK r.2.1 pr s.ho j>1152921504606846976)) s.B.1.length 0 then(0,{s with B:=(sX r.2.1 pr s.ho s.B.1,s.B.2.1,s.B.2.2.1,s.B.2.2.2),pr:=pr}) else(8,s)
def iN (r:qF)(s:zT)(a p:Int):Int×zT:=
 bif !(decide (a≥0)&&decide (a≤(r.2.1.length:Int)-1)) then(1,s)
 else bif !(decide (p≥0)&&decide (p≤1048576)) then(1,s)
 else BM r s (s.pr.set a.toNat p)
theorem WO sa pr ho a:(sX sa pr ho a).length=a.length:=by simp[sX]
theorem Px sa pr ho a {j}(hj:j<a.length):(sX sa pr ho a).getD j ad=((a.getD j ad).1,fK sa pr ho j,(a.getD j ad).2.2):=by
 unfold sX;simp_all
theorem vHj {k:Nat}(hk:1000≤k){r:qF}{s:zT}(who:Int){pr:AC}(hL:∀i,i<s.B.1.length→kP r.2.1 pr (s.ho.getD i []))(hol:s.ho.length=s.B.1.length)(gL:s.B.1.length≤6):
  (qG (fun j=> !decide (fK r.2.1 pr s.ho j>1152921504606846976)) s.B.1.length 0=true∧uS k k s.ho s.ho.length 0 (eZ r s who) pr s.B.1 s.B.2.1 s.B.2.2.1 s.B.2.2.2=some (.inl (eZ r s who,pr,sX r.2.1 pr s.ho s.B.1,s.B.2.1,s.B.2.2.1,s.B.2.2.2)))∨
  (qG (fun j=> !decide (fK r.2.1 pr s.ho j>1152921504606846976)) s.B.1.length 0=false∧uS k k s.ho s.ho.length 0 (eZ r s who) pr s.B.1 s.B.2.1 s.B.2.2.1 s.B.2.2.2=some (.inr (8,eZ r s who))):=by
 rw[hol];have:=N8 (L:=fun n i (a:List qY)=>uS k n s.ho s.B.1.length i (eZ r s who) pr a s.B.2.1 s.B.2.2.1 s.B.2.2.2) (N:=s.B.1.length) (fun j=> !decide (fK r.2.1 pr s.ho j>1152921504606846976))
  (fun a=>.inl (eZ r s who,pr,a,s.B.2.1,s.B.2.2.1,s.B.2.2.2)) (.inr (8,eZ r s who))
  (fun i a => a.length = s.B.1.length ∧ ∀ j, j < s.B.1.length → a.getD j ad = if j < i then ((s.B.1.getD j ad).1, fK r.2.1 pr s.ho j, (s.B.1.getD j ad).2.2) else s.B.1.getD j ad) (fun n a _=>by
   show Gs k _ s.ho s.B.1.length s.B.1.length (eZ r s who) pr a s.B.2.1 s.B.2.2.1 s.B.2.2.2=_;unfold Gs;simp only [qR, ab (Nat.lt_irrefl _), an]) (fun n i a hi ha=>by
   have hv:=VP (k:=k) (hL i hi) (by omega);have aL:uS k (n+1) s.ho s.B.1.length i (eZ r s who) pr a s.B.2.1 s.B.2.2.1 s.B.2.2.2=bif decide (fK r.2.1 pr s.ho i>1152921504606846976) then some (.inr (8,eZ r s who)) else uS k n s.ho s.B.1.length ((i+1:Nat):Int) (eZ r s who) pr (a.set i ((a.getD i ad).1,fK r.2.1 pr s.ho i,(a.getD i ad).2.2)) s.B.2.1 s.B.2.2.1 s.B.2.2.2:=by
    show Gs k _ s.ho s.B.1.length i (eZ r s who) pr a s.B.2.1 s.B.2.2.1 s.B.2.2.2=_;unfold Gs;have iB:sM k (eZ r s who).2.1 pr (s.ho.getD i [])=some (fK r.2.1 pr s.ho i,true):=hv;simp only[qR,qC,au,aa hi,aa (show i<s.ho.length by omega),aa (show i<a.length by rw[ha.1];exact hi),ak,iB,ae,aB,an,qE hi (show s.B.1.length<9223372036854775808 by omega)];rfl
   refine⟨fun ho=>?_,fun ho=>?_⟩
   ·have h1:decide (fK r.2.1 pr s.ho i>1152921504606846976)=false:=by simpa using ho
    refine⟨_,by rw[aL,h1];rfl,by rw[List.length_set];exact ha.1,fun j hj=>?_⟩;rw[fm];by_cases e:i=j
    ·subst e;rw[if_pos ⟨rfl,by rw[ha.1];exact hi⟩,if_pos (by omega),ha.2 i hi,if_neg (Nat.lt_irrefl _)]
    ·rw[if_neg (by omega),ha.2 j hj];by_cases h:j<i
     ·rw[if_pos h,if_pos (by omega)]
     ·rw[if_neg h,if_neg (by omega)]
   ·have h1:decide (fK r.2.1 pr s.ho i>1152921504606846976)=true:=by simpa using ho
    rw[aL,h1];rfl) s.B.1.length 0 k s.B.1 (by omega) (by omega) ⟨rfl,fun j _=>by rw[if_neg (Nat.not_lt_zero _)]⟩
 rcases this with⟨h1,a,h2,h3,h4⟩|⟨h1,h2⟩
 ·refine .inl ⟨h1,?_⟩;have e:a=sX r.2.1 pr s.ho s.B.1:=DK ad (by rw[h3,WO]) fun j hj=>by
   rw[h3] at hj;rw[h4 j hj,if_pos hj,Px _ _ _ _ hj]
  rw[←e];exact h2
 ·exact .inr ⟨h1,h2⟩
theorem yUl {k:Nat}(hk:1000≤k){r:qF}(hr:vT r){s:zT}(h:qW r s)(who a p:Int):
  ∃d,Py k (eZ r s who) a p=some ((iN r s a p).1,d)∧((iN r s a p).1=0→d=dk r (iN r s a p).2 who []):=by
 have h3:=hr.n3;have gL:=h.bk.n6;have mO:=h.bk.n1;have w1:zA ((r.2.1.length:Int)-1)=(r.2.1.length:Int)-1:=zO (by omega) (by omega);have eD:Py k (eZ r s who) a p=((vF k a 0 (zA ((r.2.1.length:Int)-1))).bind fun x0=>some x0).bind fun x0=>
  bif !x0 then some (1,dk r s who [])
  else(vF k p 0 1048576).bind fun x1=>
  bif !x1 then some (1,dk r s who [])
  else(qd k s.pr a p).bind fun x2=>
  (gk k s.B.1 s.B.2.1 s.B.2.2.1 s.B.2.2.2).bind fun x3=>
  (uS k k s.ho (s.ho.length:Int) 0 (eZ r s who) x2 x3.1 x3.2.1 x3.2.2.1 x3.2.2.2).bind fun z=>
  match z with
  |.inl z1=>some (0,(jK z1.1 (BN z1 (z1.2.1,(WQ z1.1 [])))))
  |.inr z2=>some (jH z2 []):=rfl
 rw[eD,w1,nc,nc,Jn (by omega) h.bk.toSized];simp only[ae];unfold iN;cases hc:decide (a≥0)&&decide (a≤(r.2.1.length:Int)-1) with
 |false=>exact⟨_,rfl,fun e=>by cases e⟩
 |true=>
 simp only[bb,aX] at hc;cases hm:decide (p≥0)&&decide (p≤1048576) with
 |false=>exact⟨_,rfl,fun e=>by cases e⟩
 |true=>
 simp only[bb,aX] at hm;obtain⟨i,rfl⟩:=Int.eq_ofNat_of_zero_le hc.1;have hi:i<r.2.1.length:=by omega
 have L0:=h.laid 0 (by omega);have mg:qd k s.pr (i:Int) p=some (s.pr.set i p):=by
  have:=vBs (k:=k) (l:=s.pr) (by rw[L0.pl];omega) (i:=(i:Int)) (by omega) (by rw[L0.pl];omega) p;rw[au] at this;exact this
 simp only[aB,an,mg,ae,au];unfold BM;rcases vHj (r:=r) (s:=s) hk who (pr:=s.pr.set i p) (fun j hj=>(h.laid j hj).setP hi ⟨by omega,by omega⟩) h.hol gL with⟨g1,g2⟩|⟨g1,g2⟩
 ·rw[g2,g1];exact⟨_,rfl,fun _=>rfl⟩
 ·rw[g2,g1];exact⟨_,rfl,fun e=>by cases e⟩
theorem KP {q p}:jF q p=true↔q.2.1<p.2.1∨(q.2.1=p.2.1∧q.2.2.2.2.1≤p.2.2.2.2.1):=by
 unfold jF;simp
theorem WR {q p}:j8 q p=true↔q.2.1<p.2.1∨(q.2.1=p.2.1∧q.2.2.2.2.1<p.2.2.2.2.1):=by
 unfold j8;simp
theorem vMp {a b c}(h:jF a b=true)(g:jF b c=true):jF a c=true:=by
 rw[KP] at*;omega
theorem vZ5 {a b}(h:¬jF a b=true):jF b a=true:=by
 rw[KP] at*;omega
theorem vEj {a b}(h:j8 a b=true):jF a b=true:=by
 rw[WR] at h;rw[KP];omega
theorem vYj {a b}(h:¬j8 a b=true):jF b a=true:=by
 rw[WR] at h;rw[KP];omega
theorem yMf f l (p:zH):List.Perm (l.takeWhile f++(p::l.dropWhile f)) (p::l):=by
 have:=List.perm_middle (a:=p) (l₁:=l.takeWhile f) (l₂:=l.dropWhile f);simp_all
theorem yQi {l:List zH}(hs:ph l)(p:zH)(f:zH→Bool)(h1:∀q,f q=true→jF q p=true)(h2:∀q,¬f q=true→jF p q=true):ph (l.takeWhile f++(p::l.dropWhile f)):=by
 have oK:=hs;unfold ph at hs oK⊢;rw[←List.takeWhile_append_dropWhile (p:=f) (l:=l)] at hs;obtain⟨a1,a2,a3⟩:=List.pairwise_append.1 hs;have WS:∀q∈l.takeWhile f,f q=true:=fun q hq=>List.all_eq_true.1 (List.all_takeWhile (p:=f) (l:=l)) q hq
 have WT:∀q∈l.dropWhile f,jF p q=true:=by
  cases hd:l.dropWhile f with
  |nil=>intro q hq;cases hq
  |cons x m=>
   have hx:¬f x=true:=by
    have bn:l.dropWhile f≠[]:=by rw[hd];simp
    have:=List.head_dropWhile_not f bn;have e:(l.dropWhile f).head bn=x:=by simp only[hd,List.head_cons]
    rw[e] at this;simp[this]
   intro q hq;rcases List.mem_cons.1 hq with rfl|hq
   ·exact h2 _ hx
   ·rw[hd] at a2;exact vMp (h2 x hx) ((List.pairwise_cons.1 a2).1 q hq)
 refine List.pairwise_append.2 ⟨a1,List.pairwise_cons.2 ⟨WT,a2⟩,fun a ha b hb=>?_⟩;rcases List.mem_cons.1 hb with rfl|hb
 ·exact h1 a (WS a ha)
 ·exact a3 a ha b hb
theorem WU {l}(hs:ph l) p:ph (oX l p):=yQi hs p _ (by simp) (fun _ h=>vZ5 h)
theorem vP7 {l}(hs:ph l) p:ph (JY l p):=yQi hs p _ (fun _ h=>vEj h) (fun _ h=>vYj h)
theorem WV l p:List.Perm (oX l p) (p::l):=yMf _ l p
theorem vIx l p:List.Perm (JY l p) (p::l):=yMf _ l p
theorem ph.cut {l}(h:ph l) x:ph (yG l x):=List.Pairwise.sublist (uB l x) h
theorem vJd {l:AC}(ha:uC l){id:Int}(hn:id∉l):uC (qb l id):=by
 unfold qb;have rN:=ha;unfold uC at ha rN⊢;rw[←List.takeWhile_append_dropWhile (p:=fun x=>decide (x<id)) (l:=l)] at ha;obtain⟨a1,a2,a3⟩:=List.pairwise_append.1 ha;have WS:∀q∈l.takeWhile (fun x=>decide (x<id)),q<id:=fun q hq=>by simpa using List.all_eq_true.1 (List.all_takeWhile (p:=fun x=>decide (x<id)) (l:=l)) q hq
 have WT:∀q∈l.dropWhile (fun x=>decide (x<id)),id<q:=by
  cases hd:l.dropWhile (fun x=>decide (x<id)) with
  |nil=>intro q hq;cases hq
  |cons x m=>
   have Az:x∈l:=(List.dropWhile_sublist _).subset (by rw[hd];exact List.mem_cons_self ..);have hx:¬x<id:=by
    have bn:l.dropWhile (fun x=>decide (x<id))≠[]:=by rw[hd];simp
    have:=List.head_dropWhile_not (fun x=>decide (x<id)) bn;have e:(l.dropWhile (fun x=>decide (x<id))).head bn=x:=by simp only[hd,List.head_cons]
    rw[e] at this
    simpa using this
   have bn:x≠id:=fun e=>hn (e▸Az)
   intro q hq;rcases List.mem_cons.1 hq with rfl|hq
   ·omega
   ·rw[hd] at a2;have:=(List.pairwise_cons.1 a2).1 q hq;omega
 refine List.pairwise_append.2 ⟨a1,List.pairwise_cons.2 ⟨WT,a2⟩,fun a ha b hb=>?_⟩;rcases List.mem_cons.1 hb with rfl|hb
 ·exact WS a ha
 ·exact a3 a ha b hb
theorem WW l id:List.Perm (qb l id) (id::l):=by
 have:=List.perm_middle (a:=id) (l₁:=l.takeWhile (fun x=>decide (x<id))) (l₂:=l.dropWhile (fun x=>decide (x<id)))
 rwa [List.takeWhile_append_dropWhile] at this
theorem ka.sub {n m m' ids}(h:ka n m ids)(hs:List.Sublist m' m):ka n m' ids:=
 ⟨List.Pairwise.sublist hs h.dist,by have:=hs.length_le;have:=h.len;omega,List.Pairwise.sublist hs h.sort,fun p hp=>h.may p (by grind),fun p hp=>h.time p (by grind),fun p hp=>h.were p (by grind),h.asc,h.pos,h.idl⟩
theorem ka.turn {n:Nat}{m:List zH}{ids:AC}(h:ka n m ids){x:Nat}(hx:x<m.length){p:zH}{m':List zH}(hp:List.Perm m' (p::yG m x))(hs:ph m')(h1:p.1=(m.getD x pd).1)
  (h2:yJ n p) (h3:0≤p.2.2.2.2.2.1∧p.2.2.2.2.2.1≤p.2.2.2.2.2.2∧p.2.2.2.2.2.2≤1048576):ka n m' ids:=by
 have hc:=uB m x;have hl:=nT hx;have hd:qL (p::yG m x):=by
  refine List.pairwise_cons.2 ⟨fun q hq=>?_,h.dist.cut x⟩;rw[h1];have hd:=h.dist;unfold qL at hd;rw[Oq m x pd hx] at hd;have J1:=List.pairwise_append.1 hd;have VI:=List.pairwise_cons.1 J1.2.1;unfold yG at hq;rcases List.mem_append.1 hq with hq|hq
  ·exact fun e=>J1.2.2 _ hq _ (List.mem_cons_self ..) e.symm
  ·exact VI.1 _ hq
 have hlen:=hp.length_eq;rw[List.length_cons] at hlen;refine⟨hd.perm hp,by have:=h.len;omega,hs,fun q hq=>?_,fun q hq=>?_,fun q hq=>?_,h.asc,h.pos,h.idl⟩;all_goals rcases List.mem_cons.1 (hp.subset hq) with rfl|oY
 ·exact h2
 ·exact h.may q (hc.subset oY)
 ·exact h3
 ·exact h.time q (hc.subset oY)
 ·rw[h1];exact h.were _ (gh hx)
 ·exact h.were q (hc.subset oY)
theorem yL2 {r:qF}{s:zT}(hr:vT r)(h:qW r s){who:Int}{f:wM}(h0:(iK r s who f).1=0):ka s.B.1.length (iK r s who f).2.1 (iK r s who f).2.2:=by
 have hw:=h.waits;have hn:=h.n;have ht:=h.tk;unfold iK at h0⊢;cases hc:decide (f.2.2.1≥0)&&decide (f.2.2.1≤r.1-1) with
 |false=>rw[hc] at h0;cases h0
 |true=>
 cases cN:decide (f.2.2.2.2.1≥1)&&decide (f.2.2.2.2.1≤3) with
 |false=>rw[hc,cN] at h0;cases h0
 |true=>
 cases dH:decide (nf r s.t (fI who f)=0) with
 |false=>rw[hc,cN,dH] at h0;exact absurd h0 (gF dH)
 |true=>
 cases gE:decide (f.2.1∈s.ids) with
 |true=>rw[hc,cN,dH,gE] at h0;cases h0
 |false=>
 cases mP:decide (200≤s.ids.length) with
 |true=>rw[hc,cN,dH,gE,mP] at h0;cases h0
 |false=>
 cases DB:(vV s.m f.2.1).isSome with
 |true=>rw[hc,cN,dH,gE,mP,DB] at h0;cases h0
 |false=>
 cases DC:decide (40≤s.m.length) with
 |true=>rw[hc,cN,dH,gE,mP,DB,DC] at h0;cases h0
 |false=>
 show ka s.B.1.length (oX s.m (fI who f)) (qb s.ids f.2.1);have MN:f.2.1∉s.ids:=gF gE;have hi:=gF mP;have hm:=gF DC;have BO:=IZ dH;have WX:kS r.1 s.t (fI who f)=true:=by
  unfold nf at BO;cases hb:kS r.1 s.t (fI who f) with
  |true=>rfl
  |false=>rw[hb] at BO;cases BO
 unfold kS at WX;simp only[bb,aX,Bool.not_eq_true',decide_eq_false_iff_not] at WX;obtain⟨⟨p1,p2⟩,⟨p3,p4⟩,p5,p6,p7,p8,p9,ui,p11,p12,p13,p14⟩:=WX;have ya:=WV s.m (fI who f);have Pz:=WW s.ids f.2.1;have hlen:=ya.length_eq;have pR:=Pz.length_eq;rw[List.length_cons] at hlen pR;have bQ:yJ s.B.1.length (fI who f):=⟨p1,by omega,p3,by omega,p9,p6,p7,p8,ui⟩;have fj:∀x,x∈s.ids→x∈qb s.ids f.2.1:=fun x hx=>Pz.symm.subset (List.mem_cons_of_mem _ hx)
 have KQ:qL (fI who f::s.m):=List.pairwise_cons.2 ⟨fun q hq e=>MN (by have:=hw.were q hq;rw[←e] at this;exact this),hw.dist⟩;refine⟨KQ.perm ya,by omega,WU hw.sort _,fun q hq=>?_,fun q hq=>?_,fun q hq=>?_,vJd hw.asc MN,fun x hx=>?_,by omega⟩
 ·rcases List.mem_cons.1 (ya.subset hq) with rfl|oY
  ·exact bQ
  ·exact hw.may q oY
 ·rcases List.mem_cons.1 (ya.subset hq) with rfl|oY
  ·exact⟨p11,p12,p14⟩
  ·exact hw.time q oY
 ·rcases List.mem_cons.1 (ya.subset hq) with rfl|oY
  ·exact Pz.symm.subset (List.mem_cons_self ..)
  ·exact fj _ (hw.were q oY)
 ·rcases List.mem_cons.1 (Pz.subset hx) with rfl|nE
  ·exact p5
  ·exact hw.pos x nE
theorem yXy {r s}(h:qW r s){who f}(h0:(kT r s who f).1=0):ka s.B.1.length (kT r s who f).2.1 s.ids:=by
 have hw:=h.waits;unfold kT at h0⊢;cases hx:vV s.m f.2.1 with
 |none=>omega
 |some x=>
 rw[hx] at h0;have dp:=(kO hx).1;have bD:s.m.getD x pd∈s.m:=by grind
 have hm:=hw.may _ bD;have ht:=hw.time _ bD;simp only at h0⊢;cases hc:decide ((s.m.getD x pd).2.1=who) with
 |false=>simp_all
 |true=>
 cases cN:decide (f.1=2) with
 |true=>exact hw.sub (uB _ _)
 |false=>
 cases dH:decide (f.1=4) with
 |true=>
  cases gE:decide (f.2.2.1≥1)&&decide (f.2.2.1≤3) with
  |false=>simp_all
  |true=>
  cases mP:decide (qi r.2.2.1 r.2.2.2.1 s.t f.2.2.1=0) with
  |false=>simp_all
  |true=>
  simp  at gE;obtain⟨m1,m2,m3,m4,m5,m6,m7,m8,m9⟩:=hm;exact hw.turn dp (WV _ _) (WU (hw.sort.cut x) _) rfl ⟨m1,m2,m3,m4,m5,m6,m7,gE.1,gE.2⟩ ht
 |false=>
  cases gE:decide (f.2.2.1=0) with
  |true=>exact hw.turn dp (vIx _ _) (vP7 (hw.sort.cut x) _) rfl hm ht
  |false=>
   cases mP:decide (f.2.2.1=1) with
   |true=>exact hw.turn dp (WV _ _) (WU (hw.sort.cut x) _) rfl hm ht
   |false=>simp_all
theorem yFm {n}(h:-1≤n∧n≤1152921504606846976):wO n=true:=by
 unfold wO;grind
theorem pj {a}:eM a=true↔(-4611686018427387904<a.1∧a.1<4611686018427387904)∧(0≤a.2.1∧a.2.1≤2305843009213693952)∧(0≤a.2.2∧a.2.2≤2305843009213693952):=by
 unfold eM;grind
theorem wS.setBil {a}{b:jE}{m}{p:jE}(h:wS a b m p){w i}(hw:w<a.length)(hi:i<a.length){n}(hn:-1≤n∧n≤1152921504606846976):wS a (b.set w ((b.getD w []).set i n)) m p:=
  { h with
    bl:=by rw[List.length_set];exact h.bl
    br:=fun j hj=>by
      rw[fm];split
      · rw[List.length_set];exact h.br w hw
      · exact h.br j hj
    bil:=fun j hj k hk=>by
      unfold cell;rw[fm];split
      · rw[fm];split
        · exact yFm hn
        · exact h.bil w hw k hk
      · exact h.bil j hj k hk}
theorem wS.setMul {a}{b:jE}{m}{p:jE}(h:wS a b m p) w {n}(hn:-1≤n∧n≤1152921504606846976):wS a b (m.set w n) p:=
  { h with
    ml:=by rw[List.length_set];exact h.ml
    mul:=fun j hj=>by
      rw[fm];split
      · exact yFm hn
      · exact h.mul j hj}
theorem wS.setAcct {a}{b:jE}{m}{p:jE}(h:wS a b m p){a'}(hl:a'.length=a.length)(ha:∀i,i<a.length→eM (a'.getD i ad)=true):wS a' b m p where
 n1:=by rw[hl];exact h.n1
 n6:=by rw[hl];exact h.n6
 bl:=by rw[hl];exact h.bl
 br:=by rw[hl];exact h.br
 ml:=by rw[hl];exact h.ml
 pl:=by rw[hl];exact h.pl
 pr:=by rw[hl];exact h.pr
 mul:=by rw[hl];exact h.mul
 bil:=by rw[hl];exact h.bil
 acct:=by simp_all
 net:=by rw[hl];exact h.net
 turn:=by rw[hl];exact h.turn
theorem vIl {n g i}(hi:i<n) d:qH (fun j=>if j=i then g j+d else g j) n=qH g n+d:=by
 have e:qH (fun j=>if j=i then g j+d else g j) n=qH (fun j=>g j+(if j=i then d else 0)) n:=by grind
 rw[e,DJ,A3,if_pos hi]
theorem qW.books {r s}(h:qW r s){B}(hb:qO B)(hl:B.1.length=s.B.1.length)(Bg:∀i,i<s.B.1.length→(B.1.getD i ad).1=(s.B.1.getD i ad).1)(hc:∀i,i<s.B.1.length→(B.1.getD i ad).2.1=(s.B.1.getD i ad).2.1):qW r {s with B:=B} where
 tk:=h.tk
 bk:=hb
 n:=by rw[hl];exact h.n
 hol:=by rw[hl];exact h.hol
 laid:=by rw[hl];exact h.laid
 cred:=by rw[hl];intro i hi;rw[hc i hi];exact h.cred i hi
 most:=by rw[hl];intro i hi;rw[hc i hi];exact h.most i hi
 waits:=by rw[hl];exact h.waits
 sum:=by rw[hl,sD Bg];exact h.sum
 tot:=h.tot
 over:=h.over
 none:=h.none
theorem qW.queue {r s}(h:qW r s)(ho:s.ov=false){m ids}(hw:ka s.B.1.length m ids):qW r {s with m:=m,ids:=ids} where
 tk:=h.tk
 bk:=h.bk
 n:=h.n
 hol:=h.hol
 laid:=h.laid
 cred:=h.cred
 most:=h.most
 waits:=hw
 sum:=h.sum
 tot:=h.tot
 over:=h.over
 none:=by grind
theorem yTl {r:qF}{s:zT}(h:qW r s){who:Int}(hw:0≤who∧who<r.1){f:wM}(h0:(iL r s who f).1=0):qW r (iL r s who f).2:=by
 have hn:=h.n;have hb:wS s.B.1 s.B.2.1 s.B.2.2.1 s.B.2.2.2:=h.bk;obtain⟨w,rfl⟩:=Int.eq_ofNat_of_zero_le hw.1;have gl:w<s.B.1.length:=by omega
 unfold iL at h0⊢;cases hc:decide (f.1=5) with
 |true=>
  rw[hc] at h0;simp only[ak] at h0⊢;cases cN:decide (f.2.1≥0)&&decide (f.2.1≤r.1-1) with
  |false=>rw[cN] at h0;cases h0
  |true=>
  cases dH:decide (f.2.1=(w:Int)) with
  |true=>rw[cN,dH] at h0;cases h0
  |false=>
  cases gE:decide (f.2.2.1≥-1)&&decide (f.2.2.1≤1152921504606846976) with
  |false=>rw[cN,dH,gE] at h0;cases h0
  |true=>
  simp only[bb,aX] at cN gE;exact h.books (B:=(s.B.1,s.B.2.1.set w ((s.B.2.1.getD w []).set f.2.1.toNat f.2.2.1),s.B.2.2.1,s.B.2.2.2)) (hb.setBil gl (by omega) (by grind)) rfl (by simp) (by simp)
 |false=>
  rw[hc] at h0;simp only[an] at h0⊢;cases cN:decide (f.1=6) with
  |true=>
   rw[cN] at h0;simp only[ak] at h0⊢;cases dH:decide (f.2.1≥-1)&&decide (f.2.1≤1152921504606846976) with
   |false=>rw[dH] at h0;cases h0
   |true=>
   simp only[bb,aX] at dH;exact h.books (B:=(s.B.1,s.B.2.1,s.B.2.2.1.set w f.2.1,s.B.2.2.2)) (hb.setMul w (by grind)) rfl (fun _ _=>rfl) (by simp)
  |false=>
   rw[cN] at h0;simp only[an] at h0⊢;cases dH:decide (f.2.1≥0)&&decide (f.2.1≤1152921504606846976) with
   |false=>rw[dH] at h0;cases h0
   |true=>
   have hg:∀i,(s.B.1.set w ((s.B.1.getD w ad).1,(s.B.1.getD w ad).2.1,f.2.1)).getD i ad=if i=w then((s.B.1.getD w ad).1,(s.B.1.getD w ad).2.1,f.2.1) else s.B.1.getD i ad:=by grind
   refine h.books (B:=(s.B.1.set w ((s.B.1.getD w ad).1,(s.B.1.getD w ad).2.1,f.2.1),s.B.2.1,s.B.2.2.1,s.B.2.2.2)) (hb.setAcct (by rw[List.length_set]) fun i hi=>?_) (by simp) (fun i hi=>?_) (fun i hi=>?_)
   ·rw[hg];split
    ·have:=pj.1 (hb.acct w gl);rw[pj];grind
    ·exact hb.acct i hi
   all_goals grind
theorem yNn {r}(hr:vT r){s}(h:qW r s){who}(hw:0≤who∧who<r.1){a many}(h0:(iM r s who a many).1=0):qW r (iM r s who a many).2:=by
  have hn:=h.n;have hb:wS s.B.1 s.B.2.1 s.B.2.2.1 s.B.2.2.2:=h.bk;obtain⟨w,rfl⟩:=Int.eq_ofNat_of_zero_le hw.1;have gl:w<s.B.1.length:=by omega
  have hol:=h.hol;unfold iM at h0⊢;simp only[au] at h0⊢;cases hc:decide (a≥0)&&decide (a≤(r.2.1.length:Int)-1) with
  |false=>simp_all
  |true=>
  cases cN:decide (many≥0)&&decide (many≤1099511627776) with
  |false=>simp_all
  |true=>
  rw[hc,cN] at h0;simp only[aB,an] at h0⊢;simp  at hc cN;have L2:=(h.laid w gl).set (i:=a.toNat) (by omega) (v:=many) (by grind);have Au:=Fs L2;obtain⟨n,bn⟩:∃n,n=mc r.2.1 s.pr ((s.ho.getD w []).set a.toNat many):=by simp
  rw[←bn] at h0 Au⊢;unfold BF at h0⊢;cases dH:decide (n>1152921504606846976) with
  |true=>simp_all
  |false=>
  cases gE:decide (n<(s.B.1.getD w ad).2.1)&&decide ((s.B.1.getD w ad).1+n<0) with
  |true=>simp_all
  |false=>
  have dH:=gF dH;have hg:∀i,(s.B.1.set w ((s.B.1.getD w ad).1,n,(s.B.1.getD w ad).2.2)).getD i ad=if i=w then((s.B.1.getD w ad).1,n,(s.B.1.getD w ad).2.2) else s.B.1.getD i ad:=by grind
  have hgh:∀i,(s.ho.set w ((s.ho.getD w []).set a.toNat many)).getD i []=if i=w then(s.ho.getD w []).set a.toNat many else s.ho.getD i []:=by grind
  simp only[an];have gm:(s.B.1.set w ((s.B.1.getD w ad).1,n,(s.B.1.getD w ad).2.2)).length=s.B.1.length:=by simp
  exact{
    tk:=h.tk
    bk:=hb.setAcct gm fun i hi=>by
      rw[hg];split
      · have:=pj.1 (hb.acct w gl);rw[pj];grind
      · exact hb.acct i hi
    n:=by simp_all
    hol:=by simp_all
    laid:=by
      rw[gm];intro i hi;rw[hgh];split
      · exact L2
      · exact h.laid i hi
    cred:=by
      rw[gm];intro i hi;rw[hg,hgh];split
      · exact bn
      · exact h.cred i hi
    most:=by
      rw[gm];intro i hi;rw[hg];split
      · show n≤_;omega
      · exact h.most i hi
    waits:=by rw[gm];exact h.waits
    sum:=by
      rw[gm,sD (h:=fun i=>(s.B.1.getD i ad).1) (by grind)];exact h.sum
    tot:=h.tot
    over:=h.over
    none:=h.none}
theorem yRa {r s}(h:qW r s){i}(hi:i<s.B.1.length){n}(hz:(wT (s.B.1.getD i ad) n).2=0)(ht:0≤s.to+n∧s.to+n≤1152921504606846976):
    qW r (Pw s i (wT (s.B.1.getD i ad) n).1 (s.to+n)):=by
  have hb:wS s.B.1 s.B.2.1 s.B.2.2.1 s.B.2.2.2:=h.bk;unfold wT at hz⊢;cases hc:eM ((s.B.1.getD i ad).1+n,(s.B.1.getD i ad).2.1,(s.B.1.getD i ad).2.2) with
  |false=>simp_all
  |true=>
  simp only[ak];have hg:∀j,(s.B.1.set i ((s.B.1.getD i ad).1+n,(s.B.1.getD i ad).2.1,(s.B.1.getD i ad).2.2)).getD j ad=if j=i then((s.B.1.getD i ad).1+n,(s.B.1.getD i ad).2.1,(s.B.1.getD i ad).2.2) else s.B.1.getD j ad:=by grind
  have gm:(s.B.1.set i ((s.B.1.getD i ad).1+n,(s.B.1.getD i ad).2.1,(s.B.1.getD i ad).2.2)).length=s.B.1.length:=by simp
  unfold Pw;exact{
    tk:=h.tk
    bk:=hb.setAcct gm fun j hj=>by
      rw[hg];split
      · exact hc
      · exact hb.acct j hj
    n:=by rw[gm];exact h.n
    hol:=by rw[gm];exact h.hol
    laid:=by rw[gm];exact h.laid
    cred:=by
      rw[gm];intro j hj;rw[hg];split
      · rename_i e;rw[e];exact h.cred i hi
      · exact h.cred j hj
    most:=by
      rw[gm];intro j hj;rw[hg];split
      · exact h.most i hi
      · exact h.most j hj
    waits:=by rw[gm];exact h.waits
    sum:=by
      rw[gm,sD (h:=fun j=>if j=i then(s.B.1.getD j ad).1+n else(s.B.1.getD j ad).1) (by grind),vIl hi,h.sum]
    tot:=ht
    over:=h.over
    none:=h.none}
theorem yO9 {r s}(h:qW r s){kd to n}(h0:(il r s kd to n).1=0):qW r (il r s kd to n).2∧(il r s kd to n).2.to=s.to+(if kd=11 then-n else n)∧(il r s kd to n).2.m=s.m∧(il r s kd to n).2.ids=s.ids∧(il r s kd to n).2.t=s.t:=by
 have hn:=h.n;have ht:=h.tot;unfold il at h0⊢;cases hc:decide (to≥0)&&decide (to≤r.1-1) with
 |false=>rw[hc] at h0;cases h0
 |true=>
 cases cN:decide (n≥1)&&decide (n≤1099511627776) with
 |false=>simp_all
 |true=>
 rw[hc,cN] at h0;simp  at hc cN;have hi:to.toNat<s.B.1.length:=by omega
 by_cases hk:kd=11
 ·rw[aa hk] at h0⊢;rw[if_pos hk];unfold Gm at h0⊢;cases dH:decide ((s.B.1.getD to.toNat ad).1+(s.B.1.getD to.toNat ad).2.1-(s.B.1.getD to.toNat ad).2.2<n) with
  |true=>rw[dH] at h0;cases h0
  |false=>
  cases gE:decide (s.to-n<0) with
  |true=>simp_all
  |false=>
  cases hz:decide ((wT (s.B.1.getD to.toNat ad) (-n)).2=0) with
  |false=>grind
  |true=>
  cases mP:decide (s.to-n>1152921504606846976) with
  |true=>grind
  |false=>
  have gE:=gF gE;have:=yRa h hi (n:= -n) (by grind) (by omega);exact⟨this,rfl,rfl,rfl,rfl⟩
 ·rw[ab hk] at h0⊢;rw[if_neg hk];unfold Gn at h0⊢;cases hz:decide ((wT (s.B.1.getD to.toNat ad) n).2=0) with
  |false=>simp_all
  |true=>
  cases mP:decide (s.to+n>1152921504606846976) with
  |true=>simp_all
  |false=>
  have mP:=gF mP;exact⟨yRa h hi (by grind) (by omega),rfl,rfl,rfl,rfl⟩
theorem yIk {r s}(h:qW r s){a p}(h0:(iN r s a p).1=0):qW r (iN r s a p).2:=by
  have hb:wS s.B.1 s.B.2.1 s.B.2.2.1 s.B.2.2.2:=h.bk;unfold iN at h0⊢;cases hc:decide (a≥0)&&decide (a≤(r.2.1.length:Int)-1) with
  |false=>simp_all
  |true=>
  cases cN:decide (p≥0)&&decide (p≤1048576) with
  |false=>simp_all
  |true=>
  simp  at hc cN;have hL:∀i,i<s.B.1.length→kP r.2.1 (s.pr.set a.toNat p) (s.ho.getD i []):=fun i hi=>(h.laid i hi).setP (by omega) (by grind)
  generalize s.pr.set a.toNat p=pr at*
  unfold BM at h0⊢;cases dH:qG (fun j=> !decide (fK r.2.1 pr s.ho j>1152921504606846976)) s.B.1.length 0 with
  |false=>simp_all
  |true=>
  simp;have hle:∀i,i<s.B.1.length→fK r.2.1 pr s.ho i≤1152921504606846976:=fun i hi=>by
    have:=gg.1 dH i hi;simp_all
  have gm:=WO r.2.1 pr s.ho s.B.1;have hg:=fun(j:Nat) (hj:j<s.B.1.length)=>Px r.2.1 pr s.ho s.B.1 hj
  exact{
    tk:=h.tk
    bk:=hb.setAcct gm fun i hi=>by
      rw[hg i hi];have:=pj.1 (hb.acct i hi);have h1:=Fs (hL i hi);rw[pj];exact⟨this.1,⟨h1,by grind⟩,this.2.2⟩
    n:=by rw[gm];exact h.n
    hol:=by rw[gm];exact h.hol
    laid:=by simp_all
    cred:=by
      rw[gm];intro i hi;rw[hg i hi];rfl
    most:=by
      simp_all
    waits:=by rw[gm];exact h.waits
    sum:=by
      rw[gm,sD (h:=fun i=>(s.B.1.getD i ad).1) (by grind)];exact h.sum
    tot:=h.tot
    over:=h.over
    none:=h.none}
abbrev MT:=Int×List oZ×Int×Int×Int×Int×List qY×jE×AC×jE×AC×jE×List zH×AC×Int×Bool×Int×Int
abbrev WY:=Int×List oZ×Int×Int×Int×Int×List qY×jE×AC×jE×AC×jE×List zH×AC×Int×Bool×Int×List qT×Int
def rk (r:qF)(s:zT)(who:Int):MT:=(r.1,r.2.1,r.2.2.1,r.2.2.2.1,r.2.2.2.2,s.t,s.B.1,s.B.2.1,s.B.2.2.1,s.B.2.2.2,s.pr,s.ho,s.m,s.ids,s.to,s.ov,who,0)
def qN (r:qF)(s:zT)(who:Int)(l:List qT)(paid:Int):WY:=(r.1,r.2.1,r.2.2.1,r.2.2.2.1,r.2.2.2.2,s.t,s.B.1,s.B.2.1,s.B.2.2.1,s.B.2.2.2,s.pr,s.ho,s.m,s.ids,s.to,s.ov,who,l,paid)
def Gt (pa n:Int):Int:=bif decide (n<0) then-1 else bif decide (n≥pa) then-1 else n
theorem WZ k r s who l p n:uT k (qN r s who l p) n=some (Gt r.1 n):=by
 unfold uT Gt;have e:(qN r s who l p).1=r.1:=rfl;grind
theorem W0 {pa n}(h:0≤n∧n<pa):Gt pa n=n:=by
 unfold Gt;grind
theorem W1 {pa n}(h:¬(0≤n∧n<pa)):Gt pa n= -1:=by
 unfold Gt;grind
theorem yH8 k (r:qF) t c:Gu k r t c=some (qi r.2.2.1 r.2.2.2.1 t c):=by
 unfold Gu qi;grind
theorem yYv k (r:qF) t (p:zH):BP k r t p=some (nf r t p):=by
 unfold BP nf;rw[yH8];simp only[ae];have no:¬(p.2.1≥0∧p.2.1<r.1∧p.2.2.1≥0∧p.2.2.1<r.1∧p.1≥1∧p.2.2.2.1≥1∧p.2.2.2.1≤1099511627776∧p.2.2.2.2.1≥1∧¬p.2.1=p.2.2.1∧p.2.2.2.2.1≤3∧p.2.2.2.2.2.1≥0∧p.2.2.2.2.2.1≤p.2.2.2.2.2.2∧p.2.2.2.2.2.2≥t∧p.2.2.2.2.2.2≤1048576)→kS r.1 t p=false:=by
  intro h;cases e:kS r.1 t p with
  |false=>rfl
  |true=>
   unfold kS at e;grind
 by_cases c1:p.1<1
 ·rw[aa c1,no (fun⟨_,_,_,_,h,_⟩=>by omega)];rfl
 by_cases c2:p.2.1<0
 ·rw[ab c1,aa c2,no (fun⟨h,_⟩=>by omega)];rfl
 by_cases c3:p.2.1≥r.1
 ·rw[ab c1,ab c2,aa c3,no (fun⟨_,h,_⟩=>by omega)];rfl
 by_cases c4:p.2.2.1<0
 ·rw[ab c1,ab c2,ab c3,aa c4,no (fun⟨_,_,h,_⟩=>by omega)];rfl
 by_cases c5:p.2.2.1≥r.1
 ·rw[ab c1,ab c2,ab c3,ab c4,aa c5,no (fun⟨_,_,_,h,_⟩=>by omega)];rfl
 rw[ab c1,ab c2,ab c3,ab c4,ab c5];simp only[an];by_cases c6:p.2.1=p.2.2.1
 ·rw[aa c6,no (fun⟨_,_,_,_,_,_,_,_,h,_⟩=>h c6)];rfl
 by_cases c7:p.2.2.2.1<1
 ·rw[ab c6,aa c7,no (fun⟨_,_,_,_,_,h,_⟩=>by omega)];rfl
 by_cases c8:p.2.2.2.1>1099511627776
 ·rw[ab c6,ab c7,aa c8,no (fun⟨_,_,_,_,_,_,h,_⟩=>by omega)];rfl
 by_cases c9:p.2.2.2.2.1<1
 ·rw[ab c6,ab c7,ab c8,aa c9,no (fun⟨_,_,_,_,_,_,_,h,_⟩=>by omega)];rfl
 by_cases Ov:p.2.2.2.2.1>3
 ·rw[ab c6,ab c7,ab c8,ab c9,aa Ov,no (by grind)];rfl
 rw[ab c6,ab c7,ab c8,ab c9,ab Ov];simp only[an];by_cases Bp:p.2.2.2.2.2.1<0
 ·rw[aa Bp,no (by grind)];rfl
 by_cases PA:p.2.2.2.2.2.1>p.2.2.2.2.2.2
 ·rw[ab Bp,aa PA,no (by grind)];rfl
 by_cases W2:p.2.2.2.2.2.2<t
 ·rw[ab Bp,ab PA,aa W2,no (by grind)];rfl
 by_cases c14:p.2.2.2.2.2.2>1048576
 ·rw[ab Bp,ab PA,ab W2,aa c14,no (by grind)];rfl
 rw[ab Bp,ab PA,ab W2,ab c14];have e:kS r.1 t p=true:=by
  unfold kS;simp_all
 rw[e];rfl
def BQ (k:Nat)(r:qF)(s:zT)(who:Int)(p:zH):Option (Int×WY):=
 (BP k r s.t p).bind fun x1=>
 bif !(decide (x1=0)) then some (x1,qN r s who [] 0)
 else(BK k s.ids p.1).bind fun x2=>
 bif !(decide (x2.2=0)) then some (x2.2,qN r s who [] 0)
 else(BJ k s.m p.1 p.2.1 p.2.2.1 p.2.2.2.1 p.2.2.2.2.1 p.2.2.2.2.2.1 p.2.2.2.2.2.2).bind fun x3=>
 bif !(decide (x3.2=0)) then some (x3.2,qN r s who [] 0)
 else some (0,qN r {s with m:=x3.1,ids:=x2.1} who [] p.1)
theorem vPz {k}(hk:1000≤k){r}(hr:vT r){s}(h:ka s.B.1.length s.m s.ids) who f:
  ∃d,PB k (rk r s who) f.2=some ((iK r s who f).1,d)∧((iK r s who f).1=0→d=qN r {s with m:=(iK r s who f).2.1,ids:=(iK r s who f).2.2} who [] f.2.1):=by
 have hp:=hr.pa;have hi:=h.idl;have hm:=h.len;have eD:PB k (rk r s who) f.2=(uT k (qN r s who [] 0) f.2.2.1).bind fun x0=>
  bif decide (f.2.2.2.2.1 ≥ 1) then (bif decide (f.2.2.2.2.1≤3) then BQ k r s who (f.2.1,who,x0,f.2.2.2)
   else BQ k r s who (f.2.1,who,x0,f.2.2.2.1,0,f.2.2.2.2.2))
  else BQ k r s who (f.2.1,who,x0,f.2.2.2.1,0,f.2.2.2.2.2):=rfl
 have bad:∀p:zH,kS r.1 s.t p=false→BQ k r s who p=some (1,qN r s who [] 0):=by
  intro p hp;unfold BQ;rw[yYv];unfold nf;rw[hp];rfl
 have abA:∀p:zH,¬(p.2.2.1≥0∧p.2.2.2.2.1≥1)→kS r.1 s.t p=false:=by
  intro p hn;cases e:kS r.1 s.t p with
  |false=>rfl
  |true=>
   unfold kS at e;simp  at e;obtain⟨_,⟨a3,_⟩,_,_,_,a8,_⟩:=e;exact absurd ⟨a3,a8⟩ hn
 rw[eD,WZ];simp only[ae];unfold iK;by_cases KR:0≤f.2.2.1∧f.2.2.1<r.1
 ·rw[W0 KR,aa (show f.2.2.1≥0 by omega),aa (show f.2.2.1≤r.1-1 by omega)];by_cases hc:f.2.2.2.2.1≥1∧f.2.2.2.2.1≤3
  ·rw[aa hc.1,aa hc.2];simp only[Bool.and_self,aB,an,ak];have ep:((f.2.1,who,f.2.2.1,f.2.2.2):zH)=fI who f:=rfl;rw[ep];unfold BQ;rw[yYv];simp only[ae];by_cases hz:nf r s.t (fI who f)=0
   ·rw[aa hz];have e1:(fI who f).1=f.2.1:=rfl;simp only[aB,an];rw[e1,WM (by omega) (by omega)];simp only[ae];by_cases h1:f.2.1∈s.ids
    ·rw[aa h1];exact⟨_,rfl,fun e=>by cases e⟩
    ·rw[ab h1];by_cases h2:200≤s.ids.length
     ·rw[aa h2];exact⟨_,rfl,fun e=>by cases e⟩
     ·rw[ab h2];have e3:=vMc (k:=k) (l:=s.m) (by omega) (by omega) (fI who f);rw[e1] at e3;simp only[an,decide_true,aB];rw[e3];simp only[ae];cases(vV s.m f.2.1).isSome with
      |true=>exact⟨_,rfl,fun e=>by cases e⟩
      |false=>
       by_cases h3:40≤s.m.length
       ·rw[aa h3];exact⟨_,rfl,fun e=>by cases e⟩
       ·rw[ab h3];exact⟨_,rfl,fun _=>rfl⟩
   ·rw[ab hz];exact⟨_,rfl,fun e=>absurd e hz⟩
  ·have e0:=bad (f.2.1,who,f.2.2.1,f.2.2.2.1,0,f.2.2.2.2.2) (by grind);rw[e0];have g:(!(decide (f.2.2.2.2.1≥1)&&decide (f.2.2.2.2.1≤3)))=true:=by
    by_cases a:f.2.2.2.2.1≥1
    ·rw[aa a,ab (fun b=>hc ⟨a,b⟩)];rfl
    ·rw[ab a];rfl
   rw[g];refine⟨qN r s who [] 0,?_,fun e=>by cases e⟩;by_cases a:f.2.2.2.2.1≥1
   ·rw[aa a,ab (fun b=>hc ⟨a,b⟩)];rfl
   ·rw[ab a];rfl
 ·have g:(!(decide (f.2.2.1≥0)&&decide (f.2.2.1≤r.1-1)))=true:=by
   by_cases a:f.2.2.1≥0
   ·rw[aa a,ab (show¬f.2.2.1≤r.1-1 by omega)];rfl
   ·rw[ab a];rfl
  have q:∀x:Int×Int×Int×Int,BQ k r s who (f.2.1,who,-1,x)=some (1,qN r s who [] 0):=by grind
  rw[g,W1 KR,q,q];refine⟨qN r s who [] 0,?_,fun e=>by cases e⟩;cases decide (f.2.2.2.2.1≥1)<;>cases decide (f.2.2.2.2.1≤3)<;>rfl
theorem vX2 {k}(hk:1000≤k){r s}(h:ka s.B.1.length s.m s.ids) who f (hf:f.1=2∨f.1=3∨f.1=4):
    ∃d,BR k (rk r s who) f.1 f.2=some ((kT r s who f).1,d)∧((kT r s who f).1=0→d=qN r {s with m:=(kT r s who f).2.1} who (kT r s who f).2.2 0):=by
  have hm:=h.len;have oJ:qQ s.m:=by unfold qQ;omega
  have eD : BR k (rk r s who) f.1 f.2 = ((mW k s.m f.2.1).bind fun x0=>
      bif decide (x0<0) then some (((0,0,0,0,0,0,0):zH),false)
      else bif zB x0 s.m.length then (bif !(decide ((s.m.getD x0.toNat (0,0,0,0,0,0,0)).2.1=who)) then some ((0,0,0,0,0,0,0),false)
        else bif zB x0 s.m.length then some ((s.m.getD x0.toNat (0,0,0,0,0,0,0)),true)
        else none)
      else none).bind fun x0=>
    bif !x0.2 then some (4,qN r s who [] 0)
    else bif decide (f.1 = 2) then ((nW k s.m f.2.1).bind fun x1=>
      (wU k 20 [f.2.1]).bind fun x2=>
      some (0,qN r {s with m:=x1.1} who [(who,x2)] 0))
    else bif decide (f.1 = 3) then (bif decide (f.2.2.1 = 0) then ((KK k s.m f.2.1).bind fun x3=>
       some (0,qN r {s with m:=x3.1} who [] 0))
      else bif decide (f.2.2.1 = 1) then ((KJ k s.m f.2.1).bind fun x4=>
       some (0,qN r {s with m:=x4.1} who [] 0))
      else some (1,qN r s who [] 0))
    else bif decide (f.2.2.1<1) then some (1,qN r s who [] 0)
    else bif decide (f.2.2.1>3) then some (1,qN r s who [] 0)
    else(Gu k r s.t f.2.2.1).bind fun x5=>
    bif !(decide (x5=0)) then some (x5,qN r s who [] 0)
    else(KI k s.m f.2.1 f.2.2.1).bind fun x6=>
    some (0,qN r {s with m:=x6.1} who [] 0):=rfl
  rw[eD,Ou (by omega) (by omega)];unfold kT j7;cases hx:vV s.m f.2.1 with
  |none=>exact by simp
  |some x=>
    have dp:=kO hx;have e1:decide ((x:Int)<0)=false:=ab (by omega);simp only[ae,e1,an,qC,aa dp.1,ak,au];by_cases hw:(s.m.getD x (0,0,0,0,0,0,0)).2.1=who
    · have oR:(s.m.getD x pd).2.1=who:=hw;rw[aa hw];simp only[aB,an,ae];by_cases h2:f.1=2
      · rw[aa h2];obtain⟨n,rfl⟩:∃n,k=n+5:=⟨k-5,by omega⟩;have eo:wU (n+5) 20 [f.2.1]=some (20,f.2.1,0,0,0,0,0):=by kernel_rfl
        simp only[ak,uR (show s.m.length<n+5 by omega) oJ,ae,eo];unfold ij;rw[hx];exact⟨_,rfl,fun _=>rfl⟩
      · rw[ab h2];simp only[an];by_cases h3:f.1=3
        · rw[aa h3,ab (show¬f.1=4 by omega)];simp only[ak,an];by_cases h0:f.2.2.1=0
          · rw[aa h0];simp only[ak,vIf (show s.m.length<k by omega) oJ hx,ae];exact⟨_,rfl,fun _=>rfl⟩
          · rw[ab h0];simp only[an];by_cases h1:f.2.2.1=1
            · rw[aa h1];simp only[ak,vV6 (show s.m.length<k by omega) oJ hx,ae];exact⟨_,rfl,fun _=>rfl⟩
            · rw[ab h1];exact by simp
        · rw[ab h3,aa (show f.1=4 by omega)];simp only[an,ak,yH8,ae,vG4 (show s.m.length<k by omega) oJ hx];by_cases c1:f.2.2.1<1
          · rw[aa c1,ab (show¬f.2.2.1≥1 by omega)];exact⟨_,rfl,fun e=>by cases e⟩
          · rw[ab c1,aa (show f.2.2.1≥1 by omega)];by_cases c2:f.2.2.1>3
            · rw[aa c2,ab (show¬f.2.2.1≤3 by omega)];exact⟨_,rfl,fun e=>by cases e⟩
            · rw[ab c2,aa (show f.2.2.1≤3 by omega)];simp only[Bool.and_self,aB,an];by_cases hc:qi r.2.2.1 r.2.2.2.1 s.t f.2.2.1=0
              · rw[aa hc];exact⟨_,rfl,fun _=>rfl⟩
              · rw[ab hc];exact by simp
    · rw[ab hw];exact⟨_,rfl,fun e=>by cases e⟩
theorem vQc {k}(hk:1000≤k){r}(hr:vT r){s}(hb:qO s.B)(hn:(s.B.1.length:Int)=r.1){who}(hw:0≤who∧who<r.1) f:
    ∃d,BS k (rk r s who) f.1 f.2=some ((iL r s who f).1,d)∧((iL r s who f).1=0→d=qN r (iL r s who f).2 who [] 0):=by
  obtain⟨w,rfl⟩:=Int.eq_ofNat_of_zero_le hw.1;have gl:w<s.B.1.length:=by omega
  have eD:BS k (rk r s w) f.1 f.2=(oW k s.B.1 s.B.2.1 s.B.2.2.1 s.B.2.2.2).bind fun x0=>
    bif decide (f.1 = 5) then ((uT k (qN r s w [] 0) f.2.1).bind fun x1=>
      bif decide (x1<0) then some (1,qN r s w [] 0)
      else bif decide (x1=(w:Int)) then some (1,qN r s w [] 0)
      else bif decide (f.2.2.1<(-1)) then some (1,qN r s w [] 0)
      else bif decide (f.2.2.1>1152921504606846976) then some (1,qN r s w [] 0)
      else bif zB (w : Int) x0.2.1.length then (bif zB x1 (x0.2.1.getD (w:Int).toNat []).length then
        some (0,qN r {s with B:=(x0.1,(x0.2.1.set (w:Int).toNat ((x0.2.1.getD (w:Int).toNat []).set x1.toNat f.2.2.1)),x0.2.2.1,x0.2.2.2)} w [] 0)
       else none)
      else none)
    else bif decide (f.1 = 6) then (bif decide (f.2.1<(-1)) then some (1,qN r s w [] 0)
      else bif decide (f.2.1>1152921504606846976) then some (1,qN r s w [] 0)
      else bif zB (w:Int) x0.2.2.1.length then some (0,qN r {s with B:=(x0.1,x0.2.1,(x0.2.2.1.set (w:Int).toNat f.2.1),x0.2.2.2)} w [] 0)
      else none)
    else bif decide (f.2.1<0) then some (1,qN r s w [] 0)
    else bif decide (f.2.1>1152921504606846976) then some (1,qN r s w [] 0)
    else bif zB (w:Int) x0.1.length then some (0,qN r {s with B:=((x0.1.set (w:Int).toNat ((x0.1.getD (w:Int).toNat (0,0,0)).1,(x0.1.getD (w:Int).toNat (0,0,0)).2.1,f.2.1)),x0.2.1,x0.2.2.1,x0.2.2.2)} w [] 0)
    else none:=rfl
  rw[eD,Jm (by omega) hb.toSized,WZ];simp only[ae,qC,au];have two:∀a b:Int,∀x:Int,decide (x<a)= !decide (x≥a)∧decide (x>b)= !decide (x≤b):=by
    intro a b x;constructor
    · by_cases h:x<a
      · rw[aa h,ab (show¬x≥a by omega)];rfl
      · rw[ab h,aa (show x≥a by omega)];rfl
    · by_cases h:x>b
      · rw[aa h,ab (show¬x≤b by omega)];rfl
      · rw[ab h,aa (show x≤b by omega)];rfl
  unfold iL;rw[au,(two (-1) 1152921504606846976 f.2.2.1).1,(two (-1) 1152921504606846976 f.2.2.1).2,(two (-1) 1152921504606846976 f.2.1).1,(two (-1) 1152921504606846976 f.2.1).2,(two 0 0 f.2.1).1];by_cases h5:f.1=5
  · rw[aa h5];simp only[ak];by_cases hc:0≤f.2.1∧f.2.1<r.1
    · rw[W0 hc,aa (show f.2.1≥0 by omega),aa (show f.2.1≤r.1-1 by omega),ab (show¬f.2.1<0 by omega)];have b1:decide (w<s.B.2.1.length)=true:=aa (by rw[hb.bl];exact gl);have b2:zB f.2.1 (s.B.2.1.getD w []).length=true:=jS hc.1 (by rw[hb.br w gl];omega);rw[b1,b2];cases decide (f.2.1=(w:Int)) with
      |true=>exact⟨_,rfl,fun e=>by cases e⟩
      |false=>
        cases decide (f.2.2.1≥-1) with
        |false=>exact⟨_,rfl,fun e=>by cases e⟩
        |true=>
          cases decide (f.2.2.1≤1152921504606846976) with
          |false=>exact⟨_,rfl,fun e=>by cases e⟩
          |true=>exact⟨_,rfl,fun _=>rfl⟩
    · rw[W1 hc];have g:(decide (f.2.1≥0)&&decide (f.2.1≤r.1-1))=false:=by
        by_cases a:f.2.1≥0
        · rw[aa a,ab (show¬f.2.1≤r.1-1 by omega)];rfl
        · rw[ab a];rfl
      rw[g];exact⟨_,rfl,fun e=>by cases e⟩
  · rw[ab h5];by_cases h6:f.1=6
    · rw[aa h6];have b1:decide (w<s.B.2.2.1.length)=true:=aa (by rw[hb.ml];exact gl);rw[b1];cases decide (f.2.1≥-1) with
      |false=>exact⟨_,rfl,fun e=>by cases e⟩
      |true=>
        cases decide (f.2.1≤1152921504606846976) with
        |false=>exact⟨_,rfl,fun e=>by cases e⟩
        |true=>exact⟨_,rfl,fun _=>rfl⟩
    · rw[ab h6];have b1:decide (w<s.B.1.length)=true:=aa gl;rw[b1];cases decide (f.2.1≥0) with
      |false=>exact⟨_,rfl,fun e=>by cases e⟩
      |true=>
        cases decide (f.2.1≤1152921504606846976) with
        |false=>exact⟨_,rfl,fun e=>by cases e⟩
        |true=>exact⟨_,rfl,fun _=>rfl⟩
theorem yP3 {k l}(hl:l.length≤1000){i:Nat}(h1:i<l.length) v:uU k l i v=some (l.set i v):=by
 unfold uU;rw[qK (n:=0+l.length) (by omega) (by omega),aa (by simp),aa (by grind),qC,aa h1,au];rfl
theorem vGs {r}(hr:vT r){s}(h:qW r s){who}(hw:0≤who∧who<r.1) a many:
    ∃d,PD 1000 (rk r s who) a many=some ((iM r s who a many).1,d)∧((iM r s who a many).1=0→d=qN r (iM r s who a many).2 who [] 0):=by
  have h3:=hr.n3;have hn:=h.n;have gL:=h.bk.n6;have hol:=h.hol;obtain⟨w,rfl⟩:=Int.eq_ofNat_of_zero_le hw.1;have gl:w<s.B.1.length:=by omega
  have eD:PD 1000 (rk r s w) a many=
    bif decide (a<0) then some (1,qN r s w [] 0)
    else bif decide (a≥(r.2.1.length:Int)) then some (1,qN r s w [] 0)
    else bif decide (many<0) then some (1,qN r s w [] 0)
    else bif decide (many>1099511627776) then some (1,qN r s w [] 0)
    else bif zB (w : Int) s.ho.length then ((uU 1000 (s.ho.getD (w:Int).toNat []) a many).bind fun x0=>
      (BH 1000 r.2.1 s.pr x0).bind fun x1=>
      bif !x1.2 then some (8,qN r s w [] 0)
      else bif decide (x1.1>1152921504606846976) then some (8,qN r s w [] 0)
      else(oW 1000 s.B.1 s.B.2.1 s.B.2.2.1 s.B.2.2.2).bind fun x2=>
      bif zB (w : Int) x2.1.length then (bif decide (x1.1 < (x2.1.getD (w : Int).toNat (0, 0, 0)).2.1) then (bif decide ((zA ((x2.1.getD (w:Int).toNat (0,0,0)).1+x1.1))<0) then some (9,qN r s w [] 0)
         else bif zB (w:Int) x2.1.length then(
          bif zQ (0 + s.ho.length) 24 then (bif zB (w:Int) s.ho.length then
           some (0,qN r {s with B:=((x2.1.set (w:Int).toNat ((x2.1.getD (w:Int).toNat (0,0,0)).1,x1.1,(x2.1.getD (w:Int).toNat (0,0,0)).2.2)),x2.2.1,x2.2.2.1,x2.2.2.2),ho:=s.ho.set (w:Int).toNat x0} w [] 0)
           else none)
          else none)
         else none)
        else bif zB (w:Int) x2.1.length then(
         bif zQ (0 + s.ho.length) 24 then (bif zB (w:Int) s.ho.length then
           some (0,qN r {s with B:=((x2.1.set (w:Int).toNat ((x2.1.getD (w:Int).toNat (0,0,0)).1,x1.1,(x2.1.getD (w:Int).toNat (0,0,0)).2.2)),x2.2.1,x2.2.2.1,x2.2.2.2),ho:=s.ho.set (w:Int).toNat x0} w [] 0)
          else none)
         else none)
        else none)
      else none)
    else none:=rfl
  rw[eD,Jm (by omega) h.bk.toSized];simp only[ae,qC,au];unfold iM;simp only[au];by_cases c1:a<0
  · rw[aa c1,ab (show¬a≥0 by omega)];exact⟨_,rfl,fun e=>by cases e⟩
  rw[ab c1,aa (show a≥0 by omega)];by_cases c2:a≥(r.2.1.length:Int)
  · rw[aa c2,ab (show¬a≤(r.2.1.length:Int)-1 by omega)];exact⟨_,rfl,fun e=>by cases e⟩
  rw[ab c2,aa (show a≤(r.2.1.length:Int)-1 by omega)];by_cases c3:many<0
  · rw[aa c3,ab (show¬many≥0 by omega)];exact⟨_,rfl,fun e=>by cases e⟩
  rw[ab c3,aa (show many≥0 by omega)];by_cases c4:many>1099511627776
  · rw[aa c4,ab (show¬many≤1099511627776 by omega)];exact⟨_,rfl,fun e=>by cases e⟩
  rw[ab c4,aa (show many≤1099511627776 by omega)];obtain⟨i,rfl⟩:=Int.eq_ofNat_of_zero_le (show 0≤a by omega);have hi:i<r.2.1.length:=by omega
  have L:=h.laid w gl;have L2:=L.set hi (v:=many) ⟨by omega,by omega⟩;have b1:decide (w<s.ho.length)=true:=aa (by omega);have b2:decide (w<s.B.1.length)=true:=aa gl;have mg:uU 1000 (s.ho.getD w []) (i:Int) many=some ((s.ho.getD w []).set i many):=yP3 (by rw[L.hl];omega) (by rw[L.hl];omega) many;have hv:=yR6 L2;have hb:=h.bk.nums.bal w gl;have Au:=Fs L2;have e24:zQ (0+s.ho.length) 24=true:=qK (by omega) (by omega);simp only[Bool.and_self,aB,an,b1,ak,mg,ae,hv,b2,au,e24];clear hv L2 eD;generalize mc r.2.1 s.pr ((s.ho.getD w []).set i many)=n at Au⊢;unfold BF;cases Wj:decide (n>1152921504606846976) with
  |true=>exact⟨_,rfl,fun e=>by cases e⟩
  |false=>
    have h8:¬n>1152921504606846976:=gF Wj;have w2:zA ((s.B.1.getD w (0,0,0)).1+n)=(s.B.1.getD w (0,0,0)).1+n:=zO (by have:=hb.1;simp only[ad] at this;omega) (by have:=hb.2;simp only[ad] at this;omega);simp only[w2,an];cases decide (n<(s.B.1.getD w (0,0,0)).2.1) with
    |false=>exact⟨_,rfl,fun _=>rfl⟩
    |true=>
      cases decide ((s.B.1.getD w (0,0,0)).1+n<0) with
      |true=>exact⟨_,rfl,fun e=>by cases e⟩
      |false=>exact⟨_,rfl,fun _=>rfl⟩
theorem In9 {k}{a:qY}(ha:-4611686018427387904<a.1∧a.1<4611686018427387904){n}(hn:1≤n∧n≤1099511627776):Gv k a n=some (wT a n):=by
 unfold Gv wT Ga;rw[aa (by grind),zO (x:=9223372036854775807-n) (by omega) (by omega),ab (by grind),ab (by grind),zO (x:=a.1+n) (by omega) (by omega)];simp[UI];grind
theorem vOv {r}(hr:vT r){s}(h:qW r s) who kd to n (xg:kd=10∨kd=11):
    ∃d,Gw 1000 (rk r s who) (decide (kd=10)) to n=some ((il r s kd to n).1,d)∧((il r s kd to n).1=0→d=qN r (il r s kd to n).2 who [] 0):=by
  have hn:=h.n;have ht:=h.tot;have eD:Gw 1000 (rk r s who) (decide (kd=10)) to n=(uT 1000 (qN r s who [] 0) to).bind fun x0=>
    bif decide (x0<0) then some (1,qN r s who [] 0)
    else bif decide (n<1) then some (1,qN r s who [] 0)
    else bif decide (n>1099511627776) then some (1,qN r s who [] 0)
    else(oW 1000 s.B.1 s.B.2.1 s.B.2.2.1 s.B.2.2.2).bind fun x1=>
    bif decide (kd = 10) then (bif zB x0 x1.1.length then ((Gv 1000 (x1.1.getD x0.toNat (0,0,0)) n).bind fun x2=>
      bif decide ((zA (s.to+n))>1152921504606846976) then some (8,qN r s who [] 0)
      else bif !(decide (x2.2=0)) then some (8,qN r s who [] 0)
      else bif zB x0 x1.1.length then some (0,qN r {s with B:=((x1.1.set x0.toNat x2.1),x1.2.1,x1.2.2.1,x1.2.2.2),to:=zA (s.to+n)} who [] 0)
      else none)
     else none)
    else bif zB x0 x1.1.length then (bif decide ((zA ((zA ((x1.1.getD x0.toNat (0,0,0)).1+(x1.1.getD x0.toNat (0,0,0)).2.1))-(x1.1.getD x0.toNat (0,0,0)).2.2))<n) then some (9,qN r s who [] 0)
     else bif decide (s.to<n) then some (9,qN r s who [] 0)
     else bif zB x0 x1.1.length then
      some (0,qN r {s with B:=((x1.1.set x0.toNat ((zA ((x1.1.getD x0.toNat (0,0,0)).1-n)),(x1.1.getD x0.toNat (0,0,0)).2)),x1.2.1,x1.2.2.1,x1.2.2.2),to:=zA (s.to-n)} who [] 0)
     else none)
    else none:=rfl
  rw[eD,WZ,Jm (by omega) h.bk.toSized];simp only[ae];unfold il;by_cases hc:0≤to∧to<r.1
  · rw[W0 hc,ab (show¬to<0 by omega),aa (show to≥0 by omega),aa (show to≤r.1-1 by omega)];by_cases c1:n<1
    · rw[aa c1,ab (show¬n≥1 by omega)];exact⟨_,rfl,fun e=>by cases e⟩
    rw[ab c1,aa (show n≥1 by omega)];by_cases c2:n>1099511627776
    · rw[aa c2,ab (show¬n≤1099511627776 by omega)];exact⟨_,rfl,fun e=>by cases e⟩
    rw[ab c2,aa (show n≤1099511627776 by omega)];obtain⟨i,rfl⟩:=Int.eq_ofNat_of_zero_le hc.1;have hi:i<s.B.1.length:=by omega
    have hb:=h.bk.nums.bal i hi;have kJ:=h.bk.nums.res i hi;have hcr:=h.most i hi;have WN:0≤(s.B.1.getD i ad).2.1:=by rw[h.cred i hi];exact Fs (h.laid i hi)
    have W3:=pj.1 (h.bk.acct i hi);have b0:zB (i:Int) s.B.1.length=true:=by rw[qC,aa hi]
    have q2:zA (s.to-n)=s.to-n:=zO (by omega) (by omega);have q3:zA (s.to+n)=s.to+n:=zO (by omega) (by omega);have KN:Gv 1000 (s.B.1.getD i (0,0,0)) n=some (wT (s.B.1.getD i ad) n):=In9 hb ⟨by omega,by omega⟩;simp only[Bool.and_self,aB,an,b0,ak,au,KN,ae,q2,q3];clear KN eD;rcases xg with e|e
    · rw[aa e,ab (show¬kd=11 by omega)];simp only[ak,an];unfold Gn;cases hz:decide ((wT (s.B.1.getD i ad) n).2=0) with
      |false=>
        have e8:(wT (s.B.1.getD i ad) n).2=8:=by
          have:=gF hz;unfold wT at this⊢;cases hx:eM ((s.B.1.getD i ad).1+n,(s.B.1.getD i ad).2.1,(s.B.1.getD i ad).2.2) with
          |true=>rw[hx] at this;exact absurd rfl this
          |false=>rfl
        rw[e8];cases decide (s.to+n>1152921504606846976)<;>exact⟨_,rfl,fun e=>by cases e⟩
      |true=>
        cases decide (s.to+n>1152921504606846976) with
        |true=>exact⟨_,rfl,fun e=>by cases e⟩
        |false=>exact⟨_,rfl,fun _=>rfl⟩
    · rw[ab (show¬kd=10 by omega),aa e];simp only[ak,an];unfold Gm;have q1:zA ((s.B.1.getD i (0,0,0)).1+(s.B.1.getD i (0,0,0)).2.1)=(s.B.1.getD i ad).1+(s.B.1.getD i ad).2.1:=zO (by simp only[ad] at*;omega) (by simp only[ad] at*;omega);have q4:zA ((s.B.1.getD i ad).1+(s.B.1.getD i ad).2.1-(s.B.1.getD i (0,0,0)).2.2)=(s.B.1.getD i ad).1+(s.B.1.getD i ad).2.1-(s.B.1.getD i ad).2.2:=zO (by simp only[ad] at*;omega) (by simp only[ad] at*;omega);have q5:zA ((s.B.1.getD i (0,0,0)).1-n)=(s.B.1.getD i ad).1+-n:=by rw[zO (by simp only[ad] at*;omega) (by simp only[ad] at*;omega)];rfl
      simp only[q1,q4,q5];by_cases c5:(s.B.1.getD i ad).1+(s.B.1.getD i ad).2.1-(s.B.1.getD i ad).2.2<n
      · rw[aa c5];exact⟨_,rfl,fun e=>by cases e⟩
      rw[ab c5];by_cases c6:s.to<n
      · rw[aa c6,aa (show s.to-n<0 by omega)];exact⟨_,rfl,fun e=>by cases e⟩
      rw[ab c6,ab (show¬s.to-n<0 by omega),ab (show¬s.to-n>1152921504606846976 by omega)];have em:wT (s.B.1.getD i ad) (-n)=(((s.B.1.getD i ad).1+-n,(s.B.1.getD i ad).2.1,(s.B.1.getD i ad).2.2),0):=by
        unfold wT;have:eM ((s.B.1.getD i ad).1+-n,(s.B.1.getD i ad).2.1,(s.B.1.getD i ad).2.2)=true:=pj.2 ⟨by simp only;omega,W3.2⟩;rw[this];rfl
      rw[em];exact⟨_,rfl,fun _=>rfl⟩
  · rw[W1 hc];have g:(decide (to≥0)&&decide (to≤r.1-1))=false:=by
      by_cases a:to≥0
      · rw[aa a,ab (show¬to≤r.1-1 by omega)];rfl
      · rw[ab a];rfl
    rw[g];exact⟨_,rfl,fun e=>by cases e⟩
theorem vN8 {r s} who {pr}(hL:∀i,i<s.B.1.length→kP r.2.1 pr (s.ho.getD i []))(hol:s.ho.length=s.B.1.length)(gL:s.B.1.length≤6):
  (qG (fun j=> !decide (fK r.2.1 pr s.ho j>1152921504606846976)) s.B.1.length 0=true∧uV 1000 1000 0 (rk r s who) pr s.B.1 s.B.2.1 s.B.2.2.1 s.B.2.2.2=some (.inl (rk r s who,pr,sX r.2.1 pr s.ho s.B.1,s.B.2.1,s.B.2.2.1,s.B.2.2.2)))∨
  (qG (fun j=> !decide (fK r.2.1 pr s.ho j>1152921504606846976)) s.B.1.length 0=false∧uV 1000 1000 0 (rk r s who) pr s.B.1 s.B.2.1 s.B.2.2.1 s.B.2.2.2=some (.inr (8,rk r s who))):=by
 have:=N8 (L:=fun n i (a:List qY)=>uV 1000 n i (rk r s who) pr a s.B.2.1 s.B.2.2.1 s.B.2.2.2) (N:=s.B.1.length) (fun j=> !decide (fK r.2.1 pr s.ho j>1152921504606846976))
  (fun a=>.inl (rk r s who,pr,a,s.B.2.1,s.B.2.2.1,s.B.2.2.2)) (.inr (8,rk r s who))
  (fun i a => a.length = s.B.1.length ∧ ∀ j, j < s.B.1.length → a.getD j ad = if j < i then ((s.B.1.getD j ad).1, fK r.2.1 pr s.ho j, (s.B.1.getD j ad).2.2) else s.B.1.getD j ad) (fun n a ha=>by
   show Gx 1000 _ s.B.1.length (rk r s who) pr a s.B.2.1 s.B.2.2.1 s.B.2.2.2=_;unfold Gx;simp_all) (fun n i a hi ha=>by
   have hv:=yR6 (hL i hi);have aL:uV 1000 (n+1) i (rk r s who) pr a s.B.2.1 s.B.2.2.1 s.B.2.2.2=bif decide (fK r.2.1 pr s.ho i>1152921504606846976) then some (.inr (8,rk r s who)) else uV 1000 n ((i+1:Nat):Int) (rk r s who) pr (a.set i ((a.getD i ad).1,fK r.2.1 pr s.ho i,(a.getD i ad).2.2)) s.B.2.1 s.B.2.2.1 s.B.2.2.2:=by
    show Gx 1000 _ i (rk r s who) pr a s.B.2.1 s.B.2.2.1 s.B.2.2.2=_;unfold Gx;have iB:BH 1000 (rk r s who).2.1 pr (s.ho.getD i [])=some (fK r.2.1 pr s.ho i,true):=hv;have eh:(rk r s who).2.2.2.2.2.2.2.2.2.2.2.1=s.ho:=rfl;simp only[eh,qR,qC,au,aa (show i<s.ho.length by omega),aa (show i<a.length by omega),ak,iB,aB,an,qE hi (by grind)];rfl
   grind) s.B.1.length 0 1000 s.B.1 (by omega) (by omega) (by simp)
 rcases this with⟨h1,a,h2,h3,h4⟩|⟨h1,h2⟩
 ·have e:a=sX r.2.1 pr s.ho s.B.1:=DK ad (by rw[h3,WO]) fun j hj=>by
   rw[h3] at hj;rw[h4 j hj,if_pos hj,Px _ _ _ _ hj]
  simp_all
 simp_all
theorem vHl {r}(hr:vT r){s}(h:qW r s) who a p:
  ∃d,PE 1000 (rk r s who) a p=some ((iN r s a p).1,d)∧((iN r s a p).1=0→d=qN r (iN r s a p).2 who [] 0):=by
 have h3:=hr.n3;have gL:=h.bk.n6;have mO:=h.bk.n1;have eD:PE 1000 (rk r s who) a p=
  bif decide (a<0) then some (1,qN r s who [] 0)
  else bif decide (a≥(r.2.1.length:Int)) then some (1,qN r s who [] 0)
  else bif decide (p<0) then some (1,qN r s who [] 0)
  else bif decide (p>1048576) then some (1,qN r s who [] 0)
  else(uU 1000 s.pr a p).bind fun x0=>
  (oW 1000 s.B.1 s.B.2.1 s.B.2.2.1 s.B.2.2.2).bind fun x1=>
  (uV 1000 1000 0 (rk r s who) x0 x1.1 x1.2.1 x1.2.2.1 x1.2.2.2).bind fun z=>
  match z with
  |.inl z1=>some (0,(jK z1.1 (BN z1 (z1.2.1,(yTg z1.1 ([],z1.1.2.2.2.2.2.2.2.2.2.2.2.2.2.2.2.2.2))))))
  |.inr z2=>some (yEs z2 ([],z2.2.2.2.2.2.2.2.2.2.2.2.2.2.2.2.2.2.2)):=rfl
 rw[eD,Jm (by omega) h.bk.toSized];simp only[ae];unfold iN;by_cases c1:a<0
 ·rw[aa c1,ab (show¬a≥0 by omega)];exact by simp
 rw[ab c1,aa (show a≥0 by omega)];by_cases c2:a≥(r.2.1.length:Int)
 ·grind
 rw[ab c2,aa (show a≤(r.2.1.length:Int)-1 by omega)];by_cases c3:p<0
 ·rw[aa c3,ab (show¬p≥0 by omega)];exact by simp
 rw[ab c3,aa (show p≥0 by omega)];by_cases c4:p>1048576
 ·rw[aa c4,ab (show¬p≤1048576 by omega)];exact by simp
 rw[ab c4,aa (show p≤1048576 by omega)];obtain⟨i,rfl⟩:=Int.eq_ofNat_of_zero_le (show 0≤a by omega);have hi:i<r.2.1.length:=by omega
 have L0:=h.laid 0 (by omega);have mg:uU 1000 s.pr (i:Int) p=some (s.pr.set i p):=yP3 (by rw[L0.pl];omega) (by rw[L0.pl];omega) p;simp only[Bool.and_self,aB,an,mg,ae,au];unfold BM;rcases vN8 (r:=r) (s:=s) who (pr:=s.pr.set i p) (fun j hj=>(h.laid j hj).setP hi ⟨by omega,by omega⟩) h.hol gL with⟨g1,g2⟩|⟨g1,g2⟩
 ·rw[g2,g1];exact⟨_,rfl,fun _=>rfl⟩
 ·rw[g2,g1];exact⟨_,rfl,fun e=>by cases e⟩
theorem yU3 {m}(hd:qL m){i}(hi:i<m.length):j7 m (m.getD i pd).1=(i:Int):=by
 obtain⟨x,hx⟩:=Ot (gh (d:=pd) hi);have h:=kO hx;unfold j7;have:x=i:=by
  rcases Nat.lt_trichotomy x i with g|g|g
  ·have:=List.pairwise_iff_getElem.1 hd x i h.1 hi g;grind
  ·exact g
  ·have:=List.pairwise_iff_getElem.1 hd i x hi h.1 g;grind
 simp_all
theorem vI0 {k}(hk:100<k){B}(h:qO B){l:List zH}(hl:l.length≤80):JB k B.1 B.2.1 B.2.2.1 B.2.2.2 l=some (xC B l):=vPb hk h hl
theorem PF {k}(hk:100<k){B}(h:qO B){l:List zH}(hl:l.length≤80):
  ∃C:BT,uW k B.1 B.2.1 B.2.2.1 B.2.2.2 l=some (C.1,C.2.1,C.2.2.1,C.2.2.2,(ik k B l).isSome)∧(∀D,ik k B l=some D→D=C):=by
 obtain⟨r,h1,h2,h3⟩:=Ft hk h hl;unfold uW ik;rw[h2,h1,vI0 hk h hl];refine⟨(r.1,r.2.1,r.2.2.1,r.2.2.2.1),?_,?_⟩;all_goals grind
theorem yE1 {k}(hk:100<k){B}(h:qO B)(m:List zH)(hm:m.length≤1000):∀c i n,i+c=m.length→c<n→
  KS k n i B.1 B.2.1 B.2.2.1 B.2.2.2 0 0 0 0 0 0 0 m = some (match jW k B (m.drop i) with
   |some (p,C)=>.inr (true,p.1,p.2.1,p.2.2.1,p.2.2.2.1,p.2.2.2.2.1,p.2.2.2.2.2.1,p.2.2.2.2.2.2)
   |none=>.inl (0,0,0,0,0,0,0))
 |0,i,n,e,hn=>by
  obtain⟨n,rfl⟩:∃x,n=x+1:=⟨n-1,by omega⟩;have:i=m.length:=by omega
  subst this;show Gy k _ m.length B.1 B.2.1 B.2.2.1 B.2.2.2 0 0 0 0 0 0 0 m=_;unfold Gy;simp;rfl
 |c+1,i,n,e,hn=>by
  obtain⟨n,rfl⟩:∃x,n=x+1:=⟨n-1,by omega⟩;have hi:i<m.length:=by omega
  have ih:=yE1 hk h m hm c (i+1) n (by omega) (by omega);show Gy k _ i B.1 B.2.1 B.2.2.1 B.2.2.2 0 0 0 0 0 0 0 m=_;unfold Gy;obtain⟨C,h1,h2⟩:=PF hk h (l:=[m.getD i pd]) (by simp);have c1:decide ((0:Int)≤(i:Int))=true:=by simp
  have c2:decide ((i:Int)≤((i+1:Nat):Int))=true:=by grind
  have c3:decide (((i+1:Nat):Int)≤(m.length:Int))=true:=by grind
  simp only[qC,qE hi (by grind),au,vJj m i hi];rw[yQm k B hi];grind
theorem yOk {k} (hk : 100 < k) {B} (h : qO B) {l} (bN : l.length < k) (hl : qQ l) t : PG k B.1 B.2.1 B.2.2.1 B.2.2.2 l t = some (match jW k B (vR l t) with
   |some (p,C)=>(p.1,p.2.1,p.2.2.1,p.2.2.2.1,p.2.2.2.2.1,p.2.2.2.2.2.1,p.2.2.2.2.2.2,true)
   |none=>(0,0,0,0,0,0,0,false)):=by
 unfold PG;rw[yIw bN hl];have Fw:=OJ l t;unfold qQ at hl;have:=yE1 hk h (vR l t) (by omega) (vR l t).length 0 k (by omega) (by omega);grind
theorem vQi {k}(hk:100<k) t {B C l m done}(h:gJ k t B l done C m):∀n (r:List zH),qO B→l.length≤100→l.length<n→r.length+l.length≤1000→
  KT k n l t B.1 B.2.1 B.2.2.1 B.2.2.2 r=some (m,C.1,C.2.1,C.2.2.1,C.2.2.2,r++done):=by
 induction h with
 |@stop B l hx=>
  intro n r hb hl hn hr;obtain⟨n,rfl⟩:∃x,n=x+1:=⟨n-1,by omega⟩;have h2:=yOk hk hb (l:=l) (by omega) (by show l.length≤1000;omega) t;rw[hx] at h2;show Gz k _ l t B.1 B.2.1 B.2.2.1 B.2.2.2 r=_;unfold Gz;simp_all
 |@step B C D l m done p hx _ ih=>
  intro n r hb hl hn hr;obtain⟨n,rfl⟩:∃x,n=x+1:=⟨n-1,by omega⟩;have h2:=yOk hk hb (l:=l) (by omega) (by show l.length≤1000;omega) t;rw[hx] at h2;obtain⟨hp,hg⟩:=Bv hx;have Db:=Fu hp;obtain⟨tK,mK⟩:=uF Db;obtain⟨nN,cN⟩:=sN hk hb (by simp) hg;have g2:=ih n (r++[p]) nN (by omega) (by omega) (by grind);show Gz k _ l t B.1 B.2.1 B.2.2.1 B.2.2.2 r=_;unfold Gz;rw[h2];obtain⟨C',e1,e2⟩:=PF hk hb (l:=[p]) (by simp);have:=e2 C hg;subst this;simp[uR (show l.length<k by omega) (show qQ l by show l.length≤1000;omega),nR (show r.length≤1000 by omega)];rw[List.append_cons r p done,←g2];have KU:uW k B.1 B.2.1 B.2.2.1 B.2.2.2 [(p.1,p.2.1,p.2.2.1,p.2.2.2.1,p.2.2.2.2.1,p.2.2.2.2.2.1,p.2.2.2.2.2.2)]=_:=e1;rw[KU];rfl
theorem yGv {k}(hk:200≤k){B C}(hb:qO B){l m done}(hl:l.length≤100){t}(h:gJ k t B l done C m):PH k B.1 B.2.1 B.2.2.1 B.2.2.2 l t=some (C.1,C.2.1,C.2.2.1,C.2.2.2,m,done):=by
 unfold PH;rw[vQi (by omega) t h k [] hb hl (by omega) (by grind)];rfl
def W4 (x:Option (zH×zH×BT)):Int×Int×Int×Int×Int×Int×Int×Int×Int×Int×Int×Int×Int×Int×Bool:=match x with
 |some (p,q,C)=>(p.1,p.2.1,p.2.2.1,p.2.2.2.1,p.2.2.2.2.1,p.2.2.2.2.2.1,p.2.2.2.2.2.2,q.1,q.2.1,q.2.2.1,q.2.2.2.1,q.2.2.2.2.1,q.2.2.2.2.2.1,q.2.2.2.2.2.2,true)
 |none=>(0,0,0,0,0,0,0,0,0,0,0,0,0,0,false)
theorem yOn {k}(hk:100<k){B}(h:qO B)(m:List zH)(hm:m.length≤1000){j}(hj:j<m.length):∀c i n,i+c=m.length→c<n→
  KV k n j i B.1 B.2.1 B.2.2.1 B.2.2.2 0 0 0 0 0 0 0 0 0 0 0 0 0 0 m = some (match o0 k B (m.getD j pd) (m.drop i) with
   |some (q,C)=>.inr (true,(m.getD j pd).1,(m.getD j pd).2.1,(m.getD j pd).2.2.1,(m.getD j pd).2.2.2.1,(m.getD j pd).2.2.2.2.1,(m.getD j pd).2.2.2.2.2.1,(m.getD j pd).2.2.2.2.2.2,q.1,q.2.1,q.2.2.1,q.2.2.2.1,q.2.2.2.2.1,q.2.2.2.2.2.1,q.2.2.2.2.2.2)
   |none=>.inl ((j:Int),B.1,B.2.1,B.2.2.1,B.2.2.2,0,0,0,0,0,0,0,0,0,0,0,0,0,0,m))
 |0,i,n,e,hn=>by
  obtain⟨n,rfl⟩:∃x,n=x+1:=⟨n-1,by omega⟩;have:i=m.length:=by omega
  subst this;show GA k _ j m.length B.1 B.2.1 B.2.2.1 B.2.2.2 0 0 0 0 0 0 0 0 0 0 0 0 0 0 m=_;unfold GA;simp;rfl
 |c+1,i,n,e,hn=>by
  obtain⟨n,rfl⟩:∃x,n=x+1:=⟨n-1,by omega⟩;have hi:i<m.length:=by omega
  have ih:=yOn hk h m hm hj c (i+1) n (by omega) (by omega);show GA k _ j i B.1 B.2.1 B.2.2.1 B.2.2.2 0 0 0 0 0 0 0 0 0 0 0 0 0 0 m=_;unfold GA;obtain⟨C,h1,h2⟩:=PF hk h (l:=[m.getD j pd,m.getD i pd]) (by simp);simp[qC,qE hi (by grind),h1];rw[yE6 k B _ hi];unfold qe;grind
theorem yH1 {k}(hk:100<k){B}(h:qO B)(m:List zH)(hm:m.length≤1000)(Ka:m.length<k):∀c i n,i+c=m.length→c<n→
  KW k n i B.1 B.2.1 B.2.2.1 B.2.2.2 0 0 0 0 0 0 0 0 0 0 0 0 0 0 m = some (match sQ k B m (m.drop i) with
   |some (p,q,C)=>.inr (true,p.1,p.2.1,p.2.2.1,p.2.2.2.1,p.2.2.2.2.1,p.2.2.2.2.2.1,p.2.2.2.2.2.2,q.1,q.2.1,q.2.2.1,q.2.2.2.1,q.2.2.2.2.1,q.2.2.2.2.2.1,q.2.2.2.2.2.2)
   |none=>.inl (0,0,0,0,0,0,0,0,0,0,0,0,0,0))
 |0,i,n,e,hn=>by
  obtain⟨n,rfl⟩:∃x,n=x+1:=⟨n-1,by omega⟩;have:i=m.length:=by omega
  subst this;show GB k _ m.length B.1 B.2.1 B.2.2.1 B.2.2.2 0 0 0 0 0 0 0 0 0 0 0 0 0 0 m=_;unfold GB;simp;rfl
 |c+1,i,n,e,hn=>by
  obtain⟨n,rfl⟩:∃x,n=x+1:=⟨n-1,by omega⟩;have hi:i<m.length:=by omega
  have ih:=yH1 hk h m hm Ka c (i+1) n (by omega) (by omega);show GB k _ i B.1 B.2.1 B.2.2.1 B.2.2.2 0 0 0 0 0 0 0 0 0 0 0 0 0 0 m=_;unfold GB;have fj:=yOn hk h m hm hi m.length 0 k (by omega) Ka;have e0:((0:Nat):Int)=0:=rfl;rw[e0,List.drop_zero] at fj;simp[aa hi];rw[fj];rw[yCy k B m hi];cases o0 k B (m.getD i pd) m with
  |none=>
   simp[qE hi (by grind)];exact ih
  |some x=>rfl
theorem yTx {k}(hk:100<k){B}(h:qO B){l}(bN:l.length<k)(hl:qQ l) t:PI k B.1 B.2.1 B.2.2.1 B.2.2.2 l t=some (W4 (fy k B l t)):=by
 unfold PI fy;rw[yIw bN hl];have Fw:=OJ l t;unfold qQ at hl;have:=yH1 hk h (vR l t) (by omega) (by omega) (vR l t).length 0 k (by omega) (by omega);have e:((0:Nat):Int)=0:=rfl;rw[e,List.drop_zero] at this;simp;rw[this];cases sQ k B (vR l t) (vR l t) with
 |none=>rfl
 |some x=>rfl
theorem vNx {k}(hk:100<k) t {B C l m done}(h:jQ k t B l done C m):∀n (r:List zH),qO B→qL l→l.length≤100→l.length<n→r.length+l.length≤900→
  KX k n l t B.1 B.2.1 B.2.2.1 B.2.2.2 r=some (m,C.1,C.2.1,C.2.2.1,C.2.2.2,r++done):=by
 induction h with
 |@stop B l hx=>
  intro n r hb hd hl hn hr;obtain⟨n,rfl⟩:∃x,n=x+1:=⟨n-1,by omega⟩;have h2:=yTx hk hb (l:=l) (by omega) (by show l.length≤1000;omega) t;rw[hx] at h2;show GC k _ l t B.1 B.2.1 B.2.2.1 B.2.2.2 r=_;unfold GC;rw[h2];simp only[ae,W4,bZ,ak,List.append_nil]
 |@step B C D l m done p q hx _ ih=>
  intro n r hb hd hl hn hr;obtain⟨n,rfl⟩:∃x,n=x+1:=⟨n-1,by omega⟩;have h2:=yTx hk hb (l:=l) (by omega) (by show l.length≤1000;omega) t;rw[hx] at h2;obtain⟨hp,hq,o6,hg⟩:=Fy hx;obtain⟨tK,mK⟩:=Fz hd hp hq o6;obtain⟨nN,cN⟩:=sN hk hb (by simp) hg;have oV:(eX l p.1).length≤l.length:=(uF hp).2.length_le;have g2:=ih n (r++[p,q]) nN (List.Pairwise.sublist mK hd) (by omega) (by omega) (by grind);have e2:r++[p,q]++done=r++p::q::done:=by rw[List.append_assoc];rfl
  show GC k _ l t B.1 B.2.1 B.2.2.1 B.2.2.2 r=_;unfold GC;rw[h2];obtain⟨C',e1,e2'⟩:=PF hk hb (l:=[p,q]) (by simp);have:=e2' C hg;subst this;have KU:uW k B.1 B.2.1 B.2.2.1 B.2.2.2 [(p.1,p.2.1,p.2.2.1,p.2.2.2.1,p.2.2.2.2.1,p.2.2.2.2.2.1,p.2.2.2.2.2.2),(q.1,q.2.1,q.2.2.1,q.2.2.2.1,q.2.2.2.2.1,q.2.2.2.2.2.1,q.2.2.2.2.2.2)]=_:=e1;have d1:=uR (show l.length<k by omega) (show qQ l by show l.length≤1000;omega) p.1;have d2:=uR (k:=k) (l:=(ij l p.1).1) (Nat.lt_of_le_of_lt oV (by omega)) (Nat.le_trans oV (by omega)) q.1;have e3:zQ (r.length+2) 56=true:=qK (by omega) (by omega);simp only[ae,W4,KU,d1,d2,e3];rw[←e2,←g2];rfl
theorem yJr {k}(hk:200≤k){B C}(hb:qO B){l m done}(hd:qL l)(hl:l.length≤100){t}(h:jQ k t B l done C m):PJ k B.1 B.2.1 B.2.2.1 B.2.2.2 l t=some (C.1,C.2.1,C.2.2.1,C.2.2.2,m,done):=by
 unfold PJ;rw[vNx (by omega) t h k [] hb hd hl (by omega) (by grind)];rfl
theorem W5 {k l}(hk:l.length<k)(hl:qQ l) many:GD k l many=some (vN l many):=by
 unfold qQ at hl;unfold GD;obtain ⟨s', h1, h2⟩ := vK (L := fun n i s => GG k n l many i s) (N := l.length) (fun s => s) (fun i s => s = mX l many i) (fun n s _=>by
  show GH k _ l many l.length s=_;unfold GH;simp) (fun n i s hi hs=>by
  have dW:s.length≤i:=by rw[hs];exact VX l many i
  refine⟨bif sR l many i then s++[l.getD i pd] else s,?_,?_⟩
  ·show GH k _ l many i s=_;unfold GH;have c1:decide ((0:Int)≤(i:Int))=true:=by simp
   have c2:decide ((i:Int)≤(l.length:Int))=true:=by grind
   have Vu:=Ol (k:=k) (l:=l.take i) (by grind) (by show(l.take i).length≤1000;grind) (l.getD i pd).2.1;simp only[qC,qE hi (by grind),qR,au,aa hi,nR (show s.length≤1000 by omega),c2,Vu];unfold sR jR;cases e1:decide ((l.getD i (0,(0,(0,(0,(0,(0,0))))))).2.1≥0) with
   |false=>rfl
   |true=>
    cases e2:decide ((l.getD i (0,(0,(0,(0,(0,(0,0))))))).2.1<(many.length:Int)) with
    |false=>rfl
    |true=>
     rw[aX] at e1 e2;have hb:zB (l.getD i (0,(0,(0,(0,(0,(0,0))))))).2.1 many.length=true:=jS e1 (by omega);grind
  ·show _=mX l many i++_;grind) (s:=[]) hk rfl
 have ga:GG k k l many 0 []=some s':=h1;rw[ga,h2];rfl
theorem vNh {k}{B:BT}{l}(hk:l.length<k)(hl:qQ l)(hn:B.1.length<k)(hn':B.1.length≤1000):
  BU k k 0 B.1 B.2.1 B.2.2.1 B.2.2.2 l []=some (B.1,B.2.1,B.2.2.1,B.2.2.2,l,gK l B.1.length):=by
 obtain ⟨s', h1, h2⟩ := vK (L := fun n i (s : AC) => BU k n i B.1 B.2.1 B.2.2.1 B.2.2.2 l s) (N := B.1.length) (fun s => (B.1, B.2.1, B.2.2.1, B.2.2.2, l, s)) (fun i s => s = gK l i) (fun n s _=>by
  show GI k _ B.1.length B.1 B.2.1 B.2.2.1 B.2.2.2 l s=_;unfold GI;simp) (fun n i s hi hs=>by
  refine⟨_,?_,(yJs l i).symm⟩;show GI k _ i B.1 B.2.1 B.2.2.1 B.2.2.2 l s=_;unfold GI;have hr:zQ (s.length+1) 8=true:=by rw[hs,xG];exact qK (by omega) (by omega)
  simp[aa hi,Ol hk hl,hr,qE hi (by grind)];rw[hs];rfl) (s:=[]) hn rfl
 simp_all
theorem vJu {k}{B:BT}{l:List zH}{s m}(hk:s.length<k)(hs:s.length≤1000)(fj:∀x∈s,0≤x∧x<(m.length:Int))(h0:o9 m)(hm:∀i,m.getD i 0≤1000) aR:
  GJ k k aR 0 B.1 B.2.1 B.2.2.1 B.2.2.2 l m s=some (aR,B.1,B.2.1,B.2.2.1,B.2.2.2,l,eY s m):=by
 obtain ⟨s', h1, h2⟩ := vK (L := fun n i (r : AC) => GJ k n aR i B.1 B.2.1 B.2.2.1 B.2.2.2 l r s) (N := s.length) (fun r => (aR, B.1, B.2.1, B.2.2.1, B.2.2.2, l, r)) (fun i r => r = eY (s.take i) m) (fun n r _=>by
  show GK k _ aR s.length B.1 B.2.1 B.2.2.1 B.2.2.2 l r s=_;unfold GK;simp) (fun n i r hi hr=>by
  refine⟨_,?_,(yNz s m i hi).symm⟩;show GK k _ aR i B.1 B.2.1 B.2.2.1 B.2.2.2 l r s=_;unfold GK;obtain⟨b1,b2⟩:=fj _ (gh (d:=0) hi);have tM:r.length=m.length:=by rw[hr,uH]
  have hb:zB (s.getD i 0) r.length=true:=jS b1 (by omega);have Uw:=Ke (s.take i) m (s.getD i 0).toNat;have Im:=h0 (s.getD i 0).toNat;have lW:=hm (s.getD i 0).toNat;have bj:(s.take i).length≤s.length:=by grind
  have hw:zA (r.getD (s.getD i 0).toNat 0-1)=r.getD (s.getD i 0).toNat 0-1:=by
   rw[hr];exact zO (by omega) (by omega)
  simp only[qR,qC,au,aa hi,ak,hb,hw,qE hi (by grind)];rw[hr]) (s:=m) hk rfl
 simp_all
theorem vSo {k}(hk:100<k){B}(hb:qO B){l}(hl:∀q∈l,yJ B.1.length q)(bP:l.length≤64){m f n}(h:kQ B l m f n):
  ∀N (s7:Int),m.length=B.1.length→o9 m→(∀i,m.getD i 0≤1000)→n<N→0≤s7→s7+n<1000000→
  KY k N s7 B.1 B.2.1 B.2.2.1 B.2.2.2 l m=some (s7+n,f):=by
 induction h with
 |@stop m h=>
  intro N s7 hm h0 h1 hn hs oK;obtain⟨N,rfl⟩:∃x,N=x+1:=⟨N-1,by omega⟩;show GL k _ s7 B.1 B.2.1 B.2.2.1 B.2.2.2 l m=_;unfold GL;have hS:=yFy hk hb (Kf hl bP m);have oG:ux k B.1 B.2.1 B.2.2.1 B.2.2.2 (vN l m)=some (eN B (vN l m)):=hS;rw[W5 (by omega) (show qQ l by show l.length≤1000;omega)];simp_all
 |@step m f n h h' ih=>
  intro N s7 hm h0 h1 hn hs oK;obtain⟨N,rfl⟩:∃x,N=x+1:=⟨N-1,by omega⟩;have gL:=hb.n6;show GL k _ s7 B.1 B.2.1 B.2.2.1 B.2.2.2 l m=_;unfold GL;have hS:=yFy hk hb (Kf hl bP m);have oG:ux k B.1 B.2.1 B.2.2.1 B.2.2.2 (vN l m)=some (eN B (vN l m)):=hS;rw[W5 (by omega) (show qQ l by show l.length≤1000;omega)];simp only[ae];rw[oG];simp only[ae];have w:zA (s7+1)=s7+1:=zO (by omega) (by omega);have bn : decide ((((eN B (vN l m)).length : Nat) : Int) = 0) = false := ab (by
   have:=List.length_pos_iff.2 h;omega)
  have dW:(eN B (vN l m)).length≤B.1.length:=by
   unfold eN uz;grind
  rw[bn];simp;rw[vJu (by omega) (by omega) (by rw[hm];exact VW) h0 h1];simp[w];have V6:=OQ hl hm h0;have:=ih N (s7+1) ((uH _ _).trans hm) V6 (fun i=>by have:=(Ke (eN B (vN l m)) m i).2;have:=h1 i;omega) (by omega) (by omega) (by omega);rw[this]
  congr 2
  omega
theorem vRh {k}(hk:100<k){B}(hb:qO B){l}(hl:∀q∈l,yJ B.1.length q)(bP:l.length≤64) t {f n}(hn:n≤l.length)(h:kQ B (yW l t) (gK (yW l t) B.1.length) f n):
  PK k B.1 B.2.1 B.2.2.1 B.2.2.2 l t=some (f,((n+1:Nat):Int)):=by
 have gL:=hb.n6;have hr:=xH l t;have h1:=OR (l:=yW l t) (by omega) B.1.length;unfold PK;rw[Vr (by omega) (by show l.length≤1000;omega)];simp;have e:BU k k 0 B.1 B.2.1 B.2.2.1 B.2.2.2 (l.filter (j6 t)) []=_:=vNh (k:=k) (B:=B) (l:=yW l t) (by omega) (by show(yW l t).length≤1000;omega) (by omega) (by omega);rw[e];simp;rw[vSo hk hb (Kg hl) (by omega) h k 1 (xG _ _) h1.1 h1.2 (by omega) (by omega) (by omega)];grind
theorem vFy {k}{C:BT}{l hs:List zH}(hl:l.length<k)(dM:l.length≤1000)(hk:hs.length<k)(hh:hs.length≤1000):
  BV k k l 0 hs C.1 C.2.1 C.2.2.1 C.2.2.2=some (pb l hs,hs,C.1,C.2.1,C.2.2.1,C.2.2.2):=by
 obtain ⟨s', h1, h2⟩ := vK (L := fun n i (s : List zH) => BV k n s i hs C.1 C.2.1 C.2.2.1 C.2.2.2) (N := hs.length) (fun s => (s, hs, C.1, C.2.1, C.2.2.1, C.2.2.2)) (fun i s => s = pb l (hs.take i)) (fun n s _=>by
  show GM k _ s hs.length hs C.1 C.2.1 C.2.2.1 C.2.2.2=_;unfold GM;simp) (fun n i s hi hr=>by
  refine⟨_,?_,(yYk l hs i hi).symm⟩;show GM k _ s i hs C.1 C.2.1 C.2.2.1 C.2.2.2=_;unfold GM;have dW:=(OT (hs.take i) l).1;rw[←hr] at dW⊢;simp[qC,aa hi,uR (show s.length<k by omega) (show qQ s by show s.length≤1000;omega),qE hi (by grind)];rfl) (s:=l) hk rfl
 simp_all
theorem vLk {k}(hk:100<k){B}(hb:qO B){l}(hl:∀q∈l,yJ B.1.length q)(bP:l.length≤64) t {f n}(hn:n≤l.length)(h:kQ B (yW l t) (gK (yW l t) B.1.length) f n)
  {r:List qY×EQ×AC×EQ×Int} (hr:Bf k B.1 B.2.1 B.2.2.1 B.2.2.2 (vN (yW l t) f)=some r):KZ k B.1 B.2.1 B.2.2.1 B.2.2.2 l t=some (FD B l (vN (yW l t) f) r):=by
 have tM:=xH l t;have OV:=(xF (yW l t) f).length_le;unfold KZ;rw[vRh hk hb hl bP t hn h,Vr (by omega) (by show l.length≤1000;omega)];simp;have e:GD k (l.filter (j6 t)) f=_:=W5 (k:=k) (l:=yW l t) (by omega) (by show(yW l t).length≤1000;omega) f;rw[e];simp;rw[hr];simp;unfold FD;cases decide (r.2.2.2.2=0) with
 |false=>rfl
 |true=>
  have e2:BV k k l 0 (vN (yW l t) f) r.1 r.2.1 r.2.2.1 r.2.2.2.1=_:=vFy (C:=(r.1,r.2.1,r.2.2.1,r.2.2.2.1)) (by omega) (by omega) (by omega) (by omega);simp_all
theorem gJ.books {k}(hk:100<k){t B C l done m}(h:gJ k t B l done C m)(hb:qO B)(hd:qL l):qO C∧C.1.length=B.1.length∧List.Sublist m l:=by
 induction h with
 |stop _=>simp_all
 |step h _ ih=>
  obtain⟨hp,hg⟩:=Bv h;obtain⟨h1,h2⟩:=uF (Fu hp);obtain⟨h3,h4⟩:=sN hk hb (by simp) hg;obtain⟨g1,g2,g3⟩:=ih h3 (List.Pairwise.sublist h2 hd);exact⟨g1,g2.trans h4,g3.trans h2⟩
theorem jQ.books {k}(hk:100<k){t B C l done m}(h:jQ k t B l done C m)(hb:qO B)(hd:qL l):qO C∧C.1.length=B.1.length∧List.Sublist m l:=by
 induction h with
 |stop _=>simp_all
 |step h _ ih=>
  obtain⟨hp,hq,o6,hg⟩:=Fy h;obtain⟨h1,h2⟩:=Fz hd hp hq o6;obtain⟨h3,h4⟩:=sN hk hb (by simp) hg;obtain⟨g1,g2,g3⟩:=ih h3 (List.Pairwise.sublist h2 hd);exact⟨g1,g2.trans h4,g3.trans h2⟩
theorem vIs {k}(hk:200≤k){t B C l m done}(h:mf k t B l done C m):∀n (r:List zH),qO B→qL l→l.length≤100→l.length<n→r.length+l.length≤900→
  K0 k n l t B.1 B.2.1 B.2.2.1 B.2.2.2 r=some (m,C.1,C.2.1,C.2.2.1,C.2.2.2,r++done):=by
 induction h with
 |@stop B C l m d h1 h2=>
  intro n r hb hd hl hn hr;obtain⟨n,rfl⟩:∃x,n=x+1:=⟨n-1,by omega⟩;have p1:=h1.perm hd;have l1:=p1.length_eq;rw[List.length_append] at l1;obtain⟨g1,g2,g3⟩:=h1.books (by omega) hb hd;have f1:=yGv hk hb hl h1;have f2:=yJr hk g1 (List.Pairwise.sublist g3 hd) (by omega) (jQ.stop (t:=t) h2);have r1:zQ (r.length+d.length) 56=true:=qK (by omega) (by omega);show GN k _ l t B.1 B.2.1 B.2.2.1 B.2.2.2 r=_;unfold GN;grind
 |@step B C D E l m n' o d e f h1 h2 ne h' ih=>
  intro n r hb hd hl hn hr;obtain⟨n,rfl⟩:∃x,n=x+1:=⟨n-1,by omega⟩;have p1:=h1.perm hd;have l1:=p1.length_eq;rw[List.length_append] at l1;obtain⟨g1,g2,g3⟩:=h1.books (by omega) hb hd;have hm:qL m:=List.Pairwise.sublist g3 hd;have p2:=h2.perm hm;have l2:=p2.length_eq;rw[List.length_append] at l2;obtain⟨k1,k2,k3⟩:=h2.books (by omega) g1 hm;have f1:=yGv hk hb hl h1;have f2:=yJr hk g1 hm (by omega) h2;have lN:=List.length_pos_iff.2 ne;have r1:zQ (r.length+d.length) 56=true:=qK (by omega) (by omega);have r2:zQ ((r++d).length+e.length) 56=true:=qK (by rw[List.length_append];omega) (by rw[List.length_append];omega);have:=ih n (r++d++e) k1 (List.Pairwise.sublist k3 hm) (by omega) (by omega) (by simp;omega);show GN k _ l t B.1 B.2.1 B.2.2.1 B.2.2.2 r=_;unfold GN;grind
theorem yUt {k}(hk:200≤k){t B C l m done}(hb:qO B)(hd:qL l)(hl:l.length≤100)(h:mf k t B l done C m):
  K1 k B.1 B.2.1 B.2.2.1 B.2.2.2 l t=some (C.1,C.2.1,C.2.2.1,C.2.2.2,m,done):=by
 unfold K1;rw[vIs hk h k [] hb hd hl (by omega) (by grind)];rfl
theorem vWk {k}(hk:200≤k){B}(hb:qO B){l:List zH}(hl:∀q∈l,yJ B.1.length q)(bP:l.length≤64) t:
  ∃r,Bz k B.1 B.2.1 B.2.2.1 B.2.2.2 l t=some r∧KZ k B.1 B.2.1 B.2.2.1 B.2.2.2 l t=some r:=by
 obtain⟨f,n,h,hn⟩:=VY hb hl bP t;have tM:=xH l t;have OV:=(xF (yW l t) f).length_le;obtain⟨r,h1,h2,h3⟩:=Ft (k:=k) (by omega) hb (l:=vN (yW l t) f) (by omega);exact⟨_,V7 (k:=k) (by omega) hb hl bP t (by omega) h h1,vLk (k:=k) (by omega) hb hl bP t (by omega) h h2⟩
theorem vWi {k}(hk:200≤k){B}(hb:qO B){l}(hd:qL l)(hl:∀q∈l,yJ B.1.length q)(bP:l.length≤64) t all:
  ∃(C:BT) (m done:List zH),uJ k B.1 B.2.1 B.2.2.1 B.2.2.2 l t all=some (C.1,C.2.1,C.2.2.1,C.2.2.2,m,done)∧PM k B.1 B.2.1 B.2.2.1 B.2.2.2 l t all=some (C.1,C.2.1,C.2.2.1,C.2.2.2,m,done)∧
   qO C∧C.1.length=B.1.length∧List.Sublist m l∧List.Perm (done++m) l∧jW k C (vR m t)=none∧fy k C m t=none:=by
 obtain⟨C,m,d,f1,f2,f3,f4,f5⟩:=FN hk hb hd (by omega) t;have fr:=yUt hk hb hd (by omega) f2;have p1:=f2.perm hd;have l1:=p1.length_eq;rw[List.length_append] at l1;unfold uJ PM;rw[f1,fr];simp only[ae];cases all with
 |false=>exact⟨C,m,d,rfl,rfl,f3,f4,f5,p1,f2.final⟩
 |true=>
  have hm:qL m:=List.Pairwise.sublist f5 hd;have hmm:∀q∈m,yJ C.1.length q:=by grind
  obtain⟨D,n,x,g1,g2,g3,g4,g5,g6⟩:=V8 hk f3 hm hmm (by omega) t;obtain⟨R,r1,r2⟩:=vWk hk f3 hmm (by omega) t;have hR:R=(D.1,D.2.1,D.2.2.1,D.2.2.2,n,x):=by rw[g1] at r1;exact(Option.some.inj r1).symm
  subst hR;have l2:=g5.length_eq;rw[List.length_append] at l2;rw[g1,r2];simp only[ae];cases x with
  |nil=>
   obtain⟨rfl,rfl⟩:=g6 rfl;exact⟨D,n,d,rfl,rfl,f3,f4,f5,p1,f2.final⟩
  |cons p x=>
   have e1:decide ((((p::x).length:Nat):Int)=0)=false:=ab (by simp;omega);rw[e1];have hn:qL n:=List.Pairwise.sublist g4 hm;obtain⟨E,o,y,k1,k2,k3,k4,k5⟩:=FN hk g2 hn (by omega) t;have kr:=yUt hk g2 hn (by omega) k2;have p3:=k2.perm hn;have l3:=p3.length_eq;rw[List.length_append] at l3;have e2:zQ (d.length+(p::x).length) 56=true:=qK (by simp at l2⊢;omega) (by simp at l2⊢;omega);have e3:zQ ((d++(p::x)).length+y.length) 56=true:=qK (by simp at l2⊢;omega) (by simp at l2⊢;omega);rw[k1,kr];simp only[ae,e2,e3,ak];refine⟨E,o,d++(p::x)++y,rfl,rfl,k3,k4.trans (g3.trans f4),k5.trans (g4.trans f5),?_,k2.final⟩;have e4:d++(p::x)++y++o=d++((p::x)++(y++o)):=by simp
   rw[e4];exact by grind
theorem yHd {B:BT}(hb:qO B){m:List zH}(hd:qL m)(hm:∀q∈m,yJ B.1.length q)(bP:m.length≤64)(t:Int)(pr:AC)(ho:EQ)(ids:AC)(to:Int)(ov all:Bool):
  ∃(C:BT) (m' d:List zH),pg 1000 t B.1 B.2.1 B.2.2.1 B.2.2.2 pr ho m ids to ov all=some (t,C.1,C.2.1,C.2.2.1,C.2.2.2,pr,ho,m',ids,to,ov,yZ d)∧
   nX 1000 t B.1 B.2.1 B.2.2.1 B.2.2.2 pr ho m ids to ov all=some (t,C.1,C.2.1,C.2.2.1,C.2.2.2,pr,ho,m',ids,to,ov,yZ d)∧qO C∧jJ B C∧List.Sublist m' m∧List.Perm (d++m') m∧jW 1000 C (vR m' t)=none:=by
 obtain⟨C,m',d,f1,fr,f2,f3,f4,f5,f6,f7⟩:=vWi (k:=1000) (by decide) hb hd hm bP t all;have hlen:=f5.length_eq;rw[List.length_append] at hlen;refine⟨C,m',d,?_,?_,f2,We (by decide) hb hd hm bP t all f1,f4,f5,f6⟩
 ·unfold pg;rw[f1];simp only[ae];rw[Wa (by omega) (by omega)];rfl
 ·unfold nX;rw[fr];simp only[ae];rw[Wb (by omega) (by omega)];rfl
theorem GO kd a:wU 1000 kd [a]=some (kd,a,0,0,0,0,0):=by rfl
theorem Of0 kd:wU 1000 kd []=some (kd,0,0,0,0,0,0):=by rfl
theorem Of5 kd a b c d e:wU 1000 kd [a,b,c,d,e]=some (kd,a,b,c,d,e,0):=by rfl
theorem vTo (s:zT)(hm:s.m.length≤100)(b:Int×Int×Bool):yd 1000 1000 s.m 0 s.st b []=some (s.st,b,s.m.map (wP 22)):=by
 obtain ⟨s', h1, h2⟩ := vK (L := fun n i (o : List qT) => yd 1000 n s.m i s.st b o) (N := s.m.length) (fun o => (s.st, b, o)) (fun i o => o = (s.m.take i).map (wP 22)) (fun n o _=>by
  show GP 1000 (yd 1000 n) s.m s.m.length s.st b o=_;unfold GP;simp) (fun n i o hi ho=>by
  refine⟨_,?_,(yRn (wP 22) s.m i pd hi).symm⟩;show GP 1000 (yd 1000 n) s.m i s.st b o=_;unfold GP;have dW:o.length≤900:=by grind
  rw[aa (by grind),qC,aa hi,au,GO,qE hi (by omega)];simp only[xI (show o.length≤1000 by omega)];rw[ho];rfl) (s:=[]) (show s.m.length<1000 by omega) rfl
 simp_all
theorem W6 (s:zT)(hB:s.B.1.length≤6)(b:Int×Int×Bool)(l:List qT)(hl:l.length≤100):ye 1000 1000 0 s.st b l=some (s.st,b,l++iJ s.B s.B.1.length):=by
 have ea:s.st.2.1=s.B.1:=rfl;obtain ⟨s', h1, h2⟩ := vK (L := fun n i (o : List qT) => ye 1000 n i s.st b o) (N := s.B.1.length) (fun o => (s.st, b, o)) (fun i o => o = l ++ iJ s.B i) (fun n o _=>by
  show GQ 1000 (ye 1000 n) s.B.1.length s.st b o=_;unfold GQ;simp_all) (fun n i o hi ho=>by
  refine⟨_,?_,(show l++iJ s.B i++[xL s.B i]=l++iJ s.B (i+1) by rw[yP0,List.append_assoc])⟩;show GQ 1000 (ye 1000 n) i s.st b o=_;unfold GQ;have dW:o.length≤900:=by
   rw[ho,List.length_append];unfold iJ;grind
  rw[ea,aa (by grind),qC,aa hi,au,GO,qE hi (by omega)];simp only[xI (show o.length≤1000 by omega)];rw[ho];rfl) (s:=l) (show s.B.1.length<1000 by omega) (by show _=_++[];simp)
 simp_all
theorem vYa {a b p}(hd:qL (a++p::b)):ij (a++p::b) p.1=(a++b,p.1,p.2.1,p.2.2.1,p.2.2.2.1,p.2.2.2.2.1,p.2.2.2.2.2.1,p.2.2.2.2.2.2,0):=by
 have hl:a.length<(a++p::b).length:=by simp
 have hg:(a++p::b).getD a.length pd=p:=by simp
 have hp:=yU3 hd hl;rw[hg] at hp;unfold j7 at hp;unfold ij;cases hx:vV (a++p::b) p.1 with
 |none=>simp_all
 |some x=>
  rw[hx] at hp;simp only at hp;obtain rfl:x=a.length:=by omega
  unfold yG;simp
theorem W7 (r:qF)(s:zT)(hd:qL s.m)(hm:s.m.length≤100)(b:Int×Int×Bool):
  uX 1000 1000 s.m 0 r s.st b []=some (r,zT.st {s with m:=s.m.filter (fun p=> !vD s.t p)},b,(s.m.filter (vD s.t)).map (wP 21)):=by
 obtain ⟨s', h1, h2, h3⟩ := vK (L := fun n i (x : List zH × List qT) => uX 1000 n s.m i r (zT.st { s with m := x.1 }) b x.2) (N := s.m.length) (fun x => (r, zT.st { s with m := x.1 }, b, x.2)) (fun i x => x.1 = (s.m.take i).filter (fun p => !vD s.t p) ++ s.m.drop i ∧ x.2 = ((s.m.take i).filter (vD s.t)).map (wP 21)) (fun n x _=>by
  show GR 1000 (uX 1000 n) s.m s.m.length r _ b _=_;unfold GR;rw [ab (Int.lt_irrefl _)]; rfl) (fun n i x hi hx=>by
  have f1:=Bm (vD s.t) s.m i pd hi;have f2:=Bm (fun p=> !vD s.t p) s.m i pd hi;have hdr:s.m.drop i=s.m.getD i pd::s.m.drop (i+1):=by rw[List.drop_eq_getElem_cons hi,Gd _ hi]
  have mK:x.2.length≤900:=by
   rw[hx.2,List.length_map];have:=List.length_filter_le (vD s.t) (s.m.take i);rw[List.length_take] at this;omega
  have tK:x.1.length≤s.m.length:=by
   rw[hx.1,List.length_append,List.length_drop];have:=List.length_filter_le (fun p=> !vD s.t p) (s.m.take i);rw[List.length_take] at this;omega
  have cO:List.Sublist x.1 s.m:=by
   have h:=List.Sublist.append (List.filter_sublist (p:=fun p=> !vD s.t p) (l:=s.m.take i)) (List.Sublist.refl (s.m.drop i));rw[List.take_append_drop] at h;rw[hx.1];exact h
  have hdx:qL x.1:=List.Pairwise.sublist cO hd;have e0:∀p:zH,W8 1000 p.1 p.2.1 p.2.2.1 p.2.2.2.1 p.2.2.2.2.1 p.2.2.2.2.2.1 p.2.2.2.2.2.2 s.t=some (vD s.t p):=fun p=>rfl
  have ed:s.m.getD i (0,0,0,0,0,0,0)=s.m.getD i pd:=rfl;have et:(zT.st {s with m:=x.1}).1=s.t:=rfl;have em:(zT.st {s with m:=x.1}).2.2.2.2.2.2.2.1=x.1:=rfl;show∃s',GR 1000 (uX 1000 n) s.m i r (zT.st {s with m:=x.1}) b x.2=_∧_;unfold GR;rw[aa (show(i:Int)<s.m.length by omega),qC,aa hi,au,ed,et,em,e0,GO,qE hi (by omega),uR (by omega) (by unfold qQ;omega)];simp only[ak,ae,xI (show x.2.length≤1000 by omega)];cases hb:vD s.t (s.m.getD i pd) with
  |true=>
   have dp:=hx.1;rw[hdr] at dp;have e1:=vYa (a:=(s.m.take i).filter (fun p=> !vD s.t p)) (b:=s.m.drop (i+1)) (p:=s.m.getD i pd) (by rw[←dp];exact hdx);rw[←dp] at e1;rw[e1];refine⟨((s.m.take i).filter (fun p=> !vD s.t p)++s.m.drop (i+1),x.2++[wP 21 (s.m.getD i pd)]),rfl,?_,?_⟩
   ·show _=_;rw[f2,hb];simp
   ·show x.2++_=_;rw[f1,hb,hx.2];simp
  |false=>
   refine⟨x,rfl,?_,?_⟩
   ·rw[f2,hb,hx.1,hdr];simp
   ·rw[f1,hb,hx.2];simp) (s:=(s.m,[])) (show s.m.length<1000 by omega) ⟨by simp,rfl⟩
 rw[List.take_length,List.drop_length,List.append_nil] at h2;rw[List.take_length] at h3;have ga:uX 1000 1000 s.m 0 r s.st b []=_:=h1;rw[ga,h2,h3]
theorem vXn (r:qF){s:zT}(hb:qO s.B)(hd:qL s.m)(hm:∀q∈s.m,yJ s.B.1.length q)(bP:s.m.length≤64)(ht:0≤s.t∧s.t<1099511627776)(Kq:r.2.2.2.2≠0)(ho:s.ov=false):
  ∃x:Int×List qY×jE×AC×jE×AC×jE×List zH×AC×Int×Bool×List qT,uK 1000 r.1 r.2.1 r.2.2.1 r.2.2.2.1 r.2.2.2.2 s.t s.B.1 s.B.2.1 s.B.2.2.1 s.B.2.2.2 s.pr s.ho s.m s.ids s.to s.ov=some x∧GS 1000 r s.st=some (qV x,x.2.2.2.2.2.2.2.2.2.2.2):=by
 have gL:=hb.n6;have w:zA (s.t+1)=s.t+1:=zO (by omega) (by omega);have eR:GS 1000 r s.st=bif s.ov then some (s.st,[])
  else(PN 1000 r (zA (s.t+1))).bind fun x0=>
  bif x0 then ((yd 1000 1000 s.m 0 ((zA (s.t+1)),s.st.2) (0,0,false) []).bind fun z=>
   (ye 1000 1000 0 z.1 z.2.1 z.2.2).bind fun z1=>
   some ((ke z1.1 ([],z1.1.2.2.2.2.2.2.2.2.1,z1.1.2.2.2.2.2.2.2.2.2.1,true)),z1.2.2))
  else(uX 1000 1000 s.m 0 r ((zA (s.t+1)),s.st.2) (0,0,false) []).bind fun z2=>
  (K2 1000 z2.1 z2.2.1.1).bind fun x6=>
  (nX 1000 z2.2.1.1 z2.2.1.2.1 z2.2.1.2.2.1 z2.2.1.2.2.2.1 z2.2.1.2.2.2.2.1 z2.2.1.2.2.2.2.2.1 z2.2.1.2.2.2.2.2.2.1 z2.2.1.2.2.2.2.2.2.2.1 z2.2.1.2.2.2.2.2.2.2.2.1 z2.2.1.2.2.2.2.2.2.2.2.2.1 z2.2.1.2.2.2.2.2.2.2.2.2.2 x6).bind fun x7=>
  bif zQ (z2.2.2.2.length+x7.2.2.2.2.2.2.2.2.2.2.2.length) 64 then some ((qV x7),(z2.2.2.2++x7.2.2.2.2.2.2.2.2.2.2.2))
  else none:=rfl
 have eT:((s.t+1,s.st.2):qh)=zT.st {s with t:=s.t+1}:=rfl;rw[eR,w,eT,ho];unfold uK BD PN;simp only[w,an,ae];cases hc:decide (s.t+1=r.2.2.2.1) with
 |true=>
  simp only[ak];rw[yAz gL (by decide) (by omega)];have c0:=vTo {s with t:=s.t+1,ov:=false} (by show s.m.length≤100;omega) (0,0,false);have c1:=W6 {s with t:=s.t+1,ov:=false} (by show s.B.1.length≤6;exact gL) (0,0,false) (s.m.map (wP 22)) (by rw[List.length_map];omega);refine⟨_,rfl,?_⟩;refine(congrArg (fun z=>Option.bind z _) c0).trans ?_;refine(congrArg (fun z=>Option.bind z _) c1).trans ?_;rfl
 |false=>
  simp only[an];rw[yS1 (by decide) (by omega)];have c2:=W7 r {s with t:=s.t+1,ov:=false} hd (by show s.m.length≤100;omega) (0,0,false);have hs:∃x,FZ 1000 r.1 r.2.1 r.2.2.1 r.2.2.2.1 r.2.2.2.2 (s.t+1)=some x∧K2 1000 r (s.t+1)=some x:=by
   unfold FZ K2;cases decide (s.t+1>0) with
   |false=>exact⟨_,rfl,rfl⟩
   |true=>
    cases decide (s.t+1<r.2.2.2.1) with
    |false=>exact⟨_,rfl,rfl⟩
    |true=>
     have:decide (r.2.2.2.2=0)=false:=ab Kq;rw[this];exact⟨_,rfl,rfl⟩
  obtain⟨x,hx,nE⟩:=hs;simp only[ae];rw[hx];have cO:List.Sublist (s.m.filter (fun p=> !vD (s.t+1) p)) s.m:=List.filter_sublist;have dW:=cO.length_le;have oV:qL (s.m.filter (fun p=> !vD (s.t+1) p)):=List.Pairwise.sublist cO hd;obtain⟨C,m',d,f1,f1',f2,f3,f4,f5,f6⟩:=yHd hb oV (by grind) (by omega) (s.t+1) s.pr s.ho s.ids s.to false x;have hlen:=f5.length_eq;rw[List.length_append] at hlen;have hla:(s.m.filter (vD (s.t+1))).length≤s.m.length:=by grind
  have pE:=BB d;have hr:zQ (((s.m.filter (vD (s.t+1))).map (wP 21)).length+(yZ d).length) 64=true:=qK (by rw[List.length_map];omega) (by rw[List.length_map];omega);simp only[ae];rw[f1];simp only[ae,hr,ak];refine⟨_,rfl,?_⟩;refine(congrArg (fun z=>Option.bind z _) c2).trans ?_;simp only[ae];refine(congrArg (fun z=>Option.bind z _) nE).trans ?_;have W9:nX 1000 (s.t+1) s.B.1 s.B.2.1 s.B.2.2.1 s.B.2.2.2 s.pr s.ho (s.m.filter (fun p=> !vD (s.t+1) p)) s.ids s.to false x=_:=f1';refine(congrArg (fun z=>Option.bind z _) W9).trans ?_;grind
theorem qW.settled {r s}(h:qW r s)(ho:s.ov=false){C}(hc:qO C)(kc:jJ s.B C){m}(hm:List.Sublist m s.m):qW r {s with B:=C,m:=m}:=by
  have hl:=kc.len;exact{
    tk:=h.tk
    bk:=hc
    n:=by rw[hl];exact h.n
    hol:=by rw[hl];exact h.hol
    laid:=by rw[hl];exact h.laid
    cred:=by rw[hl];intro i hi;rw[kc.cred i hi];exact h.cred i hi
    most:=by rw[hl];intro i hi;rw[kc.cred i hi];exact h.most i hi
    waits:=by rw[hl];exact h.waits.sub hm
    sum:=by rw[hl,kc.sum];exact h.sum
    tot:=h.tot
    over:=h.over
    none:=by grind}
theorem yIi {k}(hk:1000≤k){r}(hr:vT r){s}(h:qW r s)(ho:s.ov=false):
    ∃(C:BT) (m':List zH) (ov:Bool) (o:List qT),uK k r.1 r.2.1 r.2.2.1 r.2.2.2.1 r.2.2.2.2 s.t s.B.1 s.B.2.1 s.B.2.2.1 s.B.2.2.2 s.pr s.ho s.m s.ids s.to s.ov=some (s.t+1,C.1,C.2.1,C.2.2.1,C.2.2.2,s.pr,s.ho,m',s.ids,s.to,ov,o)∧
      qW r {s with t:=s.t+1,B:=C,m:=m',ov:=ov}∧jJ s.B C∧(ov=false→jW k C (vR m' (s.t+1))=none)∧o.length≤100∧
      ((ov=true∧m'=[]∧o=s.m.map (wP 22)++iJ s.B s.B.1.length∧C=s.B)∨∃l d n,o=l.map (wP 21)++yZ d∧List.Perm (l++n) s.m∧List.Perm (d++m') n∧ov=false):=by
  have C8:=hr.cl;have Kq:=hr.pe;have htk:=h.tk;have hn:=h.n;have bj:s.t≠r.2.2.2.1:=by
    have:=h.over;simp_all
  have hbk:=h.bk;have hm:=h.waits.len;rw[ho];obtain⟨C,m',ov,o,e1,e2,e3,e4,e5⟩:=vQ5 (k:=k) (by omega) hbk h.waits.dist h.waits.may (by omega) r.1 r.2.1 r.2.2.1 r.2.2.2.1 r.2.2.2.2 s.t (by omega) (by omega) s.pr s.ho s.ids s.to;have hl:=e3.len;refine⟨C,m',ov,o,e1,?_,e3,e4,?_,e5⟩
  · exact{
      tk:=by grind
      bk:=e2.bk
      n:=by simp_all
      hol:=by rw[hl];exact h.hol
      laid:=by rw[hl];exact h.laid
      cred:=by rw[hl];intro i hi;rw[e3.cred i hi];exact h.cred i hi
      most:=by rw[hl];intro i hi;rw[e3.cred i hi];exact h.most i hi
      waits:=by rw[hl];exact h.waits.sub e2.sub
      sum:=by rw[hl,e3.sum];exact h.sum
      tot:=h.tot
      over:=e2.over
      none:=e2.none}
  · have:=e2.room;split at this<;>omega
theorem yDc r s who f:(iL r s who f).2.t=s.t∧(iL r s who f).2.ov=s.ov∧(iL r s who f).2.to=s.to:=by
 unfold iL;cases decide (f.1=5) with
 |true=>
  cases !((decide (f.2.1≥0)&&decide (f.2.1≤r.1-1))&& !decide (f.2.1=who))<;>cases !(decide (f.2.2.1≥-1)&&decide (f.2.2.1≤1152921504606846976))<;>exact⟨rfl,rfl,rfl⟩
 |false=>
  cases decide (f.1=6) with
  |true=>cases !(decide (f.2.1≥-1)&&decide (f.2.1≤1152921504606846976))<;>exact⟨rfl,rfl,rfl⟩
  |false=>cases !(decide (f.2.1≥0)&&decide (f.2.1≤1152921504606846976))<;>exact⟨rfl,rfl,rfl⟩
theorem yO3 r s who a n:(iM r s who a n).2.t=s.t∧(iM r s who a n).2.ov=s.ov∧(iM r s who a n).2.to=s.to:=by
 unfold iM;cases !(decide (a≥0)&&decide (a≤(r.2.1.length:Int)-1)) with
 |true=>simp
 |false=>
 cases !(decide (n≥0)&&decide (n≤1099511627776)) with
 |true=>simp
 |false=>
 unfold BF;grind
theorem yXm r s a p:(iN r s a p).2.t=s.t∧(iN r s a p).2.ov=s.ov∧(iN r s a p).2.to=s.to:=by
 unfold iN;cases !(decide (a≥0)&&decide (a≤(r.2.1.length:Int)-1)) with
 |true=>simp
 |false=>
 cases !(decide (p≥0)&&decide (p≤1048576)) with
 |true=>simp
 |false=>
 unfold BM;grind
theorem yE8 {r s kd to n}:(il r s kd to n).2.ov=s.ov:=by
 unfold il;cases !(decide (to≥0)&&decide (to≤r.1-1)) with
 |true=>rfl
 |false=>
 cases !(decide (n≥1)&&decide (n≤1099511627776)) with
 |true=>rfl
 |false=>
 cases decide (kd=11) with
 |true=>
  unfold Gm;cases decide ((s.B.1.getD to.toNat ad).1+(s.B.1.getD to.toNat ad).2.1-(s.B.1.getD to.toNat ad).2.2<n)<;>cases decide (s.to-n<0)<;>cases decide ((wT (s.B.1.getD to.toNat ad) (-n)).2=0)<;>cases decide (s.to-n>1152921504606846976)<;>rfl
 |false=>
  unfold Gn;cases decide ((wT (s.B.1.getD to.toNat ad) n).2=0)<;>cases decide (s.to+n>1152921504606846976)<;>rfl
theorem yEv {r s who f}:(kT r s who f).2.2.length≤1:=by
 unfold kT;grind
def Kd (o:List qT):Prop:=∀x∈o,x.2.1≠16∧x.2.1≠23
theorem ng:Kd []:=fun x h=>by grind
theorem GU {x}(h:x.2.1≠16∧x.2.1≠23):Kd [x]:=fun y hy=>by simp_all
theorem Kd.append {a b}(h:Kd a)(g:Kd b):Kd (a++b):=fun x hx=>(List.mem_append.1 hx).elim (h x) (g x)
theorem K3:∀d:List zH,Kd (yZ d)
 |[]=>ng
 | p :: d => (show Kd [fq p.2.1 p,fq p.2.2.1 p] from fun x hx=>by
   rcases List.mem_cons.1 hx with rfl|hx
   ·exact⟨by nofun,by nofun⟩
   ·rw[List.mem_singleton.1 hx];exact⟨by nofun,by nofun⟩).append (K3 d)
theorem PO {kd}(hk:kd=21∨kd=22)(l:List zH):Kd (l.map (wP kd)):=fun x hx=>by
 obtain⟨p,_,rfl⟩:=List.mem_map.1 hx;show kd≠16∧kd≠23;omega
theorem yIc {r s who f}:Kd (kT r s who f).2.2:=by
 unfold kT;cases vV s.m f.2.1 with
 |none=>exact ng
 |some x=>
  simp only[];cases !decide ((s.m.getD x pd).2.1=who) with
  |true=>exact ng
  |false=>
  cases decide (f.1=2) with
  |true=>exact GU ⟨by nofun,by nofun⟩
  |false=>
  cases decide (f.1=4) with
  |true=>
   cases !(decide (f.2.2.1≥1)&&decide (f.2.2.1≤3))<;>cases !decide (qi r.2.2.1 r.2.2.2.1 s.t f.2.2.1=0)<;>exact ng
  |false=>
  cases decide (f.2.2.1=0)<;>cases decide (f.2.2.1=1)<;>exact ng
def kU (o:List qT):Prop:=∀x∈o,x.2.1≠16
theorem Kd.ne {o}(h:Kd o):kU o:=fun x hx=>(h x hx).1
theorem kU.append {a b}(h:kU a)(g:kU b):kU (a++b):=fun x hx=>(List.mem_append.1 hx).elim (h x) (g x)
theorem yJ2 B n:kU (iJ B n):=fun x hx=>by
 obtain⟨i,_,rfl⟩:=List.mem_map.1 hx
 nofun
theorem vAz {r:qF}{s:zT}{who:Int}{f:wM}(h:(iK r s who f).1=0):∀x∈(iK r s who f).2.2,x∈s.ids∨x=f.2.1:=by
 unfold iK at h⊢;cases h1:decide (f.2.2.1≥0)&&decide (f.2.2.1≤r.1-1) with
 |false=>exact fun _ h=>.inl h
 |true=>
 cases h2:decide (f.2.2.2.2.1≥1)&&decide (f.2.2.2.2.1≤3) with
 |false=>exact fun _ h=>.inl h
 |true=>
 cases decide (nf r s.t (fI who f)=0) with
 |false=>exact fun _ h=>.inl h
 |true=>
 cases decide (f.2.1∈s.ids) with
 |true=>exact fun _ h=>.inl h
 |false=>
 cases decide (200≤s.ids.length) with
 |true=>exact fun _ h=>.inl h
 |false=>
 cases(vV s.m f.2.1).isSome with
 |true=>exact fun _ h=>.inl h
 |false=>
 cases decide (40≤s.m.length) with
 |true=>exact fun _ h=>.inl h
 |false=>
  intro x hx;have hx:x∈qb s.ids f.2.1:=hx;unfold qb at hx;have e:=List.takeWhile_append_dropWhile (p:=fun x=>decide (x<f.2.1)) (l:=s.ids);rcases List.mem_append.1 hx with hx|hx
  ·exact .inl (e▸List.mem_append_left _ hx)
  ·rcases List.mem_cons.1 hx with hx|hx
   ·exact .inr hx
   ·exact .inl (e▸List.mem_append_right _ hx)
theorem qZ7 (r:qF)(s:zT)(who:Int)(f:wM):(iL r s who f).2.ids=s.ids:=by
 unfold iL;cases decide (f.1=5) with
 |true=>cases !((decide (f.2.1≥0)&&decide (f.2.1≤r.1-1))&& !decide (f.2.1=who))<;>cases !(decide (f.2.2.1≥-1)&&decide (f.2.2.1≤1152921504606846976))<;>rfl
 |false=>
  cases decide (f.1=6) with
  |true=>cases !(decide (f.2.1≥-1)&&decide (f.2.1≤1152921504606846976))<;>rfl
  |false=>cases !(decide (f.2.1≥0)&&decide (f.2.1≤1152921504606846976))<;>rfl
theorem yCa (r:qF)(s:zT)(who a n:Int):(iM r s who a n).2.ids=s.ids:=by
 unfold iM;cases !(decide (a≥0)&&decide (a≤(r.2.1.length:Int)-1)) with
 |true=>rfl
 |false=>
 cases !(decide (n≥0)&&decide (n≤1099511627776)) with
 |true=>rfl
 |false=>
 simp only[an];unfold BF;generalize (s.ho.getD who.toNat []).set a.toNat n=h;cases decide (mc r.2.1 s.pr h>1152921504606846976) with
 |true=>rfl
 |false=>cases decide (mc r.2.1 s.pr h<(s.B.1.getD who.toNat ad).2.1)&&decide ((s.B.1.getD who.toNat ad).1+mc r.2.1 s.pr h<0)<;>rfl
theorem ySn (r:qF)(s:zT)(a p:Int):(iN r s a p).2.ids=s.ids:=by
 unfold iN;cases !(decide (a≥0)&&decide (a≤(r.2.1.length:Int)-1)) with
 |true=>rfl
 |false=>
 cases !(decide (p≥0)&&decide (p≤1048576)) with
 |true=>rfl
 |false=>
 simp only[an];unfold BM;cases qG (fun j=> !decide (fK r.2.1 (s.pr.set a.toNat p) s.ho j>1152921504606846976)) s.B.1.length 0<;>rfl
def Xa (m:wM)(i:Nat):Int:=[m.2.1,m.2.2.1,m.2.2.2.1,m.2.2.2.2.1,m.2.2.2.2.2.1,m.2.2.2.2.2.2].getD i 0
theorem Xb (x:Int)(m:wM){n:Nat}(hn:n≤6):xQ 1000 1000 x n m=some (bif qG (fun j=>decide (Xa m j=0)) (6-n) n then .inl x else .inr false):=
 Ux (L := fun n i => xQ 1000 n x i m) (N := 6) (fun j => decide (Xa m j = 0)) (.inl x) (.inr false) (fun n => rfl) (fun n i hi=>by
  show Xc 1000 (xQ 1000 n) x i m=_;have:i=0∨i=1∨i=2∨i=3∨i=4∨i=5:=by omega
  rcases this with rfl|rfl|rfl|rfl|rfl|rfl
  ·show(bif !(decide (m.2.1=0)) then _ else _)=bif decide (m.2.1=0) then _ else _
   cases decide (m.2.1=0)<;>rfl
  ·show(bif !(decide (m.2.2.1=0)) then _ else _)=bif decide (m.2.2.1=0) then _ else _
   cases decide (m.2.2.1=0)<;>rfl
  ·show(bif !(decide (m.2.2.2.1=0)) then _ else _)=bif decide (m.2.2.2.1=0) then _ else _
   cases decide (m.2.2.2.1=0)<;>rfl
  ·show(bif !(decide (m.2.2.2.2.1=0)) then _ else _)=bif decide (m.2.2.2.2.1=0) then _ else _
   cases decide (m.2.2.2.2.1=0)<;>rfl
  ·show(bif !(decide (m.2.2.2.2.2.1=0)) then _ else _)=bif decide (m.2.2.2.2.2.1=0) then _ else _
   cases decide (m.2.2.2.2.2.1=0)<;>rfl
  ·show(bif !(decide (m.2.2.2.2.2.2=0)) then _ else _)=bif decide (m.2.2.2.2.2.2=0) then _ else _
   cases decide (m.2.2.2.2.2.2=0)<;>rfl) (6-n) n 1000 (by omega) (by omega)
theorem mi (m:wM)(n:Nat)(hn:n≤6)(h1:uo 1000 m.1=some (n:Int))(h2:DP 1000 m.1=some (n:Int)):sV 1000 m=kb 1000 m:=by
 unfold sV kb;rw[h1,h2];have e1:vZ false (n:Int) 0=(n:Int):=by
  rfl
 simp only[ae];rw[e1,Xb _ m hn,ab (by simp),aa (by simp),aa (by grind),au];have hl:(qS [m.2.1,m.2.2.1,m.2.2.2.1,m.2.2.2.2.1,m.2.2.2.2.2.1,m.2.2.2.2.2.2] n (6-n)).length=6-n:=by
  unfold qS;simp
 have := lu (L := fun k i => mh 1000 k (qS [m.2.1, m.2.2.1, m.2.2.2.1, m.2.2.2.2.1, m.2.2.2.2.2.1, m.2.2.2.2.2.2] n (6 - n)) ((6 - n : Nat) : Int) i) (N := 6 - n) (fun j => decide ((qS [m.2.1, m.2.2.1, m.2.2.2.1, m.2.2.2.2.1, m.2.2.2.2.2.1, m.2.2.2.2.2.2] n (6 - n)).getD j 0 = 0)) (.inl ()) (.inr false) (fun k=>by
  show lz 1000 (mh 1000 k) _ _ _=_;unfold lz;simp) (fun k i hi=>by
  show lz 1000 (mh 1000 k) _ _ _=_;unfold lz;rw[aa (by grind),qC,hl,aa hi,au,qE hi (by omega)];simp) (n:=1000) (by omega)
 have h':mh 1000 1000 (qS [m.2.1,m.2.2.1,m.2.2.2.1,m.2.2.2.2.1,m.2.2.2.2.2.1,m.2.2.2.2.2.2] n (6-n)) ((6-n:Nat):Int) 0=_:=this;have ea:qG (fun j=>decide (Xa m j=0)) (6-n) n=qG (fun j=>decide ((qS [m.2.1,m.2.2.1,m.2.2.2.1,m.2.2.2.2.1,m.2.2.2.2.2.1,m.2.2.2.2.2.2] n (6-n)).getD j 0=0)) (6-n) 0:=by
  have:n=0∨n=1∨n=2∨n=3∨n=4∨n=5∨n=6:=by omega
  rcases this with rfl|rfl|rfl|rfl|rfl|rfl|rfl<;>rfl
 grind
theorem vUs (kd a b c d e f:Int)(h:1≤kd∧kd≤14):sV 1000 (kd,a,b,c,d,e,f)=kb 1000 (kd,a,b,c,d,e,f):=by
 have:kd=1∨kd=2∨kd=3∨kd=4∨kd=5∨kd=6∨kd=7∨kd=8∨kd=9∨kd=10∨kd=11∨kd=12∨kd=13∨kd=14:=by omega
 rcases this with rfl|rfl|rfl|rfl|rfl|rfl|rfl|rfl|rfl|rfl|rfl|rfl|rfl|rfl
 ·exact mi _ 6 (by decide) rfl rfl
 ·exact mi _ 1 (by decide) rfl rfl
 ·exact mi _ 2 (by decide) rfl rfl
 ·exact mi _ 2 (by decide) rfl rfl
 ·exact mi _ 2 (by decide) rfl rfl
 ·exact mi _ 1 (by decide) rfl rfl
 ·exact mi _ 1 (by decide) rfl rfl
 ·exact mi _ 2 (by decide) rfl rfl
 ·exact mi _ 0 (by decide) rfl rfl
 ·exact mi _ 2 (by decide) rfl rfl
 ·exact mi _ 2 (by decide) rfl rfl
 ·exact mi _ 2 (by decide) rfl rfl
 ·exact mi _ 0 (by decide) rfl rfl
 ·exact mi _ 0 (by decide) rfl rfl
theorem Xd (r:qF)(s:zT)(c:fJ){X:Type}(bad:Int→X)(Q:X):∃e,uO 1000 r s.st c=some e∧
  (e=0→((10≤c.2.1∧c.2.1≤14∧c.1= -1)∨(1≤c.2.1∧c.2.1≤9∧0≤c.1∧c.1<r.1))∧(s.ov=true→c.2.1=9))∧
  ((BW 1000 r c).bind fun x0=>some (bif !x0 then bad 5 else bif s.ov then(bif !(decide (c.2.1=9)) then bad 7 else Q) else Q))=some (bif decide (e=0) then Q else bad e):=by
 obtain⟨e,he,hm⟩:=yZw (k:=1000) (by decide) r s c;refine⟨e,he,hm,?_⟩;have hA:PQ 1000 c.2.1=some (decide (c.2.1≥1)&&decide (c.2.1≤14)):=by
  unfold PQ;cases decide (c.2.1≥1)<;>rfl
 have hH:PR 1000 c.2.1=some (decide (c.2.1≥10)&&decide (c.2.1≤14)):=by
  unfold PR;cases decide (c.2.1≥10)<;>rfl
 by_cases hk:1≤c.2.1∧c.2.1≤14
 ·obtain⟨b,hb⟩:=O6 (k:=1000) (by decide) c.2;have bH:sV 1000 c.2=some b:=(vUs _ _ _ _ _ _ _ hk).trans hb;have eo:s.st.2.2.2.2.2.2.2.2.2.2=s.ov:=rfl;unfold uO at he;rw[Wk,Wl,hb,eo] at he;simp only[ae] at he;unfold BW;rw[hA,hH,bH];simp only[ae];clear hm hA hH hb bH;generalize decide (c.1≥0)=A at he⊢;generalize decide (c.2.1≥10)=B at he⊢;generalize decide (c.2.1≤14)=C at he⊢;generalize decide (c.2.1≥1)=D at he⊢;generalize decide (c.1= -1)=E at he⊢;generalize decide (c.1<r.1)=F at he⊢;generalize decide (c.2.1=9)=G at he⊢;generalize s.ov=o at he⊢;cases A<;>cases B<;>cases C<;>cases D<;>cases E<;>cases F<;>cases G<;>cases b<;>cases o<;>(cases he;rfl)
 ·have g:(decide (c.2.1≥1)&&decide (c.2.1≤14))=false:=by
   by_cases a:c.2.1≥1
   ·rw[aa a,ab (fun b=>hk ⟨a,b⟩)];rfl
   ·rw[ab a];rfl
  have e5:e=5:=by
   unfold uO at he;rw[Wk,Wl,g] at he;simp only[ae] at he;cases hd:decide (c.1≥0)<;>rw[hd] at he<;>(cases he;rfl)
  subst e5;unfold BW;rw[hA,g];rfl
structure Dlt (r:qF) (s:zT) (f:wM) (t:zT) (l:List qT):Prop where
 inv:qW r t
 ov:t.ov=s.ov
 few:l.length≤2
 kd:Kd l
 ids:∀x∈t.ids,x∈s.ids∨x=f.2.1
structure BX (r:qF) (s:zT) (f:wM) (t:zT) (o:List qT) (e:Int):Prop where
 inv:qW r t
 bad:e≠0→t=s∧o=[]
 ne:kU o
 few:o.length≤200
 ids:∀x∈t.ids,x∈s.ids∨x=f.2.1
theorem BX.none {r:qF}{s:zT}{f:wM}(h:qW r s)(e:Int):BX r s f s [] e:=⟨h,fun _=>⟨rfl,rfl⟩,fun x hx=>absurd hx List.not_mem_nil,Nat.zero_le _,fun _ h=>.inl h⟩
theorem kn (who a:Int)(kd:Int)(h:kd≠16∧kd≠23):Kd [gM who kd a]:=GU h
structure GV (r:qF) (s:zT) (who:Int) (f:wM) (t:zT) (l l':List qT) (paid:Int):Prop where
 dealt:Dlt r s f t l
 told:l=(if who= -1 then l' else gM who 15 0::l')
 paid:paid=if f.1=1 then f.2.1 else 0
 pos:f.1=1→0<f.2.1
theorem vKm {r:qF}{s:zT}{who:Int}{f:wM}(h:(iK r s who f).1=0):0<f.2.1:=by
 unfold iK at h;cases h1:decide (f.2.2.1≥0)&&decide (f.2.2.1≤r.1-1) with
 |false=>rw[h1] at h;cases h
 |true=>
 cases h2:decide (f.2.2.2.2.1≥1)&&decide (f.2.2.2.2.1≤3) with
 |false=>rw[h1,h2] at h;cases h
 |true=>
 rw[h1,h2] at h;simp only[aB,an] at h;by_cases hc:nf r s.t (fI who f)=0
 ·unfold nf at hc;cases hb:kS r.1 s.t (fI who f) with
  |false=>rw[hb] at hc;cases hc
  |true=>
   unfold kS at hb;simp only[bb,aX] at hb;have:(fI who f).1≥1:=hb.2.2.1;have e:(fI who f).1=f.2.1:=rfl;omega
 ·rw[ab hc] at h;exact absurd h hc
theorem vVv {r:qF}(hr:vT r){s:zT}(h:qW r s)(ho:s.ov=false){who:Int}(hw:0≤who∧who<r.1){f:wM}(hf:1≤f.1∧f.1≤8):
  ∃e d d',GW 1000 (dk r s who [gM who 15 0]) f=some (e,d)∧yf 1000 (rk r s who) f=some (e,d')∧(e=0→∃t l l' paid,d=dk r t who l∧d'=qN r t who l' paid∧GV r s who f t l l' paid):=by
 unfold GW yf;have sm:¬who= -1:=by omega
 have kn:=kn who 0 15 (by decide);by_cases h1:f.1=1
 ·rw[aa h1];obtain⟨d,e1,e2⟩:=yF4 (k:=1000) (by decide) hr h.waits who [gM who 15 0] f;obtain⟨d',q1,q2⟩:=vPz (k:=1000) (by decide) hr h.waits who f;simp only[ak];rw[e1,q1];exact⟨_,d,d',rfl,rfl,fun e=>⟨_,_,_,_,e2 e,q2 e,⟨h.queue ho (yL2 hr h e),rfl,by simp,kn,vAz e⟩,(if_neg sm).symm,(if_pos h1).symm,fun _=>vKm e⟩⟩
 rw[ab h1];by_cases hq:f.1=2∨f.1=3∨f.1=4
 ·obtain⟨d,e1,e2⟩:=yUj (k:=1000) (by decide) h.waits who (l:=[gM who 15 0]) (by simp) f;obtain⟨d',q1,q2⟩:=vX2 (k:=1000) (by decide) (r:=r) h.waits who f hq;have g:∃e d d',(xN 1000 (dk r s who [gM who 15 0]) f).bind (fun x=>some (x.1,x.2))=some (e,d)∧(BR 1000 (rk r s who) f.1 f.2).bind (fun x=>some (x.1,x.2))=some (e,d')∧(e=0→∃t l l' paid,d=dk r t who l∧d'=qN r t who l' paid∧GV r s who f t l l' paid):=by
   rw[e1,q1];refine⟨_,d,d',rfl,rfl,fun e=>⟨_,_,_,_,e2 e,q2 e,⟨h.queue ho (yXy h e),rfl,?_,kn.append yIc,fun _ h=>.inl h⟩,?_,(if_neg h1).symm,fun e'=>absurd e' h1⟩⟩
   ·have:=yEv (r:=r) (s:=s) (who:=who) (f:=f);rw[List.length_append];simp;omega
   ·rw[if_neg sm];rfl
  rcases hq with e|e|e
  ·rw[aa e];exact g
  ·rw[ab (show¬f.1=2 by omega),aa e];exact g
  ·rw[ab (show¬f.1=2 by omega),ab (show¬f.1=3 by omega),aa e];exact g
 rw[ab (show¬f.1=2 by omega),ab (show¬f.1=3 by omega),ab (show¬f.1=4 by omega)];by_cases hq:f.1=5∨f.1=6∨f.1=7
 ·obtain⟨d,e1,e2⟩:=yQu (k:=1000) (by decide) hr h.bk h.n hw [gM who 15 0] f;obtain⟨d',q1,q2⟩:=vQc (k:=1000) (by decide) hr h.bk h.n hw f;have g:∃e d d',(xO 1000 (dk r s who [gM who 15 0]) f).bind (fun x=>some (x.1,x.2))=some (e,d)∧(BS 1000 (rk r s who) f.1 f.2).bind (fun x=>some (x.1,x.2))=some (e,d')∧(e=0→∃t l l' paid,d=dk r t who l∧d'=qN r t who l' paid∧GV r s who f t l l' paid):=by
   rw[e1,q1];have bc:=yDc r s who f;exact⟨_,d,d',rfl,rfl,fun e=>⟨_,_,_,_,e2 e,q2 e,⟨yTl h hw e,bc.2.1,by simp,kn,by rw[qZ7];exact fun _ h=>.inl h⟩,(if_neg sm).symm,(if_neg h1).symm,fun e'=>absurd e' h1⟩⟩
  rcases hq with e|e|e
  ·rw[aa e];exact g
  ·rw[ab (show¬f.1=5 by omega),aa e];exact g
  ·rw[ab (show¬f.1=5 by omega),ab (show¬f.1=6 by omega),aa e];exact g
 rw[ab (show¬f.1=5 by omega),ab (show¬f.1=6 by omega),ab (show¬f.1=7 by omega),aa (show f.1=8 by omega)];obtain⟨d,e1,e2⟩:=yI1 (k:=1000) (by decide) hr h hw [gM who 15 0] f.2.1 f.2.2.1;obtain⟨d',q1,q2⟩:=vGs hr h hw f.2.1 f.2.2.1;simp only[ak,an];rw[e1,q1];have bc:=yO3 r s who f.2.1 f.2.2.1;exact⟨_,d,d',rfl,rfl,fun e=>⟨_,_,_,_,e2 e,q2 e,⟨yNn hr h hw e,bc.2.1,by simp,kn,by rw[yCa];exact fun _ h=>.inl h⟩,(if_neg sm).symm,(if_neg h1).symm,fun e'=>absurd e' h1⟩⟩
theorem vUi {r:qF}(hr:vT r){s:zT}(h:qW r s){f:wM}(hf:10≤f.1∧f.1≤13):
  ∃e d d',yg 1000 (eZ r s (-1)) f=some (e,d)∧yf 1000 (rk r s (-1)) f=some (e,d')∧(e=0→∃t l l' paid,d=dk r t (-1) l∧d'=qN r t (-1) l' paid∧GV r s (-1) f t l l' paid):=by
 unfold yg yf;have h1:¬f.1=1:=by omega
 rw[ab h1,ab (show¬f.1=2 by omega),ab (show¬f.1=3 by omega),ab (show¬f.1=4 by omega),ab (show¬f.1=5 by omega),ab (show¬f.1=6 by omega),ab (show¬f.1=7 by omega),ab (show¬f.1=8 by omega)];by_cases hq:f.1=10∨f.1=11
 ·obtain⟨d,e1,e2⟩:=yQr (k:=1000) (by decide) hr h (-1) f.1 f.2.1 f.2.2.1;obtain⟨d',q1,q2⟩:=vOv hr h (-1) f.1 f.2.1 f.2.2.1 hq;have g:∃e d d',(BL 1000 (eZ r s (-1)) f.1 f.2.1 f.2.2.1).bind (fun x=>some (x.1,x.2))=some (e,d)∧(Gw 1000 (rk r s (-1)) (decide (f.1=10)) f.2.1 f.2.2.1).bind (fun x=>some (x.1,x.2))=some (e,d')∧(e=0→∃t l l' paid,d=dk r t (-1) l∧d'=qN r t (-1) l' paid∧GV r s (-1) f t l l' paid):=by
   rw[e1,q1];refine⟨_,d,d',rfl,rfl,fun e=>?_⟩;obtain⟨g1,g2,g3,g4,g5⟩:=yO9 h e;exact⟨_,_,_,_,e2 e,q2 e,⟨g1,yE8,by simp,ng,by rw[g4];exact fun _ h=>.inl h⟩,rfl,(if_neg h1).symm,fun e'=>absurd e' h1⟩
  rcases hq with e|e
  ·have e1:decide (f.1=10)=true:=aa e;rw[e1] at g⊢;exact g
  ·have e1:decide (f.1=10)=false:=ab (by omega);rw[e1] at g⊢;rw[aa e];exact g
 rw[ab (show¬f.1=10 by omega),ab (show¬f.1=11 by omega)];by_cases hp:f.1=12
 ·rw[aa hp];obtain⟨d,e1,e2⟩:=yUl (k:=1000) (by decide) hr h (-1) f.2.1 f.2.2.1;obtain⟨d',q1,q2⟩:=vHl hr h (-1) f.2.1 f.2.2.1;simp only[ak,an];rw[e1,q1];have bc:=yXm r s f.2.1 f.2.2.1;exact⟨_,d,d',rfl,rfl,fun e=>⟨_,_,_,_,e2 e,q2 e,⟨yIk h e,bc.2.1,by simp,ng,by rw[ySn];exact fun _ h=>.inl h⟩,rfl,(if_neg h1).symm,fun e'=>absurd e' h1⟩⟩
 ·rw[ab hp];exact⟨_,_,_,rfl,rfl,fun _=>⟨s,[],[],0,rfl,rfl,⟨h,rfl,by simp,ng,fun _ h=>.inl h⟩,rfl,(if_neg h1).symm,fun e'=>absurd e' h1⟩⟩
def PT (who kd:Int)(x4:Int×WY):Option (qh×List qT×Int):=
  bif !(decide (who = (-1))) then ((wU 1000 15 []).bind fun x5=>
   (nX 1000 x4.2.2.2.2.2.2.1 x4.2.2.2.2.2.2.2.1 x4.2.2.2.2.2.2.2.2.1 x4.2.2.2.2.2.2.2.2.2.1 x4.2.2.2.2.2.2.2.2.2.2.1 x4.2.2.2.2.2.2.2.2.2.2.2.1 x4.2.2.2.2.2.2.2.2.2.2.2.2.1 x4.2.2.2.2.2.2.2.2.2.2.2.2.2.1 x4.2.2.2.2.2.2.2.2.2.2.2.2.2.2.1 x4.2.2.2.2.2.2.2.2.2.2.2.2.2.2.2.1 x4.2.2.2.2.2.2.2.2.2.2.2.2.2.2.2.2.1 (decide (kd=13))).bind fun x6=>
   bif zQ (1 + x4.2.2.2.2.2.2.2.2.2.2.2.2.2.2.2.2.2.2.1.length) 64 then (let y0:List qT:=([(who,x5)]++x4.2.2.2.2.2.2.2.2.2.2.2.2.2.2.2.2.2.2.1)
    bif zQ (y0.length + x6.2.2.2.2.2.2.2.2.2.2.2.length) 64 then (bif decide (x4.2.2.2.2.2.2.2.2.2.2.2.2.2.2.2.2.2.2.2 > 0) then ((mW 1000 x6.2.2.2.2.2.2.2.1 x4.2.2.2.2.2.2.2.2.2.2.2.2.2.2.2.2.2.2.2).bind fun x7=>
      bif decide (x7 ≥ 0) then ((wU 1000 19 [x4.2.2.2.2.2.2.2.2.2.2.2.2.2.2.2.2.2.2.2]).bind fun x8=>
       bif zQ ((y0 ++ x6.2.2.2.2.2.2.2.2.2.2.2).length + 1) 64 then (let y1:List qT:=((y0++x6.2.2.2.2.2.2.2.2.2.2.2)++[(who,x8)])
        some ((qV x6),y1,0))
       else none)
      else some ((qV x6),(y0++x6.2.2.2.2.2.2.2.2.2.2.2),0))
     else some ((qV x6),(y0++x6.2.2.2.2.2.2.2.2.2.2.2),0))
    else none)
   else none)
  else(nX 1000 x4.2.2.2.2.2.2.1 x4.2.2.2.2.2.2.2.1 x4.2.2.2.2.2.2.2.2.1 x4.2.2.2.2.2.2.2.2.2.1 x4.2.2.2.2.2.2.2.2.2.2.1 x4.2.2.2.2.2.2.2.2.2.2.2.1 x4.2.2.2.2.2.2.2.2.2.2.2.2.1 x4.2.2.2.2.2.2.2.2.2.2.2.2.2.1 x4.2.2.2.2.2.2.2.2.2.2.2.2.2.2.1 x4.2.2.2.2.2.2.2.2.2.2.2.2.2.2.2.1 x4.2.2.2.2.2.2.2.2.2.2.2.2.2.2.2.2.1 (decide (kd=13))).bind fun x9=>
  bif zQ x4.2.2.2.2.2.2.2.2.2.2.2.2.2.2.2.2.2.2.1.length 64 then (let y2:List qT:=x4.2.2.2.2.2.2.2.2.2.2.2.2.2.2.2.2.2.2.1
   bif zQ (y2.length + x9.2.2.2.2.2.2.2.2.2.2.2.length) 64 then (bif decide (x4.2.2.2.2.2.2.2.2.2.2.2.2.2.2.2.2.2.2.2 > 0) then ((mW 1000 x9.2.2.2.2.2.2.2.1 x4.2.2.2.2.2.2.2.2.2.2.2.2.2.2.2.2.2.2.2).bind fun cq=>
     bif decide (cq ≥ 0) then ((wU 1000 19 [x4.2.2.2.2.2.2.2.2.2.2.2.2.2.2.2.2.2.2.2]).bind fun gn=>
      bif zQ ((y2 ++ x9.2.2.2.2.2.2.2.2.2.2.2).length + 1) 64 then (let y3:List qT:=((y2++x9.2.2.2.2.2.2.2.2.2.2.2)++[(who,gn)])
       some ((qV x9),y3,0))
      else none)
     else some ((qV x9),(y2++x9.2.2.2.2.2.2.2.2.2.2.2),0))
    else some ((qV x9),(y2++x9.2.2.2.2.2.2.2.2.2.2.2),0))
   else none)
  else none
def BY (r:qF)(s:qh)(c:fJ):Option (qh×List qT×Int):=
  bif decide (c.2.1 = 9) then (bif zB c.1 s.2.1.length then ((uA 1000 s.2.2.2.2.2.2.2.1 c.1).bind fun x1=>
    (wU 1000 17 [(s.2.1.getD c.1.toNat (0,0,0)).1,(s.2.1.getD c.1.toNat (0,0,0)).2.1,(s.2.1.getD c.1.toNat (0,0,0)).2.2,(x1.length:Int),s.1]).bind fun x2=>
    some (s,[(c.1,x2)],0))
   else none)
  else bif decide (c.2.1 = 14) then ((GS 1000 r s).bind fun x3=>
   some (x3.1,x3.2,0))
  else(yf 1000 (jI r (wZ s (c.1,0))) c.2).bind fun x4=>
  bif !(decide (x4.1=0)) then some (s,[],x4.1)
  else PT c.1 c.2.1 x4
theorem vS9 (r:qF)(s:qh)(c:fJ):yh 1000 r s c=(BW 1000 r c).bind fun x0=>
  bif !x0 then some (s,[],5) else bif s.2.2.2.2.2.2.2.2.2.2 then(bif !(decide (c.2.1=9)) then some (s,[],7) else BY r s c) else BY r s c:=rfl
theorem yPs {r:qF}(hr:vT r){s t:zT}(ho:s.ov=false){who:Int}{l l':List qT}{f:wM}{paid:Int}(hB:GV r s who f t l l' paid):
    ∃ u o, ((pg 1000 t.t t.B.1 t.B.2.1 t.B.2.2.1 t.B.2.2.2 t.pr t.ho t.m t.ids t.to t.ov (decide (f.1=13))).bind fun x5=>
      bif zQ (l.length + x5.2.2.2.2.2.2.2.2.2.2.2.length) 64 then (let y0:List qT:=(l++x5.2.2.2.2.2.2.2.2.2.2.2)
       bif decide (f.1 = 1) then ((nS 1000 x5.2.2.2.2.2.2.2.1 f.2.1).bind fun x6=>
        bif decide (x6 ≥ 0) then ((uN 1000 (GX ((0:Int),dk r t who l) y0) 19 [f.2.1]).bind fun x7=>
         some ((qV x5),x7.2.2.2.2.2.2.2.2.2.2.2.2.2.2.2.2.2,(0:Int)))
        else some ((qV x5),y0,0))
       else some ((qV x5),y0,0))
      else none)=some (u.st,o,(0:Int))∧PT who f.1 (0,qN r t who l' paid)=some (u.st,o,(0:Int))∧qW r u∧kU o∧o.length≤200∧u.ids=t.ids:=by
  have h:=hB.dealt.inv;have uY:=hB.dealt.ov.trans ho;have hl:=hB.dealt.few;have hm:=h.waits.len;obtain⟨C,m',d,e1,KU,e3,e4,e5,e6,e7⟩:=yHd h.bk h.waits.dist h.waits.may (by omega) t.t t.pr t.ho t.ids t.to t.ov (decide (f.1=13));have hd:d.length≤40:=by
    have:=e6.length_eq;rw[List.length_append] at this;omega
  have lW:=e5.length_le;have pE:=BB d;have hu:=h.settled uY e3 e4 e5;have dM:l'.length≤2:=by
    have:=hB.told;by_cases hw:who= -1
    · rw[if_pos hw] at this;rw[←this];exact hl
    · rw[if_neg hw] at this;rw[this,List.length_cons] at hl;omega
  have key:PT who f.1 (0,qN r t who l' paid)=bif decide (paid>0) then(bif decide (j7 m' paid≥0) then some ((t.t,C.1,C.2.1,C.2.2.1,C.2.2.2,t.pr,t.ho,m',t.ids,t.to,t.ov),(l++yZ d)++[gM who 19 paid],(0:Int)) else some ((t.t,C.1,C.2.1,C.2.2.1,C.2.2.2,t.pr,t.ho,m',t.ids,t.to,t.ov),l++yZ d,0)) else some ((t.t,C.1,C.2.1,C.2.2.1,C.2.2.2,t.pr,t.ho,m',t.ids,t.to,t.ov),l++yZ d,0):=by
    have es:nX 1000 (qN r t who l' paid).2.2.2.2.2.1 (qN r t who l' paid).2.2.2.2.2.2.1 (qN r t who l' paid).2.2.2.2.2.2.2.1 (qN r t who l' paid).2.2.2.2.2.2.2.2.1 (qN r t who l' paid).2.2.2.2.2.2.2.2.2.1 (qN r t who l' paid).2.2.2.2.2.2.2.2.2.2.1 (qN r t who l' paid).2.2.2.2.2.2.2.2.2.2.2.1 (qN r t who l' paid).2.2.2.2.2.2.2.2.2.2.2.2.1 (qN r t who l' paid).2.2.2.2.2.2.2.2.2.2.2.2.2.1 (qN r t who l' paid).2.2.2.2.2.2.2.2.2.2.2.2.2.2.1 (qN r t who l' paid).2.2.2.2.2.2.2.2.2.2.2.2.2.2.2.1 (decide (f.1=13))=_:=KU;have eo:(qN r t who l' paid).2.2.2.2.2.2.2.2.2.2.2.2.2.2.2.2.2.1=l':=rfl;have ep:(qN r t who l' paid).2.2.2.2.2.2.2.2.2.2.2.2.2.2.2.2.2.2=paid:=rfl;have ef:mW 1000 m' paid=some (j7 m' paid):=Ou (by omega) (by omega) paid;unfold PT;simp only[es,eo,ep,Of0,GO,ae];have ht:=hB.told;by_cases hw:who= -1
    · rw[if_pos hw] at ht;rw[aa hw,qK (n:=l'.length) (by omega) (by omega),qK (n:=l'.length+(yZ d).length) (by omega) (by omega),qK (n:=(l'++yZ d).length+1) (by rw[List.length_append];omega) (by rw[List.length_append];omega),ht];simp only[aB,an,ak];rw[ef];rfl
    · rw[if_neg hw] at ht;have er:[((who,(15,0,0,0,0,0,0)):qT)]++l'=l:=ht.symm;rw[ab hw,er,qK (n:=1+l'.length) (by omega) (by omega),qK (n:=l.length+(yZ d).length) (by omega) (by omega),qK (n:=(l++yZ d).length+1) (by rw[List.length_append];omega) (by rw[List.length_append];omega)];simp only[bZ,ak];rw[ef];rfl
  rw[e1,key];simp only[ae];rw[qK (n:=l.length+(yZ d).length) (by omega) (by omega)];simp only[ak];have fin:∀(o:List qT) {x:Option (qh×List qT×Int)},o.length≤200→kU o→x=some (({t with B:=C,m:=m'}:zT).st,o,(0:Int))→∃u o',some (({t with B:=C,m:=m'}:zT).st,o,(0:Int))=some (u.st,o',(0:Int))∧x=some (u.st,o',(0:Int))∧qW r u∧kU o'∧o'.length≤200∧u.ids=t.ids:=fun o _ hl hk hx=>⟨{t with B:=C,m:=m'},o,rfl,hx,hu,hk,hl,rfl⟩
  have k1:Kd (l++yZ d):=hB.dealt.kd.append (K3 _);have b1:(l++yZ d).length≤199:=by rw[List.length_append];omega
  have b2:∀x:qT,(l++yZ d++[x]).length≤200:=fun x=>by rw[List.length_append];simp;rw[List.length_append] at b1;omega
  have hp:=hB.paid;by_cases h1:f.1=1
  · rw[if_pos h1] at hp;subst hp;rw[aa h1,aa (show f.2.1>0 from hB.pos h1)];simp only[ak];rw[Bo (by omega) (by omega)];simp only[ae];cases decide (j7 m' f.2.1≥0) with
    |false=>exact fin _ (by omega) k1.ne rfl
    |true=>
      simp only[ak];have ej:GX ((0:Int),dk r t who l) (l++yZ d)=dk r t who (l++yZ d):=rfl;rw[ej,Wg (by rw[List.length_append];omega)];exact fin _ (b2 _) (k1.append (kn _ _ _ (by decide))).ne rfl
  · rw[if_neg h1] at hp;subst hp;rw[ab h1,ab (show¬(0:Int)>0 by decide)];exact fin _ (by omega) k1.ne rfl
theorem vGb {r:qF}{s:zT}(h:qW r s){who:Int}(hw:0≤who∧who<r.1)(c:fJ)(hc:c.1=who)(h9:c.2.1=9):
  ∃o,BZ 1000 s.st who=some o∧BY r s.st c=some (s.st,o,0)∧o.length≤200∧kU o:=by
 have hm:=h.waits.len;have hn:=h.n;have hb:zB who s.B.1.length=true:=jS hw.1 (by omega);have e1:s.st.2.1=s.B.1:=rfl;have e2:s.st.2.2.2.2.2.2.2.1=s.m:=rfl;unfold BZ BY;rw[aa h9,hc,e1,e2,hb,V3 (by omega) (by unfold qQ;omega),Ol (by omega) (by unfold qQ;omega)];simp only[ak,ae,Of5];exact⟨_,rfl,rfl,by simp,(GU ⟨by simp,by simp⟩).ne⟩
theorem vMg {r:qF}(hr:vT r){s:zT}(h:qW r s)(c:fJ):
  ∃t o e,im 1000 r s.st c=some (t.st,o,e)∧yh 1000 r s.st c=some (t.st,o,e)∧BX r s c.2 t o e:=by
 obtain⟨e,he,hm,hb⟩:=Xd r s c (fun e=>(some (s.st,[],e):Option (qh×List qT×Int))) (BY r s.st c);have hR:yh 1000 r s.st c=bif decide (e=0) then BY r s.st c else some (s.st,[],e):=by
  rw[vS9];have eo:s.st.2.2.2.2.2.2.2.2.2.2=s.ov:=rfl;rw[eo];cases hx:BW 1000 r c with
  |none=>rw[hx] at hb;cases hb
  |some x=>
   rw[hx] at hb;simp only[ae,Option.some.injEq] at hb;exact hb
 unfold im;rw[he,hR];simp only[ae];by_cases h0:e=0
 ·obtain⟨hw,uY⟩:=hm h0;rw[aa h0];simp only[aB,an,ak];by_cases h9:c.2.1=9
  ·have oR:0≤c.1∧c.1<r.1:=by omega
   obtain⟨o,ho,lJ,hol,fB⟩:=vGb h oR c rfl h9;rw[aa h9,lJ];simp only[ak];rw[ho];exact⟨s,o,0,rfl,rfl,h,fun e=>absurd rfl e,fB,hol,fun _ h=>.inl h⟩
  ·have ho:s.ov=false:=by
    cases g:s.ov with
    |false=>rfl
    |true=>exact absurd (uY g) h9
   have fin:∀{t:zT} {x y:Option (qh×List qT×Int)},(∀x∈t.ids,x∈s.ids∨x=c.2.2.1)→(∃u o,x=some (u.st,o,(0:Int))∧y=some (u.st,o,(0:Int))∧qW r u∧kU o∧o.length≤200∧u.ids=t.ids)→∃t o e,x=some (t.st,o,e)∧y=some (t.st,o,e)∧BX r s c.2 t o e:=by
    intro t x y hi ⟨u,o,g1,Bt,g2,g3,g4,g5⟩;exact⟨u,o,0,g1,Bt,g2,fun e=>absurd rfl e,g3,g4,by rw[g5];exact hi⟩
   unfold BY;rw[ab h9];simp only[an];by_cases hp:c.1= -1
   ·rw[aa hp];have hf:10≤c.2.1∧c.2.1≤14:=by omega
    have ed:jI r (wZ s.st c.1)=eZ r s (-1):=by rw[hp];rfl
    have er:jI r (wZ s.st (c.1,0))=rk r s (-1):=by rw[hp];rfl
    simp only[aB,an];rw[ed,er];by_cases B1:c.2.1=14
    ·have g0:yg 1000 (eZ r s (-1)) c.2=some (0,dk r s (-1) []):=by
      unfold yg;rw[B1];rfl
     rw[g0];simp only[ae];rw[aa B1];have bj:=h.tk;have C8:=hr.cl;have Kq:=hr.pe;obtain⟨x,x1,x2⟩:=vXn r h.bk h.waits.dist h.waits.may (by have:=h.waits.len;omega) ⟨by omega,by omega⟩ (by omega) ho;obtain⟨C,m',ov,o,y1,y2,_,_,y3,y4⟩:=yIi (k:=1000) (by decide) hr h ho;rw[x1] at y1;have y1:=Option.some.inj y1;subst y1;refine⟨_,o,0,(congrArg (fun z=>Option.bind z _) x1).trans rfl,(congrArg (fun z=>Option.bind z _) x2).trans rfl,y2,fun e=>absurd rfl e,?_,by omega,fun _ h=>.inl h⟩;rcases y4 with⟨_,_,rfl,_⟩|⟨l,d,n,rfl,_,_,_⟩
     ·exact(PO (.inr rfl) _).ne.append (yJ2 _ _)
     ·exact((PO (.inl rfl) _).append (K3 _)).ne
    ·obtain⟨e,d,d',g1,Bt,g2⟩:=vUi hr h (f:=c.2) (by omega);rw[g1,ab B1,Bt];simp only[ae,an];by_cases hz:e=0
     ·obtain⟨t,l,l',paid,rfl,rfl,hd⟩:=g2 hz;rw[aa hz,hp];simp only[aB,an];subst hz;exact fin hd.dealt.ids (yPs hr ho hd)
     ·rw[ab hz];exact⟨s,[],e,rfl,rfl,BX.none h e⟩
   ·rw[ab hp,ab (show¬c.2.1=14 by omega)];have hf:1≤c.2.1∧c.2.1≤8:=by omega
    have oR:0≤c.1∧c.1<r.1:=by omega
    have ed:K4 1000 (jI r (wZ s.st c.1)) 15 []=some (dk r s c.1 [gM c.1 15 0]):=rfl;have er:jI r (wZ s.st (c.1,0))=rk r s c.1:=rfl;obtain⟨e,d,d',g1,Bt,g2⟩:=vVv hr h ho oR (f:=c.2) hf;simp only[bZ,ak,an];rw[ed,er,Bt];simp only[ae];rw[g1];simp only[ae];by_cases hz:e=0
    ·obtain⟨t,l,l',paid,rfl,rfl,hd⟩:=g2 hz;rw[aa hz];simp only[aB,an];subst hz;exact fin hd.dealt.ids (yPs hr ho hd)
    ·rw[ab hz];exact⟨s,[],e,rfl,rfl,BX.none h e⟩
 ·rw[ab h0];exact⟨s,[],e,rfl,rfl,BX.none h e⟩
theorem vOj (m:wM):sV 1000 m=kb 1000 m:=by
 have hm:=A5 m.1;by_cases h:yD m.1<0
 ·obtain⟨b,h1,h2⟩:=vW1 (k:=1000) (by decide) m;obtain⟨c,h3⟩:=O6 (k:=1000) (by decide) m;have hb:b=false:=by
   cases b with
   |false=>rfl
   |true=>have:=h2 rfl;omega
  have hc:c=false:=by
   cases c with
   |false=>rfl
   |true=>have:=(O8 h3).1;omega
  rw[h1,h3,hb,hc]
 ·obtain⟨n,hn⟩:∃n:Nat,yD m.1=n:=⟨(yD m.1).toNat,by omega⟩;exact mi m n (by omega) (by rw[I1,hn]) (by rw[UB,hn])
theorem vYw {f:wM}(hi:kb 1000 f=some true)(hf:iH (yB f)){n:Nat}(hn:yD f.1=n):lv ([IntKind.wrap .u8 f.1]++yF ((yB f).take n))=(f,0):=by
 obtain⟨h0,hz⟩:=O8 hi;have hm:=A5 f.1;have xg:0≤f.1∧f.1<24:=by
  unfold yD at h0;split at h0
  ·assumption
  ·omega
 have xP:((yB f).take n).length=n:=by rw[List.length_take];show min n 6=n;omega
 have bP:iH ((yB f).take n):=fun x hx=>hf x (List.mem_of_mem_take hx)
 have Wo:IntKind.wrap .u8 f.1=f.1:=by rw[I4];omega
 have Wp:zA f.1=f.1:=zO (by omega) (by omega);unfold lv;have e1:List.drop 1 ([IntKind.wrap .u8 f.1]++yF ((yB f).take n))=yF ((yB f).take n):=rfl;have e2:([IntKind.wrap .u8 f.1]++yF ((yB f).take n)).getD 0 0=f.1:=Wo;rw[if_neg (by simp),e1,e2,Wp,UF bP];simp only[];rw[if_neg (fun h=>h.elim (fun e=>e rfl) fun e=>e (by rw[xP,hn]))];have g:∀j,j<6→((yB f).take n).getD j 0=(yB f).getD j 0:=fun j hj=>by
  by_cases h:j<n
  ·rw[List.getD_eq_getElem?_getD,List.getD_eq_getElem?_getD,List.getElem?_take_of_lt h]
  ·rw[hz j (by omega) hj,List.getD_eq_getElem?_getD,List.getElem?_eq_none (by omega)];rfl
 rw[g 0 (by omega),g 1 (by omega),g 2 (by omega),g 3 (by omega),g 4 (by omega),g 5 (by omega)];rfl
theorem vH5 {f:wM}(hf:iH (yB f)):sY 1000 f=some (.inl ())∨∃b,sY 1000 f=some (.inr b)∧0<b.length∧b.length≤49∧lv b=(f,0):=by
 unfold sY;rw[vOj];obtain⟨b,hb⟩:=O6 (k:=1000) (by decide) f;rw[hb];cases b with
 |false=>exact .inl rfl
 |true=>
  right;have hm:=A5 f.1;have h0:=(O8 hb).1;obtain⟨n,hn⟩:∃n:Nat,yD f.1=n:=⟨(yD f.1).toNat,by omega⟩;have xP:((yB f).take n).length=n:=by rw[List.length_take];show min n 6=n;omega
  have pT:=mS ((yB f).take n);have dW:qS [f.2.1,f.2.2.1,f.2.2.2.1,f.2.2.2.2.1,f.2.2.2.2.2.1,f.2.2.2.2.2.2] 0 (n-0)=(yB f).take n:=by
   unfold qS;show List.take (n-0) ((yB f).drop 0)=_;rw[List.drop_zero,Nat.sub_zero]
  refine⟨[IntKind.wrap .u8 f.1]++yF ((yB f).take n),?_,by simp,by rw[List.length_append,pT,xP];show 1+8*n≤49;omega,vYw hb hf hn⟩;simp only[ae,aB,an];rw[UB,hn];simp only[ae];rw[aa (show(0:Int)≤(n:Int) by omega),aa (show(n:Int)≤6 by omega),au,dW,Wt (by decide) (by omega) (by omega)];simp only[Bool.and_self,ak,ae];rw[qK (by omega) (by omega)];rfl
end Go.Ab.Gi
