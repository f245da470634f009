/- Plain proofs, part 1. -/
import Derived.Test.YthpehdcmpldloaaGreatGiQA
set_option linter.unusedVariables false
set_option linter.unusedSimpArgs false
set_option maxRecDepth 100000
namespace Go.Ab.Gi
open Go.Ab
structure jR (B C:BT):Prop where
 len:C.1.length=B.1.length
 sum:qJ (fun i=>(C.1.getD i ad).1) B.1.length=qJ (fun i=>(B.1.getD i ad).1) B.1.length
 cred:∀i,i<B.1.length→(C.1.getD i ad).2.1=(B.1.getD i ad).2.1
 bil:C.2.1=B.2.1
 mul:C.2.2.1=B.2.2.1
 fell:∀i,i<B.1.length→(C.1.getD i ad).1<(B.1.getD i ad).1→0≤(C.1.getD i ad).1+(C.1.getD i ad).2.1
def jR.refl B:jR B B:=⟨rfl,rfl,by simp,rfl,rfl,by simp⟩
def jR.trans {B C D}(h:jR B C)(g:jR C D):jR B D:=
 ⟨g.len.trans h.len,by have:=g.sum;rw[h.len] at this;exact this.trans h.sum,fun i hi=>(g.cred i (by rw[h.len];exact hi)).trans (h.cred i hi),g.bil.trans h.bil,g.mul.trans h.mul,fun i hi=>by
  have h1:=h.fell i hi;have h2:=g.fell i (by rw[h.len];exact hi);have h3:=g.cred i (by rw[h.len];exact hi);omega⟩
def yQz i:∀{l},(∀p∈l,0≤p.2.2.2.1)→0≤zP (gB i) l+(zP (gN i) l+zP (gR i) l)
 |[],_=>Int.le_refl _
 |p::l,h=>by
  have h1:=yQz i fun q hq=>h q (List.mem_cons_of_mem _ hq)
  have h2:=h p (by simp);have h3:0≤gB i p+(gN i p+gR i p):=by
   unfold gB gN gR;omega
  show 0≤gB i p+zP (gB i) l+(gN i p+zP (gN i) l+(gR i p+zP (gR i) l));omega
def vQn {a a' b p p' m l}(x:uz a.length a p l a' p')(hf:xB a b m p l=true)(hl:∀q∈l,yJ a.length q){i}(hi:i<a.length):
  (a'.getD i ad).1<(a.getD i ad).1→0≤(a'.getD i ad).1+(a'.getD i ad).2.1:=by
 have h1:=yQz i (l:=l) fun q hq=>by have:=(hl q hq).a1;omega
 unfold xB at hf;rw[bb] at hf;have h2:=gE.1 hf.2 i hi;unfold gY at h2;rw[x.acct i hi];grind
def yRf {B}(h:qP B){l}(hf:xH B l=true){r}(hp:sR B.1 B.2.1 B.2.2.1 B.2.2.2 l r):jR B (r.1,r.2.1,r.2.2.1,r.2.2.2.1):=by
 have hs:=(PK h hp).1;by_cases c:wJ B.1.length l
 ·obtain⟨a',p',x,e⟩:=hp.1 c;cases hi:np a' B.2.1 B.2.2.1 p' with
  |false=>rw[hi] at e;subst e;exact jR.refl B
  |true=>
   rw[hi] at e;subst e;exact⟨x.al,hs,fun i bJ=>by show(a'.getD i ad).2.1=_;rw[x.acct i bJ],rfl,rfl,fun i bJ=>vQn x hf c.1 bJ⟩
 ·rw[hp.2 c];exact jR.refl B
def yDs {k}(hk:100<k){B C}(h:qP B){l}(hl:l.length≤80)(hg:iC k B l=some C):jR B C:=by
 obtain⟨r,h1,h3⟩:=O9 hk h hl;unfold iC at hg;rw[h1] at hg;simp only at hg;cases hc:decide (r.2.2.2.2=0)&&xH B l with
 |false=>simp_all
 |true=>
  rw[hc] at hg;simp  at hg;subst hg;rw[bb] at hc;exact yRf h hc.2 h3
def gZ.keptC {k}(hk:100<k){t B C l done m}(h:gZ k t B l done C m)(hb:qP B):jR B C:=by
 induction h with
 |stop _=>exact jR.refl _
 |@step B C D l m done p h h' ih=>
  have hg:=(BP h).2;exact(yDs hk hb (by simp) hg).trans (ih (sX hk hb (by simp) hg).1)
def jZ.keptC {k}(hk:100<k){t B C l done m}(h:jZ k t B l done C m)(hb:qP B):jR B C:=by
 induction h with
 |stop _=>exact jR.refl _
 |@step B C D l m done p q h h' ih=>
  have hg:=(PQ h).2.2.2;exact(yDs hk hb (by simp) hg).trans (ih (sX hk hb (by simp) hg).1)
def gZ.bk {k}(hk:100<k){t B C l done m}(h:gZ k t B l done C m)(hb:qP B):qP C:=by
 induction h with
 |stop _=>exact hb
 |step h h' ih=>exact ih (sX hk hb (by simp) (BP h).2).1
def jZ.bk {k}(hk:100<k){t B C l done m}(h:jZ k t B l done C m)(hb:qP B):qP C:=by
 induction h with
 |stop _=>exact hb
 |step h h' ih=>exact ih (sX hk hb (by simp) (PQ h).2.2.2).1
def mr.keptC {k}(hk:100<k){t B C l done m}(h:mr k t B l done C m)(hb:qP B):jR B C:=by
 induction h with
 |stop h1 _=>exact h1.keptC hk hb
 |step h1 h2 ne h' ih=>
  have b1:=h1.bk hk hb;exact((h1.keptC hk hb).trans (h2.keptC hk b1)).trans (ih (h2.bk hk b1))
def vSw {k}(hk:200≤k){B}(hb:qP B){l:List zH}(hl:∀q∈l,yJ B.1.length q)(bS:l.length≤64) t {C:BT}{m done:List zH}(hr:BU k B.1 B.2.1 B.2.2.1 B.2.2.2 l t=some (C.1,C.2.1,C.2.2.1,C.2.2.2,m,done)):jR B C:=by
 obtain⟨f,n,h,hn⟩:=XZ hb hl bS t;have tP:=xM l t;have cO:=xK (yZ l t) f;have PY:=cO.length_le;obtain⟨r,h1,h3⟩:=O9 (k:=k) (by omega) hb (l:=vP (yZ l t) f) (by omega);have g1:=Yc (k:=k) (by omega) hb hl bS t (by omega) h h1;unfold Gf at g1;rw[g1] at hr;cases c:decide (r.2.2.2.2=0) with
 |false=>
  rw[c] at hr;simp  at hr;obtain⟨e1,e2,e3,e4,_⟩:=hr;have:B=C:=by grind
  rw[←this];exact jR.refl B
 |true=>
  have:(r.1,r.2.1,r.2.2.1,r.2.2.2.1)=C:=by grind
  rw[←this];refine yRf hb ?_ h3;have hw:=K1 (K2 (t:=t) hl) (by omega) f;have hs:=vT4.1 h.final;unfold xH xB;rw[Bx.2 hw.1,aa hw.2];simp;rw[gE];intro j hj;have:=hs j hj;unfold uM at this;simp_all
def Yj {C D:BT}{m n d e:List zH}(h:(C.1,C.2.1,C.2.2.1,C.2.2.2,m,d)=(D.1,D.2.1,D.2.2.1,D.2.2.2,n,e)):C=D∧m=n∧d=e:=by
 grind
def Yk {k}(hk:200≤k){B}(hb:qP B){l}(hd:qM l)(hl:∀q∈l,yJ B.1.length q)(bS:l.length≤64) t all {X:BT}{mx dx:List zH}
  (hr:uN k B.1 B.2.1 B.2.2.1 B.2.2.2 l t all=some (X.1,X.2.1,X.2.2.1,X.2.2.2,mx,dx)):jR B X:=by
 obtain⟨C,m,d,f1,f2,f3,f4,f5⟩:=Gr hk hb hd (by omega) t;have q1:=f2.keptC (by omega) hb;have p1:=f2.perm hd;have l1:=p1.length_eq;rw[List.length_append] at l1;unfold uN at hr;rw[f1] at hr;simp only[ae] at hr;cases all with
 |false=>
  grind
 |true=>
  have hm:qM m:=List.Pairwise.sublist f5 hd;have NQ:∀q∈m,yJ C.1.length q:=fun q hq=>by grind
  obtain⟨D,n,x,g1,g2,g3,g4,g5,g6⟩:=Ye hk f3 hm NQ (by omega) t;have q2:=vSw hk f3 NQ (by omega) t g1;have l2:=g5.length_eq;rw[List.length_append] at l2;rw[g1] at hr;simp only[ae] at hr;cases x with
  |nil=>
   grind
  |cons p x=>
   have e1:decide ((((p::x).length:Nat):Int)=0)=false:=by grind
   rw[e1] at hr;simp only[ak] at hr;have hn:qM n:=List.Pairwise.sublist g4 hm;obtain⟨E,o,y,k1,k2,k3,k4,k5⟩:=Gr hk g2 hn (by omega) t;have q3:=k2.keptC (by omega) g2;have p3:=k2.perm hn;have l3:=p3.length_eq;rw[List.length_append] at l3;have r1:zL (d.length+(p::x).length) 56=true:=by grind
   have r2:zL ((d++(p::x)).length+y.length) 56=true:=by grind
   rw[k1] at hr;simp only[ae,r1,r2,ag] at hr;have sf:some (E.1,E.2.1,E.2.2.1,E.2.2.2,o,d++(p::x)++y)=some (X.1,X.2.1,X.2.2.1,X.2.2.2,mx,dx):=hr;rw[←(Yj (Option.some.inj sf)).1];exact(q1.trans q2).trans q3
def Yl {k}(hk:200≤k){B}(hb:qP B){m}(hd:qM m)(hm:∀q∈m,yJ B.1.length q)(bS:m.length≤64) t pr ho ids to ov all:
  ∃(C:BT) (m' d:List zH),pC k t B.1 B.2.1 B.2.2.1 B.2.2.2 pr ho m ids to ov all=some (t,C.1,C.2.1,C.2.2.1,C.2.2.2,pr,ho,m',ids,to,ov,vC d)∧
   uN k B.1 B.2.1 B.2.2.1 B.2.2.2 m t all=some (C.1,C.2.1,C.2.2.1,C.2.2.2,m',d)∧qP C∧jR B C∧List.Sublist m' m∧List.Perm (d++m') m∧eu k C (vT m' t)=none:=by
 obtain⟨C,m',d,f1,f2,f3,f4,f5,f6,f7⟩:=yX1 hk hb hd hm bS t all;have hlen:=f5.length_eq;rw[List.length_append] at hlen;refine⟨C,m',d,?_,f1,f2,Yk hk hb hd hm bS t all f1,f4,f5,f6⟩;unfold pC;rw[f1];simp;rw[Yg (by omega) (by omega)];rfl
def vYp {k}(hk:200≤k){B}(hb:qP B){m}(hd:qM m)(hm:∀q∈m,yJ B.1.length q)(bS:m.length≤64) pa (sa:List (Int×Int)) cu cl pe t (ht:0≤t∧t<1099511627776)(Lb:pe≠0) pr ho ids to:
  ∃(C:BT) (m':List zH) (ov:Bool) (o:List qY),uO k pa sa cu cl pe t B.1 B.2.1 B.2.2.1 B.2.2.2 pr ho m ids to false=some (t+1,C.1,C.2.1,C.2.2.1,C.2.2.2,pr,ho,m',ids,to,ov,o)∧vSd t cl B C m m' ov o∧jR B C∧(ov=false→eu k C (vT m' (t+1))=none)∧
   ((ov=true∧m'=[]∧o=m.map (wT 22)++iT B B.1.length∧C=B)∨∃l d n,o=l.map (wT 21)++vC d∧List.Perm (l++n) m∧List.Perm (d++m') n∧ov=false):=by
 have gG:=hb.n6;have w:zA (t+1)=t+1:=zO (by omega) (by omega);unfold uO BY;simp only[w,ak,ae];cases hc:decide (t+1=cl) with
 |true=>
  simp only[ag];rw[yLh gG hk (by omega)];simp only[ae];refine⟨B,[],true,_,rfl,⟨hb,rfl,List.nil_sublist m,hc.symm,fun _=>rfl,(fun e=>by cases e),(fun p hp=>by cases hp),fun p hp _=>?_,fun q hq=>?_,?_⟩,jR.refl B,(fun e=>by cases e),.inl ⟨rfl,rfl,rfl,rfl⟩⟩
  ·rw[BX,(Gu (.inr rfl) hd).1 hp,yNf]
  ·rw[BX,(Gu (.inr rfl) hd).2 hq,yNf]
  ·rw[List.length_append,List.length_map];unfold iT;rw[List.length_map,List.length_range];simp;omega
 |false=>
  simp only[ak];rw[vCq hk (by omega)];simp only[ae];have hs:∃x,GB k pa sa cu cl pe (t+1)=some x:=by
   unfold GB;cases decide (t+1>0) with
   |false=>exact⟨_,rfl⟩
   |true=>
    cases decide (t+1<cl) with
    |false=>exact⟨_,rfl⟩
    |true=>
     have:decide (pe=0)=false:=ab Lb;rw[this];exact⟨_,rfl⟩
  obtain⟨x,hx⟩:=hs;rw[hx];simp only[ae];have cO:List.Sublist (m.filter (fun p=> !vI (t+1) p)) m:=List.filter_sublist;have eX:=cO.length_le;have pn:qM (m.filter (fun p=> !vI (t+1) p)):=List.Pairwise.sublist cO hd;obtain⟨C,m',d,f1,f2,f3,f4,f5,f6,f7⟩:=yX1 hk hb pn (fun q hq=>hm q (cO.subset hq)) (by omega) (t+1) x;have hlen:=f5.length_eq;rw[List.length_append] at hlen;have hSt:pC k (t+1) B.1 B.2.1 B.2.2.1 B.2.2.2 pr ho (m.filter (fun p=> !vI (t+1) p)) ids to false x=some (t+1,C.1,C.2.1,C.2.2.1,C.2.2.2,pr,ho,m',ids,to,false,vC d):=by
   unfold pC;rw[f1];simp only[ae];rw[Yg (by omega) (by omega)];rfl
  rw[hSt];have ad7:(m.filter (vI (t+1))).length+(m.filter (fun p=> !vI (t+1) p)).length=m.length:=by
   rw[←List.countP_eq_length_filter,←List.countP_eq_length_filter];have:=List.length_eq_countP_add_countP (vI (t+1)) (l:=m);simp only[Bool.not_eq_true,Bool.decide_eq_false] at this;exact this.symm
  have pU:=BW d;have hr:zL (((m.filter (vI (t+1))).map (wT 21)).length+(vC d).length) 64=true:=qI (by rw[List.length_map];omega) (by rw[List.length_map];omega);simp only[ae,hr,ag];have hdd:qM (d++m'):=pn.perm f5;have uP:qM d:=(List.pairwise_append.1 hdd).1;have hdm:∀p∈d,p∈m.filter (fun p=> !vI (t+1) p):=by grind
  have nv:∀p∈d,yJ B.1.length p:=fun p hp=>hm p (cO.subset (hdm p hp))
  have uQ:qM (m.filter (vI (t+1))):=hd.filter _;have xR:∀p∈m,vI (t+1) p=false→∀q∈m.filter (vI (t+1)),q.1≠p.1:=by
   intro p hp hl q hq e;have h1:=List.mem_filter.1 hq;have:=hd.eq_of h1.1 hp e;subst this;rw[hl] at h1;exact absurd h1.2 (by simp)
  refine⟨C,m',false,_,rfl,⟨f2,f3,f4.trans cO,hc.symm,(fun e=>by cases e),fun _ p hp=>?_,fun p hp=>?_,fun p hp hn=>?_,fun q hq=>?_,?_⟩,Yk hk hb pn (fun q hq=>hm q (cO.subset hq)) (by omega) (t+1) x f1,(fun _=>f6),.inr ⟨m.filter (vI (t+1)),d,m.filter (fun p=> !vI (t+1) p),rfl,List.filter_append_perm _ _,f5,rfl⟩⟩
  ·have:=(List.mem_filter.1 (f4.subset hp)).2
   simpa using this
  ·have h1:=List.mem_filter.1 (f4.subset hp);have hl:vI (t+1) p=false:=by simpa using h1.2
   rw[BX,(Gu (.inl rfl) uQ).2 (xR p h1.1 hl),(P3 uP nv).2 (hdd.not_in (l:=d) hp)]
  ·cases hl:vI (t+1) p with
   |true=>
    have h1:p∈m.filter (vI (t+1)):=List.mem_filter.2 ⟨hp,hl⟩;have h2:∀q∈d,q.1≠p.1:=by
     grind
    rw[BX,(Gu (.inl rfl) uQ).1 h1,(P3 uP nv).2 h2]
   |false=>
    have h1:p∈m.filter (fun p=> !vI (t+1) p):=List.mem_filter.2 ⟨hp,by rw[hl];rfl⟩;have h2:p∈d:=by
     rcases List.mem_append.1 (f5.symm.subset h1) with h|h
     ·exact h
     ·exact absurd h hn
    rw[BX,(Gu (.inl rfl) uQ).2 (xR p hp hl),(P3 uP nv).1 h2]
  ·rw[BX,(Gu (.inl rfl) uQ).2 (by grind),(P3 uP nv).2 (fun p hp=>hq p (cO.subset (hdm p hp)))]
  ·rw[List.length_append,List.length_map];simp;omega
abbrev jL:=EQ
abbrev qG:=Int×List px×Int×Int×Int
abbrev jD:=Int×Int×Int×Int×Int×Int×Int
abbrev vV2:=Int×List px×Int×Int×Int×Int×List yA×jL×AC×jL×AC×jL×List zH×AC×Int×Bool×Int×List qY
structure zU where
 t:Int
 B:BT
 pr:AC
 ho:jL
 m:List zH
 ids:AC
 to:Int
 ov:Bool
abbrev rf:=Int×List yA×jL×AC×jL×AC×jL×List zH×AC×Int×Bool
def zU.st (s:zU):rf:=(s.t,s.B.1,s.B.2.1,s.B.2.2.1,s.B.2.2.2,s.pr,s.ho,s.m,s.ids,s.to,s.ov)
def dk (r:qG)(s:zU)(who:Int)(l:List qY):vV2:=(r.1,r.2.1,r.2.2.1,r.2.2.2.1,r.2.2.2.2,s.t,s.B.1,s.B.2.1,s.B.2.2.1,s.B.2.2.2,s.pr,s.ho,s.m,s.ids,s.to,s.ov,who,l)
structure vN (r:qG):Prop where
 pa:1≤r.1∧r.1≤6
 n3:r.2.1.length≤3
 price:∀i,i<r.2.1.length→0≤(r.2.1.getD i uI).1∧(r.2.1.getD i uI).1≤1048576
 cut:∀i,i<r.2.1.length→0≤(r.2.1.getD i uI).2∧(r.2.1.getD i uI).2≤10000
 cu:0≤r.2.2.1∧r.2.2.1≤r.2.2.2.1
 cl:1≤r.2.2.2.1∧r.2.2.2.1≤1048576
 pe:1≤r.2.2.2.2∧r.2.2.2.2≤1048576
def pD (m:List zH):Prop:=List.Pairwise (fun p q=>jO p q=true) m
structure kh (n:Nat) (m:List zH) (ids:AC):Prop where
 dist:qM m
 len:m.length≤40
 sort:pD m
 may:∀p∈m,yJ n p
 time:∀p∈m,0≤p.2.2.2.2.2.1∧p.2.2.2.2.2.1≤p.2.2.2.2.2.2∧p.2.2.2.2.2.2≤1048576
 were:∀p∈m,p.1∈ids
 asc:uG ids
 pos:∀x∈ids,1≤x
 idl:ids.length≤200
structure qX (r:qG) (s:zU):Prop where
 tk:0≤s.t∧s.t≤r.2.2.2.1
 bk:qP s.B
 n:(s.B.1.length:Int)=r.1
 hol:s.ho.length=s.B.1.length
 laid:∀i,i<s.B.1.length→kS r.2.1 s.pr (s.ho.getD i [])
 cred:∀i,i<s.B.1.length→(s.B.1.getD i ad).2.1=mo r.2.1 s.pr (s.ho.getD i [])
 most:∀i,i<s.B.1.length→(s.B.1.getD i ad).2.1≤1152921504606846976
 waits:kh s.B.1.length s.m s.ids
 sum:qJ (fun i=>(s.B.1.getD i ad).1) s.B.1.length=s.to
 tot:0≤s.to∧s.to≤1152921504606846976
 over:s.ov=decide (s.t=r.2.2.2.1)
 none:s.ov=true→s.m=[]
def ny k a b c:vJ k a b c=some (decide (a≥b)&&decide (a≤c)):=by
 unfold vJ;grind
def nT {α:Type} c (a b:α):(bif c then some a else some b)=some (bif c then a else b):=by grind
def kV (pa t:Int)(p:zH):Bool:=
 decide (p.2.1≥0)&&decide (p.2.1<pa)&&(decide (p.2.2.1≥0)&&decide (p.2.2.1<pa)&&(decide (p.1≥1)&&(decide (p.2.2.2.1≥1)&&(decide (p.2.2.2.1≤1099511627776)&&(decide (p.2.2.2.2.1≥1)&&(!decide (p.2.1=p.2.2.1)&&(decide (p.2.2.2.2.1≤3)&&(decide (p.2.2.2.2.2.1≥0)&&(decide (p.2.2.2.2.2.1≤p.2.2.2.2.2.2)&&(decide (p.2.2.2.2.2.2≥t)&&decide (p.2.2.2.2.2.2≤1048576)))))))))))
def vRv k (r:qG) w:Lc k r w=some (decide (w≥0)&&decide (w<r.1)):=by
 unfold Lc;grind
def vNk k (r:qG) t (p:zH):P5 k r t p=some (kV r.1 t p):=by
 unfold P5 kV;simp[vRv,nT]
def rj (cu cl t c:Int):Int:=bif decide (t≥cl) then 7 else bif decide (c=3)&&decide (t≥cu) then 7 else 0
def vE8 k (r:qG) t c:BZ k r t c=some (rj r.2.2.1 r.2.2.2.1 t c):=by
 unfold BZ rj;grind
def nz (r:qG)(t:Int)(p:zH):Int:=bif !kV r.1 t p then 1 else rj r.2.2.1 r.2.2.2.1 t p.2.2.2.2.1
def Ym k (r:qG) t (p:zH):GC k r t p=some (nz r t p):=by
 unfold GC nz;rw[vNk];simp[vE8];grind
def gg (who:Int)(f:jD):zH:=(f.2.1,who,f.2.2)
def iU (r:qG)(s:zU)(who:Int)(f:jD):Int×List zH×AC:=
 bif !(decide (f.2.2.1≥0)&&decide (f.2.2.1≤r.1-1)) then(1,s.m,s.ids)
 else bif !(decide (f.2.2.2.2.1≥1)&&decide (f.2.2.2.2.1≤3)) then(1,s.m,s.ids)
 else bif !decide (nz r s.t (gg who f)=0) then(nz r s.t (gg who f),s.m,s.ids)
 else bif decide (f.2.1∈s.ids) then(6,s.m,s.ids)
 else bif decide (200≤s.ids.length) then(3,s.m,s.ids)
 else bif (wB s.m f.2.1).isSome then(6,s.m,s.ids)
 else bif decide (40≤s.m.length) then(3,s.m,s.ids)
 else(0,pv s.m (gg who f),qw s.ids f.2.1)
def yM2 {k}(hk:1000≤k){r}(hr:vN r){s}(h:kh s.B.1.length s.m s.ids) who l f:
  ∃d,P6 k (dk r s who l) f.2=some ((iU r s who f).1,d)∧((iU r s who f).1=0→d=dk r {s with m:=(iU r s who f).2.1,ids:=(iU r s who f).2.2} who l):=by
 have hp:=hr.pa;have hi:=h.idl;have hm:=h.len;have w1:zA (r.1-1)=r.1-1:=zO (by omega) (by omega);have eD:P6 k (dk r s who l) f.2=(vJ k f.2.2.1 0 (zA (r.1-1))).bind fun x0=>
  bif !x0 then some (1,dk r s who l)
  else(vJ k f.2.2.2.2.1 1 3).bind fun x1=>
  bif !x1 then some (1,dk r s who l)
  else(GC k r s.t (gg who f)).bind fun x2=>
  bif !(decide (x2=0)) then some (x2,dk r s who l)
  else(FW k s.ids f.2.1).bind fun x3=>
  bif !(decide (x3.2=0)) then some (x3.2,dk r s who l)
  else(xE k s.m (gg who f)).bind fun x4=>
  bif !(decide (x4.2=0)) then some (x4.2,dk r s who l)
  else some (0,dk r {s with m:=x4.1,ids:=x3.1} who l):=rfl
 rw[eD,ny,ny,Ym,w1,vUl (by omega) (by omega) h.asc,XF (by omega) (by omega) (by unfold qT;omega)];simp only[ae];unfold iU;cases decide (f.2.2.1≥0)&&decide (f.2.2.1≤r.1-1) with
 |false=>exact by simp
 |true=>
 cases decide (f.2.2.2.2.1≥1)&&decide (f.2.2.2.2.1≤3) with
 |false=>exact by simp
 |true=>
 by_cases hc:nz r s.t (gg who f)=0
 ·rw[aa hc];by_cases h1:f.2.1∈s.ids
  ·rw[aa h1];exact by simp
  ·rw[ab h1];by_cases h2:200≤s.ids.length
   ·rw[aa h2];exact by simp
   ·rw[ab h2];have e1:(gg who f).1=f.2.1:=rfl;rw[e1];cases(wB s.m f.2.1).isSome with
    |true=>exact by simp
    |false=>
     by_cases h3:40≤s.m.length
     ·rw[aa h3];exact by simp
     ·rw[ab h3];exact by simp
 ·rw[ab hc];exact by simp
def hY (who kd a:Int):qY:=(who,kd,a,0,0,0,0,0)
def Yn {k l}(hl:l.length≤1000) r s who kd a:uR k (dk r s who l) kd [a]=some (dk r s who (l++[hY who kd a])):=by
 have e:uR k (dk r s who l) kd [a]=bif zL (l.length+1) 64 then some (dk r s who (l++[hY who kd a])) else none:=rfl
 rw[e,qI (by omega) (by omega)];rfl
def kW (r:qG)(s:zU)(who:Int)(f:jD):Int×List zH×List qY:=match wB s.m f.2.1 with
 |none=>(4,s.m,[])
 |some x=>
  bif !decide ((s.m.getD x pd).2.1=who) then(4,s.m,[])
  else bif decide (f.1=2) then(0,yF s.m x,[hY who 20 f.2.1])
  else bif decide (f.1 = 4) then (bif !(decide (f.2.2.1≥1)&&decide (f.2.2.1≤3)) then(1,s.m,[])
   else bif !decide (rj r.2.2.1 r.2.2.2.1 s.t f.2.2.1=0) then(rj r.2.2.1 r.2.2.2.1 s.t f.2.2.1,s.m,[])
   else(0,pv (yF s.m x) ((s.m.getD x pd).1,(s.m.getD x pd).2.1,(s.m.getD x pd).2.2.1,(s.m.getD x pd).2.2.2.1,f.2.2.1,(s.m.getD x pd).2.2.2.2.2.1,(s.m.getD x pd).2.2.2.2.2.2),[]))
  else bif decide (f.2.2.1=0) then(0,KL (yF s.m x) (s.m.getD x pd),[])
  else bif decide (f.2.2.1=1) then(0,pv (yF s.m x) (s.m.getD x pd),[])
  else(1,s.m,[])
def yM9 {k}(hk:1000≤k){r s}(h:kh s.B.1.length s.m s.ids) who {l}(hl:l.length≤1000)(f:jD):
  ∃d,xS k (dk r s who l) f=some ((kW r s who f).1,d)∧((kW r s who f).1=0→d=dk r {s with m:=(kW r s who f).2.1} who (l++(kW r s who f).2.2)):=by
 have hm:=h.len;have oX:qT s.m:=by unfold qT;omega
 have eD : xS k (dk r s who l) f = ((ot k s.m f.2.1).bind fun x0=>
   bif decide (x0<0) then some (((0,0,0,0,0,0,0):zH),(4:Int))
   else bif zB x0 s.m.length then (bif !(decide ((s.m.getD x0.toNat (0,0,0,0,0,0,0)).2.1=who)) then some ((0,0,0,0,0,0,0),4)
    else bif zB x0 s.m.length then some ((s.m.getD x0.toNat (0,0,0,0,0,0,0)),0)
    else none)
   else none).bind fun x0=>
  bif !(decide (x0.2=0)) then some (x0.2,dk r s who l)
  else bif decide (f.1 = 2) then ((qu k s.m f.2.1).bind fun x1=>
   (uR k (dk r {s with m:=x1.1} who l) 20 [f.2.1]).bind fun x2=>
   some (x1.2.2.2.2.2.2.2.2,x2))
  else bif decide (f.1 = 4) then ((vJ k f.2.2.1 1 3).bind fun x3=>
   bif !x3 then some (1,dk r s who l)
   else(BZ k r s.t f.2.2.1).bind fun x4=>
   bif !(decide (x4=0)) then some (x4,dk r s who l)
   else(FQ k s.m f.2.1 f.2.2.1).bind fun x5=>
   some (x5.2,dk r {s with m:=x5.1} who l))
  else bif decide (f.2.2.1 = 0) then ((FU k s.m f.2.1).bind fun x6=>
   some (x6.2,dk r {s with m:=x6.1} who l))
  else bif decide (f.2.2.1 = 1) then ((FR k s.m f.2.1).bind fun x7=>
   some (x7.2,dk r {s with m:=x7.1} who l))
  else some (1,dk r s who l):=rfl
 rw[eD,BI (by omega) (by omega)];unfold kW kf;cases hx:wB s.m f.2.1 with
 |none=>exact by simp
 |some x=>
  have dp:=kR hx;have e1:decide ((x:Int)<0)=false:=by simp
  simp only[ae,e1,ak,qC,aa dp.1,ag,ao];by_cases hw:(s.m.getD x (0,0,0,0,0,0,0)).2.1=who
  ·have pb:(s.m.getD x pd).2.1=who:=hw;rw[aa hw];by_cases h2:f.1=2
   ·rw[aa h2];simp only[ag,BK (show s.m.length<k by omega) oX,ae,Yn hl];unfold iB;rw[hx];exact by simp
   ·rw[ab h2];simp only[ak];by_cases h4:f.1=4
    ·rw[aa h4];simp only[ag,ny,ae,vE8,vJh (show 3≤k by omega) (by grind) oX h.dist hm hx];cases decide (f.2.2.1≥1)&&decide (f.2.2.1≤3) with
     |false=>exact by simp
     |true=>
      simp only[aA,ak];by_cases hc:rj r.2.2.1 r.2.2.2.1 s.t f.2.2.1=0
      all_goals simp_all
    ·rw[ab h4];simp only[ak];by_cases h0:f.2.2.1=0
     ·rw[aa h0];simp only[ag,XI (show 3≤k by omega) (by grind) oX hx,ae];exact by simp
     ·rw[ab h0];simp only[ak];by_cases h1:f.2.2.1=1
      ·rw[aa h1];simp only[ag,vTz (show 3≤k by omega) (by grind) oX h.dist hm hx,ae];exact by simp
      ·rw[ab h1];exact by simp
  ·have pb:¬(s.m.getD x pd).2.1=who:=hw;rw[ab hw];exact by simp
def Yo (s:zU)(a:List yA)(b:jL)(m:AC):zU:={s with B:=(a,b,m,s.B.2.2.2)}
def iV (r:qG)(s:zU)(who:Int)(f:jD):Int×zU:=
 bif decide (f.1 = 5) then (bif !((decide (f.2.1≥0)&&decide (f.2.1≤r.1-1))&& !decide (f.2.1=who)) then(1,s)
  else bif !(decide (f.2.2.1≥-1)&&decide (f.2.2.1≤1152921504606846976)) then(1,s)
  else(0,Yo s s.B.1 (s.B.2.1.set who.toNat ((s.B.2.1.getD who.toNat []).set f.2.1.toNat f.2.2.1)) s.B.2.2.1))
 else bif decide (f.1 = 6) then (bif !(decide (f.2.1≥-1)&&decide (f.2.1≤1152921504606846976)) then(1,s)
  else(0,Yo s s.B.1 s.B.2.1 (s.B.2.2.1.set who.toNat f.2.1)))
 else bif !(decide (f.2.1≥0)&&decide (f.2.1≤1152921504606846976)) then(1,s)
 else(0,Yo s (s.B.1.set who.toNat ((s.B.1.getD who.toNat ad).1,(s.B.1.getD who.toNat ad).2.1,f.2.1)) s.B.2.1 s.B.2.2.1)
def yGa {k}(hk:1000≤k){r}(hr:vN r){s}(hb:qP s.B)(hn:(s.B.1.length:Int)=r.1){who}(hw:0≤who∧who<r.1) l (f:jD):
    ∃d,xT k (dk r s who l) f=some ((iV r s who f).1,d)∧((iV r s who f).1=0→d=dk r (iV r s who f).2 who l):=by
  have hp:=hr.pa;have w1:zA (r.1-1)=r.1-1:=zO (by omega) (by omega);obtain⟨w,rfl⟩:=Int.eq_ofNat_of_zero_le hw.1;have gH:w<s.B.1.length:=by omega
  have eD:xT k (dk r s w l) f=(gF k s.B.1 s.B.2.1 s.B.2.2.1 s.B.2.2.2).bind fun x0=>
    bif decide (f.1 = 5) then (((vJ k f.2.1 0 (zA (r.1-1))).bind fun x0=>bif x0 then some (!(decide (f.2.1=(w:Int)))) else some false).bind fun x1=>
      bif !x1 then some (1,dk r s w l)
      else(vJ k f.2.2.1 (-1) 1152921504606846976).bind fun x2=>
      bif !x2 then some (1,dk r s w l)
      else bif zB (w : Int) x0.2.1.length then (bif zB f.2.1 (x0.2.1.getD (w:Int).toNat []).length then
        some (0,dk r {s with B:=(x0.1,(x0.2.1.set (w:Int).toNat ((x0.2.1.getD (w:Int).toNat []).set f.2.1.toNat f.2.2.1)),x0.2.2.1,x0.2.2.2)} w l)
       else none)
      else none)
    else bif decide (f.1 = 6) then ((vJ k f.2.1 (-1) 1152921504606846976).bind fun x3=>
      bif !x3 then some (1,dk r s w l)
      else bif zB (w:Int) x0.2.2.1.length then some (0,dk r {s with B:=(x0.1,x0.2.1,(x0.2.2.1.set (w:Int).toNat f.2.1),x0.2.2.2)} w l)
      else none)
    else(vJ k f.2.1 0 1152921504606846976).bind fun x4=>
    bif !x4 then some (1,dk r s w l)
    else bif zB (w:Int) x0.1.length then some (0,dk r {s with B:=((x0.1.set (w:Int).toNat ((x0.1.getD (w:Int).toNat (0,0,0)).1,(x0.1.getD (w:Int).toNat (0,0,0)).2.1,f.2.1)),x0.2.1,x0.2.2.1,x0.2.2.2)} w l)
    else none:=rfl
  rw[eD,Kb (by omega) hb.toSized,w1];simp only[ae,ny,qC,ao];unfold iV;rw[ao];by_cases h5:f.1=5
  · rw[aa h5];simp only[ag];cases hc:decide (f.2.1≥0)&&decide (f.2.1≤r.1-1) with
    |false=>exact by simp
    |true=>
      simp  at hc;cases decide (f.2.1=(w:Int)) with
      |true=>exact by simp
      |false=>
        cases decide (f.2.2.1≥-1)&&decide (f.2.2.1≤1152921504606846976) with
        |false=>exact by simp
        |true=>
          have b1:decide (w<s.B.2.1.length)=true:=aa (by rw[hb.bl];exact gH);have b2:zB f.2.1 (s.B.2.1.getD w []).length=true:=wX hc.1 (by rw[hb.br w gH];omega);simp only[ag,ae,bF,aA,ak,b1,b2,Bool.and_self];exact⟨_,rfl,fun _=>rfl⟩
  · rw[ab h5];simp only[ak];by_cases h6:f.1=6
    · rw[aa h6];cases decide (f.2.1≥-1)&&decide (f.2.1≤1152921504606846976) with
      |false=>exact by simp
      |true=>
        have b1:decide (w<s.B.2.2.1.length)=true:=aa (by rw[hb.ml];exact gH);simp only[ag,aA,ak,b1];exact⟨_,rfl,fun _=>rfl⟩
    · rw[ab h6];cases decide (f.2.1≥0)&&decide (f.2.1≤1152921504606846976) with
      |false=>exact by simp
      |true=>
        have b1:decide (w<s.B.1.length)=true:=by grind
        simp only[ag,aA,ak,b1];exact⟨_,rfl,fun _=>rfl⟩
def B1 (s:zU)(w:Nat)(h:AC)(n:Int):Int×zU:=
 bif decide (n>1152921504606846976) then(8,s)
 else bif decide (n<(s.B.1.getD w ad).2.1)&&decide ((s.B.1.getD w ad).1+n<0) then(9,s)
 else(0,{s with B:=(s.B.1.set w ((s.B.1.getD w ad).1,n,(s.B.1.getD w ad).2.2),s.B.2.1,s.B.2.2.1,s.B.2.2.2),ho:=s.ho.set w h})
def iW (r:qG)(s:zU)(who a many:Int):Int×zU:=
 bif !(decide (a≥0)&&decide (a≤(r.2.1.length:Int)-1)) then(1,s)
 else bif !(decide (many≥0)&&decide (many≤1099511627776)) then(1,s)
 else B1 s who.toNat ((s.ho.getD who.toNat []).set a.toNat many) (mo r.2.1 s.pr ((s.ho.getD who.toNat []).set a.toNat many))
def kS.set {sa pr h}(L:kS sa pr h){i}(hi:i<sa.length){v}(hv:0≤v∧v≤1099511627776):kS sa pr (h.set i v):=
 ⟨L.n3,L.pl,by rw[List.length_set];exact L.hl,L.cut,L.price,fun j hj=>by
  rw[fM];split
  ·exact hv
  ·exact L.hold j hj⟩
def kS.setP {sa pr h}(L:kS sa pr h){i}(hi:i<sa.length){v}(hv:0≤v∧v≤1048576):kS sa (pr.set i v) h:=
 ⟨L.n3,by rw[List.length_set];exact L.pl,L.hl,L.cut,fun j hj=>by
  rw[fM];split
  ·exact hv
  ·exact L.price j hj,L.hold⟩
def vUj {k}{l:jL}(hl:l.length≤1000):GD k l=some l:=by
 unfold GD;rw[qI (by omega) (by omega)];rfl
def yYx {k}(hk:1000≤k){r}(hr:vN r){s}(h:qX r s){who}(hw:0≤who∧who<r.1) l a many:
    ∃d,P7 k (dk r s who l) a many=some ((iW r s who a many).1,d)∧((iW r s who a many).1=0→d=dk r (iW r s who a many).2 who l):=by
  have hp:=hr.pa;have h3:=hr.n3;have hn:=h.n;have gG:=h.bk.n6;have hol:=h.hol;have w1:zA ((r.2.1.length:Int)-1)=(r.2.1.length:Int)-1:=zO (by omega) (by omega);obtain⟨w,rfl⟩:=Int.eq_ofNat_of_zero_le hw.1;have gH:w<s.B.1.length:=by omega
  have eD:P7 k (dk r s w l) a many=((vJ k a 0 (zA ((r.2.1.length:Int)-1))).bind fun x0=>some x0).bind fun x0=>
    bif !x0 then some (1,dk r s w l)
    else(vJ k many 0 1099511627776).bind fun x1=>
    bif !x1 then some (1,dk r s w l)
    else(GD k s.ho).bind fun x2=>
    bif zB (w : Int) x2.length then ((qy k (x2.getD (w:Int).toNat []) a many).bind fun x3=>
      bif zB (w:Int) x2.length then(
       bif zB (w : Int) (x2.set (w : Int).toNat x3).length then ((sW k r.2.1 s.pr ((x2.set (w:Int).toNat x3).getD (w:Int).toNat [])).bind fun x4=>
        bif zB (w : Int) s.B.1.length then (bif !x4.2 then some (8,dk r s w l)
         else bif decide (x4.1>1152921504606846976) then some (8,dk r s w l)
         else bif decide (x4.1 < (s.B.1.getD (w : Int).toNat (0, 0, 0)).2.1) then (bif decide ((zA ((s.B.1.getD (w:Int).toNat (0,0,0)).1+x4.1))<0) then some (9,dk r s w l)
          else(gF k s.B.1 s.B.2.1 s.B.2.2.1 s.B.2.2.2).bind fun x5=>
          bif zB (w:Int) x5.1.length then
           some (0,dk r {s with B:=((x5.1.set (w:Int).toNat ((x5.1.getD (w:Int).toNat (0,0,0)).1,x4.1,(x5.1.getD (w:Int).toNat (0,0,0)).2.2)),x5.2.1,x5.2.2.1,x5.2.2.2),ho:=x2.set (w:Int).toNat x3} w l)
          else none)
         else(gF k s.B.1 s.B.2.1 s.B.2.2.1 s.B.2.2.2).bind fun x6=>
         bif zB (w:Int) x6.1.length then
          some (0,dk r {s with B:=((x6.1.set (w:Int).toNat ((x6.1.getD (w:Int).toNat (0,0,0)).1,x4.1,(x6.1.getD (w:Int).toNat (0,0,0)).2.2)),x6.2.1,x6.2.2.1,x6.2.2.2),ho:=x2.set (w:Int).toNat x3} w l)
         else none)
        else none)
       else none)
      else none)
    else none:=rfl
  rw[eD,w1,ny,ny,Kb (by omega) h.bk.toSized,vUj (by omega)];simp only[ae,qC,ao];unfold iW;simp only[ao];cases hc:decide (a≥0)&&decide (a≤(r.2.1.length:Int)-1) with
  |false=>exact by simp
  |true=>
  simp only[bb,aW] at hc;cases hm:decide (many≥0)&&decide (many≤1099511627776) with
  |false=>exact by simp
  |true=>
  obtain⟨i,rfl⟩:=Int.eq_ofNat_of_zero_le hc.1;have hi:i<r.2.1.length:=by omega
  have L:=h.laid w gH;have L2:=L.set hi (v:=many) (by grind);have b1:decide (w<s.ho.length)=true:=by grind
  have b2:decide (w<s.B.1.length)=true:=aa gH;have mv:qy k (s.ho.getD w []) (i:Int) many=some ((s.ho.getD w []).set i many):=by
    have:=yGr (k:=k) (l:=s.ho.getD w []) (by rw[L.hl];omega) (i:=(i:Int)) (by omega) (by rw[L.hl];omega) many;simp_all
  have Ld:(s.ho.set w ((s.ho.getD w []).set i many)).getD w []=(s.ho.getD w []).set i many:=by
    rw[fM,if_pos ⟨rfl,by omega⟩]
  have hv:=XQ (k:=k) L2 (by omega);have hb:=h.bk.nums.bal w gH;have AQ:=F3 L2;simp only[aA,ak,b1,ag,mv,ae,List.length_set,Ld,hv,b2,ao];clear hv L2 Ld eD;generalize mo r.2.1 s.pr ((s.ho.getD w []).set i many)=n at AQ⊢;unfold B1;cases Yp:decide (n>1152921504606846976) with
  |true=>exact by simp
  |false=>
    have h8:¬n>1152921504606846976:=gd Yp;have w2:zA ((s.B.1.getD w (0,0,0)).1+n)=(s.B.1.getD w (0,0,0)).1+n:=zO (by have:=hb.1;simp only[ad] at this;omega) (by have:=hb.2;simp only[ad] at this;omega);simp only[w2,ak];cases decide (n<(s.B.1.getD w (0,0,0)).2.1) with
    |false=>exact by simp
    |true=>
      cases decide ((s.B.1.getD w (0,0,0)).1+n<0) with
      |true=>exact by simp
      |false=>exact by simp
def wY (a:yA)(n:Int):yA×Int:=bif fg (a.1+n,a.2.1,a.2.2) then((a.1+n,a.2.1,a.2.2),0) else(a,8)
def yLu {k}{a:yA}(ha:-4611686018427387904<a.1∧a.1<4611686018427387904){n}(hn:-1099511627776≤n∧n≤1099511627776):Le k a n=some (wY a n):=by
 have aek:P8 k a.1 n=some (a.1+n,true):=by
  unfold P8;have w1:n>0→zA (9223372036854775807-n)=9223372036854775807-n:=fun h=>zO (by omega) (by omega)
  have w2:n<0→zA (-9223372036854775808-n)= -9223372036854775808-n:=fun h=>zO (by omega) (by omega)
  have w3:zA (a.1+n)=a.1+n:=zO (by omega) (by omega);grind
 unfold Le wY;simp[yTm];grind
abbrev kX:=Int×jD
def vSx k kd:∃n,uu k kd=some n∧-1≤n∧n≤6:=by
 have c:∀(b:Bool) (x y:Option Int),(∃n,x=some n∧-1≤n∧n≤6)→(∃n,y=some n∧-1≤n∧n≤6)→∃n,(bif b then x else y)=some n∧-1≤n∧n≤6:=by
  simp_all
 iterate 23 (refine c _ _ _ (by simp) ?_)
 simp
def vBx {k}{s:AC}(hs:s.length≤6):∀n i,s.length<i+n→i≤s.length→∃x,mw k n s (s.length:Int) (i:Int)=some x
 |0,i,h,g=>by omega
 |n+1,i,h,g=>by
  show∃x,lF k (mw k n) s (s.length:Int) (i:Int)=some x;unfold lF;by_cases hi:i<s.length
  ·simp only[qU,aa hi,qC,ao];cases decide (s.getD i 0=0) with
   |false=>simp
   |true=>
    rw[qD hi (by omega)];exact vBx hs n (i+1) (by omega) hi
  ·simp only[qU,ab hi];simp
def yGn {k}(hk:10≤k)(f:jD):∃b,lG k f=some b:=by
 unfold lG;obtain⟨n,h1,h2,h3⟩:=vSx k f.1;rw[h1];simp;by_cases h0:n<0
 ·simp_all
 ·rw[ab h0,aa (by grind),aa h3];have hl:(qR [f.2.1,f.2.2.1,f.2.2.2.1,f.2.2.2.2.1,f.2.2.2.2.2.1,f.2.2.2.2.2.2] n.toNat (6-n.toNat)).length≤6:=by
   unfold qR;simp
  obtain⟨x,hx⟩:=vBx (k:=k) hl k 0 (by omega) (by simp);rw[show((0:Nat):Int)=0 from rfl] at hx;rw[hx];cases x<;>exact by simp
def Yq k a:P9 k a=some (decide (a≥10)&&decide (a≤14)):=by
 unfold P9;grind
def Yr k a:Lf k a=some (decide (a≥1)&&decide (a≤14)):=by
 unfold Lf;grind
def vFz (A B C D E F G b o:Bool):Int:=
 bif !(D&&C) then 5 else bif !b then 5 else bif B&&C then(bif !E then 5 else bif o&& !G then 7 else 0) else bif !(A&&F) then 5 else bif o&& !G then 7 else 0
def vTj:∀{A B C D E F G b o},vFz A B C D E F G b o=0→(D&&C&&((B&&E)||(!B&&A&&F))&&(!o||G))=true:=by
 intro A B C D E F G b o h;cases A<;>cases B<;>cases C<;>cases D<;>cases E<;>cases F<;>cases G<;>cases b<;>cases o<;>first|rfl|exact absurd h (by decide)
def vJi {k}(hk:10≤k)(r:qG)(s:zU)(c:kX):∃b,uS k r s.st c=some (vFz (decide (c.1≥0)) (decide (c.2.1≥10)) (decide (c.2.1≤14)) (decide (c.2.1≥1)) (decide (c.1= -1)) (decide (c.1<r.1)) (decide (c.2.1=9)) b s.ov):=by
 unfold uS;rw[Yq,Yr];obtain⟨b,hb⟩:=yGn hk c.2;rw[hb];have eo:s.st.2.2.2.2.2.2.2.2.2.2=s.ov:=rfl;rw[eo];refine⟨b,?_⟩;generalize decide (c.1≥0)=A;generalize decide (c.2.1≥10)=B;generalize decide (c.2.1≤14)=C;generalize decide (c.2.1≥1)=D;generalize decide (c.1= -1)=E;generalize decide (c.1<r.1)=F;generalize decide (c.2.1=9)=G;generalize s.ov=o;cases A<;>cases B<;>cases C<;>cases D<;>cases E<;>cases F<;>cases G<;>cases b<;>cases o<;>rfl
def yKg {k}(hk:10≤k)(r:qG)(s:zU)(c:kX):∃e,uS k r s.st c=some e∧
  (e=0→((10≤c.2.1∧c.2.1≤14∧c.1= -1)∨(1≤c.2.1∧c.2.1≤9∧0≤c.1∧c.1<r.1))∧(s.ov=true→c.2.1=9)):=by
 obtain⟨b,hb⟩:=vJi hk r s c;refine⟨_,hb,fun e=>?_⟩;have:=vTj e;grind
def vS (f:jD):AC:=[f.2.1,f.2.2.1,f.2.2.2.1,f.2.2.2.2.1,f.2.2.2.2.2.1,f.2.2.2.2.2.2]
def yS5 {k:Nat}{s:AC}:∀(n i:Nat),s.length≤6→mw k n s (s.length:Int) (i:Int)=some (.inl ())→∀j,i≤j→j<s.length→s.getD j 0=0
 |0,i,_,h,_,_,_=>by cases h
 |n+1,i,h6,h,j,h1,h2=>by
  have h:lF k (mw k n) s (s.length:Int) (i:Int)=some (.inl ()):=h;unfold lF at h;have hi:i<s.length:=by omega
  rw[aa (show(i:Int)<s.length by omega),qC,aa hi,ao] at h;simp only[ag] at h;cases hz:decide (s.getD i 0=0) with
  |false=>rw[hz] at h;cases h
  |true=>
   rw[hz] at h;simp only[aA,ak] at h;rw[qD hi (by omega)] at h;by_cases e:j=i
   ·subst e;exact JJ hz
   ·exact yS5 n (i+1) h6 h j (by omega) h2
def Ys {k:Nat}{f:jD}(h:lG k f=some true):0≤vF f.1∧∀j,(vF f.1).toNat≤j→j<6→(vS f).getD j 0=0:=by
 unfold lG at h;rw[Oz,ae] at h;have hm:=OB f.1;by_cases h0:vF f.1<0
 ·rw[aa h0] at h;cases h
 ·rw[ab h0,aa (show(0:Int)≤vF f.1 by omega),aa hm] at h;simp only[ak,Bool.and_self,ag] at h;refine⟨by omega,fun j h1 h2=>?_⟩;have hs:qR [f.2.1,f.2.2.1,f.2.2.2.1,f.2.2.2.2.1,f.2.2.2.2.2.1,f.2.2.2.2.2.2] (vF f.1).toNat (6-(vF f.1).toNat)=(vS f).drop (vF f.1).toNat:=by
   unfold qR;show List.take _ ((vS f).drop _)=_;exact List.take_of_length_le (by rw[List.length_drop];show 6-_≤_;omega)
  rw[hs] at h;have hl:((vS f).drop (vF f.1).toNat).length=6-(vF f.1).toNat:=by rw[List.length_drop];rfl
  cases hz:mw k k ((vS f).drop (vF f.1).toNat) (((vS f).drop (vF f.1).toNat).length:Int) 0 with
  |none=>rw[hz] at h;cases h
  |some z=>
   rw[hz] at h;cases z with
   |inr b=>
    exfalso;have key:∀(n i:Nat) (b:Bool),mw k n ((vS f).drop (vF f.1).toNat) (((vS f).drop (vF f.1).toNat).length:Int) (i:Int)=some (.inr b)→i≤6→b=false:=by
     intro n
     induction n with
     |zero=>intro i b h;cases h
     |succ n ih=>
      intro i b h h6;have h:lF k (mw k n) _ _ _=some (.inr b):=h;unfold lF at h;by_cases hi:i<((vS f).drop (vF f.1).toNat).length
      ·rw[aa (by omega),qC,aa hi] at h;simp only[ag] at h;cases hz:decide (((vS f).drop (vF f.1).toNat).getD (i:Int).toNat 0=0) with
       |false=>rw[hz] at h;cases h;rfl
       |true=>
        rw[hz] at h;simp only[aA,ak] at h;rw[qD hi (by omega)] at h;exact ih (i+1) b h (by omega)
      ·rw[ab (by omega)] at h;cases h
    have:=key k 0 b hz (by omega);subst this;cases h
   |inl u=>
    have:=yS5 (k:=k) k 0 (by omega) hz (j-(vF f.1).toNat) (Nat.zero_le _) (by omega);rw[List.getD_eq_getElem?_getD,List.getElem?_drop] at this;rw[List.getD_eq_getElem?_getD,←this]
    congr 2
    omega
def vQd {k:Nat}(hk:1000≤k){w:Int}{f:jD}(hi:lG k f=some true)(hw:-9223372036854775808≤w∧w<9223372036854775808)(hf:pj (vS f)):
  ∃b,Qa k (w,f)=some b∧tc k b=some ((w,f),0)∧b.length≤57:=by
 obtain⟨h0,hz⟩:=Ys hi;have hm:=OB f.1;have Bl:0≤f.1∧f.1<24:=by
  unfold vF at h0;split at h0
  ·assumption
  ·omega
 obtain⟨n,hn⟩:∃n:Nat,vF f.1=n:=⟨(vF f.1).toNat,by omega⟩;have eX:qR [f.2.1,f.2.2.1,f.2.2.2.1,f.2.2.2.2.1,f.2.2.2.2.2.1,f.2.2.2.2.2.2] 0 (n-0)=(vS f).take n:=by
  unfold qR;show List.take (n-0) ((vS f).drop 0)=_;rw[List.drop_zero,Nat.sub_zero]
 have Qb:((vS f).take n).length=n:=by rw[List.length_take];show min n 6=n;omega
 have bS:pj ((vS f).take n):=fun x hx=>hf x (List.mem_of_mem_take hx)
 have qn:=iR ((vS f).take n);have NP:=iR [w];refine⟨yB w++([IntKind.wrap .u8 f.1]++yM ((vS f).take n)),?_,?_,?_⟩
 ·unfold Qa Yt;dsimp only;rw[hi];simp only[ae,aA,ak];rw[Oz,hn];simp only[ae];rw[aa (show(0:Int)≤(n:Int) by omega),aa (show(n:Int)≤6 by omega),ao,eX];simp only[Bool.and_self,ag];rw[JO (by omega) _ (by omega) (by omega)];simp only[ae];rw[qI (by omega) (by omega)];simp only[ag,ae];rw[ab (by rw[List.length_append];simp;omega)];simp only[ak];rw[JO (by omega) [w] (by simp) (by simp;omega)];simp only[ae];simp only[List.length_singleton] at NP;rw[qI (by rw[List.length_append,List.length_singleton];omega) (by rw[List.length_append,List.length_singleton];omega)];simp only[ag];rw[show yM [w]=yB w by simp[yM]]
 ·unfold tc;have hlen:(yB w++([IntKind.wrap .u8 f.1]++yM ((vS f).take n))).length=9+8*n:=by
   rw[List.length_append,List.length_append,qn,Qb];show 8+(1+8*n)=_;omega
  have ht:List.take 8 (yB w++([IntKind.wrap .u8 f.1]++yM ((vS f).take n)))=yB w:=rfl;have hd:List.drop 8 (yB w++([IntKind.wrap .u8 f.1]++yM ((vS f).take n)))=[IntKind.wrap .u8 f.1]++yM ((vS f).take n):=rfl;have mZ:([IntKind.wrap .u8 f.1]++yM ((vS f).take n)).length=1+8*n:=by rw[List.length_append,qn,Qb];rfl
  have hu8:IntKind.wrap .u8 f.1=f.1:=by rw[OF];omega
  have hw8:zA f.1=f.1:=zO (by omega) (by omega);have fj:kQ ([IntKind.wrap .u8 f.1]++yM ((vS f).take n))=(f,0):=by
   unfold kQ;have e1:List.drop 1 ([IntKind.wrap .u8 f.1]++yM ((vS f).take n))=yM ((vS f).take n):=rfl;have e2:([IntKind.wrap .u8 f.1]++yM ((vS f).take n)).getD 0 0=f.1:=hu8;rw[if_neg (by simp),e1,e2,hw8,Wv bS];simp only[];rw[if_neg (fun h=>h.elim (fun e=>e rfl) fun e=>e (by rw[Qb,hn]))];have g:∀j,j<6→((vS f).take n).getD j 0=(vS f).getD j 0:=fun j hj=>by
    by_cases h:j<n
    ·rw[List.getD_eq_getElem?_getD,List.getD_eq_getElem?_getD,List.getElem?_take_of_lt h]
    ·rw[hz j (by omega) hj,List.getD_eq_getElem?_getD,List.getElem?_eq_none (by omega)];rfl
   rw[g 0 (by omega),g 1 (by omega),g 2 (by omega),g 3 (by omega),g 4 (by omega),g 5 (by omega)];rfl
  rw[ab (by omega),aa (by omega),ht,Ww (by omega) hw,hd,yEq (by omega) (by omega) (by omega),fj];simp only[ak,ag,ae,decide_true,aA,List.getD_cons_zero];rfl
 ·rw[List.length_append,List.length_append,qn,Qb];show 8+(1+8*n)≤57;omega
def vPn {k:Nat}(hk:10≤k){f:jD}(h0:0≤vF f.1)(hz:∀j,(vF f.1).toNat≤j→j<6→(vS f).getD j 0=0):lG k f=some true:=by
 have hm:=OB f.1;unfold lG;rw[Oz,ae,ab (by omega),aa (show(0:Int)≤vF f.1 by omega),aa hm];simp only[ak,Bool.and_self,ag];have hs:qR [f.2.1,f.2.2.1,f.2.2.2.1,f.2.2.2.2.1,f.2.2.2.2.2.1,f.2.2.2.2.2.2] (vF f.1).toNat (6-(vF f.1).toNat)=(vS f).drop (vF f.1).toNat:=by
  unfold qR;show List.take _ ((vS f).drop _)=_;exact List.take_of_length_le (by rw[List.length_drop];show 6-_≤_;omega)
 rw[hs];have hl:((vS f).drop (vF f.1).toNat).length=6-(vF f.1).toNat:=by rw[List.length_drop];rfl
 have hg:∀i,i<((vS f).drop (vF f.1).toNat).length→((vS f).drop (vF f.1).toNat).getD i 0=0:=fun i hi=>by
  have:=hz ((vF f.1).toNat+i) (by omega) (by omega);rw[List.getD_eq_getElem?_getD] at this;rw[List.getD_eq_getElem?_getD,List.getElem?_drop];exact this
 generalize (vS f).drop (vF f.1).toNat=s at hl hg⊢;have := mj (L := fun n i => mw k n s (s.length : Int) i) (N := s.length) (fun _ => true) (.inl ()) (.inr false) (fun n=>by
  show lF k _ s (s.length:Int) (s.length:Int)=_;unfold lF;rw[ab (Int.lt_irrefl _)];rfl) (fun n i hi=>by
  show lF k _ s (s.length:Int) (i:Int)=_;unfold lF;rw[aa (show(i:Int)<s.length by omega),qC,aa hi,ao,hg i hi,qD hi (by omega)];rfl) (n:=k) (by omega)
 rw[show qH (fun _=>true) s.length 0=true from gE.2 fun _ _=>rfl] at this;exact(congrArg (fun z=>Option.bind z _) this).trans rfl
def vBg:∀(n:Nat) (b:AC),pj (iQ n b)
 |0,_=>fun x hx=>absurd hx List.not_mem_nil
 |n+1,b=>fun x hx=>by
  have hx:x∈sN (b.take 8)::iQ n (b.drop 8):=hx;rcases List.mem_cons.1 hx with rfl|hx
  ·unfold sN;exact⟨vJ4 _,vR9 _⟩
  ·exact vBg n _ x hx
def vIt {k:Nat}(hk:10≤k){b:AC}(h:(kQ b).2=0):lG k (kQ b).1=some true∧pj (vS (kQ b).1):=by
 unfold kQ at h⊢;by_cases h1:b=[]
 ·rw[if_pos h1] at h;cases h
 ·rw[if_neg h1] at h⊢;by_cases h2:(fO (b.drop 1)).2≠0∨((fO (b.drop 1)).1.length:Int)≠vF (zA (b.getD 0 0))
  ·rw[if_pos h2] at h;cases h
  ·rw[if_neg h2];have h3:((fO (b.drop 1)).1.length:Int)=vF (zA (b.getD 0 0)):=Decidable.byContradiction fun e=>h2 (.inr e)
   have h4:pj (fO (b.drop 1)).1:=by
    unfold fO;split
    ·exact vBg _ _
    ·exact fun x hx=>absurd hx List.not_mem_nil
   generalize (fO (b.drop 1)).1=l at h3 h4;have hg:∀j,j<6→(vS (zA (b.getD 0 0),l.getD 0 0,l.getD 1 0,l.getD 2 0,l.getD 3 0,l.getD 4 0,l.getD 5 0)).getD j 0=l.getD j 0:=fun j hj=>by
    have:j=0∨j=1∨j=2∨j=3∨j=4∨j=5:=by omega
    rcases this with rfl|rfl|rfl|rfl|rfl|rfl<;>rfl
   refine⟨vPn hk (by show 0≤vF (zA (b.getD 0 0));omega) (fun j h5 h6=>?_),fun x hx=>?_⟩
   ·have h5:(vF (zA (b.getD 0 0))).toNat≤j:=h5;rw[hg j h6,List.getD_eq_getElem?_getD,List.getElem?_eq_none (by omega)];rfl
   ·obtain⟨j,hj,rfl⟩:=List.mem_iff_getElem.1 hx;have hj6:j<6:=hj;have:=hg j hj6;rw[List.getD_eq_getElem?_getD,List.getElem?_eq_getElem hj] at this;have:(vS (zA (b.getD 0 0),l.getD 0 0,l.getD 1 0,l.getD 2 0,l.getD 3 0,l.getD 4 0,l.getD 5 0))[j]=l.getD j 0:=this;show-9223372036854775808≤(vS (zA (b.getD 0 0),l.getD 0 0,l.getD 1 0,l.getD 2 0,l.getD 3 0,l.getD 4 0,l.getD 5 0))[j]∧(vS (zA (b.getD 0 0),l.getD 0 0,l.getD 1 0,l.getD 2 0,l.getD 3 0,l.getD 4 0,l.getD 5 0))[j]<9223372036854775808;rw[this];by_cases sm:j<l.length
    ·rw[List.getD_eq_getElem?_getD,List.getElem?_eq_getElem sm];exact h4 _ (List.getElem_mem sm)
    ·rw[List.getD_eq_getElem?_getD,List.getElem?_eq_none (by omega)];show(-9223372036854775808:Int)≤0∧(0:Int)<9223372036854775808;omega
def Yu x (s:Nat)(h:s≤62):shr .i64 x (s:Int)=x/2^s:=by
 have e:shr .i64 x (s:Int)=x.fdiv (2^(min (s:Int).toNat 64)):=rfl;grind
def td x:shr .i64 x 16=x/65536:=Yu x 16 (by decide)
def yJ6 x:shr .i64 x 32=x/4294967296:=Yu x 32 (by decide)
def yJk x:shr .i64 x 48=x/281474976710656:=Yu x 48 (by decide)
def Yv x:shr .i64 x 0=x:=by grind
def uT x:yN .i64 x 65535=x%65536:=vLl 16 (by decide) x
def Yw m (hm:m≤62){x y}(hx:0≤x)(hy:0≤y∧y<2^m)(hs:x*2^m+y<9223372036854775808):wM .i64 (x*2^m) y=x*2^m+y:=by
 obtain⟨a,rfl⟩:=Int.eq_ofNat_of_zero_le hx;obtain⟨b,rfl⟩:=Int.eq_ofNat_of_zero_le hy.1;have hp:(2:Int)^m=((2^m:Nat):Int):=by simp
 rw[hp] at hs hy⊢;have e1:(a:Int)*((2^m:Nat):Int)=((a*2^m:Nat):Int):=by simp
 rw[e1] at hs⊢;have hb:b<2^m:=by omega
 unfold wM tB;have Lg:IntKind.i64.bits=64:=rfl;have e2:(BitVec.ofInt IntKind.i64.bits ((a*2^m:Nat):Int)|||BitVec.ofInt IntKind.i64.bits (b:Int)).toNat=a*2^m+b:=by
  rw[BitVec.toNat_or,BitVec.ofInt_natCast,BitVec.ofInt_natCast,BitVec.toNat_ofNat,BitVec.toNat_ofNat,Lg,Nat.mod_eq_of_lt (by omega),Nat.mod_eq_of_lt (by omega)];have:=Nat.shiftLeft_add_eq_or_of_lt hb a;rw[Nat.shiftLeft_eq] at this;exact this.symm
 rw[e2];exact zO (by omega) (by omega)
def V9 (l0 l1 l2 l3 l4 l5 l6 l7 l8:Int):Int:=l0+65536*(l1+65536*(l2+65536*(l3+65536*(l4+65536*(l5+65536*(l6+65536*(l7+65536*l8)))))))
def vWg (l0 l1 l2 l3 l4 l5 l6 l7 l8:Int){c1 c2 c3 c4 c5 c6 c7 c8:Int}(h1:c1=zA (l1+shr .i64 l0 16))(h2:c2=zA (l2+shr .i64 c1 16))(h3:c3=zA (l3+shr .i64 c2 16))(h4:c4=zA (l4+shr .i64 c3 16))(h5:c5=zA (l5+shr .i64 c4 16))(h6:c6=zA (l6+shr .i64 c5 16))(h7:c7=zA (l7+shr .i64 c6 16))(h8:c8=zA (l8+shr .i64 c7 16)):
  GG 1000 [l0,l1,l2,l3,l4,l5,l6,l7,l8]=some [yN .i64 l0 65535,yN .i64 c1 65535,yN .i64 c2 65535,yN .i64 c3 65535,yN .i64 c4 65535,yN .i64 c5 65535,yN .i64 c6 65535,yN .i64 c7 65535,c8]:=by
 subst h8;subst h7;subst h6;subst h5;subst h4;subst h3;subst h2;subst h1
 kernel_rfl
def yQh {l0 l1 l2 l3 l4 l5 l6 l7 l8:Int}(g0:0≤l0∧l0≤1099511627776)(g1:0≤l1∧l1≤1099511627776)(g2:0≤l2∧l2≤1099511627776)(g3:0≤l3∧l3≤1099511627776)(g4:0≤l4∧l4≤1099511627776)(g5:0≤l5∧l5≤1099511627776)(g6:0≤l6∧l6≤1099511627776)(g7:0≤l7∧l7≤1099511627776)(g8:0≤l8∧l8≤1099511627776):∃d0 d1 d2 d3 d4 d5 d6 d7 d8,
  GG 1000 [l0,l1,l2,l3,l4,l5,l6,l7,l8]=some [d0,d1,d2,d3,d4,d5,d6,d7,d8]∧V9 d0 d1 d2 d3 d4 d5 d6 d7 d8=V9 l0 l1 l2 l3 l4 l5 l6 l7 l8∧(0≤d0∧d0<65536)∧(0≤d1∧d1<65536)∧(0≤d2∧d2<65536)∧(0≤d3∧d3<65536)∧(0≤d4∧d4<65536)∧(0≤d5∧d5<65536)∧(0≤d6∧d6<65536)∧(0≤d7∧d7<65536)∧0≤d8:=by
 obtain⟨c1,n9⟩:∃c,c=l1+l0/65536:=⟨_,rfl⟩;have b1:0≤c1∧c1≤2199023255552:=by omega
 have h1:c1=zA (l1+shr .i64 l0 16):=by rw[td,←n9,zO (by omega) (by omega)]
 obtain⟨c2,cN⟩:∃c,c=l2+c1/65536:=⟨_,rfl⟩;have b2:0≤c2∧c2≤2199023255552:=by omega
 have h2:c2=zA (l2+shr .i64 c1 16):=by rw[td,←cN,zO (by omega) (by omega)]
 obtain⟨c3,dI⟩:∃c,c=l3+c2/65536:=⟨_,rfl⟩;have b3:0≤c3∧c3≤2199023255552:=by omega
 have h3:c3=zA (l3+shr .i64 c2 16):=by rw[td,←dI,zO (by omega) (by omega)]
 obtain⟨c4,gV⟩:∃c,c=l4+c3/65536:=⟨_,rfl⟩;have b4:0≤c4∧c4≤2199023255552:=by omega
 have h4:c4=zA (l4+shr .i64 c3 16):=by rw[td,←gV,zO (by omega) (by omega)]
 obtain⟨c5,ni⟩:∃c,c=l5+c4/65536:=⟨_,rfl⟩;have b5:0≤c5∧c5≤2199023255552:=by omega
 have h5:c5=zA (l5+shr .i64 c4 16):=by rw[td,←ni,zO (by omega) (by omega)]
 obtain⟨c6,Eg⟩:∃c,c=l6+c5/65536:=⟨_,rfl⟩;have b6:0≤c6∧c6≤2199023255552:=by omega
 have h6:c6=zA (l6+shr .i64 c5 16):=by rw[td,←Eg,zO (by omega) (by omega)]
 obtain⟨c7,Eh⟩:∃c,c=l7+c6/65536:=⟨_,rfl⟩;have b7:0≤c7∧c7≤2199023255552:=by omega
 have h7:c7=zA (l7+shr .i64 c6 16):=by rw[td,←Eh,zO (by omega) (by omega)]
 obtain⟨c8,hc8⟩:∃c,c=l8+c7/65536:=⟨_,rfl⟩;have b8:0≤c8∧c8≤2199023255552:=by omega
 have h8:c8=zA (l8+shr .i64 c7 16):=by rw[td,←hc8,zO (by omega) (by omega)]
 have run:=vWg l0 l1 l2 l3 l4 l5 l6 l7 l8 h1 h2 h3 h4 h5 h6 h7 h8;simp only[uT] at run;refine⟨_,_,_,_,_,_,_,_,_,run,?_,⟨Int.emod_nonneg _ (by decide),Int.emod_lt_of_pos _ (by decide)⟩,⟨Int.emod_nonneg _ (by decide),Int.emod_lt_of_pos _ (by decide)⟩,⟨Int.emod_nonneg _ (by decide),Int.emod_lt_of_pos _ (by decide)⟩,⟨Int.emod_nonneg _ (by decide),Int.emod_lt_of_pos _ (by decide)⟩,⟨Int.emod_nonneg _ (by decide),Int.emod_lt_of_pos _ (by decide)⟩,⟨Int.emod_nonneg _ (by decide),Int.emod_lt_of_pos _ (by decide)⟩,⟨Int.emod_nonneg _ (by decide),Int.emod_lt_of_pos _ (by decide)⟩,⟨Int.emod_nonneg _ (by decide),Int.emod_lt_of_pos _ (by decide)⟩,b8.1⟩;unfold V9;clear run h1 h2 h3 h4 h5 h6 h7 h8;omega
def vOm l0 l1 l2 l3 l4 l5 l6 l7 l8 n:Qc 1000 [l0,l1,l2,l3,l4,l5,l6,l7,l8] n=GG 1000 [zA (l0*n),zA (l1*n),zA (l2*n),zA (l3*n),zA (l4*n),zA (l5*n),zA (l6*n),zA (l7*n),zA (l8*n)]:=by
 have e:Qd 1000 1000 n 0 [l0,l1,l2,l3,l4,l5,l6,l7,l8]=some [zA (l0*n),zA (l1*n),zA (l2*n),zA (l3*n),zA (l4*n),zA (l5*n),zA (l6*n),zA (l7*n),zA (l8*n)]:=by kernel_rfl
 unfold Qc;simp_all
def Yx l0 l1 l2 l3 l4 l5 l6 l7 l8 n:V9 l0 l1 l2 l3 l4 l5 l6 l7 l8*n=V9 (l0*n) (l1*n) (l2*n) (l3*n) (l4*n) (l5*n) (l6*n) (l7*n) (l8*n):=by
 unfold V9;grind
def Yy l0 l1 l2 l3 l4 l5 l6 l7 l8 {x0 x1 x2 x3 x4 x5 x6 x7 x8 r0 r1 r2 r3 r4 r5 r6 r7 r8 r9}(h8:x8=zA (shl .i64 r9 16+l8))(h7:x7=zA (shl .i64 r8 16+l7))(h6:x6=zA (shl .i64 r7 16+l6))(h5:x5=zA (shl .i64 r6 16+l5))(h4:x4=zA (shl .i64 r5 16+l4))(h3:x3=zA (shl .i64 r4 16+l3))(h2:x2=zA (shl .i64 r3 16+l2))(h1:x1=zA (shl .i64 r2 16+l1))(h0:x0=zA (shl .i64 r1 16+l0))(h9:r9=0)(k8:r8=Int.tmod x8 10000)(k7:r7=Int.tmod x7 10000)(k6:r6=Int.tmod x6 10000)(k5:r5=Int.tmod x5 10000)(k4:r4=Int.tmod x4 10000)(k3:r3=Int.tmod x3 10000)(k2:r2=Int.tmod x2 10000)(k1:r1=Int.tmod x1 10000)(k0:r0=Int.tmod x0 10000):
  Lh 1000 1000 10000 0 8 [l0,l1,l2,l3,l4,l5,l6,l7,l8]=some [zA (Int.tdiv x0 10000),zA (Int.tdiv x1 10000),zA (Int.tdiv x2 10000),zA (Int.tdiv x3 10000),zA (Int.tdiv x4 10000),zA (Int.tdiv x5 10000),zA (Int.tdiv x6 10000),zA (Int.tdiv x7 10000),zA (Int.tdiv x8 10000)]:=by
 subst h0;subst k1;subst h1;subst k2;subst h2;subst k3;subst h3;subst k4;subst h4;subst k5;subst h5;subst k6;subst h6;subst k7;subst h7;subst k8;subst h8;subst h9
 kernel_rfl
def uU x:shl .i64 x 16=zA (x*65536):=rfl
def vQq q0 q1 q2 q3 (h : decide (q3 ≥ 32768) = false) : ((GH 1000 1000 4 [q0,q1,q2,q3,0,0,0,0,0]).bind fun z1=>
 match z1 with
 | .inl z2 => bif zB 3 z2.length then (bif decide ((z2.getD 3 0)≥32768) then some ((0:Int),false)
   else bif zB 3 z2.length then (bif zB 2 z2.length then (bif zB 1 z2.length then (bif zB 0 z2.length then some ((wM .i64 (wM .i64 (wM .i64 (shl .i64 (z2.getD 3 0) 48) (shl .i64 (z2.getD 2 0) 32)) (shl .i64 (z2.getD 1 0) 16)) (z2.getD 0 0)),true)
      else none)
     else none)
    else none)
   else none)
  else none
 |.inr z3=>some (z3.1,z3.2))=some (wM .i64 (wM .i64 (wM .i64 (shl .i64 q3 48) (shl .i64 q2 32)) (shl .i64 q1 16)) q0,true):=by
  have e:GH 1000 1000 4 [q0,q1,q2,q3,0,0,0,0,0]=some (.inl [q0,q1,q2,q3,0,0,0,0,0]):=by rfl
  rw[e];simp only[ae];have e3:([q0,q1,q2,q3,0,0,0,0,0]:AC).getD 3 0=q3:=rfl;rw[e3,h];rfl
def vH8 {q0 q1 q2 q3}(h0:0≤q0∧q0<65536)(h1:0≤q1∧q1<65536)(h2:0≤q2∧q2<65536)(h3:0≤q3∧q3<32768):
  wM .i64 (wM .i64 (wM .i64 (shl .i64 q3 48) (shl .i64 q2 32)) (shl .i64 q1 16)) q0=q0+65536*(q1+65536*(q2+65536*q3)):=by
 have s3:shl .i64 q3 48=zA (q3*281474976710656):=rfl;have s2:shl .i64 q2 32=zA (q2*4294967296):=rfl;have s1:shl .i64 q1 16=zA (q1*65536):=rfl;rw[s3,s2,s1,zO (x:=q3*281474976710656) (by omega) (by omega),zO (x:=q2*4294967296) (by omega) (by omega),zO (x:=q1*65536) (by omega) (by omega)];have b1:=Yw 48 (by decide) (x:=q3) (y:=q2*4294967296) h3.1 (by omega) (by omega);have p48:(2:Int)^48=281474976710656:=rfl;rw[p48] at b1;have b2:=Yw 32 (by decide) (x:=q3*65536+q2) (y:=q1*65536) (by omega) (by omega) (by omega);have p32:(2:Int)^32=4294967296:=rfl;rw[p32] at b2;have b3:=Yw 16 (by decide) (x:=(q3*65536+q2)*65536+q1) (y:=q0) (by omega) (by omega) (by omega);grind
def vZk {l0 l1 l2 l3 l4 l5 l6 l7 l8}(g0:0≤l0∧l0<65536)(g1:0≤l1∧l1<65536)(g2:0≤l2∧l2<65536)(g3:0≤l3∧l3<65536)(g4:0≤l4∧l4<65536)(g5:0≤l5∧l5<65536)(g6:0≤l6∧l6<65536)(g7:0≤l7∧l7<65536)(g8:0≤l8∧l8≤0)(hV:V9 l0 l1 l2 l3 l4 l5 l6 l7 l8/10000≤1152921504606846976):Qe 1000 [l0,l1,l2,l3,l4,l5,l6,l7,l8] 10000=some (V9 l0 l1 l2 l3 l4 l5 l6 l7 l8/10000,true):=by
  obtain⟨r9,h9⟩:∃r:Int,r=0:=⟨_,rfl⟩;obtain⟨x8,hx8⟩:∃x,x=r9*65536+l8:=⟨_,rfl⟩;obtain⟨r8,hr8⟩:∃r,r=x8%10000:=⟨_,rfl⟩;obtain⟨q8,hq8⟩:∃q,q=x8/10000:=⟨_,rfl⟩;have v8:x8=10000*q8+r8∧0≤r8∧r8<10000∧0≤x8∧x8<655360000:=by omega
  have h8:x8=zA (shl .i64 r9 16+l8):=by rw[uU,zO (x:=r9*65536) (by omega) (by omega),←hx8,zO (by omega) (by omega)]
  have k8:r8=Int.tmod x8 10000:=by rw[Int.tmod_eq_emod_of_nonneg (by omega)];exact hr8
  have t8:zA (Int.tdiv x8 10000)=q8:=by rw[Int.tdiv_eq_ediv_of_nonneg (by omega),←hq8,zO (by omega) (by omega)]
  obtain⟨x7,hx7⟩:∃x,x=r8*65536+l7:=⟨_,rfl⟩;obtain⟨r7,hr7⟩:∃r,r=x7%10000:=⟨_,rfl⟩;obtain⟨q7,hq7⟩:∃q,q=x7/10000:=⟨_,rfl⟩;have v7:x7=10000*q7+r7∧0≤r7∧r7<10000∧0≤x7∧x7<655360000:=by omega
  have h7:x7=zA (shl .i64 r8 16+l7):=by rw[uU,zO (x:=r8*65536) (by omega) (by omega),←hx7,zO (by omega) (by omega)]
  have k7:r7=Int.tmod x7 10000:=by rw[Int.tmod_eq_emod_of_nonneg (by omega)];exact hr7
  have t7:zA (Int.tdiv x7 10000)=q7:=by rw[Int.tdiv_eq_ediv_of_nonneg (by omega),←hq7,zO (by omega) (by omega)]
  obtain⟨x6,Oi⟩:∃x,x=r7*65536+l6:=⟨_,rfl⟩;obtain⟨r6,hr6⟩:∃r,r=x6%10000:=⟨_,rfl⟩;obtain⟨q6,hq6⟩:∃q,q=x6/10000:=⟨_,rfl⟩;have v6:x6=10000*q6+r6∧0≤r6∧r6<10000∧0≤x6∧x6<655360000:=by omega
  have h6:x6=zA (shl .i64 r7 16+l6):=by rw[uU,zO (x:=r7*65536) (by omega) (by omega),←Oi,zO (by omega) (by omega)]
  have k6:r6=Int.tmod x6 10000:=by rw[Int.tmod_eq_emod_of_nonneg (by omega)];exact hr6
  have t6:zA (Int.tdiv x6 10000)=q6:=by rw[Int.tdiv_eq_ediv_of_nonneg (by omega),←hq6,zO (by omega) (by omega)]
  obtain⟨x5,hx5⟩:∃x,x=r6*65536+l5:=⟨_,rfl⟩;obtain⟨r5,hr5⟩:∃r,r=x5%10000:=⟨_,rfl⟩;obtain⟨q5,hq5⟩:∃q,q=x5/10000:=⟨_,rfl⟩;have v5:x5=10000*q5+r5∧0≤r5∧r5<10000∧0≤x5∧x5<655360000:=by omega
  have h5:x5=zA (shl .i64 r6 16+l5):=by rw[uU,zO (x:=r6*65536) (by omega) (by omega),←hx5,zO (by omega) (by omega)]
  have k5:r5=Int.tmod x5 10000:=by rw[Int.tmod_eq_emod_of_nonneg (by omega)];exact hr5
  have t5:zA (Int.tdiv x5 10000)=q5:=by rw[Int.tdiv_eq_ediv_of_nonneg (by omega),←hq5,zO (by omega) (by omega)]
  obtain⟨x4,hx4⟩:∃x,x=r5*65536+l4:=⟨_,rfl⟩;obtain⟨r4,hr4⟩:∃r,r=x4%10000:=⟨_,rfl⟩;obtain⟨q4,hq4⟩:∃q,q=x4/10000:=⟨_,rfl⟩;have v4:x4=10000*q4+r4∧0≤r4∧r4<10000∧0≤x4∧x4<655360000:=by omega
  have h4:x4=zA (shl .i64 r5 16+l4):=by rw[uU,zO (x:=r5*65536) (by omega) (by omega),←hx4,zO (by omega) (by omega)]
  have k4:r4=Int.tmod x4 10000:=by rw[Int.tmod_eq_emod_of_nonneg (by omega)];exact hr4
  have t4:zA (Int.tdiv x4 10000)=q4:=by rw[Int.tdiv_eq_ediv_of_nonneg (by omega),←hq4,zO (by omega) (by omega)]
  obtain⟨x3,Yz⟩:∃x,x=r4*65536+l3:=⟨_,rfl⟩;obtain⟨r3,hr3⟩:∃r,r=x3%10000:=⟨_,rfl⟩;obtain⟨q3,hq3⟩:∃q,q=x3/10000:=⟨_,rfl⟩;have v3:x3=10000*q3+r3∧0≤r3∧r3<10000∧0≤x3∧x3<655360000:=by omega
  have h3:x3=zA (shl .i64 r4 16+l3):=by rw[uU,zO (x:=r4*65536) (by omega) (by omega),←Yz,zO (by omega) (by omega)]
  have k3:r3=Int.tmod x3 10000:=by rw[Int.tmod_eq_emod_of_nonneg (by omega)];exact hr3
  have t3:zA (Int.tdiv x3 10000)=q3:=by rw[Int.tdiv_eq_ediv_of_nonneg (by omega),←hq3,zO (by omega) (by omega)]
  obtain⟨x2,DK⟩:∃x,x=r3*65536+l2:=⟨_,rfl⟩;obtain⟨r2,sn⟩:∃r,r=x2%10000:=⟨_,rfl⟩;obtain⟨q2,hq2⟩:∃q,q=x2/10000:=⟨_,rfl⟩;have v2:x2=10000*q2+r2∧0≤r2∧r2<10000∧0≤x2∧x2<655360000:=by omega
  have h2:x2=zA (shl .i64 r3 16+l2):=by rw[uU,zO (x:=r3*65536) (by omega) (by omega),←DK,zO (by omega) (by omega)]
  have k2:r2=Int.tmod x2 10000:=by rw[Int.tmod_eq_emod_of_nonneg (by omega)];exact sn
  have t2:zA (Int.tdiv x2 10000)=q2:=by rw[Int.tdiv_eq_ediv_of_nonneg (by omega),←hq2,zO (by omega) (by omega)]
  obtain⟨x1,dp⟩:∃x,x=r2*65536+l1:=⟨_,rfl⟩;obtain⟨r1,wo⟩:∃r,r=x1%10000:=⟨_,rfl⟩;obtain⟨q1,hq1⟩:∃q,q=x1/10000:=⟨_,rfl⟩;have v1:x1=10000*q1+r1∧0≤r1∧r1<10000∧0≤x1∧x1<655360000:=by omega
  have h1:x1=zA (shl .i64 r2 16+l1):=by rw[uU,zO (x:=r2*65536) (by omega) (by omega),←dp,zO (by omega) (by omega)]
  have k1:r1=Int.tmod x1 10000:=by rw[Int.tmod_eq_emod_of_nonneg (by omega)];exact wo
  have t1:zA (Int.tdiv x1 10000)=q1:=by rw[Int.tdiv_eq_ediv_of_nonneg (by omega),←hq1,zO (by omega) (by omega)]
  obtain⟨x0,YA⟩:∃x,x=r1*65536+l0:=⟨_,rfl⟩;obtain⟨r0,tO⟩:∃r,r=x0%10000:=⟨_,rfl⟩;obtain⟨q0,hq0⟩:∃q,q=x0/10000:=⟨_,rfl⟩;have v0:x0=10000*q0+r0∧0≤r0∧r0<10000∧0≤x0∧x0<655360000:=by omega
  have h0:x0=zA (shl .i64 r1 16+l0):=by rw[uU,zO (x:=r1*65536) (by omega) (by omega),←YA,zO (by omega) (by omega)]
  have k0:r0=Int.tmod x0 10000:=by rw[Int.tmod_eq_emod_of_nonneg (by omega)];exact tO
  have t0:zA (Int.tdiv x0 10000)=q0:=by rw[Int.tdiv_eq_ediv_of_nonneg (by omega),←hq0,zO (by omega) (by omega)]
  have run:=Yy l0 l1 l2 l3 l4 l5 l6 l7 l8 h8 h7 h6 h5 h4 h3 h2 h1 h0 h9 k8 k7 k6 k5 k4 k3 k2 k1 k0;rw[t0,t1,t2,t3,t4,t5,t6,t7,t8] at run;clear h0 k0 t0 h1 k1 t1 h2 k2 t2 h3 k3 t3 h4 k4 t4 h5 k5 t5 h6 k6 t6 h7 k7 t7 h8 k8 t8;have hv:10000*V9 q0 q1 q2 q3 q4 q5 q6 q7 q8+r0=V9 l0 l1 l2 l3 l4 l5 l6 l7 l8:=by unfold V9;omega
  have hq:V9 q0 q1 q2 q3 q4 q5 q6 q7 q8=V9 l0 l1 l2 l3 l4 l5 l6 l7 l8/10000:=by omega
  rw[←hq] at hV⊢;unfold V9 at hV;have z8:q8=0:=by omega
  have z7:q7=0:=by omega
  have z6:q6=0:=by omega
  have z5:q5=0:=by omega
  have z4:q4=0:=by omega
  have z3:q3<32768:=by omega
  rw[z4,z5,z6,z7,z8] at run;have eU:Qe 1000 [l0,l1,l2,l3,l4,l5,l6,l7,l8] 10000=(Lh 1000 1000 10000 0 8 [l0,l1,l2,l3,l4,l5,l6,l7,l8]).bind fun z=>(GH 1000 1000 4 z).bind fun z1=>
   match z1 with
   | .inl z2 => bif zB 3 z2.length then (bif decide ((z2.getD 3 0)≥32768) then some ((0:Int),false)
     else bif zB 3 z2.length then (bif zB 2 z2.length then (bif zB 1 z2.length then (bif zB 0 z2.length then some ((wM .i64 (wM .i64 (wM .i64 (shl .i64 (z2.getD 3 0) 48) (shl .i64 (z2.getD 2 0) 32)) (shl .i64 (z2.getD 1 0) 16)) (z2.getD 0 0)),true)
        else none)
       else none)
      else none)
     else none)
    else none
   |.inr z3=>some (z3.1,z3.2):=rfl
  rw[eU,run];simp only[ae];refine(vQq q0 q1 q2 q3 (ab (by omega))).trans ?_;rw[vH8 ⟨by omega,by omega⟩ ⟨by omega,by omega⟩ ⟨by omega,by omega⟩ ⟨by omega,z3⟩];unfold V9;rw[z4,z5,z6,z7,z8];exact by simp
def vRi (a b x0 x1 x2 x3:Int):Qf 1000 1000 b 0 [x0,x1,x2,x3] [0,0,0,0,0,0,0,0,0]=some [zA (0+zA (x0*yN .i64 (shr .i64 b 0) 65535)),zA (zA (0+zA (x0*yN .i64 (shr .i64 b 16) 65535))+zA (x1*yN .i64 (shr .i64 b 0) 65535)),zA (zA (zA (0+zA (x0*yN .i64 (shr .i64 b 32) 65535))+zA (x1*yN .i64 (shr .i64 b 16) 65535))+zA (x2*yN .i64 (shr .i64 b 0) 65535)),zA (zA (zA (zA (0+zA (x0*yN .i64 (shr .i64 b 48) 65535))+zA (x1*yN .i64 (shr .i64 b 32) 65535))+zA (x2*yN .i64 (shr .i64 b 16) 65535))+zA (x3*yN .i64 (shr .i64 b 0) 65535)),zA (zA (zA (0+zA (x1*yN .i64 (shr .i64 b 48) 65535))+zA (x2*yN .i64 (shr .i64 b 32) 65535))+zA (x3*yN .i64 (shr .i64 b 16) 65535)),zA (zA (0+zA (x2*yN .i64 (shr .i64 b 48) 65535))+zA (x3*yN .i64 (shr .i64 b 32) 65535)),zA (0+zA (x3*yN .i64 (shr .i64 b 48) 65535)),0,0]:=by kernel_rfl
def vK9 {x0 x1 x2 x3 y0 y1 y2 y3}:(x0+65536*x1+4294967296*x2+281474976710656*x3)*(y0+65536*y1+4294967296*y2+281474976710656*y3)=V9 (x0*y0) (x0*y1+x1*y0) (x0*y2+x1*y1+x2*y0) (x0*y3+x1*y2+x2*y1+x3*y0) (x1*y3+x2*y2+x3*y1) (x2*y3+x3*y2) (x3*y3) 0 0:=by
 have row:∀x:Int,x*(y0+65536*y1+4294967296*y2+281474976710656*y3)=x*y0+65536*(x*y1)+4294967296*(x*y2)+281474976710656*(x*y3):=by grind
 rw[Int.add_mul,Int.add_mul,Int.add_mul,Int.mul_assoc,Int.mul_assoc,Int.mul_assoc,row,row,row,row];unfold V9;omega
def vHj {a b}(ha:0≤a∧a≤1048576)(hb:0≤b∧b≤1099511627776):∃d0 d1 d2 d3 d4 d5 d6 d7 d8,
  Qg 1000 a b=some [d0,d1,d2,d3,d4,d5,d6,d7,d8]∧V9 d0 d1 d2 d3 d4 d5 d6 d7 d8=a*b∧(0≤d0∧d0<65536)∧(0≤d1∧d1<65536)∧(0≤d2∧d2<65536)∧(0≤d3∧d3<65536)∧(0≤d4∧d4<65536)∧(0≤d5∧d5<65536)∧(0≤d6∧d6<65536)∧(0≤d7∧d7<65536)∧d8=0:=by
 obtain⟨x0,YA⟩:∃z,z=a%65536:=⟨_,rfl⟩;have xU:0≤x0∧x0≤65535:=by omega
 obtain⟨x1,dp⟩:∃z,z=a/65536%65536:=⟨_,rfl⟩;have xV:0≤x1∧x1≤65535:=by omega
 obtain⟨x2,DK⟩:∃z,z=a/4294967296%65536:=⟨_,rfl⟩;have xW:0≤x2∧x2≤65535:=by omega
 obtain⟨x3,Yz⟩:∃z,z=a/281474976710656%65536:=⟨_,rfl⟩;have xX:0≤x3∧x3≤65535:=by omega
 obtain⟨y0,Uk⟩:∃z,z=b%65536:=⟨_,rfl⟩;have xY:0≤y0∧y0≤65535:=by omega
 obtain⟨y1,U2⟩:∃z,z=b/65536%65536:=⟨_,rfl⟩;have xZ:0≤y1∧y1≤65535:=by omega
 obtain⟨y2,U3⟩:∃z,z=b/4294967296%65536:=⟨_,rfl⟩;have ya:0≤y2∧y2≤65535:=by omega
 obtain⟨y3,hy3⟩:∃z,z=b/281474976710656%65536:=⟨_,rfl⟩;have yc:0≤y3∧y3≤65535:=by omega
 have ea:a=x0+65536*x1+4294967296*x2+281474976710656*x3:=by omega
 have eb:b=y0+65536*y1+4294967296*y2+281474976710656*y3:=by omega
 have dg:Qh 1000 a=some [x0,x1,x2,x3]:=by
  unfold Qh;rw[td,yJ6,yJk,uT,uT,uT,uT,←YA,←dp,←DK,←Yz]
 have run:=vRi a b x0 x1 x2 x3;rw[Yv,td,yJ6,yJk,uT,uT,uT,uT,←Uk,←U2,←U3,←hy3] at run;have Dx:=vK9 (x0:=x0) (x1:=x1) (x2:=x2) (x3:=x3) (y0:=y0) (y1:=y1) (y2:=y2) (y3:=y3);rw[←ea,←eb] at Dx;have hm:=wG ha.1 ha.2 hb.1 hb.2;have m00:=wG xU.1 xU.2 xY.1 xY.2;have m01:=wG xU.1 xU.2 xZ.1 xZ.2;have m02:=wG xU.1 xU.2 ya.1 ya.2;have m03:=wG xU.1 xU.2 yc.1 yc.2;have m10:=wG xV.1 xV.2 xY.1 xY.2;have m11:=wG xV.1 xV.2 xZ.1 xZ.2;have m12:=wG xV.1 xV.2 ya.1 ya.2;have m13:=wG xV.1 xV.2 yc.1 yc.2;have m20:=wG xW.1 xW.2 xY.1 xY.2;have m21:=wG xW.1 xW.2 xZ.1 xZ.2;have m22:=wG xW.1 xW.2 ya.1 ya.2;have m23:=wG xW.1 xW.2 yc.1 yc.2;have m30:=wG xX.1 xX.2 xY.1 xY.2;have m31:=wG xX.1 xX.2 xZ.1 xZ.2;have m32:=wG xX.1 xX.2 ya.1 ya.2;have m33:=wG xX.1 xX.2 yc.1 yc.2;generalize x0*y0=YB at*
 generalize x0*y1=Qi at*
 generalize x0*y2=Lj at*
 generalize x0*y3=GI at*
 generalize x1*y0=YC at*
 generalize x1*y1=Qj at*
 generalize x1*y2=Lk at*
 generalize x1*y3=Ll at*
 generalize x2*y0=YD at*
 generalize x2*y1=Qk at*
 generalize x2*y2=Ql at*
 generalize x2*y3=Qm at*
 generalize x3*y0=YE at*
 generalize x3*y1=YF at*
 generalize x3*y2=YG at*
 generalize x3*y3=YH at*
 rw[zO (x:=YB) (by omega) (by omega)] at run;rw[zO (x:=Qi) (by omega) (by omega)] at run;rw[zO (x:=Lj) (by omega) (by omega)] at run;rw[zO (x:=GI) (by omega) (by omega)] at run;rw[zO (x:=YC) (by omega) (by omega)] at run;rw[zO (x:=Qj) (by omega) (by omega)] at run;rw[zO (x:=Lk) (by omega) (by omega)] at run;rw[zO (x:=Ll) (by omega) (by omega)] at run;rw[zO (x:=YD) (by omega) (by omega)] at run;rw[zO (x:=Qk) (by omega) (by omega)] at run;rw[zO (x:=Ql) (by omega) (by omega)] at run;rw[zO (x:=Qm) (by omega) (by omega)] at run;rw[zO (x:=YE) (by omega) (by omega)] at run;rw[zO (x:=YF) (by omega) (by omega)] at run;rw[zO (x:=YG) (by omega) (by omega)] at run;rw[zO (x:=YH) (by omega) (by omega)] at run;rw[zO (x:=0+YB) (by omega) (by omega)] at run;rw[zO (x:=0+Qi) (by omega) (by omega)] at run;rw[zO (x:=0+Lj) (by omega) (by omega)] at run;rw[zO (x:=0+GI) (by omega) (by omega)] at run;rw[zO (x:=0+Qi+YC) (by omega) (by omega)] at run;rw[zO (x:=0+Lj+Qj) (by omega) (by omega)] at run;rw[zO (x:=0+GI+Lk) (by omega) (by omega)] at run;rw[zO (x:=0+Ll) (by omega) (by omega)] at run;rw[zO (x:=0+Lj+Qj+YD) (by omega) (by omega)] at run;rw[zO (x:=0+GI+Lk+Qk) (by omega) (by omega)] at run;rw[zO (x:=0+Ll+Ql) (by omega) (by omega)] at run;rw[zO (x:=0+Qm) (by omega) (by omega)] at run;rw[zO (x:=0+GI+Lk+Qk+YE) (by omega) (by omega)] at run;rw[zO (x:=0+Ll+Ql+YF) (by omega) (by omega)] at run;rw[zO (x:=0+Qm+YG) (by omega) (by omega)] at run;rw[zO (x:=0+YH) (by omega) (by omega)] at run;obtain⟨d0,d1,d2,d3,d4,d5,d6,d7,d8,c1,c2,n0,n1,n2,n3,n4,n5,n6,n7,n8⟩:=yQh (l0:=0+YB) (l1:=0+Qi+YC) (l2:=0+Lj+Qj+YD) (l3:=0+GI+Lk+Qk+YE) (l4:=0+Ll+Ql+YF) (l5:=0+Qm+YG) (l6:=0+YH) (l7:=0) (l8:=0) (by omega) (by omega) (by omega) (by omega) (by omega) (by omega) (by omega) (by omega) (by omega);refine⟨d0,d1,d2,d3,d4,d5,d6,d7,d8,?_,?_,n0,n1,n2,n3,n4,n5,n6,n7,?_⟩
 ·unfold Qg;rw[dg];simp only[ae];rw[run];simp only[ae];rw[c1];rfl
 ·rw[c2,Dx];unfold V9;omega
 ·have:V9 d0 d1 d2 d3 d4 d5 d6 d7 d8=a*b:=by
   rw[c2,Dx];unfold V9;omega
  unfold V9 at this;omega
def vIn {p m c:Int}(hp:0≤p∧p≤1048576)(hm:0≤m∧m≤1099511627776)(hc:0≤c∧c≤10000):Qn 1000 p m c=some (uH p m c,true):=by
 obtain⟨d0,d1,d2,d3,d4,d5,d6,d7,d8,e1,e2,n0,n1,n2,n3,n4,n5,n6,n7,n8⟩:=vHj hp hm;have yd:=wG hp.1 hp.2 hm.1 hm.2;have hn:0≤10000-c∧10000-c≤10000:=by omega
 have wn:zA (10000-c)=10000-c:=zO (by omega) (by omega);have hw:=yJ7 hp hm hc;unfold uH at hw⊢;have hpn:=wG yd.1 yd.2 hn.1 hn.2;have eV:=Yx d0 d1 d2 d3 d4 d5 d6 d7 d8 (10000-c);rw[e2] at eV;unfold Qn;rw[ab (show¬p<0 by omega),ab (show¬m<0 by omega),ab (show¬c<0 by omega),ab (show¬c>10000 by omega),e1,wn];simp only[ak,ae];rw[vOm];generalize 10000-c=n at*
 have u0:=wG n0.1 (show d0≤65535 by omega) hn.1 hn.2;have u1:=wG n1.1 (show d1≤65535 by omega) hn.1 hn.2;have u2:=wG n2.1 (show d2≤65535 by omega) hn.1 hn.2;have u3:=wG n3.1 (show d3≤65535 by omega) hn.1 hn.2;have u4:=wG n4.1 (show d4≤65535 by omega) hn.1 hn.2;have u5:=wG n5.1 (show d5≤65535 by omega) hn.1 hn.2;have u6:=wG n6.1 (show d6≤65535 by omega) hn.1 hn.2;have u7:=wG n7.1 (show d7≤65535 by omega) hn.1 hn.2;have u8:0≤d8*n∧d8*n≤0:=by rw[n8,Int.zero_mul];omega
 generalize d0*n=t0 at*
 generalize d1*n=t1 at*
 generalize d2*n=t2 at*
 generalize d3*n=t3 at*
 generalize d4*n=t4 at*
 generalize d5*n=t5 at*
 generalize d6*n=t6 at*
 generalize d7*n=t7 at*
 generalize d8*n=t8 at*
 rw[zO (x:=t0) (by omega) (by omega),zO (x:=t1) (by omega) (by omega),zO (x:=t2) (by omega) (by omega),zO (x:=t3) (by omega) (by omega),zO (x:=t4) (by omega) (by omega),zO (x:=t5) (by omega) (by omega),zO (x:=t6) (by omega) (by omega),zO (x:=t7) (by omega) (by omega),zO (x:=t8) (by omega) (by omega)];obtain⟨e0,e1,e2,e3,e4,e5,e6,e7,e8,f1,f2,k0,k1,k2,k3,k4,k5,k6,k7,k8⟩:=yQh (l0:=t0) (l1:=t1) (l2:=t2) (l3:=t3) (l4:=t4) (l5:=t5) (l6:=t6) (l7:=t7) (l8:=t8) (by omega) (by omega) (by omega) (by omega) (by omega) (by omega) (by omega) (by omega) (by omega);rw[f1];simp only[ae];rw[←eV] at f2;have z8:e8≤0:=by unfold V9 at f2;omega
 rw[vZk k0 k1 k2 k3 k4 k5 k6 k7 ⟨k8,z8⟩ (by rw[f2];exact hw.2),f2];rfl
def yWx k x y:Lm k x.1 x.2.1 x.2.2.1 x.2.2.2.1 x.2.2.2.2.1 x.2.2.2.2.2.1 x.2.2.2.2.2.2 y.1 y.2.1 y.2.2.1 y.2.2.2.1 y.2.2.2.2.1 y.2.2.2.2.2.1 y.2.2.2.2.2.2=some (jO x y):=by
 unfold Lm jO;grind
def YI k {a b}(ha:0≤a∧a≤4611686018427387904)(hb:0≤b∧b≤1152921504606846976):GJ k a b=some (a+b,true):=by
 unfold GJ;rw[zO (x:=a+b) (by omega) (by omega),zO (x:=9223372036854775807-b) (by omega) (by omega),ab (show¬a>9223372036854775807-b by omega),ab (show¬b<0 by omega)];simp
def yOf {sa pr h}(L:kS sa pr h):B2 1000 sa pr h=some (mo sa pr h,true):=by
 have h3:=L.n3;obtain ⟨s', g1, g2⟩ := yW (L := fun n i (v : Int) => Ln 1000 n sa pr h v i) (N := sa.length) (fun v => (.inl v : Int ⊕ Int × Bool)) (fun i v => v = qJ (oz sa pr h) i) (fun n v _=>by
  show GK 1000 _ sa pr h v (sa.length:Int)=_;unfold GK;simp) (fun n i v hi hv=>by
  refine⟨v+oz sa pr h i,?_,by rw[hv];rfl⟩;show GK 1000 (Ln 1000 n) sa pr h v (i:Int)=_;unfold GK;have hw:=KT L hi;have hb:=PJ (g:=oz sa pr h) (n:=i) (fun j hj=>KT L (by omega));have ed:sa.getD i (0,0)=sa.getD i uI:=rfl;rw[aa (by grind),qC,qC,qC,aa hi,aa (show i<pr.length by rw[L.pl];exact hi),aa (show i<h.length by rw[L.hl];exact hi),ao,ed,vIn (L.price i hi) (L.hold i hi) (L.cut i hi)];simp only[ae];have e:uH (pr.getD i 0) (h.getD i 0) (sa.getD i uI).2=oz sa pr h i:=rfl;rw[e,YI _ (by omega) hw,qD hi (by omega)];rfl) (n:=1000) (s:=0) (by omega) rfl
 unfold B2;rw[aa (show(pr.length:Int)=(sa.length:Int) by rw[L.pl]),aa (show(h.length:Int)=(sa.length:Int) by rw[L.hl]),g1,g2];rfl
def GL {α:Type}{d}(l:List α){i} h:l.getD i d=l[i]:=by
 simp_all
def Lp {X:Type}{L:Nat→Int→Option X}{N:Nat}{e}(bO:∀n,L (n+1) (N:Int)=some e)(aK:∀n i,i<N→L (n+1) (i:Int)=L n ((i+1:Nat):Int)){n}(hn:N<n):L n 0=some e:=by
 obtain⟨_,h,_⟩:=yW (L:=fun n i (_:Unit)=>L n i) (N:=N) (fun _=>e) (fun _ _=>True) (by grind) (fun n i _ hi _=>⟨(),by grind,trivial⟩) (n:=n) (s:=()) hn trivial;exact h
def uV {k l}(hk:l.length<k)(hl:qT l) id:oC k l id=some (iB l id):=by
 unfold qT at hl;unfold oC;rw[Pw hk (by omega)];unfold kf iB;cases hp:wB l id with
 |none=>rfl
 |some x=>
  have hx:=(kR hp).1;have e1:decide ((x:Int)<0)=false:=ab (by omega);have e2:decide ((0:Int)≤(x:Int))=true:=by simp
  have e3:decide ((x:Int)≤(l.length:Int))=true:=aa (by omega);have e4:decide ((0:Int)≤((x+1:Nat):Int))=true:=aa (by omega);have e5:decide (((x+1:Nat):Int)≤(l.length:Int))=true:=aa (by omega);have l1:=List.length_take_le x l;have l2:(l.drop (x+1)).length≤l.length:=by rw[List.length_drop];omega
  have e6:zL (0+(l.take x).length) 56=true:=qI (by omega) (by omega);have e7:zL ((l.take x).length+(l.drop (x+1)).length) 56=true:=qI (by omega) (by omega);simp only[ae,e3,e5,qD hx (show l.length<9223372036854775808 by omega),qC,aa hx,ao,e6,e7];rfl
def vLz (q p:zH):kg q p= !jO p q:=by
 unfold kg jO;rcases Int.lt_trichotomy q.2.1 p.2.1 with h|h|h
 ·have h1:¬p.2.1<q.2.1:=by omega
  have h2:¬p.2.1=q.2.1:=by omega
  simp[h,h1,h2]
 ·rcases Int.lt_trichotomy q.2.2.2.2.1 p.2.2.2.2.1 with g|g|g
  ·have g1:¬p.2.2.2.2.1≤q.2.2.2.2.1:=by omega
   simp[h,g,g1]
  ·simp[h,g]
  ·have g1:¬q.2.2.2.2.1<p.2.2.2.2.1:=by omega
   have g2:p.2.2.2.2.1≤q.2.2.2.2.1:=by omega
   simp[h,g1,g2]
 ·have h1:¬q.2.1<p.2.1:=by omega
  have h2:¬q.2.1=p.2.1:=by omega
  simp[h,h1,h2]
def Qo {k}{l:List zH}(hl:l.length≤1000){x}(hx:x≤l.length) y:B3 k l x y.1 y.2.1 y.2.2.1 y.2.2.2.1 y.2.2.2.2.1 y.2.2.2.2.2.1 y.2.2.2.2.2.2=some (l.take x++(y::l.drop x)):=by
 unfold B3;have e1:(decide (0≤(x:Int))&&decide ((x:Int)≤((l.length:Nat):Int)))=true:=by simp_all
 have e2:zL (0+(l.take x).length) 56=true:=qI (by grind) (by grind);have e3:zL ((l.take x).length+1) 56=true:=qI (by grind) (by grind);rw[e1,ao,e2,e3];have e4:zL ((l.take x++[(y.1,(y.2.1,(y.2.2.1,(y.2.2.2.1,(y.2.2.2.2.1,(y.2.2.2.2.2.1,y.2.2.2.2.2.2))))))]).length+(l.drop x).length) 56=true:=qI (by grind) (by grind);grind
def YJ {k}{l:List zH}(hk:l.length<k)(hl:l.length≤1000) y:GM k l y.1 y.2.1 y.2.2.1 y.2.2.2.1 y.2.2.2.2.1 y.2.2.2.2.2.1 y.2.2.2.2.2.2=some (((l.takeWhile (fun q=>jO q y)).length:Nat):Int):=by
 have := FN (L := fun n i => GN k n l i y.1 y.2.1 y.2.2.1 y.2.2.2.1 y.2.2.2.2.1 y.2.2.2.2.2.1 y.2.2.2.2.2.2) (N := l.length) (fun x => jO (l.getD x pd) y) (fun i => (i : Int)) (fun n=>by
  show GO k _ l l.length _ _ _ _ _ _ _=_;unfold GO;simp) (fun n i hi=>by
  show GO k _ l i _ _ _ _ _ _ _=_;unfold GO;have h1:=yWx k (l.getD i pd) y;simp only[qC,qU,ao,aa hi,ag,h1,ae,qD hi (by grind)]
  ) l.length 0 k (by omega) hk
 have e:((0:Nat):Int)=0:=rfl;unfold GM;have h':GN k k l 0 y.1 y.2.1 y.2.2.1 y.2.2.2.1 y.2.2.2.2.1 y.2.2.2.2.2.1 y.2.2.2.2.2.2=_:=this;rw[h',FO (fun q=>jO q y) l pd l.length 0 (by omega),List.drop_zero,Nat.zero_add];rfl
def vKg {k:Nat}{l:List zH}(hk:l.length<k)(hl:l.length≤1000)(p:zH):
  B4 k l p.1 p.2.1 p.2.2.1 p.2.2.2.1 p.2.2.2.2.1 p.2.2.2.2.2.1 p.2.2.2.2.2.2=some (bif (wB l p.1).isSome then(l,6) else bif decide (40≤l.length) then(l,3) else(pv l p,0)):=by
 unfold B4;rw[Pw hk (by omega)];unfold kf;cases hp:wB l p.1 with
 |some x=>
  have e1:decide ((x:Int)≥0)=true:=aa (by omega);simp only[ae,e1,ag,Option.isSome_some]
 |none=>
  have e1:decide ((-1:Int)≥0)=false:=rfl;simp only[ae,e1,ak,Option.isSome_none];by_cases h:40≤l.length
  ·rw[aa h,aa (show(l.length:Int)≥40 by omega)];rfl
  ·rw[ab h,ab (show¬(l.length:Int)≥40 by omega)];simp only[ak];rw[YJ hk hl p];simp only[ae];rw[Qo hl (BL _ l) p,(ow _ l).1,(ow _ l).2];rfl
def vI9 {k l}(bP:l.length<k)(hl:qT l){id x}(hx:wB l id=some x) c:
  Lq k l id c=some (pv (yF l x) ((l.getD x pd).1,(l.getD x pd).2.1,(l.getD x pd).2.2.1,(l.getD x pd).2.2.2.1,c,(l.getD x pd).2.2.2.2.2.1,(l.getD x pd).2.2.2.2.2.2),0):=by
 have dp:=kR hx;have hlen:=ou dp.1;have dN:=hl;unfold qT at dN;unfold Lq;rw[uV bP hl];unfold iB;rw[hx];simp only[ae];have h1:=YJ (k:=k) (l:=yF l x) (by omega) (by omega) ((l.getD x pd).1,(l.getD x pd).2.1,(l.getD x pd).2.2.1,(l.getD x pd).2.2.2.1,c,(l.getD x pd).2.2.2.2.2.1,(l.getD x pd).2.2.2.2.2.2);rw[h1];simp only[ae];have h2:=Qo (k:=k) (l:=yF l x) (by omega) (BL (fun q=>jO q ((l.getD x pd).1,(l.getD x pd).2.1,(l.getD x pd).2.2.1,(l.getD x pd).2.2.2.1,c,(l.getD x pd).2.2.2.2.2.1,(l.getD x pd).2.2.2.2.2.2)) (yF l x)) ((l.getD x pd).1,(l.getD x pd).2.1,(l.getD x pd).2.2.1,(l.getD x pd).2.2.2.1,c,(l.getD x pd).2.2.2.2.2.1,(l.getD x pd).2.2.2.2.2.2);rw[h2,(ow _ (yF l x)).1,(ow _ (yF l x)).2];rfl
def YK {k l}(bP:l.length<k)(hl:qT l){id x}(hx:wB l id=some x):
  Lr k l id=some (pv (yF l x) (l.getD x pd),0):=by
 have dp:=kR hx;have hlen:=ou dp.1;have dN:=hl;unfold qT at dN;unfold Lr;rw[uV bP hl];unfold iB;rw[hx];simp only[ae];rw[YJ (k:=k) (l:=yF l x) (by omega) (by omega) (l.getD x pd)];simp only[ae];rw[Qo (k:=k) (l:=yF l x) (by omega) (BL (fun q=>jO q (l.getD x pd)) (yF l x)) (l.getD x pd),(ow _ (yF l x)).1,(ow _ (yF l x)).2];rfl
def vPh {k l}(bP:l.length<k)(hl:qT l){id x}(hx:wB l id=some x):
  Ls k l id=some (KL (yF l x) (l.getD x pd),0):=by
 have dp:=kR hx;have hlen:=ou dp.1;have dN:=hl;unfold qT at dN;have kY:∀(l:List zH),l.length<k→l.length≤1000→∀p:zH,Lt k k l 0 p=some (l,(((l.takeWhile (fun q=>kg q p)).length:Nat):Int),p):=by
  intro l bP hl p;have := FN (L := fun n i => Lt k n l i p) (N := l.length) (fun x => kg (l.getD x pd) p) (fun i => (l, (i : Int), p)) (fun n=>by
   show GP k _ l l.length p=_;unfold GP;simp) (fun n i hi=>by
   show GP k _ l i p=_;unfold GP;have h1:=yWx k p (l.getD i pd);simp only[qC,qU,ao,aa hi,h1,qD hi (by grind),vLz];rfl) l.length 0 k (by omega) bP
  have e:((0:Nat):Int)=0:=rfl;rw[e] at this;rw[this,FO (fun q=>kg q p) l pd l.length 0 (by omega),List.drop_zero,Nat.zero_add]
 unfold Ls;rw[uV bP hl];unfold iB;rw[hx];have h1:=kY (yF l x) (by omega) (by omega) (l.getD x pd);refine(congrArg (fun z=>Option.bind z _) h1).trans ?_;simp only[ae];rw[Qo (k:=k) (l:=yF l x) (by omega) (BL (fun q=>kg q (l.getD x pd)) (yF l x)) (l.getD x pd),(ow _ (yF l x)).1,(ow _ (yF l x)).2];rfl
def YL {k:Nat}{l:AC}(hk:l.length<k)(hl:l.length≤1000)(id:Int):Qp k l id=some (decide (id∈l)):=by
 have := mj (L := fun n i => GQ k n l id i) (N := l.length) (fun i => !decide (l.getD i 0 = id)) (.inl ()) (.inr true) (fun n=>by
  show GR k _ l id l.length=_;unfold GR;rw [ab (Int.lt_irrefl _)]; rfl) (fun n i hi=>by
  show GR k (GQ k n) l id i=_;unfold GR;rw[aa (show(i:Int)<l.length by omega),qC,aa hi,ao,qD hi (by omega)];cases decide (l.getD i 0=id)<;>rfl) hk
 unfold Qp;have h':GQ k k l id 0=_:=this;rw[h'];have e:qH (fun i=> !decide (l.getD i 0=id)) l.length 0= !decide (id∈l):=by
  by_cases hm:id∈l
  ·rw[aa hm];cases ha:qH (fun i=> !decide (l.getD i 0=id)) l.length 0 with
   |false=>rfl
   |true=>
    obtain⟨i,hi,e⟩:=List.getElem_of_mem hm;have:=gE.1 ha i hi;rw[GL l hi,e] at this;simp at this
  ·rw[ab hm];refine gE.2 fun i hi=>?_
   rw[ab (show¬l.getD i 0=id from fun e=>hm (by rw[←e];exact fa hi))];rfl
 rw[e];cases decide (id∈l)<;>rfl
def YM {k:Nat}{l:AC}(hk:l.length<k)(hl:l.length≤1000)(id:Int):
  B5 k l id=some (bif decide (id∈l) then(l,6) else bif decide (200≤l.length) then(l,3) else(qw l id,0)):=by
 unfold B5;rw[YL hk hl];simp only[ae];by_cases hm:id∈l
 ·rw[aa hm];rfl
 ·rw[ab hm];simp only[ak];by_cases h:200≤l.length
  ·rw[aa h,aa (show(l.length:Int)≥200 by omega)];rfl
  ·rw[ab h,ab (show¬(l.length:Int)≥200 by omega)];have := FN (L := fun n i => Lu k n l id i) (N := l.length) (fun x => decide (l.getD x 0 < id)) (fun i => (l, id, (i : Int))) (fun n=>by
    show GS k _ l id l.length=_;unfold GS;simp only [qU, ab (Nat.lt_irrefl _), ak]) (fun n i hi=>by
    show GS k _ l id i=_;unfold GS;simp only[qC,qU,ao,aa hi,ag,qD hi (show l.length<9223372036854775808 by omega)];rfl) l.length 0 k (by omega) hk
   have e:((0:Nat):Int)=0:=rfl;rw[e,FO (fun x=>decide (x<id)) l 0 l.length 0 (by omega),List.drop_zero,Nat.zero_add] at this;have h':Lu k k l id 0=_:=this;simp only[ak];rw[h'];have hn:=BL (fun x=>decide (x<id)) l;obtain⟨t1,t2⟩:=ow (fun x=>decide (x<id)) l;have e1:(decide (0≤(((l.takeWhile (fun x=>decide (x<id))).length:Nat):Int))&&decide ((((l.takeWhile (fun x=>decide (x<id))).length:Nat):Int)≤((l.length:Nat):Int)))=true:=by simp;exact hn
   have hd:=(List.dropWhile_sublist (fun x=>decide (x<id)) (l:=l)).length_le;simp only[ae,e1,ag,ao,t1,t2];rw[qI (n:=0+(l.takeWhile (fun x=>decide (x<id))).length) (by omega) (by omega),qI (n:=(l.takeWhile (fun x=>decide (x<id))).length+1) (by omega) (by omega),qI (n:=(l.takeWhile (fun x=>decide (x<id))++[id]).length+(l.dropWhile (fun x=>decide (x<id))).length) (by rw[List.length_append];simp;omega) (by rw[List.length_append];simp;omega)];simp only[ag];unfold qw;simp
abbrev vWt:=Int×List px×Int×Int×Int×Int×List yA×jL×AC×jL×AC×jL×List zH×AC×Int×Bool×Int
def fw (r:qG)(s:zU)(who:Int):vWt:=(r.1,r.2.1,r.2.2.1,r.2.2.2.1,r.2.2.2.2,s.t,s.B.1,s.B.2.1,s.B.2.2.1,s.B.2.2.2,s.pr,s.ho,s.m,s.ids,s.to,s.ov,who)
def Qq (s:zU)(i:Nat)(a:yA)(to:Int):zU:={s with B:=(s.B.1.set i a,s.B.2.1,s.B.2.2.1,s.B.2.2.2),to:=to}
def GU (s:zU)(i:Nat)(n:Int):Int×zU:=
 bif decide ((s.B.1.getD i ad).1+(s.B.1.getD i ad).2.1-(s.B.1.getD i ad).2.2<n) then(9,s)
 else bif decide (s.to-n<0) then(9,s)
 else bif !decide ((wY (s.B.1.getD i ad) (-n)).2=0) then((wY (s.B.1.getD i ad) (-n)).2,s)
 else bif decide (s.to-n>1152921504606846976) then(8,s)
 else(0,Qq s i (wY (s.B.1.getD i ad) (-n)).1 (s.to-n))
def GV (s:zU)(i:Nat)(n:Int):Int×zU:=
 bif !decide ((wY (s.B.1.getD i ad) n).2=0) then((wY (s.B.1.getD i ad) n).2,s)
 else bif decide (s.to+n>1152921504606846976) then(8,s)
 else(0,Qq s i (wY (s.B.1.getD i ad) n).1 (s.to+n))
def iD (r:qG)(s:zU)(kd to n:Int):Int×zU:=
 bif !(decide (to≥0)&&decide (to≤r.1-1)) then(1,s)
 else bif !(decide (n≥1)&&decide (n≤1099511627776)) then(1,s)
 else bif decide (kd=11) then GU s to.toNat n else GV s to.toNat n
def yTc {k}(hk:1000≤k){r}(hr:vN r){s}(h:qX r s) who kd to n:
    ∃d,B6 k (fw r s who) kd to n=some ((iD r s kd to n).1,d)∧((iD r s kd to n).1=0→d=dk r (iD r s kd to n).2 who []):=by
  have hp:=hr.pa;have hn:=h.n;have ht:=h.tot;have w1:zA (r.1-1)=r.1-1:=zO (by omega) (by omega);have eD:B6 k (fw r s who) kd to n=(vJ k to 0 (zA (r.1-1))).bind fun x0=>
    bif !x0 then some (1,dk r s who [])
    else(vJ k n 1 1099511627776).bind fun x1=>
    bif !x1 then some (1,dk r s who [])
    else bif zB to s.B.1.length then ((GW k (s.B.1.getD to.toNat (0,0,0)) n).bind fun x2=>
      bif decide (kd = 11) then ((GX k (s.B.1.getD to.toNat (0,0,0)) n 3).bind fun x3=>
       (GY k (s.B.1.getD to.toNat (0,0,0)) 3).bind fun x4=>
       bif decide (x4<n) then some (9,dk r s who [])
       else bif decide ((zA (s.to-n))<0) then some (9,dk r s who [])
       else bif !(decide (x3.2=0)) then some (x3.2,dk r s who [])
       else bif decide ((zA (s.to-n))>1152921504606846976) then some (8,dk r s who [])
       else(gF k s.B.1 s.B.2.1 s.B.2.2.1 s.B.2.2.2).bind fun x5=>
       bif zB to x5.1.length then some (0,dk r {s with B:=(x5.1.set to.toNat x3.1,x5.2.1,x5.2.2.1,x5.2.2.2),to:=zA (s.to-n)} who [])
       else none)
      else bif !(decide (x2.2=0)) then some (x2.2,dk r s who [])
      else bif decide ((zA (s.to+n))>1152921504606846976) then some (8,dk r s who [])
      else(gF k s.B.1 s.B.2.1 s.B.2.2.1 s.B.2.2.2).bind fun x6=>
      bif zB to x6.1.length then some (0,dk r {s with B:=(x6.1.set to.toNat x2.1,x6.2.1,x6.2.2.1,x6.2.2.2),to:=zA (s.to+n)} who [])
      else none)
    else none:=rfl
  rw[eD,w1,ny,ny,Kb (by omega) h.bk.toSized];simp only[ae];unfold iD;cases hc:decide (to≥0)&&decide (to≤r.1-1) with
  |false=>exact by simp
  |true=>
  simp only[bb,aW] at hc;cases hm:decide (n≥1)&&decide (n≤1099511627776) with
  |false=>exact by simp
  |true=>
  simp only[bb,aW] at hm;obtain⟨i,rfl⟩:=Int.eq_ofNat_of_zero_le hc.1;have hi:i<s.B.1.length:=by omega
  have hb:=h.bk.nums.bal i hi;have kL:=h.bk.nums.res i hi;have hcr:=h.most i hi;have YN:0≤(s.B.1.getD i ad).2.1:=by rw[h.cred i hi];exact F3 (h.laid i hi)
  have b0:zB (i:Int) s.B.1.length=true:=by rw[qC,aa hi]
  have Lv:GW k (s.B.1.getD i (0,0,0)) n=some (wY (s.B.1.getD i ad) n):=by
    unfold GW;rw[yLu hb (by omega)];rfl
  have Lw:GX k (s.B.1.getD i (0,0,0)) n 3=some (wY (s.B.1.getD i ad) (-n)):=by
    unfold GX;rw[show zA (0-n)= -n by rw[zO (by omega) (by omega)];omega,yLu hb (by omega)];simp
  have ye:GY k (s.B.1.getD i (0,0,0)) 3=some ((s.B.1.getD i ad).1+(s.B.1.getD i ad).2.1-(s.B.1.getD i ad).2.2):=by
    unfold GY;have d1:decide ((3:Int)=3)=true:=rfl;rw[d1,ag];have q1:zA ((s.B.1.getD i (0,0,0)).1+(s.B.1.getD i (0,0,0)).2.1)=(s.B.1.getD i ad).1+(s.B.1.getD i ad).2.1:=zO (by simp only[ad] at*;omega) (by simp only[ad] at*;omega);rw[q1];exact congrArg some (zO (by simp only[ad] at*;omega) (by simp only[ad] at*;omega))
  have q2:zA (s.to-n)=s.to-n:=zO (by omega) (by omega);have q3:zA (s.to+n)=s.to+n:=zO (by omega) (by omega);simp only[aA,ak,b0,ag,ao,Lv,Lw,ye,ae,q2,q3];clear Lv Lw ye eD;cases decide (kd=11) with
  |true=>
    simp only[ag];unfold GU;cases decide ((s.B.1.getD i ad).1+(s.B.1.getD i ad).2.1-(s.B.1.getD i ad).2.2<n) with
    |true=>exact by simp
    |false=>
    cases decide (s.to-n<0) with
    |true=>exact by simp
    |false=>
    cases hz:decide ((wY (s.B.1.getD i ad) (-n)).2=0) with
    |false=>exact by simp
    |true=>
    cases decide (s.to-n>1152921504606846976) with
    |true=>exact by simp
    |false=>exact⟨_,rfl,fun _=>rfl⟩
  |false=>
    simp only[ak];unfold GV;cases hz:decide ((wY (s.B.1.getD i ad) n).2=0) with
    |false=>exact by simp
    |true=>
    cases decide (s.to+n>1152921504606846976) with
    |true=>exact by simp
    |false=>exact⟨_,rfl,fun _=>rfl⟩
def gh (sa:List px)(pr:AC)(ho:jL)(j:Nat):Int:=mo sa pr (ho.getD j [])
def tf (sa:List px)(pr:AC)(ho:jL)(a:List yA):List yA:=(List.range a.length).map fun j=>((a.getD j ad).1,gh sa pr ho j,(a.getD j ad).2.2)
def B7 (r:qG)(s:zU)(pr:AC):Int×zU:=
 bif qH (fun j=> !decide (gh r.2.1 pr s.ho j>1152921504606846976)) s.B.1.length 0 then(0,{s with B:=(tf r.2.1 pr s.ho s.B.1,s.B.2.1,s.B.2.2.1,s.B.2.2.2),pr:=pr}) else(8,s)
def iX (r:qG)(s:zU)(a p:Int):Int×zU:=
 bif !(decide (a≥0)&&decide (a≤(r.2.1.length:Int)-1)) then(1,s)
 else bif !(decide (p≥0)&&decide (p≤1048576)) then(1,s)
 else B7 r s (s.pr.set a.toNat p)
def YO sa pr ho a:(tf sa pr ho a).length=a.length:=by simp[tf]
def Qr sa pr ho a {j}(hj:j<a.length):(tf sa pr ho a).getD j ad=((a.getD j ad).1,gh sa pr ho j,(a.getD j ad).2.2):=by
 unfold tf;simp_all
def vY9 {k:Nat}(hk:1000≤k){r:qG}{s:zU}(who:Int){pr:AC}(hL:∀i,i<s.B.1.length→kS r.2.1 pr (s.ho.getD i []))(hol:s.ho.length=s.B.1.length)(gG:s.B.1.length≤6):
  (qH (fun j=> !decide (gh r.2.1 pr s.ho j>1152921504606846976)) s.B.1.length 0=true∧uW k k s.ho s.ho.length 0 (fw r s who) pr s.B.1 s.B.2.1 s.B.2.2.1 s.B.2.2.2=some (.inl (fw r s who,pr,tf r.2.1 pr s.ho s.B.1,s.B.2.1,s.B.2.2.1,s.B.2.2.2)))∨
  (qH (fun j=> !decide (gh r.2.1 pr s.ho j>1152921504606846976)) s.B.1.length 0=false∧uW k k s.ho s.ho.length 0 (fw r s who) pr s.B.1 s.B.2.1 s.B.2.2.1 s.B.2.2.2=some (.inr (8,fw r s who))):=by
 rw[hol];have:=Pd (L:=fun n i (a:List yA)=>uW k n s.ho s.B.1.length i (fw r s who) pr a s.B.2.1 s.B.2.2.1 s.B.2.2.2) (N:=s.B.1.length) (fun j=> !decide (gh r.2.1 pr s.ho j>1152921504606846976))
  (fun a=>.inl (fw r s who,pr,a,s.B.2.1,s.B.2.2.1,s.B.2.2.2)) (.inr (8,fw r s who))
  (fun i a => a.length = s.B.1.length ∧ ∀ j, j < s.B.1.length → a.getD j ad = if j < i then ((s.B.1.getD j ad).1, gh r.2.1 pr s.ho j, (s.B.1.getD j ad).2.2) else s.B.1.getD j ad) (fun n a _=>by
   show GZ k _ s.ho s.B.1.length s.B.1.length (fw r s who) pr a s.B.2.1 s.B.2.2.1 s.B.2.2.2=_;unfold GZ;simp only [qU, ab (Nat.lt_irrefl _), ak]) (fun n i a hi ha=>by
   have hv:=XQ (k:=k) (hL i hi) (by omega);have aK:uW k (n+1) s.ho s.B.1.length i (fw r s who) pr a s.B.2.1 s.B.2.2.1 s.B.2.2.2=bif decide (gh r.2.1 pr s.ho i>1152921504606846976) then some (.inr (8,fw r s who)) else uW k n s.ho s.B.1.length ((i+1:Nat):Int) (fw r s who) pr (a.set i ((a.getD i ad).1,gh r.2.1 pr s.ho i,(a.getD i ad).2.2)) s.B.2.1 s.B.2.2.1 s.B.2.2.2:=by
    show GZ k _ s.ho s.B.1.length i (fw r s who) pr a s.B.2.1 s.B.2.2.1 s.B.2.2.2=_;unfold GZ;have iK:sW k (fw r s who).2.1 pr (s.ho.getD i [])=some (gh r.2.1 pr s.ho i,true):=hv;simp only[qU,qC,ao,aa hi,aa (show i<s.ho.length by omega),aa (show i<a.length by rw[ha.1];exact hi),ag,iK,ae,aA,ak,qD hi (show s.B.1.length<9223372036854775808 by omega)];rfl
   refine⟨fun ho=>?_,fun ho=>?_⟩
   ·have h1:decide (gh r.2.1 pr s.ho i>1152921504606846976)=false:=by simpa using ho
    refine⟨_,by rw[aK,h1];rfl,by rw[List.length_set];exact ha.1,fun j hj=>?_⟩;rw[fM];by_cases e:i=j
    ·subst e;rw[if_pos ⟨rfl,by rw[ha.1];exact hi⟩,if_pos (by omega),ha.2 i hi,if_neg (Nat.lt_irrefl _)]
    ·rw[if_neg (by omega),ha.2 j hj];by_cases h:j<i
     ·rw[if_pos h,if_pos (by omega)]
     ·rw[if_neg h,if_neg (by omega)]
   ·have h1:decide (gh r.2.1 pr s.ho i>1152921504606846976)=true:=by simpa using ho
    rw[aK,h1];rfl) s.B.1.length 0 k s.B.1 (by omega) (by omega) ⟨rfl,fun j _=>by rw[if_neg (Nat.not_lt_zero _)]⟩
 rcases this with⟨h1,a,h2,h3,h4⟩|⟨h1,h2⟩
 ·refine .inl ⟨h1,?_⟩;have e:a=tf r.2.1 pr s.ho s.B.1:=Eo ad (by rw[h3,YO]) fun j hj=>by
   rw[h3] at hj;rw[h4 j hj,if_pos hj,Qr _ _ _ _ hj]
  rw[←e];exact h2
 ·exact .inr ⟨h1,h2⟩
def yP8 {k:Nat}(hk:1000≤k){r:qG}(hr:vN r){s:zU}(h:qX r s)(who a p:Int):
  ∃d,Qs k (fw r s who) a p=some ((iX r s a p).1,d)∧((iX r s a p).1=0→d=dk r (iX r s a p).2 who []):=by
 have h3:=hr.n3;have gG:=h.bk.n6;have ma:=h.bk.n1;have w1:zA ((r.2.1.length:Int)-1)=(r.2.1.length:Int)-1:=zO (by omega) (by omega);have eD:Qs k (fw r s who) a p=((vJ k a 0 (zA ((r.2.1.length:Int)-1))).bind fun x0=>some x0).bind fun x0=>
  bif !x0 then some (1,dk r s who [])
  else(vJ k p 0 1048576).bind fun x1=>
  bif !x1 then some (1,dk r s who [])
  else(qy k s.pr a p).bind fun x2=>
  (gF k s.B.1 s.B.2.1 s.B.2.2.1 s.B.2.2.2).bind fun x3=>
  (uW k k s.ho (s.ho.length:Int) 0 (fw r s who) x2 x3.1 x3.2.1 x3.2.2.1 x3.2.2.2).bind fun z=>
  match z with
  |.inl z1=>some (0,(jK z1.1 (B8 z1 (z1.2.1,(YP z1.1 [])))))
  |.inr z2=>some (jN z2 []):=rfl
 rw[eD,w1,ny,ny,Kb (by omega) h.bk.toSized];simp only[ae];unfold iX;cases hc:decide (a≥0)&&decide (a≤(r.2.1.length:Int)-1) with
 |false=>exact⟨_,rfl,fun e=>by cases e⟩
 |true=>
 simp only[bb,aW] at hc;cases hm:decide (p≥0)&&decide (p≤1048576) with
 |false=>exact⟨_,rfl,fun e=>by cases e⟩
 |true=>
 simp only[bb,aW] at hm;obtain⟨i,rfl⟩:=Int.eq_ofNat_of_zero_le hc.1;have hi:i<r.2.1.length:=by omega
 have L0:=h.laid 0 (by omega);have mv:qy k s.pr (i:Int) p=some (s.pr.set i p):=by
  have:=yGr (k:=k) (l:=s.pr) (by rw[L0.pl];omega) (i:=(i:Int)) (by omega) (by rw[L0.pl];omega) p;rw[ao] at this;exact this
 simp only[aA,ak,mv,ae,ao];unfold B7;rcases vY9 (r:=r) (s:=s) hk who (pr:=s.pr.set i p) (fun j hj=>(h.laid j hj).setP hi ⟨by omega,by omega⟩) h.hol gG with⟨g1,g2⟩|⟨g1,g2⟩
 ·rw[g2,g1];exact⟨_,rfl,fun _=>rfl⟩
 ·rw[g2,g1];exact⟨_,rfl,fun e=>by cases e⟩
def Lx {q p}:jO q p=true↔q.2.1<p.2.1∨(q.2.1=p.2.1∧q.2.2.2.2.1≤p.2.2.2.2.1):=by
 unfold jO;simp
def YQ {q p}:kg q p=true↔q.2.1<p.2.1∨(q.2.1=p.2.1∧q.2.2.2.2.1<p.2.2.2.2.1):=by
 unfold kg;simp
def vRe {a b c}(h:jO a b=true)(g:jO b c=true):jO a c=true:=by
 rw[Lx] at*;omega
def vOn {a b}(h:¬jO a b=true):jO b a=true:=by
 rw[Lx] at*;omega
def YR {a b}(h:kg a b=true):jO a b=true:=by
 rw[YQ] at h;rw[Lx];omega
def vH6 {a b}(h:¬kg a b=true):jO b a=true:=by
 rw[YQ] at h;rw[Lx];omega
def vEl f l (p:zH):List.Perm (l.takeWhile f++(p::l.dropWhile f)) (p::l):=by
 have:=List.perm_middle (a:=p) (l₁:=l.takeWhile f) (l₂:=l.dropWhile f);simp_all
def yXp {l:List zH}(hs:pD l)(p:zH)(f:zH→Bool)(h1:∀q,f q=true→jO q p=true)(h2:∀q,¬f q=true→jO p q=true):pD (l.takeWhile f++(p::l.dropWhile f)):=by
 have tY:=hs;unfold pD at hs tY⊢;rw[←List.takeWhile_append_dropWhile (p:=f) (l:=l)] at hs;obtain⟨a1,a2,a3⟩:=List.pairwise_append.1 hs;have YS:∀q∈l.takeWhile f,f q=true:=fun q hq=>List.all_eq_true.1 (List.all_takeWhile (p:=f) (l:=l)) q hq
 have YT:∀q∈l.dropWhile f,jO p q=true:=by
  cases hd:l.dropWhile f with
  |nil=>intro q hq;cases hq
  |cons x m=>
   have hx:¬f x=true:=by
    have bo:l.dropWhile f≠[]:=by rw[hd];simp
    have:=List.head_dropWhile_not f bo;have e:(l.dropWhile f).head bo=x:=by simp only[hd,List.head_cons]
    rw[e] at this;simp[this]
   intro q hq;rcases List.mem_cons.1 hq with rfl|hq
   ·exact h2 _ hx
   ·rw[hd] at a2;exact vRe (h2 x hx) ((List.pairwise_cons.1 a2).1 q hq)
 refine List.pairwise_append.2 ⟨a1,List.pairwise_cons.2 ⟨YT,a2⟩,fun a ha b hb=>?_⟩;rcases List.mem_cons.1 hb with rfl|hb
 ·exact h1 a (YS a ha)
 ·exact a3 a ha b hb
def YU {l}(hs:pD l) p:pD (pv l p):=yXp hs p _ (by simp) (fun _ h=>vOn h)
def vRa {l}(hs:pD l) p:pD (KL l p):=yXp hs p _ (fun _ h=>YR h) (fun _ h=>vH6 h)
def YV l p:List.Perm (pv l p) (p::l):=vEl _ l p
def vW3 l p:List.Perm (KL l p) (p::l):=vEl _ l p
def pD.cut {l}(h:pD l) x:pD (yF l x):=List.Pairwise.sublist (uF l x) h
def vS9 {l:AC}(ha:uG l){id:Int}(hn:id∉l):uG (qw l id):=by
 unfold qw;have rY:=ha;unfold uG at ha rY⊢;rw[←List.takeWhile_append_dropWhile (p:=fun x=>decide (x<id)) (l:=l)] at ha;obtain⟨a1,a2,a3⟩:=List.pairwise_append.1 ha;have YS:∀q∈l.takeWhile (fun x=>decide (x<id)),q<id:=fun q hq=>by simpa using List.all_eq_true.1 (List.all_takeWhile (p:=fun x=>decide (x<id)) (l:=l)) q hq
 have YT:∀q∈l.dropWhile (fun x=>decide (x<id)),id<q:=by
  cases hd:l.dropWhile (fun x=>decide (x<id)) with
  |nil=>intro q hq;cases hq
  |cons x m=>
   have AW:x∈l:=(List.dropWhile_sublist _).subset (by rw[hd];exact List.mem_cons_self ..);have hx:¬x<id:=by
    have bo:l.dropWhile (fun x=>decide (x<id))≠[]:=by rw[hd];simp
    have:=List.head_dropWhile_not (fun x=>decide (x<id)) bo;have e:(l.dropWhile (fun x=>decide (x<id))).head bo=x:=by simp only[hd,List.head_cons]
    rw[e] at this
    simpa using this
   have bo:x≠id:=fun e=>hn (e▸AW)
   intro q hq;rcases List.mem_cons.1 hq with rfl|hq
   ·omega
   ·rw[hd] at a2;have:=(List.pairwise_cons.1 a2).1 q hq;omega
 refine List.pairwise_append.2 ⟨a1,List.pairwise_cons.2 ⟨YT,a2⟩,fun a ha b hb=>?_⟩;rcases List.mem_cons.1 hb with rfl|hb
 ·exact YS a ha
 ·exact a3 a ha b hb
def vTc l id:List.Perm (qw l id) (id::l):=by
 have:=List.perm_middle (a:=id) (l₁:=l.takeWhile (fun x=>decide (x<id))) (l₂:=l.dropWhile (fun x=>decide (x<id)))
 rwa [List.takeWhile_append_dropWhile] at this
def kh.sub {n m m' ids}(h:kh n m ids)(hs:List.Sublist m' m):kh n m' ids:=
 ⟨List.Pairwise.sublist hs h.dist,by have:=hs.length_le;have:=h.len;omega,List.Pairwise.sublist hs h.sort,fun p hp=>h.may p (by grind),fun p hp=>h.time p (by grind),fun p hp=>h.were p (by grind),h.asc,h.pos,h.idl⟩
def kh.turn {n:Nat}{m:List zH}{ids:AC}(h:kh n m ids){x:Nat}(hx:x<m.length){p:zH}{m':List zH}(hp:List.Perm m' (p::yF m x))(hs:pD m')(h1:p.1=(m.getD x pd).1)
  (h2:yJ n p) (h3:0≤p.2.2.2.2.2.1∧p.2.2.2.2.2.1≤p.2.2.2.2.2.2∧p.2.2.2.2.2.2≤1048576):kh n m' ids:=by
 have hc:=uF m x;have hl:=ou hx;have hd:qM (p::yF m x):=by
  refine List.pairwise_cons.2 ⟨fun q hq=>?_,h.dist.cut x⟩;rw[h1];have hd:=h.dist;unfold qM at hd;rw[Pu m x pd hx] at hd;have KO:=List.pairwise_append.1 hd;have XH:=List.pairwise_cons.1 KO.2.1;unfold yF at hq;rcases List.mem_append.1 hq with hq|hq
  ·exact fun e=>KO.2.2 _ hq _ (List.mem_cons_self ..) e.symm
  ·exact XH.1 _ hq
 have hlen:=hp.length_eq;rw[List.length_cons] at hlen;refine⟨hd.perm hp,by have:=h.len;omega,hs,fun q hq=>?_,fun q hq=>?_,fun q hq=>?_,h.asc,h.pos,h.idl⟩;all_goals rcases List.mem_cons.1 (hp.subset hq) with rfl|pw
 ·exact h2
 ·exact h.may q (hc.subset pw)
 ·exact h3
 ·exact h.time q (hc.subset pw)
 ·rw[h1];exact h.were _ (fa hx)
 ·exact h.were q (hc.subset pw)
def yPj {r:qG}{s:zU}(hr:vN r)(h:qX r s){who:Int}{f:jD}(h0:(iU r s who f).1=0):kh s.B.1.length (iU r s who f).2.1 (iU r s who f).2.2:=by
 have hw:=h.waits;have hn:=h.n;have ht:=h.tk;unfold iU at h0⊢;cases hc:decide (f.2.2.1≥0)&&decide (f.2.2.1≤r.1-1) with
 |false=>rw[hc] at h0;cases h0
 |true=>
 cases cN:decide (f.2.2.2.2.1≥1)&&decide (f.2.2.2.2.1≤3) with
 |false=>rw[hc,cN] at h0;cases h0
 |true=>
 cases dI:decide (nz r s.t (gg who f)=0) with
 |false=>rw[hc,cN,dI] at h0;exact absurd h0 (gd dI)
 |true=>
 cases gV:decide (f.2.1∈s.ids) with
 |true=>rw[hc,cN,dI,gV] at h0;cases h0
 |false=>
 cases ni:decide (200≤s.ids.length) with
 |true=>rw[hc,cN,dI,gV,ni] at h0;cases h0
 |false=>
 cases Eg:(wB s.m f.2.1).isSome with
 |true=>rw[hc,cN,dI,gV,ni,Eg] at h0;cases h0
 |false=>
 cases Eh:decide (40≤s.m.length) with
 |true=>rw[hc,cN,dI,gV,ni,Eg,Eh] at h0;cases h0
 |false=>
 show kh s.B.1.length (pv s.m (gg who f)) (qw s.ids f.2.1);have NM:f.2.1∉s.ids:=gd gV;have hi:=gd ni;have hm:=gd Eh;have B9:=JJ dI;have YW:kV r.1 s.t (gg who f)=true:=by
  unfold nz at B9;cases hb:kV r.1 s.t (gg who f) with
  |true=>rfl
  |false=>rw[hb] at B9;cases B9
 unfold kV at YW;simp only[bb,aW,Bool.not_eq_true',decide_eq_false_iff_not] at YW;obtain⟨⟨p1,p2⟩,⟨p3,p4⟩,p5,p6,p7,p8,p9,um,p11,p12,p13,p14⟩:=YW;have yd:=YV s.m (gg who f);have Qt:=vTc s.ids f.2.1;have hlen:=yd.length_eq;have ql:=Qt.length_eq;rw[List.length_cons] at hlen ql;have bR:yJ s.B.1.length (gg who f):=⟨p1,by omega,p3,by omega,p9,p6,p7,p8,um⟩;have fH:∀x,x∈s.ids→x∈qw s.ids f.2.1:=fun x hx=>Qt.symm.subset (List.mem_cons_of_mem _ hx)
 have Ly:qM (gg who f::s.m):=List.pairwise_cons.2 ⟨fun q hq e=>NM (by have:=hw.were q hq;rw[←e] at this;exact this),hw.dist⟩;refine⟨Ly.perm yd,by omega,YU hw.sort _,fun q hq=>?_,fun q hq=>?_,fun q hq=>?_,vS9 hw.asc NM,fun x hx=>?_,by omega⟩
 ·rcases List.mem_cons.1 (yd.subset hq) with rfl|pw
  ·exact bR
  ·exact hw.may q pw
 ·rcases List.mem_cons.1 (yd.subset hq) with rfl|pw
  ·exact⟨p11,p12,p14⟩
  ·exact hw.time q pw
 ·rcases List.mem_cons.1 (yd.subset hq) with rfl|pw
  ·exact Qt.symm.subset (List.mem_cons_self ..)
  ·exact fH _ (hw.were q pw)
 ·rcases List.mem_cons.1 (Qt.subset hx) with rfl|nQ
  ·exact p5
  ·exact hw.pos x nQ
def yW4 {r s}(h:qX r s){who f}(h0:(kW r s who f).1=0):kh s.B.1.length (kW r s who f).2.1 s.ids:=by
 have hw:=h.waits;unfold kW at h0⊢;cases hx:wB s.m f.2.1 with
 |none=>omega
 |some x=>
 rw[hx] at h0;have dp:=(kR hx).1;have aY:s.m.getD x pd∈s.m:=by grind
 have hm:=hw.may _ aY;have ht:=hw.time _ aY;simp only at h0⊢;cases hc:decide ((s.m.getD x pd).2.1=who) with
 |false=>simp_all
 |true=>
 cases cN:decide (f.1=2) with
 |true=>exact hw.sub (uF _ _)
 |false=>
 cases dI:decide (f.1=4) with
 |true=>
  cases gV:decide (f.2.2.1≥1)&&decide (f.2.2.1≤3) with
  |false=>simp_all
  |true=>
  cases ni:decide (rj r.2.2.1 r.2.2.2.1 s.t f.2.2.1=0) with
  |false=>simp_all
  |true=>
  simp  at gV;obtain⟨m1,m2,m3,m4,m5,m6,m7,m8,m9⟩:=hm;exact hw.turn dp (YV _ _) (YU (hw.sort.cut x) _) rfl ⟨m1,m2,m3,m4,m5,m6,m7,gV.1,gV.2⟩ ht
 |false=>
  cases gV:decide (f.2.2.1=0) with
  |true=>exact hw.turn dp (vW3 _ _) (vRa (hw.sort.cut x) _) rfl hm ht
  |false=>
   cases ni:decide (f.2.2.1=1) with
   |true=>exact hw.turn dp (YV _ _) (YU (hw.sort.cut x) _) rfl hm ht
   |false=>simp_all
def yQo {n}(h:-1≤n∧n≤1152921504606846976):wV n=true:=by
 unfold wV;grind
def pE {a}:fg a=true↔(-4611686018427387904<a.1∧a.1<4611686018427387904)∧(0≤a.2.1∧a.2.1≤2305843009213693952)∧(0≤a.2.2∧a.2.2≤2305843009213693952):=by
 unfold fg;grind
def wP.setBil {a}{b:jL}{m}{p:jL}(h:wP a b m p){w i}(hw:w<a.length)(hi:i<a.length){n}(hn:-1≤n∧n≤1152921504606846976):wP a (b.set w ((b.getD w []).set i n)) m p:=
  { h with
    bl:=by rw[List.length_set];exact h.bl
    br:=fun j hj=>by
      rw[fM];split
      · rw[List.length_set];exact h.br w hw
      · exact h.br j hj
    bil:=fun j hj k hk=>by
      unfold cell;rw[fM];split
      · rw[fM];split
        · exact yQo hn
        · exact h.bil w hw k hk
      · exact h.bil j hj k hk}
def wP.setMul {a}{b:jL}{m}{p:jL}(h:wP a b m p) w {n}(hn:-1≤n∧n≤1152921504606846976):wP a b (m.set w n) p:=
  { h with
    ml:=by rw[List.length_set];exact h.ml
    mul:=fun j hj=>by
      rw[fM];split
      · exact yQo hn
      · exact h.mul j hj}
def wP.setAcct {a}{b:jL}{m}{p:jL}(h:wP a b m p){a'}(hl:a'.length=a.length)(ha:∀i,i<a.length→fg (a'.getD i ad)=true):wP a' b m p where
 n1:=by rw[hl];exact h.n1
 n6:=by rw[hl];exact h.n6
 bl:=by rw[hl];exact h.bl
 br:=by rw[hl];exact h.br
 ml:=by rw[hl];exact h.ml
 pl:=by rw[hl];exact h.pl
 pr:=by rw[hl];exact h.pr
 mul:=by rw[hl];exact h.mul
 bil:=by rw[hl];exact h.bil
 acct:=by simp_all
 net:=by rw[hl];exact h.net
 turn:=by rw[hl];exact h.turn
def YX {n g i}(hi:i<n) d:qJ (fun j=>if j=i then g j+d else g j) n=qJ g n+d:=by
 have e:qJ (fun j=>if j=i then g j+d else g j) n=qJ (fun j=>g j+(if j=i then d else 0)) n:=by grind
 rw[e,En,Bn,if_pos hi]
def qX.books {r s}(h:qX r s){B}(hb:qP B)(hl:B.1.length=s.B.1.length)(BA:∀i,i<s.B.1.length→(B.1.getD i ad).1=(s.B.1.getD i ad).1)(hc:∀i,i<s.B.1.length→(B.1.getD i ad).2.1=(s.B.1.getD i ad).2.1):qX r {s with B:=B} where
 tk:=h.tk
 bk:=hb
 n:=by rw[hl];exact h.n
 hol:=by rw[hl];exact h.hol
 laid:=by rw[hl];exact h.laid
 cred:=by rw[hl];intro i hi;rw[hc i hi];exact h.cred i hi
 most:=by rw[hl];intro i hi;rw[hc i hi];exact h.most i hi
 waits:=by rw[hl];exact h.waits
 sum:=by rw[hl,sM BA];exact h.sum
 tot:=h.tot
 over:=h.over
 none:=h.none
def qX.queue {r s}(h:qX r s)(ho:s.ov=false){m ids}(hw:kh s.B.1.length m ids):qX r {s with m:=m,ids:=ids} where
 tk:=h.tk
 bk:=h.bk
 n:=h.n
 hol:=h.hol
 laid:=h.laid
 cred:=h.cred
 most:=h.most
 waits:=hw
 sum:=h.sum
 tot:=h.tot
 over:=h.over
 none:=by grind
def yY5 {r:qG}{s:zU}(h:qX r s){who:Int}(hw:0≤who∧who<r.1){f:jD}(h0:(iV r s who f).1=0):qX r (iV r s who f).2:=by
 have hn:=h.n;have hb:wP s.B.1 s.B.2.1 s.B.2.2.1 s.B.2.2.2:=h.bk;obtain⟨w,rfl⟩:=Int.eq_ofNat_of_zero_le hw.1;have gH:w<s.B.1.length:=by omega
 unfold iV at h0⊢;cases hc:decide (f.1=5) with
 |true=>
  rw[hc] at h0;simp only[ag] at h0⊢;cases cN:decide (f.2.1≥0)&&decide (f.2.1≤r.1-1) with
  |false=>rw[cN] at h0;cases h0
  |true=>
  cases dI:decide (f.2.1=(w:Int)) with
  |true=>rw[cN,dI] at h0;cases h0
  |false=>
  cases gV:decide (f.2.2.1≥-1)&&decide (f.2.2.1≤1152921504606846976) with
  |false=>rw[cN,dI,gV] at h0;cases h0
  |true=>
  simp only[bb,aW] at cN gV;exact h.books (B:=(s.B.1,s.B.2.1.set w ((s.B.2.1.getD w []).set f.2.1.toNat f.2.2.1),s.B.2.2.1,s.B.2.2.2)) (hb.setBil gH (by omega) (by grind)) rfl (by simp) (by simp)
 |false=>
  rw[hc] at h0;simp only[ak] at h0⊢;cases cN:decide (f.1=6) with
  |true=>
   rw[cN] at h0;simp only[ag] at h0⊢;cases dI:decide (f.2.1≥-1)&&decide (f.2.1≤1152921504606846976) with
   |false=>rw[dI] at h0;cases h0
   |true=>
   simp only[bb,aW] at dI;exact h.books (B:=(s.B.1,s.B.2.1,s.B.2.2.1.set w f.2.1,s.B.2.2.2)) (hb.setMul w (by grind)) rfl (fun _ _=>rfl) (by simp)
  |false=>
   rw[cN] at h0;simp only[ak] at h0⊢;cases dI:decide (f.2.1≥0)&&decide (f.2.1≤1152921504606846976) with
   |false=>rw[dI] at h0;cases h0
   |true=>
   have hg:∀i,(s.B.1.set w ((s.B.1.getD w ad).1,(s.B.1.getD w ad).2.1,f.2.1)).getD i ad=if i=w then((s.B.1.getD w ad).1,(s.B.1.getD w ad).2.1,f.2.1) else s.B.1.getD i ad:=by grind
   refine h.books (B:=(s.B.1.set w ((s.B.1.getD w ad).1,(s.B.1.getD w ad).2.1,f.2.1),s.B.2.1,s.B.2.2.1,s.B.2.2.2)) (hb.setAcct (by rw[List.length_set]) fun i hi=>?_) (by simp) (fun i hi=>?_) (fun i hi=>?_)
   ·rw[hg];split
    ·have:=pE.1 (hb.acct w gH);rw[pE];grind
    ·exact hb.acct i hi
   all_goals grind
def vDj {r}(hr:vN r){s}(h:qX r s){who}(hw:0≤who∧who<r.1){a many}(h0:(iW r s who a many).1=0):qX r (iW r s who a many).2:=by
  have hn:=h.n;have hb:wP s.B.1 s.B.2.1 s.B.2.2.1 s.B.2.2.2:=h.bk;obtain⟨w,rfl⟩:=Int.eq_ofNat_of_zero_le hw.1;have gH:w<s.B.1.length:=by omega
  have hol:=h.hol;unfold iW at h0⊢;simp only[ao] at h0⊢;cases hc:decide (a≥0)&&decide (a≤(r.2.1.length:Int)-1) with
  |false=>simp_all
  |true=>
  cases cN:decide (many≥0)&&decide (many≤1099511627776) with
  |false=>simp_all
  |true=>
  rw[hc,cN] at h0;simp only[aA,ak] at h0⊢;simp  at hc cN;have L2:=(h.laid w gH).set (i:=a.toNat) (by omega) (v:=many) (by grind);have AQ:=F3 L2;obtain⟨n,bo⟩:∃n,n=mo r.2.1 s.pr ((s.ho.getD w []).set a.toNat many):=by simp
  rw[←bo] at h0 AQ⊢;unfold B1 at h0⊢;cases dI:decide (n>1152921504606846976) with
  |true=>simp_all
  |false=>
  cases gV:decide (n<(s.B.1.getD w ad).2.1)&&decide ((s.B.1.getD w ad).1+n<0) with
  |true=>simp_all
  |false=>
  have dI:=gd dI;have hg:∀i,(s.B.1.set w ((s.B.1.getD w ad).1,n,(s.B.1.getD w ad).2.2)).getD i ad=if i=w then((s.B.1.getD w ad).1,n,(s.B.1.getD w ad).2.2) else s.B.1.getD i ad:=by grind
  have hgh:∀i,(s.ho.set w ((s.ho.getD w []).set a.toNat many)).getD i []=if i=w then(s.ho.getD w []).set a.toNat many else s.ho.getD i []:=by grind
  simp only[ak];have gI:(s.B.1.set w ((s.B.1.getD w ad).1,n,(s.B.1.getD w ad).2.2)).length=s.B.1.length:=by simp
  exact{
    tk:=h.tk
    bk:=hb.setAcct gI fun i hi=>by
      rw[hg];split
      · have:=pE.1 (hb.acct w gH);rw[pE];grind
      · exact hb.acct i hi
    n:=by simp_all
    hol:=by simp_all
    laid:=by
      rw[gI];intro i hi;rw[hgh];split
      · exact L2
      · exact h.laid i hi
    cred:=by
      rw[gI];intro i hi;rw[hg,hgh];split
      · exact bo
      · exact h.cred i hi
    most:=by
      rw[gI];intro i hi;rw[hg];split
      · show n≤_;omega
      · exact h.most i hi
    waits:=by rw[gI];exact h.waits
    sum:=by
      rw[gI,sM (h:=fun i=>(s.B.1.getD i ad).1) (by grind)];exact h.sum
    tot:=h.tot
    over:=h.over
    none:=h.none}
def yI6 {r s}(h:qX r s){i}(hi:i<s.B.1.length){n}(hz:(wY (s.B.1.getD i ad) n).2=0)(ht:0≤s.to+n∧s.to+n≤1152921504606846976):
    qX r (Qq s i (wY (s.B.1.getD i ad) n).1 (s.to+n)):=by
  have hb:wP s.B.1 s.B.2.1 s.B.2.2.1 s.B.2.2.2:=h.bk;unfold wY at hz⊢;cases hc:fg ((s.B.1.getD i ad).1+n,(s.B.1.getD i ad).2.1,(s.B.1.getD i ad).2.2) with
  |false=>simp_all
  |true=>
  simp only[ag];have hg:∀j,(s.B.1.set i ((s.B.1.getD i ad).1+n,(s.B.1.getD i ad).2.1,(s.B.1.getD i ad).2.2)).getD j ad=if j=i then((s.B.1.getD i ad).1+n,(s.B.1.getD i ad).2.1,(s.B.1.getD i ad).2.2) else s.B.1.getD j ad:=by grind
  have gI:(s.B.1.set i ((s.B.1.getD i ad).1+n,(s.B.1.getD i ad).2.1,(s.B.1.getD i ad).2.2)).length=s.B.1.length:=by simp
  unfold Qq;exact{
    tk:=h.tk
    bk:=hb.setAcct gI fun j hj=>by
      rw[hg];split
      · exact hc
      · exact hb.acct j hj
    n:=by rw[gI];exact h.n
    hol:=by rw[gI];exact h.hol
    laid:=by rw[gI];exact h.laid
    cred:=by
      rw[gI];intro j hj;rw[hg];split
      · rename_i e;rw[e];exact h.cred i hi
      · exact h.cred j hj
    most:=by
      rw[gI];intro j hj;rw[hg];split
      · exact h.most i hi
      · exact h.most j hj
    waits:=by rw[gI];exact h.waits
    sum:=by
      rw[gI,sM (h:=fun j=>if j=i then(s.B.1.getD j ad).1+n else(s.B.1.getD j ad).1) (by grind),YX hi,h.sum]
    tot:=ht
    over:=h.over
    none:=h.none}
def yQa {r s}(h:qX r s){kd to n}(h0:(iD r s kd to n).1=0):qX r (iD r s kd to n).2∧(iD r s kd to n).2.to=s.to+(if kd=11 then-n else n)∧(iD r s kd to n).2.m=s.m∧(iD r s kd to n).2.ids=s.ids∧(iD r s kd to n).2.t=s.t:=by
 have hn:=h.n;have ht:=h.tot;unfold iD at h0⊢;cases hc:decide (to≥0)&&decide (to≤r.1-1) with
 |false=>rw[hc] at h0;cases h0
 |true=>
 cases cN:decide (n≥1)&&decide (n≤1099511627776) with
 |false=>simp_all
 |true=>
 rw[hc,cN] at h0;simp  at hc cN;have hi:to.toNat<s.B.1.length:=by omega
 by_cases hk:kd=11
 ·rw[aa hk] at h0⊢;rw[if_pos hk];unfold GU at h0⊢;cases dI:decide ((s.B.1.getD to.toNat ad).1+(s.B.1.getD to.toNat ad).2.1-(s.B.1.getD to.toNat ad).2.2<n) with
  |true=>rw[dI] at h0;cases h0
  |false=>
  cases gV:decide (s.to-n<0) with
  |true=>simp_all
  |false=>
  cases hz:decide ((wY (s.B.1.getD to.toNat ad) (-n)).2=0) with
  |false=>grind
  |true=>
  cases ni:decide (s.to-n>1152921504606846976) with
  |true=>grind
  |false=>
  have gV:=gd gV;have:=yI6 h hi (n:= -n) (by grind) (by omega);exact⟨this,rfl,rfl,rfl,rfl⟩
 ·rw[ab hk] at h0⊢;rw[if_neg hk];unfold GV at h0⊢;cases hz:decide ((wY (s.B.1.getD to.toNat ad) n).2=0) with
  |false=>simp_all
  |true=>
  cases ni:decide (s.to+n>1152921504606846976) with
  |true=>simp_all
  |false=>
  have ni:=gd ni;exact⟨yI6 h hi (by grind) (by omega),rfl,rfl,rfl,rfl⟩
def vDl {r s}(h:qX r s){a p}(h0:(iX r s a p).1=0):qX r (iX r s a p).2:=by
  have hb:wP s.B.1 s.B.2.1 s.B.2.2.1 s.B.2.2.2:=h.bk;unfold iX at h0⊢;cases hc:decide (a≥0)&&decide (a≤(r.2.1.length:Int)-1) with
  |false=>simp_all
  |true=>
  cases cN:decide (p≥0)&&decide (p≤1048576) with
  |false=>simp_all
  |true=>
  simp  at hc cN;have hL:∀i,i<s.B.1.length→kS r.2.1 (s.pr.set a.toNat p) (s.ho.getD i []):=fun i hi=>(h.laid i hi).setP (by omega) (by grind)
  generalize s.pr.set a.toNat p=pr at*
  unfold B7 at h0⊢;cases dI:qH (fun j=> !decide (gh r.2.1 pr s.ho j>1152921504606846976)) s.B.1.length 0 with
  |false=>simp_all
  |true=>
  simp;have hle:∀i,i<s.B.1.length→gh r.2.1 pr s.ho i≤1152921504606846976:=fun i hi=>by
    have:=gE.1 dI i hi;simp_all
  have gI:=YO r.2.1 pr s.ho s.B.1;have hg:=fun(j:Nat) (hj:j<s.B.1.length)=>Qr r.2.1 pr s.ho s.B.1 hj
  exact{
    tk:=h.tk
    bk:=hb.setAcct gI fun i hi=>by
      rw[hg i hi];have:=pE.1 (hb.acct i hi);have h1:=F3 (hL i hi);rw[pE];exact⟨this.1,⟨h1,by grind⟩,this.2.2⟩
    n:=by rw[gI];exact h.n
    hol:=by rw[gI];exact h.hol
    laid:=by simp_all
    cred:=by
      rw[gI];intro i hi;rw[hg i hi];rfl
    most:=by
      simp_all
    waits:=by rw[gI];exact h.waits
    sum:=by
      rw[gI,sM (h:=fun i=>(s.B.1.getD i ad).1) (by grind)];exact h.sum
    tot:=h.tot
    over:=h.over
    none:=h.none}
abbrev MT:=Int×List px×Int×Int×Int×Int×List yA×jL×AC×jL×AC×jL×List zH×AC×Int×Bool×Int×Int
abbrev YY:=Int×List px×Int×Int×Int×Int×List yA×jL×AC×jL×AC×jL×List zH×AC×Int×Bool×Int×List qY×Int
def rk (r:qG)(s:zU)(who:Int):MT:=(r.1,r.2.1,r.2.2.1,r.2.2.2.1,r.2.2.2.2,s.t,s.B.1,s.B.2.1,s.B.2.2.1,s.B.2.2.2,s.pr,s.ho,s.m,s.ids,s.to,s.ov,who,0)
def qN (r:qG)(s:zU)(who:Int)(l:List qY)(paid:Int):YY:=(r.1,r.2.1,r.2.2.1,r.2.2.2.1,r.2.2.2.2,s.t,s.B.1,s.B.2.1,s.B.2.2.1,s.B.2.2.2,s.pr,s.ho,s.m,s.ids,s.to,s.ov,who,l,paid)
def G0 (pa n:Int):Int:=bif decide (n<0) then-1 else bif decide (n≥pa) then-1 else n
def YZ k r s who l p n:uX k (qN r s who l p) n=some (G0 r.1 n):=by
 unfold uX G0;have e:(qN r s who l p).1=r.1:=rfl;grind
def Y0 {pa n}(h:0≤n∧n<pa):G0 pa n=n:=by
 unfold G0;grind
def Y1 {pa n}(h:¬(0≤n∧n<pa)):G0 pa n= -1:=by
 unfold G0;grind
def yTv k (r:qG) t c:G1 k r t c=some (rj r.2.2.1 r.2.2.2.1 t c):=by
 unfold G1 rj;grind
def yLr k (r:qG) t (p:zH):Ca k r t p=some (nz r t p):=by
 unfold Ca nz;rw[yTv];simp only[ae];have no:¬(p.2.1≥0∧p.2.1<r.1∧p.2.2.1≥0∧p.2.2.1<r.1∧p.1≥1∧p.2.2.2.1≥1∧p.2.2.2.1≤1099511627776∧p.2.2.2.2.1≥1∧¬p.2.1=p.2.2.1∧p.2.2.2.2.1≤3∧p.2.2.2.2.2.1≥0∧p.2.2.2.2.2.1≤p.2.2.2.2.2.2∧p.2.2.2.2.2.2≥t∧p.2.2.2.2.2.2≤1048576)→kV r.1 t p=false:=by
  intro h;cases e:kV r.1 t p with
  |false=>rfl
  |true=>
   unfold kV at e;grind
 by_cases c1:p.1<1
 ·rw[aa c1,no (fun⟨_,_,_,_,h,_⟩=>by omega)];rfl
 by_cases c2:p.2.1<0
 ·rw[ab c1,aa c2,no (fun⟨h,_⟩=>by omega)];rfl
 by_cases c3:p.2.1≥r.1
 ·rw[ab c1,ab c2,aa c3,no (fun⟨_,h,_⟩=>by omega)];rfl
 by_cases c4:p.2.2.1<0
 ·rw[ab c1,ab c2,ab c3,aa c4,no (fun⟨_,_,h,_⟩=>by omega)];rfl
 by_cases c5:p.2.2.1≥r.1
 ·rw[ab c1,ab c2,ab c3,ab c4,aa c5,no (fun⟨_,_,_,h,_⟩=>by omega)];rfl
 rw[ab c1,ab c2,ab c3,ab c4,ab c5];simp only[ak];by_cases c6:p.2.1=p.2.2.1
 ·rw[aa c6,no (fun⟨_,_,_,_,_,_,_,_,h,_⟩=>h c6)];rfl
 by_cases c7:p.2.2.2.1<1
 ·rw[ab c6,aa c7,no (fun⟨_,_,_,_,_,h,_⟩=>by omega)];rfl
 by_cases c8:p.2.2.2.1>1099511627776
 ·rw[ab c6,ab c7,aa c8,no (fun⟨_,_,_,_,_,_,h,_⟩=>by omega)];rfl
 by_cases c9:p.2.2.2.2.1<1
 ·rw[ab c6,ab c7,ab c8,aa c9,no (fun⟨_,_,_,_,_,_,_,h,_⟩=>by omega)];rfl
 by_cases Px:p.2.2.2.2.1>3
 ·rw[ab c6,ab c7,ab c8,ab c9,aa Px,no (by grind)];rfl
 rw[ab c6,ab c7,ab c8,ab c9,ab Px];simp only[ak];by_cases BJ:p.2.2.2.2.2.1<0
 ·rw[aa BJ,no (by grind)];rfl
 by_cases Qu:p.2.2.2.2.2.1>p.2.2.2.2.2.2
 ·rw[ab BJ,aa Qu,no (by grind)];rfl
 by_cases Y2:p.2.2.2.2.2.2<t
 ·rw[ab BJ,ab Qu,aa Y2,no (by grind)];rfl
 by_cases c14:p.2.2.2.2.2.2>1048576
 ·rw[ab BJ,ab Qu,ab Y2,aa c14,no (by grind)];rfl
 rw[ab BJ,ab Qu,ab Y2,ab c14];have e:kV r.1 t p=true:=by
  unfold kV;simp_all
 rw[e];rfl
def Cb (k:Nat)(r:qG)(s:zU)(who:Int)(p:zH):Option (Int×YY):=
 (Ca k r s.t p).bind fun x1=>
 bif !(decide (x1=0)) then some (x1,qN r s who [] 0)
 else(B5 k s.ids p.1).bind fun x2=>
 bif !(decide (x2.2=0)) then some (x2.2,qN r s who [] 0)
 else(B4 k s.m p.1 p.2.1 p.2.2.1 p.2.2.2.1 p.2.2.2.2.1 p.2.2.2.2.2.1 p.2.2.2.2.2.2).bind fun x3=>
 bif !(decide (x3.2=0)) then some (x3.2,qN r s who [] 0)
 else some (0,qN r {s with m:=x3.1,ids:=x2.1} who [] p.1)
def vZd {k}(hk:1000≤k){r}(hr:vN r){s}(h:kh s.B.1.length s.m s.ids) who f:
  ∃d,Qv k (rk r s who) f.2=some ((iU r s who f).1,d)∧((iU r s who f).1=0→d=qN r {s with m:=(iU r s who f).2.1,ids:=(iU r s who f).2.2} who [] f.2.1):=by
 have hp:=hr.pa;have hi:=h.idl;have hm:=h.len;have eD:Qv k (rk r s who) f.2=(uX k (qN r s who [] 0) f.2.2.1).bind fun x0=>
  bif decide (f.2.2.2.2.1 ≥ 1) then (bif decide (f.2.2.2.2.1≤3) then Cb k r s who (f.2.1,who,x0,f.2.2.2)
   else Cb k r s who (f.2.1,who,x0,f.2.2.2.1,0,f.2.2.2.2.2))
  else Cb k r s who (f.2.1,who,x0,f.2.2.2.1,0,f.2.2.2.2.2):=rfl
 have bad:∀p:zH,kV r.1 s.t p=false→Cb k r s who p=some (1,qN r s who [] 0):=by
  intro p hp;unfold Cb;rw[yLr];unfold nz;rw[hp];rfl
 have ael:∀p:zH,¬(p.2.2.1≥0∧p.2.2.2.2.1≥1)→kV r.1 s.t p=false:=by
  intro p hn;cases e:kV r.1 s.t p with
  |false=>rfl
  |true=>
   unfold kV at e;simp  at e;obtain⟨_,⟨a3,_⟩,_,_,_,a8,_⟩:=e;exact absurd ⟨a3,a8⟩ hn
 rw[eD,YZ];simp only[ae];unfold iU;by_cases LA:0≤f.2.2.1∧f.2.2.1<r.1
 ·rw[Y0 LA,aa (show f.2.2.1≥0 by omega),aa (show f.2.2.1≤r.1-1 by omega)];by_cases hc:f.2.2.2.2.1≥1∧f.2.2.2.2.1≤3
  ·rw[aa hc.1,aa hc.2];simp only[Bool.and_self,aA,ak,ag];have ep:((f.2.1,who,f.2.2.1,f.2.2.2):zH)=gg who f:=rfl;rw[ep];unfold Cb;rw[yLr];simp only[ae];by_cases hz:nz r s.t (gg who f)=0
   ·rw[aa hz];have e1:(gg who f).1=f.2.1:=rfl;simp only[aA,ak];rw[e1,YM (by omega) (by omega)];simp only[ae];by_cases h1:f.2.1∈s.ids
    ·rw[aa h1];exact⟨_,rfl,fun e=>by cases e⟩
    ·rw[ab h1];by_cases h2:200≤s.ids.length
     ·rw[aa h2];exact⟨_,rfl,fun e=>by cases e⟩
     ·rw[ab h2];have e3:=vKg (k:=k) (l:=s.m) (by omega) (by omega) (gg who f);rw[e1] at e3;simp only[ak,decide_true,aA];rw[e3];simp only[ae];cases(wB s.m f.2.1).isSome with
      |true=>exact⟨_,rfl,fun e=>by cases e⟩
      |false=>
       by_cases h3:40≤s.m.length
       ·rw[aa h3];exact⟨_,rfl,fun e=>by cases e⟩
       ·rw[ab h3];exact⟨_,rfl,fun _=>rfl⟩
   ·rw[ab hz];exact⟨_,rfl,fun e=>absurd e hz⟩
  ·have e0:=bad (f.2.1,who,f.2.2.1,f.2.2.2.1,0,f.2.2.2.2.2) (by grind);rw[e0];have g:(!(decide (f.2.2.2.2.1≥1)&&decide (f.2.2.2.2.1≤3)))=true:=by
    by_cases a:f.2.2.2.2.1≥1
    ·rw[aa a,ab (fun b=>hc ⟨a,b⟩)];rfl
    ·rw[ab a];rfl
   rw[g];refine⟨qN r s who [] 0,?_,fun e=>by cases e⟩;by_cases a:f.2.2.2.2.1≥1
   ·rw[aa a,ab (fun b=>hc ⟨a,b⟩)];rfl
   ·rw[ab a];rfl
 ·have g:(!(decide (f.2.2.1≥0)&&decide (f.2.2.1≤r.1-1)))=true:=by
   by_cases a:f.2.2.1≥0
   ·rw[aa a,ab (show¬f.2.2.1≤r.1-1 by omega)];rfl
   ·rw[ab a];rfl
  have q:∀x:Int×Int×Int×Int,Cb k r s who (f.2.1,who,-1,x)=some (1,qN r s who [] 0):=by grind
  rw[g,Y1 LA,q,q];refine⟨qN r s who [] 0,?_,fun e=>by cases e⟩;cases decide (f.2.2.2.2.1≥1)<;>cases decide (f.2.2.2.2.1≤3)<;>rfl
def Y3 {k}(hk:1000≤k){r s}(h:kh s.B.1.length s.m s.ids) who f (hf:f.1=2∨f.1=3∨f.1=4):
    ∃d,Cc k (rk r s who) f.1 f.2=some ((kW r s who f).1,d)∧((kW r s who f).1=0→d=qN r {s with m:=(kW r s who f).2.1} who (kW r s who f).2.2 0):=by
  have hm:=h.len;have oX:qT s.m:=by unfold qT;omega
  have eD : Cc k (rk r s who) f.1 f.2 = ((nq k s.m f.2.1).bind fun x0=>
      bif decide (x0<0) then some (((0,0,0,0,0,0,0):zH),false)
      else bif zB x0 s.m.length then (bif !(decide ((s.m.getD x0.toNat (0,0,0,0,0,0,0)).2.1=who)) then some ((0,0,0,0,0,0,0),false)
        else bif zB x0 s.m.length then some ((s.m.getD x0.toNat (0,0,0,0,0,0,0)),true)
        else none)
      else none).bind fun x0=>
    bif !x0.2 then some (4,qN r s who [] 0)
    else bif decide (f.1 = 2) then ((oC k s.m f.2.1).bind fun x1=>
      (fQ k 20 [f.2.1]).bind fun x2=>
      some (0,qN r {s with m:=x1.1} who [(who,x2)] 0))
    else bif decide (f.1 = 3) then (bif decide (f.2.2.1 = 0) then ((Ls k s.m f.2.1).bind fun x3=>
       some (0,qN r {s with m:=x3.1} who [] 0))
      else bif decide (f.2.2.1 = 1) then ((Lr k s.m f.2.1).bind fun x4=>
       some (0,qN r {s with m:=x4.1} who [] 0))
      else some (1,qN r s who [] 0))
    else bif decide (f.2.2.1<1) then some (1,qN r s who [] 0)
    else bif decide (f.2.2.1>3) then some (1,qN r s who [] 0)
    else(G1 k r s.t f.2.2.1).bind fun x5=>
    bif !(decide (x5=0)) then some (x5,qN r s who [] 0)
    else(Lq k s.m f.2.1 f.2.2.1).bind fun x6=>
    some (0,qN r {s with m:=x6.1} who [] 0):=rfl
  rw[eD,Pw (by omega) (by omega)];unfold kW kf;cases hx:wB s.m f.2.1 with
  |none=>exact by simp
  |some x=>
    have dp:=kR hx;have e1:decide ((x:Int)<0)=false:=ab (by omega);simp only[ae,e1,ak,qC,aa dp.1,ag,ao];by_cases hw:(s.m.getD x (0,0,0,0,0,0,0)).2.1=who
    · have pb:(s.m.getD x pd).2.1=who:=hw;rw[aa hw];simp only[aA,ak,ae];by_cases h2:f.1=2
      · rw[aa h2];obtain⟨n,rfl⟩:∃n,k=n+5:=⟨k-5,by omega⟩;have eo:fQ (n+5) 20 [f.2.1]=some (20,f.2.1,0,0,0,0,0):=by kernel_rfl
        simp only[ag,uV (show s.m.length<n+5 by omega) oX,ae,eo];unfold iB;rw[hx];exact⟨_,rfl,fun _=>rfl⟩
      · rw[ab h2];simp only[ak];by_cases h3:f.1=3
        · rw[aa h3,ab (show¬f.1=4 by omega)];simp only[ag,ak];by_cases h0:f.2.2.1=0
          · rw[aa h0];simp only[ag,vPh (show s.m.length<k by omega) oX hx,ae];exact⟨_,rfl,fun _=>rfl⟩
          · rw[ab h0];simp only[ak];by_cases h1:f.2.2.1=1
            · rw[aa h1];simp only[ag,YK (show s.m.length<k by omega) oX hx,ae];exact⟨_,rfl,fun _=>rfl⟩
            · rw[ab h1];exact by simp
        · rw[ab h3,aa (show f.1=4 by omega)];simp only[ak,ag,yTv,ae,vI9 (show s.m.length<k by omega) oX hx];by_cases c1:f.2.2.1<1
          · rw[aa c1,ab (show¬f.2.2.1≥1 by omega)];exact⟨_,rfl,fun e=>by cases e⟩
          · rw[ab c1,aa (show f.2.2.1≥1 by omega)];by_cases c2:f.2.2.1>3
            · rw[aa c2,ab (show¬f.2.2.1≤3 by omega)];exact⟨_,rfl,fun e=>by cases e⟩
            · rw[ab c2,aa (show f.2.2.1≤3 by omega)];simp only[Bool.and_self,aA,ak];by_cases hc:rj r.2.2.1 r.2.2.2.1 s.t f.2.2.1=0
              · rw[aa hc];exact⟨_,rfl,fun _=>rfl⟩
              · rw[ab hc];exact by simp
    · rw[ab hw];exact⟨_,rfl,fun e=>by cases e⟩
def Y4 {k}(hk:1000≤k){r}(hr:vN r){s}(hb:qP s.B)(hn:(s.B.1.length:Int)=r.1){who}(hw:0≤who∧who<r.1) f:
    ∃d,Cd k (rk r s who) f.1 f.2=some ((iV r s who f).1,d)∧((iV r s who f).1=0→d=qN r (iV r s who f).2 who [] 0):=by
  obtain⟨w,rfl⟩:=Int.eq_ofNat_of_zero_le hw.1;have gH:w<s.B.1.length:=by omega
  have eD:Cd k (rk r s w) f.1 f.2=(pt k s.B.1 s.B.2.1 s.B.2.2.1 s.B.2.2.2).bind fun x0=>
    bif decide (f.1 = 5) then ((uX k (qN r s w [] 0) f.2.1).bind fun x1=>
      bif decide (x1<0) then some (1,qN r s w [] 0)
      else bif decide (x1=(w:Int)) then some (1,qN r s w [] 0)
      else bif decide (f.2.2.1<(-1)) then some (1,qN r s w [] 0)
      else bif decide (f.2.2.1>1152921504606846976) then some (1,qN r s w [] 0)
      else bif zB (w : Int) x0.2.1.length then (bif zB x1 (x0.2.1.getD (w:Int).toNat []).length then
        some (0,qN r {s with B:=(x0.1,(x0.2.1.set (w:Int).toNat ((x0.2.1.getD (w:Int).toNat []).set x1.toNat f.2.2.1)),x0.2.2.1,x0.2.2.2)} w [] 0)
       else none)
      else none)
    else bif decide (f.1 = 6) then (bif decide (f.2.1<(-1)) then some (1,qN r s w [] 0)
      else bif decide (f.2.1>1152921504606846976) then some (1,qN r s w [] 0)
      else bif zB (w:Int) x0.2.2.1.length then some (0,qN r {s with B:=(x0.1,x0.2.1,(x0.2.2.1.set (w:Int).toNat f.2.1),x0.2.2.2)} w [] 0)
      else none)
    else bif decide (f.2.1<0) then some (1,qN r s w [] 0)
    else bif decide (f.2.1>1152921504606846976) then some (1,qN r s w [] 0)
    else bif zB (w:Int) x0.1.length then some (0,qN r {s with B:=((x0.1.set (w:Int).toNat ((x0.1.getD (w:Int).toNat (0,0,0)).1,(x0.1.getD (w:Int).toNat (0,0,0)).2.1,f.2.1)),x0.2.1,x0.2.2.1,x0.2.2.2)} w [] 0)
    else none:=rfl
  rw[eD,Ka (by omega) hb.toSized,YZ];simp only[ae,qC,ao];have two:∀a b:Int,∀x:Int,decide (x<a)= !decide (x≥a)∧decide (x>b)= !decide (x≤b):=by
    intro a b x;constructor
    · by_cases h:x<a
      · rw[aa h,ab (show¬x≥a by omega)];rfl
      · rw[ab h,aa (show x≥a by omega)];rfl
    · by_cases h:x>b
      · rw[aa h,ab (show¬x≤b by omega)];rfl
      · rw[ab h,aa (show x≤b by omega)];rfl
  unfold iV;rw[ao,(two (-1) 1152921504606846976 f.2.2.1).1,(two (-1) 1152921504606846976 f.2.2.1).2,(two (-1) 1152921504606846976 f.2.1).1,(two (-1) 1152921504606846976 f.2.1).2,(two 0 0 f.2.1).1];by_cases h5:f.1=5
  · rw[aa h5];simp only[ag];by_cases hc:0≤f.2.1∧f.2.1<r.1
    · rw[Y0 hc,aa (show f.2.1≥0 by omega),aa (show f.2.1≤r.1-1 by omega),ab (show¬f.2.1<0 by omega)];have b1:decide (w<s.B.2.1.length)=true:=aa (by rw[hb.bl];exact gH);have b2:zB f.2.1 (s.B.2.1.getD w []).length=true:=wX hc.1 (by rw[hb.br w gH];omega);rw[b1,b2];cases decide (f.2.1=(w:Int)) with
      |true=>exact⟨_,rfl,fun e=>by cases e⟩
      |false=>
        cases decide (f.2.2.1≥-1) with
        |false=>exact⟨_,rfl,fun e=>by cases e⟩
        |true=>
          cases decide (f.2.2.1≤1152921504606846976) with
          |false=>exact⟨_,rfl,fun e=>by cases e⟩
          |true=>exact⟨_,rfl,fun _=>rfl⟩
    · rw[Y1 hc];have g:(decide (f.2.1≥0)&&decide (f.2.1≤r.1-1))=false:=by
        by_cases a:f.2.1≥0
        · rw[aa a,ab (show¬f.2.1≤r.1-1 by omega)];rfl
        · rw[ab a];rfl
      rw[g];exact⟨_,rfl,fun e=>by cases e⟩
  · rw[ab h5];by_cases h6:f.1=6
    · rw[aa h6];have b1:decide (w<s.B.2.2.1.length)=true:=aa (by rw[hb.ml];exact gH);rw[b1];cases decide (f.2.1≥-1) with
      |false=>exact⟨_,rfl,fun e=>by cases e⟩
      |true=>
        cases decide (f.2.1≤1152921504606846976) with
        |false=>exact⟨_,rfl,fun e=>by cases e⟩
        |true=>exact⟨_,rfl,fun _=>rfl⟩
    · rw[ab h6];have b1:decide (w<s.B.1.length)=true:=aa gH;rw[b1];cases decide (f.2.1≥0) with
      |false=>exact⟨_,rfl,fun e=>by cases e⟩
      |true=>
        cases decide (f.2.1≤1152921504606846976) with
        |false=>exact⟨_,rfl,fun e=>by cases e⟩
        |true=>exact⟨_,rfl,fun _=>rfl⟩
def yGp {k l}(hl:l.length≤1000){i:Nat}(h1:i<l.length) v:uY k l i v=some (l.set i v):=by
 unfold uY;rw[qI (n:=0+l.length) (by omega) (by omega),aa (by simp),aa (by grind),qC,aa h1,ao];rfl
def vKm {r}(hr:vN r){s}(h:qX r s){who}(hw:0≤who∧who<r.1) a many:
    ∃d,Qw 1000 (rk r s who) a many=some ((iW r s who a many).1,d)∧((iW r s who a many).1=0→d=qN r (iW r s who a many).2 who [] 0):=by
  have h3:=hr.n3;have hn:=h.n;have gG:=h.bk.n6;have hol:=h.hol;obtain⟨w,rfl⟩:=Int.eq_ofNat_of_zero_le hw.1;have gH:w<s.B.1.length:=by omega
  have eD:Qw 1000 (rk r s w) a many=
    bif decide (a<0) then some (1,qN r s w [] 0)
    else bif decide (a≥(r.2.1.length:Int)) then some (1,qN r s w [] 0)
    else bif decide (many<0) then some (1,qN r s w [] 0)
    else bif decide (many>1099511627776) then some (1,qN r s w [] 0)
    else bif zB (w : Int) s.ho.length then ((uY 1000 (s.ho.getD (w:Int).toNat []) a many).bind fun x0=>
      (B2 1000 r.2.1 s.pr x0).bind fun x1=>
      bif !x1.2 then some (8,qN r s w [] 0)
      else bif decide (x1.1>1152921504606846976) then some (8,qN r s w [] 0)
      else(pt 1000 s.B.1 s.B.2.1 s.B.2.2.1 s.B.2.2.2).bind fun x2=>
      bif zB (w : Int) x2.1.length then (bif decide (x1.1 < (x2.1.getD (w : Int).toNat (0, 0, 0)).2.1) then (bif decide ((zA ((x2.1.getD (w:Int).toNat (0,0,0)).1+x1.1))<0) then some (9,qN r s w [] 0)
         else bif zB (w:Int) x2.1.length then(
          bif zL (0 + s.ho.length) 24 then (bif zB (w:Int) s.ho.length then
           some (0,qN r {s with B:=((x2.1.set (w:Int).toNat ((x2.1.getD (w:Int).toNat (0,0,0)).1,x1.1,(x2.1.getD (w:Int).toNat (0,0,0)).2.2)),x2.2.1,x2.2.2.1,x2.2.2.2),ho:=s.ho.set (w:Int).toNat x0} w [] 0)
           else none)
          else none)
         else none)
        else bif zB (w:Int) x2.1.length then(
         bif zL (0 + s.ho.length) 24 then (bif zB (w:Int) s.ho.length then
           some (0,qN r {s with B:=((x2.1.set (w:Int).toNat ((x2.1.getD (w:Int).toNat (0,0,0)).1,x1.1,(x2.1.getD (w:Int).toNat (0,0,0)).2.2)),x2.2.1,x2.2.2.1,x2.2.2.2),ho:=s.ho.set (w:Int).toNat x0} w [] 0)
          else none)
         else none)
        else none)
      else none)
    else none:=rfl
  rw[eD,Ka (by omega) h.bk.toSized];simp only[ae,qC,ao];unfold iW;simp only[ao];by_cases c1:a<0
  · rw[aa c1,ab (show¬a≥0 by omega)];exact⟨_,rfl,fun e=>by cases e⟩
  rw[ab c1,aa (show a≥0 by omega)];by_cases c2:a≥(r.2.1.length:Int)
  · rw[aa c2,ab (show¬a≤(r.2.1.length:Int)-1 by omega)];exact⟨_,rfl,fun e=>by cases e⟩
  rw[ab c2,aa (show a≤(r.2.1.length:Int)-1 by omega)];by_cases c3:many<0
  · rw[aa c3,ab (show¬many≥0 by omega)];exact⟨_,rfl,fun e=>by cases e⟩
  rw[ab c3,aa (show many≥0 by omega)];by_cases c4:many>1099511627776
  · rw[aa c4,ab (show¬many≤1099511627776 by omega)];exact⟨_,rfl,fun e=>by cases e⟩
  rw[ab c4,aa (show many≤1099511627776 by omega)];obtain⟨i,rfl⟩:=Int.eq_ofNat_of_zero_le (show 0≤a by omega);have hi:i<r.2.1.length:=by omega
  have L:=h.laid w gH;have L2:=L.set hi (v:=many) ⟨by omega,by omega⟩;have b1:decide (w<s.ho.length)=true:=aa (by omega);have b2:decide (w<s.B.1.length)=true:=aa gH;have mv:uY 1000 (s.ho.getD w []) (i:Int) many=some ((s.ho.getD w []).set i many):=yGp (by rw[L.hl];omega) (by rw[L.hl];omega) many;have hv:=yOf L2;have hb:=h.bk.nums.bal w gH;have AQ:=F3 L2;have e24:zL (0+s.ho.length) 24=true:=qI (by omega) (by omega);simp only[Bool.and_self,aA,ak,b1,ag,mv,ae,hv,b2,ao,e24];clear hv L2 eD;generalize mo r.2.1 s.pr ((s.ho.getD w []).set i many)=n at AQ⊢;unfold B1;cases Yp:decide (n>1152921504606846976) with
  |true=>exact⟨_,rfl,fun e=>by cases e⟩
  |false=>
    have h8:¬n>1152921504606846976:=gd Yp;have w2:zA ((s.B.1.getD w (0,0,0)).1+n)=(s.B.1.getD w (0,0,0)).1+n:=zO (by have:=hb.1;simp only[ad] at this;omega) (by have:=hb.2;simp only[ad] at this;omega);simp only[w2,ak];cases decide (n<(s.B.1.getD w (0,0,0)).2.1) with
    |false=>exact⟨_,rfl,fun _=>rfl⟩
    |true=>
      cases decide ((s.B.1.getD w (0,0,0)).1+n<0) with
      |true=>exact⟨_,rfl,fun e=>by cases e⟩
      |false=>exact⟨_,rfl,fun _=>rfl⟩
def In9 {k}{a:yA}(ha:-4611686018427387904<a.1∧a.1<4611686018427387904){n}(hn:1≤n∧n≤1099511627776):G2 k a n=some (wY a n):=by
 unfold G2 wY GJ;rw[aa (by grind),zO (x:=9223372036854775807-n) (by omega) (by omega),ab (by grind),ab (by grind),zO (x:=a.1+n) (by omega) (by omega)];simp[Wy];grind
def vKb {r}(hr:vN r){s}(h:qX r s) who kd to n (Bl:kd=10∨kd=11):
    ∃d,G3 1000 (rk r s who) (decide (kd=10)) to n=some ((iD r s kd to n).1,d)∧((iD r s kd to n).1=0→d=qN r (iD r s kd to n).2 who [] 0):=by
  have hn:=h.n;have ht:=h.tot;have eD:G3 1000 (rk r s who) (decide (kd=10)) to n=(uX 1000 (qN r s who [] 0) to).bind fun x0=>
    bif decide (x0<0) then some (1,qN r s who [] 0)
    else bif decide (n<1) then some (1,qN r s who [] 0)
    else bif decide (n>1099511627776) then some (1,qN r s who [] 0)
    else(pt 1000 s.B.1 s.B.2.1 s.B.2.2.1 s.B.2.2.2).bind fun x1=>
    bif decide (kd = 10) then (bif zB x0 x1.1.length then ((G2 1000 (x1.1.getD x0.toNat (0,0,0)) n).bind fun x2=>
      bif decide ((zA (s.to+n))>1152921504606846976) then some (8,qN r s who [] 0)
      else bif !(decide (x2.2=0)) then some (8,qN r s who [] 0)
      else bif zB x0 x1.1.length then some (0,qN r {s with B:=((x1.1.set x0.toNat x2.1),x1.2.1,x1.2.2.1,x1.2.2.2),to:=zA (s.to+n)} who [] 0)
      else none)
     else none)
    else bif zB x0 x1.1.length then (bif decide ((zA ((zA ((x1.1.getD x0.toNat (0,0,0)).1+(x1.1.getD x0.toNat (0,0,0)).2.1))-(x1.1.getD x0.toNat (0,0,0)).2.2))<n) then some (9,qN r s who [] 0)
     else bif decide (s.to<n) then some (9,qN r s who [] 0)
     else bif zB x0 x1.1.length then
      some (0,qN r {s with B:=((x1.1.set x0.toNat ((zA ((x1.1.getD x0.toNat (0,0,0)).1-n)),(x1.1.getD x0.toNat (0,0,0)).2)),x1.2.1,x1.2.2.1,x1.2.2.2),to:=zA (s.to-n)} who [] 0)
     else none)
    else none:=rfl
  rw[eD,YZ,Ka (by omega) h.bk.toSized];simp only[ae];unfold iD;by_cases hc:0≤to∧to<r.1
  · rw[Y0 hc,ab (show¬to<0 by omega),aa (show to≥0 by omega),aa (show to≤r.1-1 by omega)];by_cases c1:n<1
    · rw[aa c1,ab (show¬n≥1 by omega)];exact⟨_,rfl,fun e=>by cases e⟩
    rw[ab c1,aa (show n≥1 by omega)];by_cases c2:n>1099511627776
    · rw[aa c2,ab (show¬n≤1099511627776 by omega)];exact⟨_,rfl,fun e=>by cases e⟩
    rw[ab c2,aa (show n≤1099511627776 by omega)];obtain⟨i,rfl⟩:=Int.eq_ofNat_of_zero_le hc.1;have hi:i<s.B.1.length:=by omega
    have hb:=h.bk.nums.bal i hi;have kL:=h.bk.nums.res i hi;have hcr:=h.most i hi;have YN:0≤(s.B.1.getD i ad).2.1:=by rw[h.cred i hi];exact F3 (h.laid i hi)
    have Y5:=pE.1 (h.bk.acct i hi);have b0:zB (i:Int) s.B.1.length=true:=by rw[qC,aa hi]
    have q2:zA (s.to-n)=s.to-n:=zO (by omega) (by omega);have q3:zA (s.to+n)=s.to+n:=zO (by omega) (by omega);have Lv:G2 1000 (s.B.1.getD i (0,0,0)) n=some (wY (s.B.1.getD i ad) n):=In9 hb ⟨by omega,by omega⟩;simp only[Bool.and_self,aA,ak,b0,ag,ao,Lv,ae,q2,q3];clear Lv eD;rcases Bl with e|e
    · rw[aa e,ab (show¬kd=11 by omega)];simp only[ag,ak];unfold GV;cases hz:decide ((wY (s.B.1.getD i ad) n).2=0) with
      |false=>
        have e8:(wY (s.B.1.getD i ad) n).2=8:=by
          have:=gd hz;unfold wY at this⊢;cases hx:fg ((s.B.1.getD i ad).1+n,(s.B.1.getD i ad).2.1,(s.B.1.getD i ad).2.2) with
          |true=>rw[hx] at this;exact absurd rfl this
          |false=>rfl
        rw[e8];cases decide (s.to+n>1152921504606846976)<;>exact⟨_,rfl,fun e=>by cases e⟩
      |true=>
        cases decide (s.to+n>1152921504606846976) with
        |true=>exact⟨_,rfl,fun e=>by cases e⟩
        |false=>exact⟨_,rfl,fun _=>rfl⟩
    · rw[ab (show¬kd=10 by omega),aa e];simp only[ag,ak];unfold GU;have q1:zA ((s.B.1.getD i (0,0,0)).1+(s.B.1.getD i (0,0,0)).2.1)=(s.B.1.getD i ad).1+(s.B.1.getD i ad).2.1:=zO (by simp only[ad] at*;omega) (by simp only[ad] at*;omega);have q4:zA ((s.B.1.getD i ad).1+(s.B.1.getD i ad).2.1-(s.B.1.getD i (0,0,0)).2.2)=(s.B.1.getD i ad).1+(s.B.1.getD i ad).2.1-(s.B.1.getD i ad).2.2:=zO (by simp only[ad] at*;omega) (by simp only[ad] at*;omega);have q5:zA ((s.B.1.getD i (0,0,0)).1-n)=(s.B.1.getD i ad).1+-n:=by rw[zO (by simp only[ad] at*;omega) (by simp only[ad] at*;omega)];rfl
      simp only[q1,q4,q5];by_cases c5:(s.B.1.getD i ad).1+(s.B.1.getD i ad).2.1-(s.B.1.getD i ad).2.2<n
      · rw[aa c5];exact⟨_,rfl,fun e=>by cases e⟩
      rw[ab c5];by_cases c6:s.to<n
      · rw[aa c6,aa (show s.to-n<0 by omega)];exact⟨_,rfl,fun e=>by cases e⟩
      rw[ab c6,ab (show¬s.to-n<0 by omega),ab (show¬s.to-n>1152921504606846976 by omega)];have em:wY (s.B.1.getD i ad) (-n)=(((s.B.1.getD i ad).1+-n,(s.B.1.getD i ad).2.1,(s.B.1.getD i ad).2.2),0):=by
        unfold wY;have:fg ((s.B.1.getD i ad).1+-n,(s.B.1.getD i ad).2.1,(s.B.1.getD i ad).2.2)=true:=pE.2 ⟨by simp only;omega,Y5.2⟩;rw[this];rfl
      rw[em];exact⟨_,rfl,fun _=>rfl⟩
  · rw[Y1 hc];have g:(decide (to≥0)&&decide (to≤r.1-1))=false:=by
      by_cases a:to≥0
      · rw[aa a,ab (show¬to≤r.1-1 by omega)];rfl
      · rw[ab a];rfl
    rw[g];exact⟨_,rfl,fun e=>by cases e⟩
def Y6 {r s} who {pr}(hL:∀i,i<s.B.1.length→kS r.2.1 pr (s.ho.getD i []))(hol:s.ho.length=s.B.1.length)(gG:s.B.1.length≤6):
  (qH (fun j=> !decide (gh r.2.1 pr s.ho j>1152921504606846976)) s.B.1.length 0=true∧uZ 1000 1000 0 (rk r s who) pr s.B.1 s.B.2.1 s.B.2.2.1 s.B.2.2.2=some (.inl (rk r s who,pr,tf r.2.1 pr s.ho s.B.1,s.B.2.1,s.B.2.2.1,s.B.2.2.2)))∨
  (qH (fun j=> !decide (gh r.2.1 pr s.ho j>1152921504606846976)) s.B.1.length 0=false∧uZ 1000 1000 0 (rk r s who) pr s.B.1 s.B.2.1 s.B.2.2.1 s.B.2.2.2=some (.inr (8,rk r s who))):=by
 have:=Pd (L:=fun n i (a:List yA)=>uZ 1000 n i (rk r s who) pr a s.B.2.1 s.B.2.2.1 s.B.2.2.2) (N:=s.B.1.length) (fun j=> !decide (gh r.2.1 pr s.ho j>1152921504606846976))
  (fun a=>.inl (rk r s who,pr,a,s.B.2.1,s.B.2.2.1,s.B.2.2.2)) (.inr (8,rk r s who))
  (fun i a => a.length = s.B.1.length ∧ ∀ j, j < s.B.1.length → a.getD j ad = if j < i then ((s.B.1.getD j ad).1, gh r.2.1 pr s.ho j, (s.B.1.getD j ad).2.2) else s.B.1.getD j ad) (fun n a ha=>by
   show G4 1000 _ s.B.1.length (rk r s who) pr a s.B.2.1 s.B.2.2.1 s.B.2.2.2=_;unfold G4;simp_all) (fun n i a hi ha=>by
   have hv:=yOf (hL i hi);have aK:uZ 1000 (n+1) i (rk r s who) pr a s.B.2.1 s.B.2.2.1 s.B.2.2.2=bif decide (gh r.2.1 pr s.ho i>1152921504606846976) then some (.inr (8,rk r s who)) else uZ 1000 n ((i+1:Nat):Int) (rk r s who) pr (a.set i ((a.getD i ad).1,gh r.2.1 pr s.ho i,(a.getD i ad).2.2)) s.B.2.1 s.B.2.2.1 s.B.2.2.2:=by
    show G4 1000 _ i (rk r s who) pr a s.B.2.1 s.B.2.2.1 s.B.2.2.2=_;unfold G4;have iK:B2 1000 (rk r s who).2.1 pr (s.ho.getD i [])=some (gh r.2.1 pr s.ho i,true):=hv;have eh:(rk r s who).2.2.2.2.2.2.2.2.2.2.2.1=s.ho:=rfl;simp only[eh,qU,qC,ao,aa (show i<s.ho.length by omega),aa (show i<a.length by omega),ag,iK,aA,ak,qD hi (by grind)];rfl
   grind) s.B.1.length 0 1000 s.B.1 (by omega) (by omega) (by simp)
 rcases this with⟨h1,a,h2,h3,h4⟩|⟨h1,h2⟩
 ·have e:a=tf r.2.1 pr s.ho s.B.1:=Eo ad (by rw[h3,YO]) fun j hj=>by
   rw[h3] at hj;rw[h4 j hj,if_pos hj,Qr _ _ _ _ hj]
  simp_all
 simp_all
def Y7 {r}(hr:vN r){s}(h:qX r s) who a p:
  ∃d,Qx 1000 (rk r s who) a p=some ((iX r s a p).1,d)∧((iX r s a p).1=0→d=qN r (iX r s a p).2 who [] 0):=by
 have h3:=hr.n3;have gG:=h.bk.n6;have ma:=h.bk.n1;have eD:Qx 1000 (rk r s who) a p=
  bif decide (a<0) then some (1,qN r s who [] 0)
  else bif decide (a≥(r.2.1.length:Int)) then some (1,qN r s who [] 0)
  else bif decide (p<0) then some (1,qN r s who [] 0)
  else bif decide (p>1048576) then some (1,qN r s who [] 0)
  else(uY 1000 s.pr a p).bind fun x0=>
  (pt 1000 s.B.1 s.B.2.1 s.B.2.2.1 s.B.2.2.2).bind fun x1=>
  (uZ 1000 1000 0 (rk r s who) x0 x1.1 x1.2.1 x1.2.2.1 x1.2.2.2).bind fun z=>
  match z with
  |.inl z1=>some (0,(jK z1.1 (B8 z1 (z1.2.1,(yO2 z1.1 ([],z1.1.2.2.2.2.2.2.2.2.2.2.2.2.2.2.2.2.2))))))
  |.inr z2=>some (yXs z2 ([],z2.2.2.2.2.2.2.2.2.2.2.2.2.2.2.2.2.2.2)):=rfl
 rw[eD,Ka (by omega) h.bk.toSized];simp only[ae];unfold iX;by_cases c1:a<0
 ·rw[aa c1,ab (show¬a≥0 by omega)];exact by simp
 rw[ab c1,aa (show a≥0 by omega)];by_cases c2:a≥(r.2.1.length:Int)
 ·grind
 rw[ab c2,aa (show a≤(r.2.1.length:Int)-1 by omega)];by_cases c3:p<0
 ·rw[aa c3,ab (show¬p≥0 by omega)];exact by simp
 rw[ab c3,aa (show p≥0 by omega)];by_cases c4:p>1048576
 ·rw[aa c4,ab (show¬p≤1048576 by omega)];exact by simp
 rw[ab c4,aa (show p≤1048576 by omega)];obtain⟨i,rfl⟩:=Int.eq_ofNat_of_zero_le (show 0≤a by omega);have hi:i<r.2.1.length:=by omega
 have L0:=h.laid 0 (by omega);have mv:uY 1000 s.pr (i:Int) p=some (s.pr.set i p):=yGp (by rw[L0.pl];omega) (by rw[L0.pl];omega) p;simp only[Bool.and_self,aA,ak,mv,ae,ao];unfold B7;rcases Y6 (r:=r) (s:=s) who (pr:=s.pr.set i p) (fun j hj=>(h.laid j hj).setP hi ⟨by omega,by omega⟩) h.hol gG with⟨g1,g2⟩|⟨g1,g2⟩
 ·rw[g2,g1];exact⟨_,rfl,fun _=>rfl⟩
 ·rw[g2,g1];exact⟨_,rfl,fun e=>by cases e⟩
def yYf {m}(hd:qM m){i}(hi:i<m.length):kf m (m.getD i pd).1=(i:Int):=by
 obtain⟨x,hx⟩:=Pv (fa (d:=pd) hi);have h:=kR hx;unfold kf;have:x=i:=by
  rcases Nat.lt_trichotomy x i with g|g|g
  ·have:=List.pairwise_iff_getElem.1 hd x i h.1 hi g;grind
  ·exact g
  ·have:=List.pairwise_iff_getElem.1 hd i x hi h.1 g;grind
 simp_all
def vZ9 {k}(hk:100<k){B}(h:qP B){l:List zH}(hl:l.length≤80):Ko k B.1 B.2.1 B.2.2.1 B.2.2.2 l=some (xH B l):=vOs hk h hl
def Qy {k}(hk:100<k){B}(h:qP B){l:List zH}(hl:l.length≤80):
  ∃C:BT,u9 k B.1 B.2.1 B.2.2.1 B.2.2.2 l=some (C.1,C.2.1,C.2.2.1,C.2.2.2,(iC k B l).isSome)∧(∀D,iC k B l=some D→D=C):=by
 obtain⟨r,h1,h2,h3⟩:=F4 hk h hl;unfold u9 iC;rw[h2,h1,vZ9 hk h hl];refine⟨(r.1,r.2.1,r.2.2.1,r.2.2.2.1),?_,?_⟩;all_goals grind
def yYy {k}(hk:100<k){B}(h:qP B)(m:List zH)(hm:m.length≤1000):∀c i n,i+c=m.length→c<n→
  LB k n i B.1 B.2.1 B.2.2.1 B.2.2.2 0 0 0 0 0 0 0 m = some (match eu k B (m.drop i) with
   |some (p,C)=>.inr (true,p.1,p.2.1,p.2.2.1,p.2.2.2.1,p.2.2.2.2.1,p.2.2.2.2.2.1,p.2.2.2.2.2.2)
   |none=>.inl (0,0,0,0,0,0,0))
 |0,i,n,e,hn=>by
  obtain⟨n,rfl⟩:∃x,n=x+1:=⟨n-1,by omega⟩;have:i=m.length:=by omega
  subst this;show G5 k _ m.length B.1 B.2.1 B.2.2.1 B.2.2.2 0 0 0 0 0 0 0 m=_;unfold G5;simp;rfl
 |c+1,i,n,e,hn=>by
  obtain⟨n,rfl⟩:∃x,n=x+1:=⟨n-1,by omega⟩;have hi:i<m.length:=by omega
  have ih:=yYy hk h m hm c (i+1) n (by omega) (by omega);show G5 k _ i B.1 B.2.1 B.2.2.1 B.2.2.2 0 0 0 0 0 0 0 m=_;unfold G5;obtain⟨C,h1,h2⟩:=Qy hk h (l:=[m.getD i pd]) (by simp);have c1:decide ((0:Int)≤(i:Int))=true:=by simp
  have c2:decide ((i:Int)≤((i+1:Nat):Int))=true:=by grind
  have c3:decide (((i+1:Nat):Int)≤(m.length:Int))=true:=by grind
  simp only[qC,qD hi (by grind),ao,vWp m i hi];rw[yFq k B hi];grind
def yWr {k} (hk : 100 < k) {B} (h : qP B) {l} (bP : l.length < k) (hl : qT l) t : Qz k B.1 B.2.1 B.2.2.1 B.2.2.2 l t = some (match eu k B (vT l t) with
   |some (p,C)=>(p.1,p.2.1,p.2.2.1,p.2.2.2.1,p.2.2.2.2.1,p.2.2.2.2.2.1,p.2.2.2.2.2.2,true)
   |none=>(0,0,0,0,0,0,0,false)):=by
 unfold Qz;rw[yXv bP hl];have F7:=PM l t;unfold qT at hl;have:=yYy hk h (vT l t) (by omega) (vT l t).length 0 k (by omega) (by omega);grind
def vG4 {k}(hk:100<k) t {B C l m done}(h:gZ k t B l done C m):∀n (r:List zH),qP B→l.length≤100→l.length<n→r.length+l.length≤1000→
  LC k n l t B.1 B.2.1 B.2.2.1 B.2.2.2 r=some (m,C.1,C.2.1,C.2.2.1,C.2.2.2,r++done):=by
 induction h with
 |@stop B l hx=>
  intro n r hb hl hn hr;obtain⟨n,rfl⟩:∃x,n=x+1:=⟨n-1,by omega⟩;have h2:=yWr hk hb (l:=l) (by omega) (by show l.length≤1000;omega) t;rw[hx] at h2;show G6 k _ l t B.1 B.2.1 B.2.2.1 B.2.2.2 r=_;unfold G6;simp_all
 |@step B C D l m done p hx _ ih=>
  intro n r hb hl hn hr;obtain⟨n,rfl⟩:∃x,n=x+1:=⟨n-1,by omega⟩;have h2:=yWr hk hb (l:=l) (by omega) (by show l.length≤1000;omega) t;rw[hx] at h2;obtain⟨hp,hg⟩:=BP hx;have DO:=F5 hp;obtain⟨tN,mZ⟩:=uJ DO;obtain⟨n9,cN⟩:=sX hk hb (by simp) hg;have g2:=ih n (r++[p]) n9 (by omega) (by omega) (by grind);show G6 k _ l t B.1 B.2.1 B.2.2.1 B.2.2.2 r=_;unfold G6;rw[h2];obtain⟨C',e1,e2⟩:=Qy hk hb (l:=[p]) (by simp);have:=e2 C hg;subst this;simp[uV (show l.length<k by omega) (show qT l by show l.length≤1000;omega),oq (show r.length≤1000 by omega)];rw[List.append_cons r p done,←g2];have LD:u9 k B.1 B.2.1 B.2.2.1 B.2.2.2 [(p.1,p.2.1,p.2.2.1,p.2.2.2.1,p.2.2.2.2.1,p.2.2.2.2.2.1,p.2.2.2.2.2.2)]=_:=e1;rw[LD];rfl
def yZq {k}(hk:200≤k){B C}(hb:qP B){l m done}(hl:l.length≤100){t}(h:gZ k t B l done C m):QA k B.1 B.2.1 B.2.2.1 B.2.2.2 l t=some (C.1,C.2.1,C.2.2.1,C.2.2.2,m,done):=by
 unfold QA;rw[vG4 (by omega) t h k [] hb hl (by omega) (by grind)];rfl
def Y8 (x:Option (zH×zH×BT)):Int×Int×Int×Int×Int×Int×Int×Int×Int×Int×Int×Int×Int×Int×Bool:=match x with
 |some (p,q,C)=>(p.1,p.2.1,p.2.2.1,p.2.2.2.1,p.2.2.2.2.1,p.2.2.2.2.2.1,p.2.2.2.2.2.2,q.1,q.2.1,q.2.2.1,q.2.2.2.1,q.2.2.2.2.1,q.2.2.2.2.2.1,q.2.2.2.2.2.2,true)
 |none=>(0,0,0,0,0,0,0,0,0,0,0,0,0,0,false)
def yQg {k}(hk:100<k){B}(h:qP B)(m:List zH)(hm:m.length≤1000){j}(hj:j<m.length):∀c i n,i+c=m.length→c<n→
  LF k n j i B.1 B.2.1 B.2.2.1 B.2.2.2 0 0 0 0 0 0 0 0 0 0 0 0 0 0 m = some (match py k B (m.getD j pd) (m.drop i) with
   |some (q,C)=>.inr (true,(m.getD j pd).1,(m.getD j pd).2.1,(m.getD j pd).2.2.1,(m.getD j pd).2.2.2.1,(m.getD j pd).2.2.2.2.1,(m.getD j pd).2.2.2.2.2.1,(m.getD j pd).2.2.2.2.2.2,q.1,q.2.1,q.2.2.1,q.2.2.2.1,q.2.2.2.2.1,q.2.2.2.2.2.1,q.2.2.2.2.2.2)
   |none=>.inl ((j:Int),B.1,B.2.1,B.2.2.1,B.2.2.2,0,0,0,0,0,0,0,0,0,0,0,0,0,0,m))
 |0,i,n,e,hn=>by
  obtain⟨n,rfl⟩:∃x,n=x+1:=⟨n-1,by omega⟩;have:i=m.length:=by omega
  subst this;show G7 k _ j m.length B.1 B.2.1 B.2.2.1 B.2.2.2 0 0 0 0 0 0 0 0 0 0 0 0 0 0 m=_;unfold G7;simp;rfl
 |c+1,i,n,e,hn=>by
  obtain⟨n,rfl⟩:∃x,n=x+1:=⟨n-1,by omega⟩;have hi:i<m.length:=by omega
  have ih:=yQg hk h m hm hj c (i+1) n (by omega) (by omega);show G7 k _ j i B.1 B.2.1 B.2.2.1 B.2.2.2 0 0 0 0 0 0 0 0 0 0 0 0 0 0 m=_;unfold G7;obtain⟨C,h1,h2⟩:=Qy hk h (l:=[m.getD j pd,m.getD i pd]) (by simp);simp[qC,qD hi (by grind),h1];rw[yX3 k B _ hi];unfold qz;grind
def yEn {k}(hk:100<k){B}(h:qP B)(m:List zH)(hm:m.length≤1000)(KX:m.length<k):∀c i n,i+c=m.length→c<n→
  LG k n i B.1 B.2.1 B.2.2.1 B.2.2.2 0 0 0 0 0 0 0 0 0 0 0 0 0 0 m = some (match sY k B m (m.drop i) with
   |some (p,q,C)=>.inr (true,p.1,p.2.1,p.2.2.1,p.2.2.2.1,p.2.2.2.2.1,p.2.2.2.2.2.1,p.2.2.2.2.2.2,q.1,q.2.1,q.2.2.1,q.2.2.2.1,q.2.2.2.2.1,q.2.2.2.2.2.1,q.2.2.2.2.2.2)
   |none=>.inl (0,0,0,0,0,0,0,0,0,0,0,0,0,0))
 |0,i,n,e,hn=>by
  obtain⟨n,rfl⟩:∃x,n=x+1:=⟨n-1,by omega⟩;have:i=m.length:=by omega
  subst this;show G8 k _ m.length B.1 B.2.1 B.2.2.1 B.2.2.2 0 0 0 0 0 0 0 0 0 0 0 0 0 0 m=_;unfold G8;simp;rfl
 |c+1,i,n,e,hn=>by
  obtain⟨n,rfl⟩:∃x,n=x+1:=⟨n-1,by omega⟩;have hi:i<m.length:=by omega
  have ih:=yEn hk h m hm KX c (i+1) n (by omega) (by omega);show G8 k _ i B.1 B.2.1 B.2.2.1 B.2.2.2 0 0 0 0 0 0 0 0 0 0 0 0 0 0 m=_;unfold G8;have fH:=yQg hk h m hm hi m.length 0 k (by omega) KX;have e0:((0:Nat):Int)=0:=rfl;rw[e0,List.drop_zero] at fH;simp[aa hi];rw[fH];rw[vFi k B m hi];cases py k B (m.getD i pd) m with
  |none=>
   simp[qD hi (by grind)];exact ih
  |some x=>rfl
def yYp {k}(hk:100<k){B}(h:qP B){l}(bP:l.length<k)(hl:qT l) t:QB k B.1 B.2.1 B.2.2.1 B.2.2.2 l t=some (Y8 (fV k B l t)):=by
 unfold QB fV;rw[yXv bP hl];have F7:=PM l t;unfold qT at hl;have:=yEn hk h (vT l t) (by omega) (by omega) (vT l t).length 0 k (by omega) (by omega);have e:((0:Nat):Int)=0:=rfl;rw[e,List.drop_zero] at this;simp;rw[this];cases sY k B (vT l t) (vT l t) with
 |none=>rfl
 |some x=>rfl
def vX1 {k}(hk:100<k) t {B C l m done}(h:jZ k t B l done C m):∀n (r:List zH),qP B→qM l→l.length≤100→l.length<n→r.length+l.length≤900→
  LH k n l t B.1 B.2.1 B.2.2.1 B.2.2.2 r=some (m,C.1,C.2.1,C.2.2.1,C.2.2.2,r++done):=by
 induction h with
 |@stop B l hx=>
  intro n r hb hd hl hn hr;obtain⟨n,rfl⟩:∃x,n=x+1:=⟨n-1,by omega⟩;have h2:=yYp hk hb (l:=l) (by omega) (by show l.length≤1000;omega) t;rw[hx] at h2;show G9 k _ l t B.1 B.2.1 B.2.2.1 B.2.2.2 r=_;unfold G9;rw[h2];simp only[ae,Y8,bF,ag,List.append_nil]
 |@step B C D l m done p q hx _ ih=>
  intro n r hb hd hl hn hr;obtain⟨n,rfl⟩:∃x,n=x+1:=⟨n-1,by omega⟩;have h2:=yYp hk hb (l:=l) (by omega) (by show l.length≤1000;omega) t;rw[hx] at h2;obtain⟨hp,hq,pz,hg⟩:=F9 hx;obtain⟨tN,mZ⟩:=Ga hd hp hq pz;obtain⟨n9,cN⟩:=sX hk hb (by simp) hg;have pn:(ft l p.1).length≤l.length:=(uJ hp).2.length_le;have g2:=ih n (r++[p,q]) n9 (List.Pairwise.sublist mZ hd) (by omega) (by omega) (by grind);have e2:r++[p,q]++done=r++p::q::done:=by rw[List.append_assoc];rfl
  show G9 k _ l t B.1 B.2.1 B.2.2.1 B.2.2.2 r=_;unfold G9;rw[h2];obtain⟨C',e1,e2'⟩:=Qy hk hb (l:=[p,q]) (by simp);have:=e2' C hg;subst this;have LD:u9 k B.1 B.2.1 B.2.2.1 B.2.2.2 [(p.1,p.2.1,p.2.2.1,p.2.2.2.1,p.2.2.2.2.1,p.2.2.2.2.2.1,p.2.2.2.2.2.2),(q.1,q.2.1,q.2.2.1,q.2.2.2.1,q.2.2.2.2.1,q.2.2.2.2.2.1,q.2.2.2.2.2.2)]=_:=e1;have d1:=uV (show l.length<k by omega) (show qT l by show l.length≤1000;omega) p.1;have d2:=uV (k:=k) (l:=(iB l p.1).1) (Nat.lt_of_le_of_lt pn (by omega)) (Nat.le_trans pn (by omega)) q.1;have e3:zL (r.length+2) 56=true:=qI (by omega) (by omega);simp only[ae,Y8,LD,d1,d2,e3];rw[←e2,←g2];rfl
def yVz {k}(hk:200≤k){B C}(hb:qP B){l m done}(hd:qM l)(hl:l.length≤100){t}(h:jZ k t B l done C m):QC k B.1 B.2.1 B.2.2.1 B.2.2.2 l t=some (C.1,C.2.1,C.2.2.1,C.2.2.2,m,done):=by
 unfold QC;rw[vX1 (by omega) t h k [] hb hd hl (by omega) (by grind)];rfl
def Y9 {k l}(hk:l.length<k)(hl:qT l) many:Ha k l many=some (vP l many):=by
 unfold qT at hl;unfold Ha;obtain ⟨s', h1, h2⟩ := yW (L := fun n i s => Hb k n l many i s) (N := l.length) (fun s => s) (fun i s => s = nr l many i) (fun n s _=>by
  show Hc k _ l many l.length s=_;unfold Hc;simp) (fun n i s hi hs=>by
  have eX:s.length≤i:=by rw[hs];exact XW l many i
  refine⟨bif sZ l many i then s++[l.getD i pd] else s,?_,?_⟩
  ·show Hc k _ l many i s=_;unfold Hc;have c1:decide ((0:Int)≤(i:Int))=true:=by simp
   have c2:decide ((i:Int)≤(l.length:Int))=true:=by grind
   have Xp:=Pq (k:=k) (l:=l.take i) (by grind) (by show(l.take i).length≤1000;grind) (l.getD i pd).2.1;simp only[qC,qD hi (by grind),qU,ao,aa hi,oq (show s.length≤1000 by omega),c2,Xp];unfold sZ jY;cases e1:decide ((l.getD i (0,(0,(0,(0,(0,(0,0))))))).2.1≥0) with
   |false=>rfl
   |true=>
    cases e2:decide ((l.getD i (0,(0,(0,(0,(0,(0,0))))))).2.1<(many.length:Int)) with
    |false=>rfl
    |true=>
     rw[aW] at e1 e2;have hb:zB (l.getD i (0,(0,(0,(0,(0,(0,0))))))).2.1 many.length=true:=wX e1 (by omega);grind
  ·show _=nr l many i++_;grind) (s:=[]) hk rfl
 have gz:Hb k k l many 0 []=some s':=h1;rw[gz,h2];rfl
def vT1 {k}{B:BT}{l}(hk:l.length<k)(hl:qT l)(hn:B.1.length<k)(hn':B.1.length≤1000):
  Ce k k 0 B.1 B.2.1 B.2.2.1 B.2.2.2 l []=some (B.1,B.2.1,B.2.2.1,B.2.2.2,l,g9 l B.1.length):=by
 obtain ⟨s', h1, h2⟩ := yW (L := fun n i (s : AC) => Ce k n i B.1 B.2.1 B.2.2.1 B.2.2.2 l s) (N := B.1.length) (fun s => (B.1, B.2.1, B.2.2.1, B.2.2.2, l, s)) (fun i s => s = g9 l i) (fun n s _=>by
  show Hd k _ B.1.length B.1 B.2.1 B.2.2.1 B.2.2.2 l s=_;unfold Hd;simp) (fun n i s hi hs=>by
  refine⟨_,?_,(yH3 l i).symm⟩;show Hd k _ i B.1 B.2.1 B.2.2.1 B.2.2.2 l s=_;unfold Hd;have hr:zL (s.length+1) 8=true:=by rw[hs,xL];exact qI (by omega) (by omega)
  simp[aa hi,Pq hk hl,hr,qD hi (by grind)];rw[hs];rfl) (s:=[]) hn rfl
 simp_all
def Za {k}{B:BT}{l:List zH}{s m}(hk:s.length<k)(hs:s.length≤1000)(fH:∀x∈s,0≤x∧x<(m.length:Int))(h0:pA m)(hm:∀i,m.getD i 0≤1000) aQ:
  He k k aQ 0 B.1 B.2.1 B.2.2.1 B.2.2.2 l m s=some (aQ,B.1,B.2.1,B.2.2.1,B.2.2.2,l,fu s m):=by
 obtain ⟨s', h1, h2⟩ := yW (L := fun n i (r : AC) => He k n aQ i B.1 B.2.1 B.2.2.1 B.2.2.2 l r s) (N := s.length) (fun r => (aQ, B.1, B.2.1, B.2.2.1, B.2.2.2, l, r)) (fun i r => r = fu (s.take i) m) (fun n r _=>by
  show Hf k _ aQ s.length B.1 B.2.1 B.2.2.1 B.2.2.2 l r s=_;unfold Hf;simp) (fun n i r hi hr=>by
  refine⟨_,?_,(yEg s m i hi).symm⟩;show Hf k _ aQ i B.1 B.2.1 B.2.2.1 B.2.2.2 l r s=_;unfold Hf;obtain⟨b1,b2⟩:=fH _ (fa (d:=0) hi);have tP:r.length=m.length:=by rw[hr,uL]
  have hb:zB (s.getD i 0) r.length=true:=wX b1 (by omega);have Wm:=K0 (s.take i) m (s.getD i 0).toNat;have I9:=h0 (s.getD i 0).toNat;have me:=hm (s.getD i 0).toNat;have bm:(s.take i).length≤s.length:=by grind
  have hw:zA (r.getD (s.getD i 0).toNat 0-1)=r.getD (s.getD i 0).toNat 0-1:=by
   rw[hr];exact zO (by omega) (by omega)
  simp only[qU,qC,ao,aa hi,ag,hb,hw,qD hi (by grind)];rw[hr]) (s:=m) hk rfl
 simp_all
def vYu {k}(hk:100<k){B}(hb:qP B){l}(hl:∀q∈l,yJ B.1.length q)(bS:l.length≤64){m f n}(h:kT B l m f n):
  ∀N (s7:Int),m.length=B.1.length→pA m→(∀i,m.getD i 0≤1000)→n<N→0≤s7→s7+n<1000000→
  LI k N s7 B.1 B.2.1 B.2.2.1 B.2.2.2 l m=some (s7+n,f):=by
 induction h with
 |@stop m h=>
  intro N s7 hm h0 h1 hn hs tY;obtain⟨N,rfl⟩:∃x,N=x+1:=⟨N-1,by omega⟩;show Hg k _ s7 B.1 B.2.1 B.2.2.1 B.2.2.2 l m=_;unfold Hg;have hS:=yT3 hk hb (K1 hl bS m);have oU:uB k B.1 B.2.1 B.2.2.1 B.2.2.2 (vP l m)=some (fi B (vP l m)):=hS;rw[Y9 (by omega) (show qT l by show l.length≤1000;omega)];simp_all
 |@step m f n h h' ih=>
  intro N s7 hm h0 h1 hn hs tY;obtain⟨N,rfl⟩:∃x,N=x+1:=⟨N-1,by omega⟩;have gG:=hb.n6;show Hg k _ s7 B.1 B.2.1 B.2.2.1 B.2.2.2 l m=_;unfold Hg;have hS:=yT3 hk hb (K1 hl bS m);have oU:uB k B.1 B.2.1 B.2.2.1 B.2.2.2 (vP l m)=some (fi B (vP l m)):=hS;rw[Y9 (by omega) (show qT l by show l.length≤1000;omega)];simp only[ae];rw[oU];simp only[ae];have w:zA (s7+1)=s7+1:=zO (by omega) (by omega);have bo : decide ((((fi B (vP l m)).length : Nat) : Int) = 0) = false := ab (by
   have:=List.length_pos_iff.2 h;omega)
  have eX:(fi B (vP l m)).length≤B.1.length:=by
   unfold fi uD;grind
  rw[bo];simp;rw[Za (by omega) (by omega) (by rw[hm];exact XV) h0 h1];simp[w];have Yb:=PU hl hm h0;have:=ih N (s7+1) ((uL _ _).trans hm) Yb (fun i=>by have:=(K0 (fi B (vP l m)) m i).2;have:=h1 i;omega) (by omega) (by omega) (by omega);rw[this]
  congr 2
  omega
def vL9 {k}(hk:100<k){B}(hb:qP B){l}(hl:∀q∈l,yJ B.1.length q)(bS:l.length≤64) t {f n}(hn:n≤l.length)(h:kT B (yZ l t) (g9 (yZ l t) B.1.length) f n):
  QD k B.1 B.2.1 B.2.2.1 B.2.2.2 l t=some (f,((n+1:Nat):Int)):=by
 have gG:=hb.n6;have hr:=xM l t;have h1:=PV (l:=yZ l t) (by omega) B.1.length;unfold QD;rw[Xn (by omega) (by show l.length≤1000;omega)];simp;have e:Ce k k 0 B.1 B.2.1 B.2.2.1 B.2.2.2 (l.filter (ke t)) []=_:=vT1 (k:=k) (B:=B) (l:=yZ l t) (by omega) (by show(yZ l t).length≤1000;omega) (by omega) (by omega);rw[e];simp;rw[vYu hk hb (K2 hl) (by omega) h k 1 (xL _ _) h1.1 h1.2 (by omega) (by omega) (by omega)];grind
def Zb {k}{C:BT}{l hs:List zH}(hl:l.length<k)(dN:l.length≤1000)(hk:hs.length<k)(hh:hs.length≤1000):
  Cf k k l 0 hs C.1 C.2.1 C.2.2.1 C.2.2.2=some (pB l hs,hs,C.1,C.2.1,C.2.2.1,C.2.2.2):=by
 obtain ⟨s', h1, h2⟩ := yW (L := fun n i (s : List zH) => Cf k n s i hs C.1 C.2.1 C.2.2.1 C.2.2.2) (N := hs.length) (fun s => (s, hs, C.1, C.2.1, C.2.2.1, C.2.2.2)) (fun i s => s = pB l (hs.take i)) (fun n s _=>by
  show Hh k _ s hs.length hs C.1 C.2.1 C.2.2.1 C.2.2.2=_;unfold Hh;simp) (fun n i s hi hr=>by
  refine⟨_,?_,(yRc l hs i hi).symm⟩;show Hh k _ s i hs C.1 C.2.1 C.2.2.1 C.2.2.2=_;unfold Hh;have eX:=(PW (hs.take i) l).1;rw[←hr] at eX⊢;simp[qC,aa hi,uV (show s.length<k by omega) (show qT s by show s.length≤1000;omega),qD hi (by grind)];rfl) (s:=l) hk rfl
 simp_all
def vGy {k}(hk:100<k){B}(hb:qP B){l}(hl:∀q∈l,yJ B.1.length q)(bS:l.length≤64) t {f n}(hn:n≤l.length)(h:kT B (yZ l t) (g9 (yZ l t) B.1.length) f n)
  {r:List yA×EQ×AC×EQ×Int} (hr:Bz k B.1 B.2.1 B.2.2.1 B.2.2.2 (vP (yZ l t) f)=some r):LJ k B.1 B.2.1 B.2.2.1 B.2.2.2 l t=some (Gf B l (vP (yZ l t) f) r):=by
 have tP:=xM l t;have PY:=(xK (yZ l t) f).length_le;unfold LJ;rw[vL9 hk hb hl bS t hn h,Xn (by omega) (by show l.length≤1000;omega)];simp;have e:Ha k (l.filter (ke t)) f=_:=Y9 (k:=k) (l:=yZ l t) (by omega) (by show(yZ l t).length≤1000;omega) f;rw[e];simp;rw[hr];simp;unfold Gf;cases decide (r.2.2.2.2=0) with
 |false=>rfl
 |true=>
  have e2:Cf k k l 0 (vP (yZ l t) f) r.1 r.2.1 r.2.2.1 r.2.2.2.1=_:=Zb (C:=(r.1,r.2.1,r.2.2.1,r.2.2.2.1)) (by omega) (by omega) (by omega) (by omega);simp_all
def gZ.books {k}(hk:100<k){t B C l done m}(h:gZ k t B l done C m)(hb:qP B)(hd:qM l):qP C∧C.1.length=B.1.length∧List.Sublist m l:=by
 induction h with
 |stop _=>simp_all
 |step h _ ih=>
  obtain⟨hp,hg⟩:=BP h;obtain⟨h1,h2⟩:=uJ (F5 hp);obtain⟨h3,h4⟩:=sX hk hb (by simp) hg;obtain⟨g1,g2,g3⟩:=ih h3 (List.Pairwise.sublist h2 hd);exact⟨g1,g2.trans h4,g3.trans h2⟩
def jZ.books {k}(hk:100<k){t B C l done m}(h:jZ k t B l done C m)(hb:qP B)(hd:qM l):qP C∧C.1.length=B.1.length∧List.Sublist m l:=by
 induction h with
 |stop _=>simp_all
 |step h _ ih=>
  obtain⟨hp,hq,pz,hg⟩:=F9 h;obtain⟨h1,h2⟩:=Ga hd hp hq pz;obtain⟨h3,h4⟩:=sX hk hb (by simp) hg;obtain⟨g1,g2,g3⟩:=ih h3 (List.Pairwise.sublist h2 hd);exact⟨g1,g2.trans h4,g3.trans h2⟩
def vYl {k}(hk:200≤k){t B C l m done}(h:mr k t B l done C m):∀n (r:List zH),qP B→qM l→l.length≤100→l.length<n→r.length+l.length≤900→
  LK k n l t B.1 B.2.1 B.2.2.1 B.2.2.2 r=some (m,C.1,C.2.1,C.2.2.1,C.2.2.2,r++done):=by
 induction h with
 |@stop B C l m d h1 h2=>
  intro n r hb hd hl hn hr;obtain⟨n,rfl⟩:∃x,n=x+1:=⟨n-1,by omega⟩;have p1:=h1.perm hd;have l1:=p1.length_eq;rw[List.length_append] at l1;obtain⟨g1,g2,g3⟩:=h1.books (by omega) hb hd;have f1:=yZq hk hb hl h1;have f2:=yVz hk g1 (List.Pairwise.sublist g3 hd) (by omega) (jZ.stop (t:=t) h2);have r1:zL (r.length+d.length) 56=true:=qI (by omega) (by omega);show Hi k _ l t B.1 B.2.1 B.2.2.1 B.2.2.2 r=_;unfold Hi;grind
 |@step B C D E l m n' o d e f h1 h2 ne h' ih=>
  intro n r hb hd hl hn hr;obtain⟨n,rfl⟩:∃x,n=x+1:=⟨n-1,by omega⟩;have p1:=h1.perm hd;have l1:=p1.length_eq;rw[List.length_append] at l1;obtain⟨g1,g2,g3⟩:=h1.books (by omega) hb hd;have hm:qM m:=List.Pairwise.sublist g3 hd;have p2:=h2.perm hm;have l2:=p2.length_eq;rw[List.length_append] at l2;obtain⟨k1,k2,k3⟩:=h2.books (by omega) g1 hm;have f1:=yZq hk hb hl h1;have f2:=yVz hk g1 hm (by omega) h2;have lV:=List.length_pos_iff.2 ne;have r1:zL (r.length+d.length) 56=true:=qI (by omega) (by omega);have r2:zL ((r++d).length+e.length) 56=true:=qI (by rw[List.length_append];omega) (by rw[List.length_append];omega);have:=ih n (r++d++e) k1 (List.Pairwise.sublist k3 hm) (by omega) (by omega) (by simp;omega);show Hi k _ l t B.1 B.2.1 B.2.2.1 B.2.2.2 r=_;unfold Hi;grind
def vEv {k}(hk:200≤k){t B C l m done}(hb:qP B)(hd:qM l)(hl:l.length≤100)(h:mr k t B l done C m):
  LL k B.1 B.2.1 B.2.2.1 B.2.2.2 l t=some (C.1,C.2.1,C.2.2.1,C.2.2.2,m,done):=by
 unfold LL;rw[vYl hk h k [] hb hd hl (by omega) (by grind)];rfl
def Zc {k}(hk:200≤k){B}(hb:qP B){l:List zH}(hl:∀q∈l,yJ B.1.length q)(bS:l.length≤64) t:
  ∃r,BU k B.1 B.2.1 B.2.2.1 B.2.2.2 l t=some r∧LJ k B.1 B.2.1 B.2.2.1 B.2.2.2 l t=some r:=by
 obtain⟨f,n,h,hn⟩:=XZ hb hl bS t;have tP:=xM l t;have PY:=(xK (yZ l t) f).length_le;obtain⟨r,h1,h2,h3⟩:=F4 (k:=k) (by omega) hb (l:=vP (yZ l t) f) (by omega);exact⟨_,Yc (k:=k) (by omega) hb hl bS t (by omega) h h1,vGy (k:=k) (by omega) hb hl bS t (by omega) h h2⟩
def vZ8 {k}(hk:200≤k){B}(hb:qP B){l}(hd:qM l)(hl:∀q∈l,yJ B.1.length q)(bS:l.length≤64) t all:
  ∃(C:BT) (m done:List zH),uN k B.1 B.2.1 B.2.2.1 B.2.2.2 l t all=some (C.1,C.2.1,C.2.2.1,C.2.2.2,m,done)∧QE k B.1 B.2.1 B.2.2.1 B.2.2.2 l t all=some (C.1,C.2.1,C.2.2.1,C.2.2.2,m,done)∧
   qP C∧C.1.length=B.1.length∧List.Sublist m l∧List.Perm (done++m) l∧eu k C (vT m t)=none∧fV k C m t=none:=by
 obtain⟨C,m,d,f1,f2,f3,f4,f5⟩:=Gr hk hb hd (by omega) t;have fr:=vEv hk hb hd (by omega) f2;have p1:=f2.perm hd;have l1:=p1.length_eq;rw[List.length_append] at l1;unfold uN QE;rw[f1,fr];simp only[ae];cases all with
 |false=>exact⟨C,m,d,rfl,rfl,f3,f4,f5,p1,f2.final⟩
 |true=>
  have hm:qM m:=List.Pairwise.sublist f5 hd;have hmm:∀q∈m,yJ C.1.length q:=by grind
  obtain⟨D,n,x,g1,g2,g3,g4,g5,g6⟩:=Ye hk f3 hm hmm (by omega) t;obtain⟨R,r1,r2⟩:=Zc hk f3 hmm (by omega) t;have hR:R=(D.1,D.2.1,D.2.2.1,D.2.2.2,n,x):=by rw[g1] at r1;exact(Option.some.inj r1).symm
  subst hR;have l2:=g5.length_eq;rw[List.length_append] at l2;rw[g1,r2];simp only[ae];cases x with
  |nil=>
   obtain⟨rfl,rfl⟩:=g6 rfl;exact⟨D,n,d,rfl,rfl,f3,f4,f5,p1,f2.final⟩
  |cons p x=>
   have e1:decide ((((p::x).length:Nat):Int)=0)=false:=ab (by simp;omega);rw[e1];have hn:qM n:=List.Pairwise.sublist g4 hm;obtain⟨E,o,y,k1,k2,k3,k4,k5⟩:=Gr hk g2 hn (by omega) t;have kr:=vEv hk g2 hn (by omega) k2;have p3:=k2.perm hn;have l3:=p3.length_eq;rw[List.length_append] at l3;have e2:zL (d.length+(p::x).length) 56=true:=qI (by simp at l2⊢;omega) (by simp at l2⊢;omega);have e3:zL ((d++(p::x)).length+y.length) 56=true:=qI (by simp at l2⊢;omega) (by simp at l2⊢;omega);rw[k1,kr];simp only[ae,e2,e3,ag];refine⟨E,o,d++(p::x)++y,rfl,rfl,k3,k4.trans (g3.trans f4),k5.trans (g4.trans f5),?_,k2.final⟩;have e4:d++(p::x)++y++o=d++((p::x)++(y++o)):=by simp
   rw[e4];exact by grind
def yR6 {B:BT}(hb:qP B){m:List zH}(hd:qM m)(hm:∀q∈m,yJ B.1.length q)(bS:m.length≤64)(t:Int)(pr:AC)(ho:EQ)(ids:AC)(to:Int)(ov all:Bool):
  ∃(C:BT) (m' d:List zH),pC 1000 t B.1 B.2.1 B.2.2.1 B.2.2.2 pr ho m ids to ov all=some (t,C.1,C.2.1,C.2.2.1,C.2.2.2,pr,ho,m',ids,to,ov,vC d)∧
   oD 1000 t B.1 B.2.1 B.2.2.1 B.2.2.2 pr ho m ids to ov all=some (t,C.1,C.2.1,C.2.2.1,C.2.2.2,pr,ho,m',ids,to,ov,vC d)∧qP C∧jR B C∧List.Sublist m' m∧List.Perm (d++m') m∧eu 1000 C (vT m' t)=none:=by
 obtain⟨C,m',d,f1,fr,f2,f3,f4,f5,f6,f7⟩:=vZ8 (k:=1000) (by decide) hb hd hm bS t all;have hlen:=f5.length_eq;rw[List.length_append] at hlen;refine⟨C,m',d,?_,?_,f2,Yk (by decide) hb hd hm bS t all f1,f4,f5,f6⟩
 ·unfold pC;rw[f1];simp only[ae];rw[Yg (by omega) (by omega)];rfl
 ·unfold oD;rw[fr];simp only[ae];rw[vMx (by omega) (by omega)];rfl
def QF kd a:fQ 1000 kd [a]=some (kd,a,0,0,0,0,0):=by rfl
def Of0 kd:fQ 1000 kd []=some (kd,0,0,0,0,0,0):=by rfl
def Of5 kd a b c d e:fQ 1000 kd [a,b,c,d,e]=some (kd,a,b,c,d,e,0):=by rfl
def vKw (s:zU)(hm:s.m.length≤100)(b:Int×Int×Bool):yf 1000 1000 s.m 0 s.st b []=some (s.st,b,s.m.map (wT 22)):=by
 obtain ⟨s', h1, h2⟩ := yW (L := fun n i (o : List qY) => yf 1000 n s.m i s.st b o) (N := s.m.length) (fun o => (s.st, b, o)) (fun i o => o = (s.m.take i).map (wT 22)) (fun n o _=>by
  show Hj 1000 (yf 1000 n) s.m s.m.length s.st b o=_;unfold Hj;simp) (fun n i o hi ho=>by
  refine⟨_,?_,(yUr (wT 22) s.m i pd hi).symm⟩;show Hj 1000 (yf 1000 n) s.m i s.st b o=_;unfold Hj;have eX:o.length≤900:=by grind
  rw[aa (by grind),qC,aa hi,ao,QF,qD hi (by omega)];simp only[xN (show o.length≤1000 by omega)];rw[ho];rfl) (s:=[]) (show s.m.length<1000 by omega) rfl
 simp_all
def vG8 (s:zU)(hB:s.B.1.length≤6)(b:Int×Int×Bool)(l:List qY)(hl:l.length≤100):yg 1000 1000 0 s.st b l=some (s.st,b,l++iT s.B s.B.1.length):=by
 have ea:s.st.2.1=s.B.1:=rfl;obtain ⟨s', h1, h2⟩ := yW (L := fun n i (o : List qY) => yg 1000 n i s.st b o) (N := s.B.1.length) (fun o => (s.st, b, o)) (fun i o => o = l ++ iT s.B i) (fun n o _=>by
  show Hk 1000 (yg 1000 n) s.B.1.length s.st b o=_;unfold Hk;simp_all) (fun n i o hi ho=>by
  refine⟨_,?_,(show l++iT s.B i++[xQ s.B i]=l++iT s.B (i+1) by rw[vEs,List.append_assoc])⟩;show Hk 1000 (yg 1000 n) i s.st b o=_;unfold Hk;have eX:o.length≤900:=by
   rw[ho,List.length_append];unfold iT;grind
  rw[ea,aa (by grind),qC,aa hi,ao,QF,qD hi (by omega)];simp only[xN (show o.length≤1000 by omega)];rw[ho];rfl) (s:=l) (show s.B.1.length<1000 by omega) (by show _=_++[];simp)
 simp_all
def vOi {a b p}(hd:qM (a++p::b)):iB (a++p::b) p.1=(a++b,p.1,p.2.1,p.2.2.1,p.2.2.2.1,p.2.2.2.2.1,p.2.2.2.2.2.1,p.2.2.2.2.2.2,0):=by
 have hl:a.length<(a++p::b).length:=by simp
 have hg:(a++p::b).getD a.length pd=p:=by simp
 have hp:=yYf hd hl;rw[hg] at hp;unfold kf at hp;unfold iB;cases hx:wB (a++p::b) p.1 with
 |none=>simp_all
 |some x=>
  rw[hx] at hp;simp only at hp;obtain rfl:x=a.length:=by omega
  unfold yF;simp
def vLu (r:qG)(s:zU)(hd:qM s.m)(hm:s.m.length≤100)(b:Int×Int×Bool):
  vd 1000 1000 s.m 0 r s.st b []=some (r,zU.st {s with m:=s.m.filter (fun p=> !vI s.t p)},b,(s.m.filter (vI s.t)).map (wT 21)):=by
 obtain ⟨s', h1, h2, h3⟩ := yW (L := fun n i (x : List zH × List qY) => vd 1000 n s.m i r (zU.st { s with m := x.1 }) b x.2) (N := s.m.length) (fun x => (r, zU.st { s with m := x.1 }, b, x.2)) (fun i x => x.1 = (s.m.take i).filter (fun p => !vI s.t p) ++ s.m.drop i ∧ x.2 = ((s.m.take i).filter (vI s.t)).map (wT 21)) (fun n x _=>by
  show Hl 1000 (vd 1000 n) s.m s.m.length r _ b _=_;unfold Hl;rw [ab (Int.lt_irrefl _)]; rfl) (fun n i x hi hx=>by
  have f1:=BG (vI s.t) s.m i pd hi;have f2:=BG (fun p=> !vI s.t p) s.m i pd hi;have hdr:s.m.drop i=s.m.getD i pd::s.m.drop (i+1):=by rw[List.drop_eq_getElem_cons hi,GL _ hi]
  have mZ:x.2.length≤900:=by
   rw[hx.2,List.length_map];have:=List.length_filter_le (vI s.t) (s.m.take i);rw[List.length_take] at this;omega
  have tN:x.1.length≤s.m.length:=by
   rw[hx.1,List.length_append,List.length_drop];have:=List.length_filter_le (fun p=> !vI s.t p) (s.m.take i);rw[List.length_take] at this;omega
  have cO:List.Sublist x.1 s.m:=by
   have h:=List.Sublist.append (List.filter_sublist (p:=fun p=> !vI s.t p) (l:=s.m.take i)) (List.Sublist.refl (s.m.drop i));rw[List.take_append_drop] at h;rw[hx.1];exact h
  have hdx:qM x.1:=List.Pairwise.sublist cO hd;have e0:∀p:zH,Zd 1000 p.1 p.2.1 p.2.2.1 p.2.2.2.1 p.2.2.2.2.1 p.2.2.2.2.2.1 p.2.2.2.2.2.2 s.t=some (vI s.t p):=fun p=>rfl
  have ed:s.m.getD i (0,0,0,0,0,0,0)=s.m.getD i pd:=rfl;have et:(zU.st {s with m:=x.1}).1=s.t:=rfl;have em:(zU.st {s with m:=x.1}).2.2.2.2.2.2.2.1=x.1:=rfl;show∃s',Hl 1000 (vd 1000 n) s.m i r (zU.st {s with m:=x.1}) b x.2=_∧_;unfold Hl;rw[aa (show(i:Int)<s.m.length by omega),qC,aa hi,ao,ed,et,em,e0,QF,qD hi (by omega),uV (by omega) (by unfold qT;omega)];simp only[ag,ae,xN (show x.2.length≤1000 by omega)];cases hb:vI s.t (s.m.getD i pd) with
  |true=>
   have dp:=hx.1;rw[hdr] at dp;have e1:=vOi (a:=(s.m.take i).filter (fun p=> !vI s.t p)) (b:=s.m.drop (i+1)) (p:=s.m.getD i pd) (by rw[←dp];exact hdx);rw[←dp] at e1;rw[e1];refine⟨((s.m.take i).filter (fun p=> !vI s.t p)++s.m.drop (i+1),x.2++[wT 21 (s.m.getD i pd)]),rfl,?_,?_⟩
   ·show _=_;rw[f2,hb];simp
   ·show x.2++_=_;rw[f1,hb,hx.2];simp
  |false=>
   refine⟨x,rfl,?_,?_⟩
   ·rw[f2,hb,hx.1,hdr];simp
   ·rw[f1,hb,hx.2];simp) (s:=(s.m,[])) (show s.m.length<1000 by omega) ⟨by simp,rfl⟩
 rw[List.take_length,List.drop_length,List.append_nil] at h2;rw[List.take_length] at h3;have gz:vd 1000 1000 s.m 0 r s.st b []=_:=h1;rw[gz,h2,h3]
def vYq (r:qG){s:zU}(hb:qP s.B)(hd:qM s.m)(hm:∀q∈s.m,yJ s.B.1.length q)(bS:s.m.length≤64)(ht:0≤s.t∧s.t<1099511627776)(Lb:r.2.2.2.2≠0)(ho:s.ov=false):
  ∃x:Int×List yA×jL×AC×jL×AC×jL×List zH×AC×Int×Bool×List qY,uO 1000 r.1 r.2.1 r.2.2.1 r.2.2.2.1 r.2.2.2.2 s.t s.B.1 s.B.2.1 s.B.2.2.1 s.B.2.2.2 s.pr s.ho s.m s.ids s.to s.ov=some x∧Hm 1000 r s.st=some (qQ x,x.2.2.2.2.2.2.2.2.2.2.2):=by
 have gG:=hb.n6;have w:zA (s.t+1)=s.t+1:=zO (by omega) (by omega);have eR:Hm 1000 r s.st=bif s.ov then some (s.st,[])
  else(QG 1000 r (zA (s.t+1))).bind fun x0=>
  bif x0 then ((yf 1000 1000 s.m 0 ((zA (s.t+1)),s.st.2) (0,0,false) []).bind fun z=>
   (yg 1000 1000 0 z.1 z.2.1 z.2.2).bind fun z1=>
   some ((ki z1.1 ([],z1.1.2.2.2.2.2.2.2.2.1,z1.1.2.2.2.2.2.2.2.2.2.1,true)),z1.2.2))
  else(vd 1000 1000 s.m 0 r ((zA (s.t+1)),s.st.2) (0,0,false) []).bind fun z2=>
  (LM 1000 z2.1 z2.2.1.1).bind fun x6=>
  (oD 1000 z2.2.1.1 z2.2.1.2.1 z2.2.1.2.2.1 z2.2.1.2.2.2.1 z2.2.1.2.2.2.2.1 z2.2.1.2.2.2.2.2.1 z2.2.1.2.2.2.2.2.2.1 z2.2.1.2.2.2.2.2.2.2.1 z2.2.1.2.2.2.2.2.2.2.2.1 z2.2.1.2.2.2.2.2.2.2.2.2.1 z2.2.1.2.2.2.2.2.2.2.2.2.2 x6).bind fun x7=>
  bif zL (z2.2.2.2.length+x7.2.2.2.2.2.2.2.2.2.2.2.length) 64 then some ((qQ x7),(z2.2.2.2++x7.2.2.2.2.2.2.2.2.2.2.2))
  else none:=rfl
 have eT:((s.t+1,s.st.2):rf)=zU.st {s with t:=s.t+1}:=rfl;rw[eR,w,eT,ho];unfold uO BY QG;simp only[w,ak,ae];cases hc:decide (s.t+1=r.2.2.2.1) with
 |true=>
  simp only[ag];rw[yLh gG (by decide) (by omega)];have c0:=vKw {s with t:=s.t+1,ov:=false} (by show s.m.length≤100;omega) (0,0,false);have c1:=vG8 {s with t:=s.t+1,ov:=false} (by show s.B.1.length≤6;exact gG) (0,0,false) (s.m.map (wT 22)) (by rw[List.length_map];omega);refine⟨_,rfl,?_⟩;refine(congrArg (fun z=>Option.bind z _) c0).trans ?_;refine(congrArg (fun z=>Option.bind z _) c1).trans ?_;rfl
 |false=>
  simp only[ak];rw[vCq (by decide) (by omega)];have c2:=vLu r {s with t:=s.t+1,ov:=false} hd (by show s.m.length≤100;omega) (0,0,false);have hs:∃x,GB 1000 r.1 r.2.1 r.2.2.1 r.2.2.2.1 r.2.2.2.2 (s.t+1)=some x∧LM 1000 r (s.t+1)=some x:=by
   unfold GB LM;cases decide (s.t+1>0) with
   |false=>exact⟨_,rfl,rfl⟩
   |true=>
    cases decide (s.t+1<r.2.2.2.1) with
    |false=>exact⟨_,rfl,rfl⟩
    |true=>
     have:decide (r.2.2.2.2=0)=false:=ab Lb;rw[this];exact⟨_,rfl,rfl⟩
  obtain⟨x,hx,nQ⟩:=hs;simp only[ae];rw[hx];have cO:List.Sublist (s.m.filter (fun p=> !vI (s.t+1) p)) s.m:=List.filter_sublist;have eX:=cO.length_le;have pn:qM (s.m.filter (fun p=> !vI (s.t+1) p)):=List.Pairwise.sublist cO hd;obtain⟨C,m',d,f1,f1',f2,f3,f4,f5,f6⟩:=yR6 hb pn (by grind) (by omega) (s.t+1) s.pr s.ho s.ids s.to false x;have hlen:=f5.length_eq;rw[List.length_append] at hlen;have hla:(s.m.filter (vI (s.t+1))).length≤s.m.length:=by grind
  have pU:=BW d;have hr:zL (((s.m.filter (vI (s.t+1))).map (wT 21)).length+(vC d).length) 64=true:=qI (by rw[List.length_map];omega) (by rw[List.length_map];omega);simp only[ae];rw[f1];simp only[ae,hr,ag];refine⟨_,rfl,?_⟩;refine(congrArg (fun z=>Option.bind z _) c2).trans ?_;simp only[ae];refine(congrArg (fun z=>Option.bind z _) nQ).trans ?_;have Ze:oD 1000 (s.t+1) s.B.1 s.B.2.1 s.B.2.2.1 s.B.2.2.2 s.pr s.ho (s.m.filter (fun p=> !vI (s.t+1) p)) s.ids s.to false x=_:=f1';refine(congrArg (fun z=>Option.bind z _) Ze).trans ?_;grind
def qX.settled {r s}(h:qX r s)(ho:s.ov=false){C}(hc:qP C)(kc:jR s.B C){m}(hm:List.Sublist m s.m):qX r {s with B:=C,m:=m}:=by
  have hl:=kc.len;exact{
    tk:=h.tk
    bk:=hc
    n:=by rw[hl];exact h.n
    hol:=by rw[hl];exact h.hol
    laid:=by rw[hl];exact h.laid
    cred:=by rw[hl];intro i hi;rw[kc.cred i hi];exact h.cred i hi
    most:=by rw[hl];intro i hi;rw[kc.cred i hi];exact h.most i hi
    waits:=by rw[hl];exact h.waits.sub hm
    sum:=by rw[hl,kc.sum];exact h.sum
    tot:=h.tot
    over:=h.over
    none:=by grind}
def yMb {k}(hk:1000≤k){r}(hr:vN r){s}(h:qX r s)(ho:s.ov=false):
    ∃(C:BT) (m':List zH) (ov:Bool) (o:List qY),uO k r.1 r.2.1 r.2.2.1 r.2.2.2.1 r.2.2.2.2 s.t s.B.1 s.B.2.1 s.B.2.2.1 s.B.2.2.2 s.pr s.ho s.m s.ids s.to s.ov=some (s.t+1,C.1,C.2.1,C.2.2.1,C.2.2.2,s.pr,s.ho,m',s.ids,s.to,ov,o)∧
      qX r {s with t:=s.t+1,B:=C,m:=m',ov:=ov}∧jR s.B C∧(ov=false→eu k C (vT m' (s.t+1))=none)∧o.length≤100∧
      ((ov=true∧m'=[]∧o=s.m.map (wT 22)++iT s.B s.B.1.length∧C=s.B)∨∃l d n,o=l.map (wT 21)++vC d∧List.Perm (l++n) s.m∧List.Perm (d++m') n∧ov=false):=by
  have DL:=hr.cl;have Lb:=hr.pe;have htk:=h.tk;have hn:=h.n;have bm:s.t≠r.2.2.2.1:=by
    have:=h.over;simp_all
  have hbk:=h.bk;have hm:=h.waits.len;rw[ho];obtain⟨C,m',ov,o,e1,e2,e3,e4,e5⟩:=vYp (k:=k) (by omega) hbk h.waits.dist h.waits.may (by omega) r.1 r.2.1 r.2.2.1 r.2.2.2.1 r.2.2.2.2 s.t (by omega) (by omega) s.pr s.ho s.ids s.to;have hl:=e3.len;refine⟨C,m',ov,o,e1,?_,e3,e4,?_,e5⟩
  · exact{
      tk:=by grind
      bk:=e2.bk
      n:=by simp_all
      hol:=by rw[hl];exact h.hol
      laid:=by rw[hl];exact h.laid
      cred:=by rw[hl];intro i hi;rw[e3.cred i hi];exact h.cred i hi
      most:=by rw[hl];intro i hi;rw[e3.cred i hi];exact h.most i hi
      waits:=by rw[hl];exact h.waits.sub e2.sub
      sum:=by rw[hl,e3.sum];exact h.sum
      tot:=h.tot
      over:=e2.over
      none:=e2.none}
  · have:=e2.room;split at this<;>omega
def yWt r s who f:(iV r s who f).2.t=s.t∧(iV r s who f).2.ov=s.ov∧(iV r s who f).2.to=s.to:=by
 unfold iV;cases decide (f.1=5) with
 |true=>
  cases !((decide (f.2.1≥0)&&decide (f.2.1≤r.1-1))&& !decide (f.2.1=who))<;>cases !(decide (f.2.2.1≥-1)&&decide (f.2.2.1≤1152921504606846976))<;>exact⟨rfl,rfl,rfl⟩
 |false=>
  cases decide (f.1=6) with
  |true=>cases !(decide (f.2.1≥-1)&&decide (f.2.1≤1152921504606846976))<;>exact⟨rfl,rfl,rfl⟩
  |false=>cases !(decide (f.2.1≥0)&&decide (f.2.1≤1152921504606846976))<;>exact⟨rfl,rfl,rfl⟩
def yU4 r s who a n:(iW r s who a n).2.t=s.t∧(iW r s who a n).2.ov=s.ov∧(iW r s who a n).2.to=s.to:=by
 unfold iW;cases !(decide (a≥0)&&decide (a≤(r.2.1.length:Int)-1)) with
 |true=>simp
 |false=>
 cases !(decide (n≥0)&&decide (n≤1099511627776)) with
 |true=>simp
 |false=>
 unfold B1;grind
def yGf r s a p:(iX r s a p).2.t=s.t∧(iX r s a p).2.ov=s.ov∧(iX r s a p).2.to=s.to:=by
 unfold iX;cases !(decide (a≥0)&&decide (a≤(r.2.1.length:Int)-1)) with
 |true=>simp
 |false=>
 cases !(decide (p≥0)&&decide (p≤1048576)) with
 |true=>simp
 |false=>
 unfold B7;grind
def yQe {r s kd to n}:(iD r s kd to n).2.ov=s.ov:=by
 unfold iD;cases !(decide (to≥0)&&decide (to≤r.1-1)) with
 |true=>rfl
 |false=>
 cases !(decide (n≥1)&&decide (n≤1099511627776)) with
 |true=>rfl
 |false=>
 cases decide (kd=11) with
 |true=>
  unfold GU;cases decide ((s.B.1.getD to.toNat ad).1+(s.B.1.getD to.toNat ad).2.1-(s.B.1.getD to.toNat ad).2.2<n)<;>cases decide (s.to-n<0)<;>cases decide ((wY (s.B.1.getD to.toNat ad) (-n)).2=0)<;>cases decide (s.to-n>1152921504606846976)<;>rfl
 |false=>
  unfold GV;cases decide ((wY (s.B.1.getD to.toNat ad) n).2=0)<;>cases decide (s.to+n>1152921504606846976)<;>rfl
def yWp {r s who f}:(kW r s who f).2.2.length≤1:=by
 unfold kW;grind
def Kd (o:List qY):Prop:=∀x∈o,x.2.1≠16∧x.2.1≠23
def nA:Kd []:=fun x h=>by grind
def Hn {x}(h:x.2.1≠16∧x.2.1≠23):Kd [x]:=fun y hy=>by simp_all
def Kd.append {a b}(h:Kd a)(g:Kd b):Kd (a++b):=fun x hx=>(List.mem_append.1 hx).elim (h x) (g x)
def LN:∀d:List zH,Kd (vC d)
 |[]=>nA
 | p :: d => (show Kd [fP p.2.1 p,fP p.2.2.1 p] from fun x hx=>by
   rcases List.mem_cons.1 hx with rfl|hx
   ·exact⟨by nofun,by nofun⟩
   ·rw[List.mem_singleton.1 hx];exact⟨by nofun,by nofun⟩).append (LN d)
def QH {kd}(hk:kd=21∨kd=22)(l:List zH):Kd (l.map (wT kd)):=fun x hx=>by
 obtain⟨p,_,rfl⟩:=List.mem_map.1 hx;show kd≠16∧kd≠23;omega
def yRk {r s who f}:Kd (kW r s who f).2.2:=by
 unfold kW;cases wB s.m f.2.1 with
 |none=>exact nA
 |some x=>
  simp only[];cases !decide ((s.m.getD x pd).2.1=who) with
  |true=>exact nA
  |false=>
  cases decide (f.1=2) with
  |true=>exact Hn ⟨by nofun,by nofun⟩
  |false=>
  cases decide (f.1=4) with
  |true=>
   cases !(decide (f.2.2.1≥1)&&decide (f.2.2.1≤3))<;>cases !decide (rj r.2.2.1 r.2.2.2.1 s.t f.2.2.1=0)<;>exact nA
  |false=>
  cases decide (f.2.2.1=0)<;>cases decide (f.2.2.1=1)<;>exact nA
def kZ (o:List qY):Prop:=∀x∈o,x.2.1≠16
def Kd.ne {o}(h:Kd o):kZ o:=fun x hx=>(h x hx).1
def kZ.append {a b}(h:kZ a)(g:kZ b):kZ (a++b):=fun x hx=>(List.mem_append.1 hx).elim (h x) (g x)
def vC4 B n:kZ (iT B n):=fun x hx=>by
 obtain⟨i,_,rfl⟩:=List.mem_map.1 hx
 nofun
def yJa {r:qG}{s:zU}{who:Int}{f:jD}(h:(iU r s who f).1=0):∀x∈(iU r s who f).2.2,x∈s.ids∨x=f.2.1:=by
 unfold iU at h⊢;cases h1:decide (f.2.2.1≥0)&&decide (f.2.2.1≤r.1-1) with
 |false=>exact fun _ h=>.inl h
 |true=>
 cases h2:decide (f.2.2.2.2.1≥1)&&decide (f.2.2.2.2.1≤3) with
 |false=>exact fun _ h=>.inl h
 |true=>
 cases decide (nz r s.t (gg who f)=0) with
 |false=>exact fun _ h=>.inl h
 |true=>
 cases decide (f.2.1∈s.ids) with
 |true=>exact fun _ h=>.inl h
 |false=>
 cases decide (200≤s.ids.length) with
 |true=>exact fun _ h=>.inl h
 |false=>
 cases(wB s.m f.2.1).isSome with
 |true=>exact fun _ h=>.inl h
 |false=>
 cases decide (40≤s.m.length) with
 |true=>exact fun _ h=>.inl h
 |false=>
  intro x hx;have hx:x∈qw s.ids f.2.1:=hx;unfold qw at hx;have e:=List.takeWhile_append_dropWhile (p:=fun x=>decide (x<f.2.1)) (l:=s.ids);rcases List.mem_append.1 hx with hx|hx
  ·exact .inl (e▸List.mem_append_left _ hx)
  ·rcases List.mem_cons.1 hx with hx|hx
   ·exact .inr hx
   ·exact .inl (e▸List.mem_append_right _ hx)
def yXi (r:qG)(s:zU)(who:Int)(f:jD):(iV r s who f).2.ids=s.ids:=by
 unfold iV;cases decide (f.1=5) with
 |true=>cases !((decide (f.2.1≥0)&&decide (f.2.1≤r.1-1))&& !decide (f.2.1=who))<;>cases !(decide (f.2.2.1≥-1)&&decide (f.2.2.1≤1152921504606846976))<;>rfl
 |false=>
  cases decide (f.1=6) with
  |true=>cases !(decide (f.2.1≥-1)&&decide (f.2.1≤1152921504606846976))<;>rfl
  |false=>cases !(decide (f.2.1≥0)&&decide (f.2.1≤1152921504606846976))<;>rfl
def yIf (r:qG)(s:zU)(who a n:Int):(iW r s who a n).2.ids=s.ids:=by
 unfold iW;cases !(decide (a≥0)&&decide (a≤(r.2.1.length:Int)-1)) with
 |true=>rfl
 |false=>
 cases !(decide (n≥0)&&decide (n≤1099511627776)) with
 |true=>rfl
 |false=>
 simp only[ak];unfold B1;generalize (s.ho.getD who.toNat []).set a.toNat n=h;cases decide (mo r.2.1 s.pr h>1152921504606846976) with
 |true=>rfl
 |false=>cases decide (mo r.2.1 s.pr h<(s.B.1.getD who.toNat ad).2.1)&&decide ((s.B.1.getD who.toNat ad).1+mo r.2.1 s.pr h<0)<;>rfl
def yJw (r:qG)(s:zU)(a p:Int):(iX r s a p).2.ids=s.ids:=by
 unfold iX;cases !(decide (a≥0)&&decide (a≤(r.2.1.length:Int)-1)) with
 |true=>rfl
 |false=>
 cases !(decide (p≥0)&&decide (p≤1048576)) with
 |true=>rfl
 |false=>
 simp only[ak];unfold B7;cases qH (fun j=> !decide (gh r.2.1 (s.pr.set a.toNat p) s.ho j>1152921504606846976)) s.B.1.length 0<;>rfl
def Zf (m:jD)(i:Nat):Int:=[m.2.1,m.2.2.1,m.2.2.2.1,m.2.2.2.2.1,m.2.2.2.2.2.1,m.2.2.2.2.2.2].getD i 0
def vV1 (x:Int)(m:jD){n:Nat}(hn:n≤6):Ho 1000 1000 x n m=some (bif qH (fun j=>decide (Zf m j=0)) (6-n) n then .inl x else .inr false):=
 Wo (L := fun n i => Ho 1000 n x i m) (N := 6) (fun j => decide (Zf m j = 0)) (.inl x) (.inr false) (fun n => rfl) (fun n i hi=>by
  show Zg 1000 (Ho 1000 n) x i m=_;have:i=0∨i=1∨i=2∨i=3∨i=4∨i=5:=by omega
  rcases this with rfl|rfl|rfl|rfl|rfl|rfl
  ·show(bif !(decide (m.2.1=0)) then _ else _)=bif decide (m.2.1=0) then _ else _
   cases decide (m.2.1=0)<;>rfl
  ·show(bif !(decide (m.2.2.1=0)) then _ else _)=bif decide (m.2.2.1=0) then _ else _
   cases decide (m.2.2.1=0)<;>rfl
  ·show(bif !(decide (m.2.2.2.1=0)) then _ else _)=bif decide (m.2.2.2.1=0) then _ else _
   cases decide (m.2.2.2.1=0)<;>rfl
  ·show(bif !(decide (m.2.2.2.2.1=0)) then _ else _)=bif decide (m.2.2.2.2.1=0) then _ else _
   cases decide (m.2.2.2.2.1=0)<;>rfl
  ·show(bif !(decide (m.2.2.2.2.2.1=0)) then _ else _)=bif decide (m.2.2.2.2.2.1=0) then _ else _
   cases decide (m.2.2.2.2.2.1=0)<;>rfl
  ·show(bif !(decide (m.2.2.2.2.2.2=0)) then _ else _)=bif decide (m.2.2.2.2.2.2=0) then _ else _
   cases decide (m.2.2.2.2.2.2=0)<;>rfl) (6-n) n 1000 (by omega) (by omega)
def nB (m:jD)(n:Nat)(hn:n≤6)(h1:uu 1000 m.1=some (n:Int))(h2:Bp 1000 m.1=some (n:Int)):Cg 1000 m=lG 1000 m:=by
 unfold Cg lG;rw[h1,h2];have e1:wN false (n:Int) 0=(n:Int):=by
  rfl
 simp only[ae];rw[e1,vV1 _ m hn,ab (by simp),aa (by simp),aa (by grind),ao];have hl:(qR [m.2.1,m.2.2.1,m.2.2.2.1,m.2.2.2.2.1,m.2.2.2.2.2.1,m.2.2.2.2.2.2] n (6-n)).length=6-n:=by
  unfold qR;simp
 have := mj (L := fun k i => mw 1000 k (qR [m.2.1, m.2.2.1, m.2.2.2.1, m.2.2.2.2.1, m.2.2.2.2.2.1, m.2.2.2.2.2.2] n (6 - n)) ((6 - n : Nat) : Int) i) (N := 6 - n) (fun j => decide ((qR [m.2.1, m.2.2.1, m.2.2.2.1, m.2.2.2.2.1, m.2.2.2.2.2.1, m.2.2.2.2.2.2] n (6 - n)).getD j 0 = 0)) (.inl ()) (.inr false) (fun k=>by
  show lF 1000 (mw 1000 k) _ _ _=_;unfold lF;simp) (fun k i hi=>by
  show lF 1000 (mw 1000 k) _ _ _=_;unfold lF;rw[aa (by grind),qC,hl,aa hi,ao,qD hi (by omega)];simp) (n:=1000) (by omega)
 have h':mw 1000 1000 (qR [m.2.1,m.2.2.1,m.2.2.2.1,m.2.2.2.2.1,m.2.2.2.2.2.1,m.2.2.2.2.2.2] n (6-n)) ((6-n:Nat):Int) 0=_:=this;have ea:qH (fun j=>decide (Zf m j=0)) (6-n) n=qH (fun j=>decide ((qR [m.2.1,m.2.2.1,m.2.2.2.1,m.2.2.2.2.1,m.2.2.2.2.2.1,m.2.2.2.2.2.2] n (6-n)).getD j 0=0)) (6-n) 0:=by
  have:n=0∨n=1∨n=2∨n=3∨n=4∨n=5∨n=6:=by omega
  rcases this with rfl|rfl|rfl|rfl|rfl|rfl|rfl<;>rfl
 grind
def vJk (kd a b c d e f:Int)(h:1≤kd∧kd≤14):Cg 1000 (kd,a,b,c,d,e,f)=lG 1000 (kd,a,b,c,d,e,f):=by
 have:kd=1∨kd=2∨kd=3∨kd=4∨kd=5∨kd=6∨kd=7∨kd=8∨kd=9∨kd=10∨kd=11∨kd=12∨kd=13∨kd=14:=by omega
 rcases this with rfl|rfl|rfl|rfl|rfl|rfl|rfl|rfl|rfl|rfl|rfl|rfl|rfl|rfl
 ·exact nB _ 6 (by decide) rfl rfl
 ·exact nB _ 1 (by decide) rfl rfl
 ·exact nB _ 2 (by decide) rfl rfl
 ·exact nB _ 2 (by decide) rfl rfl
 ·exact nB _ 2 (by decide) rfl rfl
 ·exact nB _ 1 (by decide) rfl rfl
 ·exact nB _ 1 (by decide) rfl rfl
 ·exact nB _ 2 (by decide) rfl rfl
 ·exact nB _ 0 (by decide) rfl rfl
 ·exact nB _ 2 (by decide) rfl rfl
 ·exact nB _ 2 (by decide) rfl rfl
 ·exact nB _ 2 (by decide) rfl rfl
 ·exact nB _ 0 (by decide) rfl rfl
 ·exact nB _ 0 (by decide) rfl rfl
def vXz (r:qG)(s:zU)(c:kX){X:Type}(bad:Int→X)(Q:X):∃e,uS 1000 r s.st c=some e∧
  (e=0→((10≤c.2.1∧c.2.1≤14∧c.1= -1)∨(1≤c.2.1∧c.2.1≤9∧0≤c.1∧c.1<r.1))∧(s.ov=true→c.2.1=9))∧
  ((Ch 1000 r c).bind fun x0=>some (bif !x0 then bad 5 else bif s.ov then(bif !(decide (c.2.1=9)) then bad 7 else Q) else Q))=some (bif decide (e=0) then Q else bad e):=by
 obtain⟨e,he,hm⟩:=yKg (k:=1000) (by decide) r s c;refine⟨e,he,hm,?_⟩;have hA:QI 1000 c.2.1=some (decide (c.2.1≥1)&&decide (c.2.1≤14)):=by
  unfold QI;cases decide (c.2.1≥1)<;>rfl
 have hH:QJ 1000 c.2.1=some (decide (c.2.1≥10)&&decide (c.2.1≤14)):=by
  unfold QJ;cases decide (c.2.1≥10)<;>rfl
 by_cases hk:1≤c.2.1∧c.2.1≤14
 ·obtain⟨b,hb⟩:=yGn (k:=1000) (by decide) c.2;have bE:Cg 1000 c.2=some b:=(vJk _ _ _ _ _ _ _ hk).trans hb;have eo:s.st.2.2.2.2.2.2.2.2.2.2=s.ov:=rfl;unfold uS at he;rw[Yq,Yr,hb,eo] at he;simp only[ae] at he;unfold Ch;rw[hA,hH,bE];simp only[ae];clear hm hA hH hb bE;generalize decide (c.1≥0)=A at he⊢;generalize decide (c.2.1≥10)=B at he⊢;generalize decide (c.2.1≤14)=C at he⊢;generalize decide (c.2.1≥1)=D at he⊢;generalize decide (c.1= -1)=E at he⊢;generalize decide (c.1<r.1)=F at he⊢;generalize decide (c.2.1=9)=G at he⊢;generalize s.ov=o at he⊢;cases A<;>cases B<;>cases C<;>cases D<;>cases E<;>cases F<;>cases G<;>cases b<;>cases o<;>(cases he;rfl)
 ·have g:(decide (c.2.1≥1)&&decide (c.2.1≤14))=false:=by
   by_cases a:c.2.1≥1
   ·rw[aa a,ab (fun b=>hk ⟨a,b⟩)];rfl
   ·rw[ab a];rfl
  have e5:e=5:=by
   unfold uS at he;rw[Yq,Yr,g] at he;simp only[ae] at he;cases hd:decide (c.1≥0)<;>rw[hd] at he<;>(cases he;rfl)
  subst e5;unfold Ch;rw[hA,g];rfl
structure Dlt (r:qG) (s:zU) (f:jD) (t:zU) (l:List qY):Prop where
 inv:qX r t
 ov:t.ov=s.ov
 few:l.length≤2
 kd:Kd l
 ids:∀x∈t.ids,x∈s.ids∨x=f.2.1
structure Ck (r:qG) (s:zU) (f:jD) (t:zU) (o:List qY) (e:Int):Prop where
 inv:qX r t
 bad:e≠0→t=s∧o=[]
 ne:kZ o
 few:o.length≤200
 ids:∀x∈t.ids,x∈s.ids∨x=f.2.1
def Ck.none {r:qG}{s:zU}{f:jD}(h:qX r s)(e:Int):Ck r s f s [] e:=⟨h,fun _=>⟨rfl,rfl⟩,fun x hx=>absurd hx List.not_mem_nil,Nat.zero_le _,fun _ h=>.inl h⟩
def kn (who a:Int)(kd:Int)(h:kd≠16∧kd≠23):Kd [hY who kd a]:=Hn h
structure Hq (r:qG) (s:zU) (who:Int) (f:jD) (t:zU) (l l':List qY) (paid:Int):Prop where
 dealt:Dlt r s f t l
 told:l=(if who= -1 then l' else hY who 15 0::l')
 paid:paid=if f.1=1 then f.2.1 else 0
 pos:f.1=1→0<f.2.1
def Zh {r:qG}{s:zU}{who:Int}{f:jD}(h:(iU r s who f).1=0):0<f.2.1:=by
 unfold iU at h;cases h1:decide (f.2.2.1≥0)&&decide (f.2.2.1≤r.1-1) with
 |false=>rw[h1] at h;cases h
 |true=>
 cases h2:decide (f.2.2.2.2.1≥1)&&decide (f.2.2.2.2.1≤3) with
 |false=>rw[h1,h2] at h;cases h
 |true=>
 rw[h1,h2] at h;simp only[aA,ak] at h;by_cases hc:nz r s.t (gg who f)=0
 ·unfold nz at hc;cases hb:kV r.1 s.t (gg who f) with
  |false=>rw[hb] at hc;cases hc
  |true=>
   unfold kV at hb;simp only[bb,aW] at hb;have:(gg who f).1≥1:=hb.2.2.1;have e:(gg who f).1=f.2.1:=rfl;omega
 ·rw[ab hc] at h;exact absurd h hc
def Zi {r:qG}(hr:vN r){s:zU}(h:qX r s)(ho:s.ov=false){who:Int}(hw:0≤who∧who<r.1){f:jD}(hf:1≤f.1∧f.1≤8):
  ∃e d d',Hr 1000 (dk r s who [hY who 15 0]) f=some (e,d)∧yh 1000 (rk r s who) f=some (e,d')∧(e=0→∃t l l' paid,d=dk r t who l∧d'=qN r t who l' paid∧Hq r s who f t l l' paid):=by
 unfold Hr yh;have sB:¬who= -1:=by omega
 have kn:=kn who 0 15 (by decide);by_cases h1:f.1=1
 ·rw[aa h1];obtain⟨d,e1,e2⟩:=yM2 (k:=1000) (by decide) hr h.waits who [hY who 15 0] f;obtain⟨d',q1,q2⟩:=vZd (k:=1000) (by decide) hr h.waits who f;simp only[ag];rw[e1,q1];exact⟨_,d,d',rfl,rfl,fun e=>⟨_,_,_,_,e2 e,q2 e,⟨h.queue ho (yPj hr h e),rfl,by simp,kn,yJa e⟩,(if_neg sB).symm,(if_pos h1).symm,fun _=>Zh e⟩⟩
 rw[ab h1];by_cases hq:f.1=2∨f.1=3∨f.1=4
 ·obtain⟨d,e1,e2⟩:=yM9 (k:=1000) (by decide) h.waits who (l:=[hY who 15 0]) (by simp) f;obtain⟨d',q1,q2⟩:=Y3 (k:=1000) (by decide) (r:=r) h.waits who f hq;have g:∃e d d',(xS 1000 (dk r s who [hY who 15 0]) f).bind (fun x=>some (x.1,x.2))=some (e,d)∧(Cc 1000 (rk r s who) f.1 f.2).bind (fun x=>some (x.1,x.2))=some (e,d')∧(e=0→∃t l l' paid,d=dk r t who l∧d'=qN r t who l' paid∧Hq r s who f t l l' paid):=by
   rw[e1,q1];refine⟨_,d,d',rfl,rfl,fun e=>⟨_,_,_,_,e2 e,q2 e,⟨h.queue ho (yW4 h e),rfl,?_,kn.append yRk,fun _ h=>.inl h⟩,?_,(if_neg h1).symm,fun e'=>absurd e' h1⟩⟩
   ·have:=yWp (r:=r) (s:=s) (who:=who) (f:=f);rw[List.length_append];simp;omega
   ·rw[if_neg sB];rfl
  rcases hq with e|e|e
  ·rw[aa e];exact g
  ·rw[ab (show¬f.1=2 by omega),aa e];exact g
  ·rw[ab (show¬f.1=2 by omega),ab (show¬f.1=3 by omega),aa e];exact g
 rw[ab (show¬f.1=2 by omega),ab (show¬f.1=3 by omega),ab (show¬f.1=4 by omega)];by_cases hq:f.1=5∨f.1=6∨f.1=7
 ·obtain⟨d,e1,e2⟩:=yGa (k:=1000) (by decide) hr h.bk h.n hw [hY who 15 0] f;obtain⟨d',q1,q2⟩:=Y4 (k:=1000) (by decide) hr h.bk h.n hw f;have g:∃e d d',(xT 1000 (dk r s who [hY who 15 0]) f).bind (fun x=>some (x.1,x.2))=some (e,d)∧(Cd 1000 (rk r s who) f.1 f.2).bind (fun x=>some (x.1,x.2))=some (e,d')∧(e=0→∃t l l' paid,d=dk r t who l∧d'=qN r t who l' paid∧Hq r s who f t l l' paid):=by
   rw[e1,q1];have bc:=yWt r s who f;exact⟨_,d,d',rfl,rfl,fun e=>⟨_,_,_,_,e2 e,q2 e,⟨yY5 h hw e,bc.2.1,by simp,kn,by rw[yXi];exact fun _ h=>.inl h⟩,(if_neg sB).symm,(if_neg h1).symm,fun e'=>absurd e' h1⟩⟩
  rcases hq with e|e|e
  ·rw[aa e];exact g
  ·rw[ab (show¬f.1=5 by omega),aa e];exact g
  ·rw[ab (show¬f.1=5 by omega),ab (show¬f.1=6 by omega),aa e];exact g
 rw[ab (show¬f.1=5 by omega),ab (show¬f.1=6 by omega),ab (show¬f.1=7 by omega),aa (show f.1=8 by omega)];obtain⟨d,e1,e2⟩:=yYx (k:=1000) (by decide) hr h hw [hY who 15 0] f.2.1 f.2.2.1;obtain⟨d',q1,q2⟩:=vKm hr h hw f.2.1 f.2.2.1;simp only[ag,ak];rw[e1,q1];have bc:=yU4 r s who f.2.1 f.2.2.1;exact⟨_,d,d',rfl,rfl,fun e=>⟨_,_,_,_,e2 e,q2 e,⟨vDj hr h hw e,bc.2.1,by simp,kn,by rw[yIf];exact fun _ h=>.inl h⟩,(if_neg sB).symm,(if_neg h1).symm,fun e'=>absurd e' h1⟩⟩
def Zj {r:qG}(hr:vN r){s:zU}(h:qX r s){f:jD}(hf:10≤f.1∧f.1≤13):
  ∃e d d',yi 1000 (fw r s (-1)) f=some (e,d)∧yh 1000 (rk r s (-1)) f=some (e,d')∧(e=0→∃t l l' paid,d=dk r t (-1) l∧d'=qN r t (-1) l' paid∧Hq r s (-1) f t l l' paid):=by
 unfold yi yh;have h1:¬f.1=1:=by omega
 rw[ab h1,ab (show¬f.1=2 by omega),ab (show¬f.1=3 by omega),ab (show¬f.1=4 by omega),ab (show¬f.1=5 by omega),ab (show¬f.1=6 by omega),ab (show¬f.1=7 by omega),ab (show¬f.1=8 by omega)];by_cases hq:f.1=10∨f.1=11
 ·obtain⟨d,e1,e2⟩:=yTc (k:=1000) (by decide) hr h (-1) f.1 f.2.1 f.2.2.1;obtain⟨d',q1,q2⟩:=vKb hr h (-1) f.1 f.2.1 f.2.2.1 hq;have g:∃e d d',(B6 1000 (fw r s (-1)) f.1 f.2.1 f.2.2.1).bind (fun x=>some (x.1,x.2))=some (e,d)∧(G3 1000 (rk r s (-1)) (decide (f.1=10)) f.2.1 f.2.2.1).bind (fun x=>some (x.1,x.2))=some (e,d')∧(e=0→∃t l l' paid,d=dk r t (-1) l∧d'=qN r t (-1) l' paid∧Hq r s (-1) f t l l' paid):=by
   rw[e1,q1];refine⟨_,d,d',rfl,rfl,fun e=>?_⟩;obtain⟨g1,g2,g3,g4,g5⟩:=yQa h e;exact⟨_,_,_,_,e2 e,q2 e,⟨g1,yQe,by simp,nA,by rw[g4];exact fun _ h=>.inl h⟩,rfl,(if_neg h1).symm,fun e'=>absurd e' h1⟩
  rcases hq with e|e
  ·have e1:decide (f.1=10)=true:=aa e;rw[e1] at g⊢;exact g
  ·have e1:decide (f.1=10)=false:=ab (by omega);rw[e1] at g⊢;rw[aa e];exact g
 rw[ab (show¬f.1=10 by omega),ab (show¬f.1=11 by omega)];by_cases hp:f.1=12
 ·rw[aa hp];obtain⟨d,e1,e2⟩:=yP8 (k:=1000) (by decide) hr h (-1) f.2.1 f.2.2.1;obtain⟨d',q1,q2⟩:=Y7 hr h (-1) f.2.1 f.2.2.1;simp only[ag,ak];rw[e1,q1];have bc:=yGf r s f.2.1 f.2.2.1;exact⟨_,d,d',rfl,rfl,fun e=>⟨_,_,_,_,e2 e,q2 e,⟨vDl h e,bc.2.1,by simp,nA,by rw[yJw];exact fun _ h=>.inl h⟩,rfl,(if_neg h1).symm,fun e'=>absurd e' h1⟩⟩
 ·rw[ab hp];exact⟨_,_,_,rfl,rfl,fun _=>⟨s,[],[],0,rfl,rfl,⟨h,rfl,by simp,nA,fun _ h=>.inl h⟩,rfl,(if_neg h1).symm,fun e'=>absurd e' h1⟩⟩
def QK (who kd:Int)(x4:Int×YY):Option (rf×List qY×Int):=
  bif !(decide (who = (-1))) then ((fQ 1000 15 []).bind fun x5=>
   (oD 1000 x4.2.2.2.2.2.2.1 x4.2.2.2.2.2.2.2.1 x4.2.2.2.2.2.2.2.2.1 x4.2.2.2.2.2.2.2.2.2.1 x4.2.2.2.2.2.2.2.2.2.2.1 x4.2.2.2.2.2.2.2.2.2.2.2.1 x4.2.2.2.2.2.2.2.2.2.2.2.2.1 x4.2.2.2.2.2.2.2.2.2.2.2.2.2.1 x4.2.2.2.2.2.2.2.2.2.2.2.2.2.2.1 x4.2.2.2.2.2.2.2.2.2.2.2.2.2.2.2.1 x4.2.2.2.2.2.2.2.2.2.2.2.2.2.2.2.2.1 (decide (kd=13))).bind fun x6=>
   bif zL (1 + x4.2.2.2.2.2.2.2.2.2.2.2.2.2.2.2.2.2.2.1.length) 64 then (let y0:List qY:=([(who,x5)]++x4.2.2.2.2.2.2.2.2.2.2.2.2.2.2.2.2.2.2.1)
    bif zL (y0.length + x6.2.2.2.2.2.2.2.2.2.2.2.length) 64 then (bif decide (x4.2.2.2.2.2.2.2.2.2.2.2.2.2.2.2.2.2.2.2 > 0) then ((nq 1000 x6.2.2.2.2.2.2.2.1 x4.2.2.2.2.2.2.2.2.2.2.2.2.2.2.2.2.2.2.2).bind fun x7=>
      bif decide (x7 ≥ 0) then ((fQ 1000 19 [x4.2.2.2.2.2.2.2.2.2.2.2.2.2.2.2.2.2.2.2]).bind fun x8=>
       bif zL ((y0 ++ x6.2.2.2.2.2.2.2.2.2.2.2).length + 1) 64 then (let y1:List qY:=((y0++x6.2.2.2.2.2.2.2.2.2.2.2)++[(who,x8)])
        some ((qQ x6),y1,0))
       else none)
      else some ((qQ x6),(y0++x6.2.2.2.2.2.2.2.2.2.2.2),0))
     else some ((qQ x6),(y0++x6.2.2.2.2.2.2.2.2.2.2.2),0))
    else none)
   else none)
  else(oD 1000 x4.2.2.2.2.2.2.1 x4.2.2.2.2.2.2.2.1 x4.2.2.2.2.2.2.2.2.1 x4.2.2.2.2.2.2.2.2.2.1 x4.2.2.2.2.2.2.2.2.2.2.1 x4.2.2.2.2.2.2.2.2.2.2.2.1 x4.2.2.2.2.2.2.2.2.2.2.2.2.1 x4.2.2.2.2.2.2.2.2.2.2.2.2.2.1 x4.2.2.2.2.2.2.2.2.2.2.2.2.2.2.1 x4.2.2.2.2.2.2.2.2.2.2.2.2.2.2.2.1 x4.2.2.2.2.2.2.2.2.2.2.2.2.2.2.2.2.1 (decide (kd=13))).bind fun x9=>
  bif zL x4.2.2.2.2.2.2.2.2.2.2.2.2.2.2.2.2.2.2.1.length 64 then (let y2:List qY:=x4.2.2.2.2.2.2.2.2.2.2.2.2.2.2.2.2.2.2.1
   bif zL (y2.length + x9.2.2.2.2.2.2.2.2.2.2.2.length) 64 then (bif decide (x4.2.2.2.2.2.2.2.2.2.2.2.2.2.2.2.2.2.2.2 > 0) then ((nq 1000 x9.2.2.2.2.2.2.2.1 x4.2.2.2.2.2.2.2.2.2.2.2.2.2.2.2.2.2.2.2).bind fun bW=>
     bif decide (bW ≥ 0) then ((fQ 1000 19 [x4.2.2.2.2.2.2.2.2.2.2.2.2.2.2.2.2.2.2.2]).bind fun dq=>
      bif zL ((y2 ++ x9.2.2.2.2.2.2.2.2.2.2.2).length + 1) 64 then (let y3:List qY:=((y2++x9.2.2.2.2.2.2.2.2.2.2.2)++[(who,dq)])
       some ((qQ x9),y3,0))
      else none)
     else some ((qQ x9),(y2++x9.2.2.2.2.2.2.2.2.2.2.2),0))
    else some ((qQ x9),(y2++x9.2.2.2.2.2.2.2.2.2.2.2),0))
   else none)
  else none
def Cl (r:qG)(s:rf)(c:kX):Option (rf×List qY×Int):=
  bif decide (c.2.1 = 9) then (bif zB c.1 s.2.1.length then ((uE 1000 s.2.2.2.2.2.2.2.1 c.1).bind fun x1=>
    (fQ 1000 17 [(s.2.1.getD c.1.toNat (0,0,0)).1,(s.2.1.getD c.1.toNat (0,0,0)).2.1,(s.2.1.getD c.1.toNat (0,0,0)).2.2,(x1.length:Int),s.1]).bind fun x2=>
    some (s,[(c.1,x2)],0))
   else none)
  else bif decide (c.2.1 = 14) then ((Hm 1000 r s).bind fun x3=>
   some (x3.1,x3.2,0))
  else(yh 1000 (jI r (vY s (c.1,0))) c.2).bind fun x4=>
  bif !(decide (x4.1=0)) then some (s,[],x4.1)
  else QK c.1 c.2.1 x4
def vKu (r:qG)(s:rf)(c:kX):LO 1000 r s c=(Ch 1000 r c).bind fun x0=>
  bif !x0 then some (s,[],5) else bif s.2.2.2.2.2.2.2.2.2.2 then(bif !(decide (c.2.1=9)) then some (s,[],7) else Cl r s c) else Cl r s c:=rfl
def yJb {r:qG}(hr:vN r){s t:zU}(ho:s.ov=false){who:Int}{l l':List qY}{f:jD}{paid:Int}(hB:Hq r s who f t l l' paid):
    ∃ u o, ((pC 1000 t.t t.B.1 t.B.2.1 t.B.2.2.1 t.B.2.2.2 t.pr t.ho t.m t.ids t.to t.ov (decide (f.1=13))).bind fun x5=>
      bif zL (l.length + x5.2.2.2.2.2.2.2.2.2.2.2.length) 64 then (let y0:List qY:=(l++x5.2.2.2.2.2.2.2.2.2.2.2)
       bif decide (f.1 = 1) then ((ot 1000 x5.2.2.2.2.2.2.2.1 f.2.1).bind fun x6=>
        bif decide (x6 ≥ 0) then ((uR 1000 (Hs ((0:Int),dk r t who l) y0) 19 [f.2.1]).bind fun x7=>
         some ((qQ x5),x7.2.2.2.2.2.2.2.2.2.2.2.2.2.2.2.2.2,(0:Int)))
        else some ((qQ x5),y0,0))
       else some ((qQ x5),y0,0))
      else none)=some (u.st,o,(0:Int))∧QK who f.1 (0,qN r t who l' paid)=some (u.st,o,(0:Int))∧qX r u∧kZ o∧o.length≤200∧u.ids=t.ids:=by
  have h:=hB.dealt.inv;have vf:=hB.dealt.ov.trans ho;have hl:=hB.dealt.few;have hm:=h.waits.len;obtain⟨C,m',d,e1,LD,e3,e4,e5,e6,e7⟩:=yR6 h.bk h.waits.dist h.waits.may (by omega) t.t t.pr t.ho t.ids t.to t.ov (decide (f.1=13));have hd:d.length≤40:=by
    have:=e6.length_eq;rw[List.length_append] at this;omega
  have me:=e5.length_le;have pU:=BW d;have hu:=h.settled vf e3 e4 e5;have dN:l'.length≤2:=by
    have:=hB.told;by_cases hw:who= -1
    · rw[if_pos hw] at this;rw[←this];exact hl
    · rw[if_neg hw] at this;rw[this,List.length_cons] at hl;omega
  have key:QK who f.1 (0,qN r t who l' paid)=bif decide (paid>0) then(bif decide (kf m' paid≥0) then some ((t.t,C.1,C.2.1,C.2.2.1,C.2.2.2,t.pr,t.ho,m',t.ids,t.to,t.ov),(l++vC d)++[hY who 19 paid],(0:Int)) else some ((t.t,C.1,C.2.1,C.2.2.1,C.2.2.2,t.pr,t.ho,m',t.ids,t.to,t.ov),l++vC d,0)) else some ((t.t,C.1,C.2.1,C.2.2.1,C.2.2.2,t.pr,t.ho,m',t.ids,t.to,t.ov),l++vC d,0):=by
    have es:oD 1000 (qN r t who l' paid).2.2.2.2.2.1 (qN r t who l' paid).2.2.2.2.2.2.1 (qN r t who l' paid).2.2.2.2.2.2.2.1 (qN r t who l' paid).2.2.2.2.2.2.2.2.1 (qN r t who l' paid).2.2.2.2.2.2.2.2.2.1 (qN r t who l' paid).2.2.2.2.2.2.2.2.2.2.1 (qN r t who l' paid).2.2.2.2.2.2.2.2.2.2.2.1 (qN r t who l' paid).2.2.2.2.2.2.2.2.2.2.2.2.1 (qN r t who l' paid).2.2.2.2.2.2.2.2.2.2.2.2.2.1 (qN r t who l' paid).2.2.2.2.2.2.2.2.2.2.2.2.2.2.1 (qN r t who l' paid).2.2.2.2.2.2.2.2.2.2.2.2.2.2.2.1 (decide (f.1=13))=_:=LD;have eo:(qN r t who l' paid).2.2.2.2.2.2.2.2.2.2.2.2.2.2.2.2.2.1=l':=rfl;have ep:(qN r t who l' paid).2.2.2.2.2.2.2.2.2.2.2.2.2.2.2.2.2.2=paid:=rfl;have ef:nq 1000 m' paid=some (kf m' paid):=Pw (by omega) (by omega) paid;unfold QK;simp only[es,eo,ep,Of0,QF,ae];have ht:=hB.told;by_cases hw:who= -1
    · rw[if_pos hw] at ht;rw[aa hw,qI (n:=l'.length) (by omega) (by omega),qI (n:=l'.length+(vC d).length) (by omega) (by omega),qI (n:=(l'++vC d).length+1) (by rw[List.length_append];omega) (by rw[List.length_append];omega),ht];simp only[aA,ak,ag];rw[ef];rfl
    · rw[if_neg hw] at ht;have er:[((who,(15,0,0,0,0,0,0)):qY)]++l'=l:=ht.symm;rw[ab hw,er,qI (n:=1+l'.length) (by omega) (by omega),qI (n:=l.length+(vC d).length) (by omega) (by omega),qI (n:=(l++vC d).length+1) (by rw[List.length_append];omega) (by rw[List.length_append];omega)];simp only[bF,ag];rw[ef];rfl
  rw[e1,key];simp only[ae];rw[qI (n:=l.length+(vC d).length) (by omega) (by omega)];simp only[ag];have fin:∀(o:List qY) {x:Option (rf×List qY×Int)},o.length≤200→kZ o→x=some (({t with B:=C,m:=m'}:zU).st,o,(0:Int))→∃u o',some (({t with B:=C,m:=m'}:zU).st,o,(0:Int))=some (u.st,o',(0:Int))∧x=some (u.st,o',(0:Int))∧qX r u∧kZ o'∧o'.length≤200∧u.ids=t.ids:=fun o _ hl hk hx=>⟨{t with B:=C,m:=m'},o,rfl,hx,hu,hk,hl,rfl⟩
  have k1:Kd (l++vC d):=hB.dealt.kd.append (LN _);have b1:(l++vC d).length≤199:=by rw[List.length_append];omega
  have b2:∀x:qY,(l++vC d++[x]).length≤200:=fun x=>by rw[List.length_append];simp;rw[List.length_append] at b1;omega
  have hp:=hB.paid;by_cases h1:f.1=1
  · rw[if_pos h1] at hp;subst hp;rw[aa h1,aa (show f.2.1>0 from hB.pos h1)];simp only[ag];rw[BI (by omega) (by omega)];simp only[ae];cases decide (kf m' f.2.1≥0) with
    |false=>exact fin _ (by omega) k1.ne rfl
    |true=>
      simp only[ag];have ej:Hs ((0:Int),dk r t who l) (l++vC d)=dk r t who (l++vC d):=rfl;rw[ej,Yn (by rw[List.length_append];omega)];exact fin _ (b2 _) (k1.append (kn _ _ _ (by decide))).ne rfl
  · rw[if_neg h1] at hp;subst hp;rw[ab h1,ab (show¬(0:Int)>0 by decide)];exact fin _ (by omega) k1.ne rfl
def vGz {r:qG}{s:zU}(h:qX r s){who:Int}(hw:0≤who∧who<r.1)(c:kX)(hc:c.1=who)(h9:c.2.1=9):
  ∃o,Cm 1000 s.st who=some o∧Cl r s.st c=some (s.st,o,0)∧o.length≤200∧kZ o:=by
 have hm:=h.waits.len;have hn:=h.n;have hb:zB who s.B.1.length=true:=wX hw.1 (by omega);have e1:s.st.2.1=s.B.1:=rfl;have e2:s.st.2.2.2.2.2.2.2.1=s.m:=rfl;unfold Cm Cl;rw[aa h9,hc,e1,e2,hb,X5 (by omega) (by unfold qT;omega),Pq (by omega) (by unfold qT;omega)];simp only[ag,ae,Of5];exact⟨_,rfl,rfl,by simp,(Hn ⟨by simp,by simp⟩).ne⟩
def vXd {r:qG}(hr:vN r){s:zU}(h:qX r s)(c:kX):
  ∃t o e,hZ 1000 r s.st c=some (t.st,o,e)∧LO 1000 r s.st c=some (t.st,o,e)∧Ck r s c.2 t o e:=by
 obtain⟨e,he,hm,hb⟩:=vXz r s c (fun e=>(some (s.st,[],e):Option (rf×List qY×Int))) (Cl r s.st c);have hR:LO 1000 r s.st c=bif decide (e=0) then Cl r s.st c else some (s.st,[],e):=by
  rw[vKu];have eo:s.st.2.2.2.2.2.2.2.2.2.2=s.ov:=rfl;rw[eo];cases hx:Ch 1000 r c with
  |none=>rw[hx] at hb;cases hb
  |some x=>
   rw[hx] at hb;simp only[ae,Option.some.injEq] at hb;exact hb
 unfold hZ;rw[he,hR];simp only[ae];by_cases h0:e=0
 ·obtain⟨hw,vf⟩:=hm h0;rw[aa h0];simp only[aA,ak,ag];by_cases h9:c.2.1=9
  ·have pb:0≤c.1∧c.1<r.1:=by omega
   obtain⟨o,ho,lR,hol,fY⟩:=vGz h pb c rfl h9;rw[aa h9,lR];simp only[ag];rw[ho];exact⟨s,o,0,rfl,rfl,h,fun e=>absurd rfl e,fY,hol,fun _ h=>.inl h⟩
  ·have ho:s.ov=false:=by
    cases g:s.ov with
    |false=>rfl
    |true=>exact absurd (vf g) h9
   have fin:∀{t:zU} {x y:Option (rf×List qY×Int)},(∀x∈t.ids,x∈s.ids∨x=c.2.2.1)→(∃u o,x=some (u.st,o,(0:Int))∧y=some (u.st,o,(0:Int))∧qX r u∧kZ o∧o.length≤200∧u.ids=t.ids)→∃t o e,x=some (t.st,o,e)∧y=some (t.st,o,e)∧Ck r s c.2 t o e:=by
    intro t x y hi ⟨u,o,g1,BM,g2,g3,g4,g5⟩;exact⟨u,o,0,g1,BM,g2,fun e=>absurd rfl e,g3,g4,by rw[g5];exact hi⟩
   unfold Cl;rw[ab h9];simp only[ak];by_cases hp:c.1= -1
   ·rw[aa hp];have hf:10≤c.2.1∧c.2.1≤14:=by omega
    have ed:jI r (vY s.st c.1)=fw r s (-1):=by rw[hp];rfl
    have er:jI r (vY s.st (c.1,0))=rk r s (-1):=by rw[hp];rfl
    simp only[aA,ak];rw[ed,er];by_cases Cn:c.2.1=14
    ·have g0:yi 1000 (fw r s (-1)) c.2=some (0,dk r s (-1) []):=by
      unfold yi;rw[Cn];rfl
     rw[g0];simp only[ae];rw[aa Cn];have bm:=h.tk;have DL:=hr.cl;have Lb:=hr.pe;obtain⟨x,x1,x2⟩:=vYq r h.bk h.waits.dist h.waits.may (by have:=h.waits.len;omega) ⟨by omega,by omega⟩ (by omega) ho;obtain⟨C,m',ov,o,y1,y2,_,_,y3,y4⟩:=yMb (k:=1000) (by decide) hr h ho;rw[x1] at y1;have y1:=Option.some.inj y1;subst y1;refine⟨_,o,0,(congrArg (fun z=>Option.bind z _) x1).trans rfl,(congrArg (fun z=>Option.bind z _) x2).trans rfl,y2,fun e=>absurd rfl e,?_,by omega,fun _ h=>.inl h⟩;rcases y4 with⟨_,_,rfl,_⟩|⟨l,d,n,rfl,_,_,_⟩
     ·exact(QH (.inr rfl) _).ne.append (vC4 _ _)
     ·exact((QH (.inl rfl) _).append (LN _)).ne
    ·obtain⟨e,d,d',g1,BM,g2⟩:=Zj hr h (f:=c.2) (by omega);rw[g1,ab Cn,BM];simp only[ae,ak];by_cases hz:e=0
     ·obtain⟨t,l,l',paid,rfl,rfl,hd⟩:=g2 hz;rw[aa hz,hp];simp only[aA,ak];subst hz;exact fin hd.dealt.ids (yJb hr ho hd)
     ·rw[ab hz];exact⟨s,[],e,rfl,rfl,Ck.none h e⟩
   ·rw[ab hp,ab (show¬c.2.1=14 by omega)];have hf:1≤c.2.1∧c.2.1≤8:=by omega
    have pb:0≤c.1∧c.1<r.1:=by omega
    have ed:LP 1000 (jI r (vY s.st c.1)) 15 []=some (dk r s c.1 [hY c.1 15 0]):=rfl;have er:jI r (vY s.st (c.1,0))=rk r s c.1:=rfl;obtain⟨e,d,d',g1,BM,g2⟩:=Zi hr h ho pb (f:=c.2) hf;simp only[bF,ag,ak];rw[ed,er,BM];simp only[ae];rw[g1];simp only[ae];by_cases hz:e=0
    ·obtain⟨t,l,l',paid,rfl,rfl,hd⟩:=g2 hz;rw[aa hz];simp only[aA,ak];subst hz;exact fin hd.dealt.ids (yJb hr ho hd)
    ·rw[ab hz];exact⟨s,[],e,rfl,rfl,Ck.none h e⟩
 ·rw[ab h0];exact⟨s,[],e,rfl,rfl,Ck.none h e⟩
def yY (s t:zU):Prop:=∀i,i<s.B.1.length→(t.B.1.getD i ad).1<(s.B.1.getD i ad).1→0≤(t.B.1.getD i ad).1+(t.B.1.getD i ad).2.1
def yY.same {s t}(h:∀i,i<s.B.1.length→(t.B.1.getD i ad).1=(s.B.1.getD i ad).1):yY s t:=fun i hi bm=>by simp_all
def yY.refl s:yY s s:=yY.same (by simp)
def yY.book {s t}(h:t.B=s.B):yY s t:=yY.same (by grind)
def yY.set {s t:zU}{j:Nat}{a:yA}(h:t.B.1=s.B.1.set j a)(ha:a.1<(s.B.1.getD j ad).1→0≤a.1+a.2.1):yY s t:=fun i hi=>by
 rw[h,fM];split
 ·next h=>rw[←h.1];exact ha
 ·omega
def vUk (r:qG)(s:zU)(who:Int)(f:jD):yY s (iV r s who f).2:=by
 unfold iV;cases decide (f.1=5) with
 |true=>
  cases !((decide (f.2.1≥0)&&decide (f.2.1≤r.1-1))&& !decide (f.2.1=who))<;>cases !(decide (f.2.2.1≥-1)&&decide (f.2.2.1≤1152921504606846976))<;>exact yY.same fun _ _=>rfl
 |false=>
  cases decide (f.1=6) with
  |true=>cases !(decide (f.2.1≥-1)&&decide (f.2.1≤1152921504606846976))<;>exact yY.same fun _ _=>rfl
  |false=>
   cases !(decide (f.2.1≥0)&&decide (f.2.1≤1152921504606846976))
   ·exact yY.set (j:=who.toNat) rfl fun h=>absurd h (Int.lt_irrefl _)
   ·exact yY.refl s
def Zk (r:qG)(s:zU)(who a n:Int):yY s (iW r s who a n).2:=by
 unfold iW;cases !(decide (a≥0)&&decide (a≤(r.2.1.length:Int)-1)) with
 |true=>exact yY.refl s
 |false=>
 cases !(decide (n≥0)&&decide (n≤1099511627776)) with
 |true=>exact yY.refl s
 |false=>
 simp only[ak];unfold B1;generalize (s.ho.getD who.toNat []).set a.toNat n=h;cases decide (mo r.2.1 s.pr h>1152921504606846976) with
 |true=>exact yY.refl s
 |false=>
  cases decide (mo r.2.1 s.pr h<(s.B.1.getD who.toNat ad).2.1)&&decide ((s.B.1.getD who.toNat ad).1+mo r.2.1 s.pr h<0)
  ·exact yY.set (j:=who.toNat) rfl fun h=>absurd h (Int.lt_irrefl _)
  ·exact yY.refl s
def vIg (r:qG)(s:zU)(a p:Int):yY s (iX r s a p).2:=by
 unfold iX;cases !(decide (a≥0)&&decide (a≤(r.2.1.length:Int)-1)) with
 |true=>exact yY.refl s
 |false=>
 cases !(decide (p≥0)&&decide (p≤1048576)) with
 |true=>exact yY.refl s
 |false=>
 simp only[ak];unfold B7;cases qH (fun j=> !decide (gh r.2.1 (s.pr.set a.toNat p) s.ho j>1152921504606846976)) s.B.1.length 0
 ·exact yY.refl s
 ·exact yY.same fun i hi=>by show((tf r.2.1 (s.pr.set a.toNat p) s.ho s.B.1).getD i ad).1=_;rw[Qr _ _ _ _ hi]
def Zl {r:qG}{s:zU}(h:qX r s)(kd:Int){to n:Int}(h0:(iD r s kd to n).1=0):yY s (iD r s kd to n).2:=by
 have hn:=h.n;unfold iD at h0⊢;cases hc:decide (to≥0)&&decide (to≤r.1-1) with
 |false=>rw[hc] at h0;cases h0
 |true=>
 cases cN:decide (n≥1)&&decide (n≤1099511627776) with
 |false=>rw[hc,cN] at h0;cases h0
 |true=>
 rw[hc,cN] at h0;simp only[aA,ak] at h0⊢;simp only[bb,aW] at hc cN;have ha:=pE.1 (h.bk.acct to.toNat (by omega));have hr:0≤(s.B.1.getD to.toNat ad).2.2:=ha.2.2.1;cases hk:decide (kd=11) with
 |true=>
  rw[hk] at h0;simp only[ag] at h0⊢;unfold GU at h0⊢;cases h1:decide ((s.B.1.getD to.toNat ad).1+(s.B.1.getD to.toNat ad).2.1-(s.B.1.getD to.toNat ad).2.2<n) with
  |true=>exact yY.refl s
  |false=>
  cases decide (s.to-n<0) with
  |true=>exact yY.refl s
  |false=>
  cases decide ((wY (s.B.1.getD to.toNat ad) (-n)).2=0) with
  |false=>exact yY.refl s
  |true=>
  cases decide (s.to-n>1152921504606846976) with
  |true=>exact yY.refl s
  |false=>
   simp only[decide_eq_false_iff_not] at h1;refine yY.set (j:=to.toNat) (a:=(wY (s.B.1.getD to.toNat ad) (-n)).1) rfl ?_;unfold wY;cases fg ((s.B.1.getD to.toNat ad).1+-n,(s.B.1.getD to.toNat ad).2.1,(s.B.1.getD to.toNat ad).2.2)
   ·exact fun h=>absurd h (Int.lt_irrefl _)
   ·show(s.B.1.getD to.toNat ad).1+-n<_→0≤(s.B.1.getD to.toNat ad).1+-n+(s.B.1.getD to.toNat ad).2.1;omega
 |false=>
  simp only[ak];unfold GV;cases decide ((wY (s.B.1.getD to.toNat ad) n).2=0) with
  |false=>exact yY.refl s
  |true=>
  cases decide (s.to+n>1152921504606846976) with
  |true=>exact yY.refl s
  |false=>
   refine yY.set (j:=to.toNat) (a:=(wY (s.B.1.getD to.toNat ad) n).1) rfl ?_;unfold wY;cases fg ((s.B.1.getD to.toNat ad).1+n,(s.B.1.getD to.toNat ad).2.1,(s.B.1.getD to.toNat ad).2.2)
   ·exact fun h=>absurd h (Int.lt_irrefl _)
   ·show(s.B.1.getD to.toNat ad).1+n<_→_;omega
structure Ht (r:qG) (s:zU) (f:jD) (t:zU) (l:List qY):Prop where
 inv:qX r t
 tk:t.t=s.t
 ov:t.ov=s.ov
 few:l.length≤2
 to:t.to=s.to+(if f.1=10 then f.2.2.1 else if f.1=11 then-f.2.2.1 else 0)
 fell:yY s t
 kd:Kd l
 ids:∀x∈t.ids,x∈s.ids∨x=f.2.1
def vTf {k:Nat}(hk:1000≤k){r:qG}(hr:vN r){s:zU}(h:qX r s)(ho:s.ov=false){who:Int}(hw:0≤who∧who<r.1){f:jD}(hf:1≤f.1∧f.1≤8){x:qY}(kn:Kd [x]):
  ∃e d,Hr k (dk r s who [x]) f=some (e,d)∧(e=0→∃t l,d=dk r t who l∧Ht r s f t l):=by
 unfold Hr;have J8:¬f.1=10:=by omega
 have J9:¬f.1=11:=by omega
 have h0:s.to=s.to+(if f.1=10 then f.2.2.1 else if f.1=11 then-f.2.2.1 else 0):=by rw[if_neg J8,if_neg J9];omega
 by_cases h1:f.1=1
 ·rw[aa h1];obtain⟨d,e1,e2⟩:=yM2 hk hr h.waits who [x] f;simp only[ag];rw[e1];refine⟨_,d,rfl,fun e=>⟨_,_,e2 e,h.queue ho (yPj hr h e),rfl,rfl,by simp,h0,yY.book rfl,kn,yJa e⟩⟩
 rw[ab h1];by_cases hq:f.1=2∨f.1=3∨f.1=4
 ·obtain⟨d,e1,e2⟩:=yM9 hk h.waits who (l:=[x]) (by simp) f;have g:∃e d,(xS k (dk r s who [x]) f).bind (fun x=>some (x.1,x.2))=some (e,d)∧(e=0→∃t l,d=dk r t who l∧Ht r s f t l):=by
   rw[e1];refine⟨_,d,rfl,fun e=>⟨_,_,e2 e,h.queue ho (yW4 h e),rfl,rfl,?_,h0,yY.book rfl,kn.append yRk,fun _ h=>.inl h⟩⟩;have:=yWp (r:=r) (s:=s) (who:=who) (f:=f);rw[List.length_append];simp;omega
  rcases hq with e|e|e
  ·rw[aa e];exact g
  ·rw[ab (show¬f.1=2 by omega),aa e];exact g
  ·rw[ab (show¬f.1=2 by omega),ab (show¬f.1=3 by omega),aa e];exact g
 rw[ab (show¬f.1=2 by omega),ab (show¬f.1=3 by omega),ab (show¬f.1=4 by omega)];by_cases hq:f.1=5∨f.1=6∨f.1=7
 ·obtain⟨d,e1,e2⟩:=yGa hk hr h.bk h.n hw [x] f;have g:∃e d,(xT k (dk r s who [x]) f).bind (fun x=>some (x.1,x.2))=some (e,d)∧(e=0→∃t l,d=dk r t who l∧Ht r s f t l):=by
   rw[e1];have bc:=yWt r s who f;refine⟨_,d,rfl,fun e=>⟨_,_,e2 e,yY5 h hw e,bc.1,bc.2.1,by simp,bc.2.2.trans h0,vUk r s who f,kn,by rw[yXi];exact fun _ h=>.inl h⟩⟩
  rcases hq with e|e|e
  ·rw[aa e];exact g
  ·rw[ab (show¬f.1=5 by omega),aa e];exact g
  ·rw[ab (show¬f.1=5 by omega),ab (show¬f.1=6 by omega),aa e];exact g
 rw[ab (show¬f.1=5 by omega),ab (show¬f.1=6 by omega),ab (show¬f.1=7 by omega),aa (show f.1=8 by omega)];obtain⟨d,e1,e2⟩:=yYx hk hr h hw [x] f.2.1 f.2.2.1;simp only[ag,ak];rw[e1];have bc:=yU4 r s who f.2.1 f.2.2.1;exact⟨_,d,rfl,fun e=>⟨_,_,e2 e,vDj hr h hw e,bc.1,bc.2.1,by simp,bc.2.2.trans h0,Zk r s who _ _,kn,by rw[yIf];exact fun _ h=>.inl h⟩⟩
def vWa {k:Nat}(hk:1000≤k){r:qG}(hr:vN r){s:zU}(h:qX r s)(who:Int){f:jD}(hf:10≤f.1∧f.1≤14):
  ∃e d,yi k (fw r s who) f=some (e,d)∧(e=0→∃t l,d=dk r t who l∧Ht r s f t l):=by
 unfold yi;rw[ab (show¬f.1=1 by omega),ab (show¬f.1=2 by omega),ab (show¬f.1=3 by omega),ab (show¬f.1=4 by omega),ab (show¬f.1=5 by omega),ab (show¬f.1=6 by omega),ab (show¬f.1=7 by omega),ab (show¬f.1=8 by omega)];by_cases hq:f.1=10∨f.1=11
 ·obtain⟨d,e1,e2⟩:=yTc hk hr h who f.1 f.2.1 f.2.2.1;have g:∃e d,(B6 k (fw r s who) f.1 f.2.1 f.2.2.1).bind (fun x=>some (x.1,x.2))=some (e,d)∧(e=0→∃t l,d=dk r t who l∧Ht r s f t l):=by
   rw[e1];refine⟨_,d,rfl,fun e=>?_⟩;obtain⟨g1,g2,g3,g4,g5⟩:=yQa h e;refine⟨_,_,e2 e,g1,g5,yQe,by simp,?_,Zl h _ e,nA,by rw[g4];exact fun _ h=>.inl h⟩;rw[g2];rcases hq with e|e
   ·rw[if_neg (by omega),if_pos e]
   ·rw[if_pos e,if_neg (by omega),if_pos e]
  rcases hq with e|e
  ·rw[aa e];exact g
  ·rw[ab (show¬f.1=10 by omega),aa e];exact g
 have h0:s.to=s.to+(if f.1=10 then f.2.2.1 else if f.1=11 then-f.2.2.1 else 0):=by rw[if_neg (by omega),if_neg (by omega)];omega
 rw[ab (show¬f.1=10 by omega),ab (show¬f.1=11 by omega)];by_cases hp:f.1=12
 ·rw[aa hp];obtain⟨d,e1,e2⟩:=yP8 hk hr h who f.2.1 f.2.2.1;simp only[ag,ak];rw[e1];have bc:=yGf r s f.2.1 f.2.2.1;exact⟨_,d,rfl,fun e=>⟨_,_,e2 e,vDl h e,bc.1,bc.2.1,by simp,bc.2.2.trans h0,vIg r s _ _,nA,by rw[yJw];exact fun _ h=>.inl h⟩⟩
 ·rw[ab hp];exact⟨_,_,rfl,fun _=>⟨s,[],rfl,h,rfl,rfl,by simp,h0,yY.refl s,nA,fun _ h=>.inl h⟩⟩
def vWq {k}(hk:1000≤k){r s}(h:qX r s){who}(hw:0≤who∧who<r.1):∃o,Cm k s.st who=some o∧kZ o∧o.length≤100:=by
 have hm:=h.waits.len;have hn:=h.n;have hb:zB who s.B.1.length=true:=wX hw.1 (by omega);unfold Cm;have e1:s.st.2.1=s.B.1:=rfl;have e2:s.st.2.2.2.2.2.2.2.1=s.m:=rfl;rw[e1,e2,hb,X5 (by omega) (by unfold qT;omega)];exact⟨_,rfl,(Hn (by simp)).ne,by simp⟩
structure Zm (k:Nat) (r:qG) (s:zU) (c:kX) (t:zU) (o:List qY) (e:Int):Prop where
 inv:qX r t
 bad:e≠0→t=s∧o=[]
 to:e=0→t.to=s.to+(if c.2.1=10 then c.2.2.2.1 else if c.2.1=11 then-c.2.2.2.1 else 0)
 still:t=s∨(t.ov=false→eu k t.B (vT t.m t.t)=none)
 fell:yY s t
 ne:kZ o
 few:o.length≤100
 ids:∀x∈t.ids,x∈s.ids∨x=c.2.2.1
def yY.kept {s t u}(h:yY s t)(hl:t.B.1.length=s.B.1.length)(g:jR t.B u.B):yY s u:=fun i hi=>by
 have h1:=h i hi;have h2:=g.fell i (by omega);have h3:=g.cred i (by omega);omega
def vQa {k}(hk:1000≤k){r}(hr:vN r){s}(h:qX r s)(ho:s.ov=false) c (hc:c.2.1=14):
  ∃t o,(uO k r.1 r.2.1 r.2.2.1 r.2.2.2.1 r.2.2.2.2 s.t s.B.1 s.B.2.1 s.B.2.2.1 s.B.2.2.2 s.pr s.ho s.m s.ids s.to s.ov).bind (fun x4=>some ((qQ x4),x4.2.2.2.2.2.2.2.2.2.2.2,(0:Int)))=some (t.st,o,(0:Int))∧Zm k r s c t o 0:=by
 obtain⟨C,m',ov,o,e1,e2,e3,e4,e6,e5⟩:=yMb hk hr h ho;rw[e1];refine⟨{s with t:=s.t+1,B:=C,m:=m',ov:=ov},o,rfl,e2,by simp,fun _=>?_,.inr e4,e3.fell,?_,e6,by grind⟩
 rotate_left
 ·rcases e5 with⟨_,_,rfl,_⟩|⟨l,d,n,rfl,_,_,_⟩
  ·exact(QH (.inr rfl) _).ne.append (vC4 _ _)
  ·exact((QH (.inl rfl) _).append (LN _)).ne
 simp_all
def vBv {k}(hk:1000≤k){r}(hr:vN r){t}(h:qX r t)(ho:t.ov=false) who {l}(hl:l.length≤2)(Bl:Kd l)(f:jD):
    ∃ u o, ((pC k t.t t.B.1 t.B.2.1 t.B.2.2.1 t.B.2.2.2 t.pr t.ho t.m t.ids t.to t.ov (decide (f.1=13))).bind fun x5=>
      bif zL (l.length + x5.2.2.2.2.2.2.2.2.2.2.2.length) 64 then (let y0:List qY:=(l++x5.2.2.2.2.2.2.2.2.2.2.2)
       bif decide (f.1 = 1) then ((ot k x5.2.2.2.2.2.2.2.1 f.2.1).bind fun x6=>
        bif decide (x6 ≥ 0) then ((uR k (Hs ((0:Int),dk r t who l) y0) 19 [f.2.1]).bind fun x7=>
         some ((qQ x5),x7.2.2.2.2.2.2.2.2.2.2.2.2.2.2.2.2.2,(0:Int)))
        else some ((qQ x5),y0,0))
       else some ((qQ x5),y0,0))
      else none)=some (u.st,o,(0:Int))∧qX r u∧u.to=t.to∧eu k u.B (vT u.m u.t)=none∧jR t.B u.B∧kZ o∧o.length≤100∧u.ids=t.ids:=by
  have hm:=h.waits.len;obtain⟨C,m',d,e1,e2,e3,e4,e5,e6,e7⟩:=Yl (k:=k) (by omega) h.bk h.waits.dist h.waits.may (by omega) t.t t.pr t.ho t.ids t.to t.ov (decide (f.1=13));rw[e1];have hd:d.length≤40:=by
    have:=e6.length_eq;grind
  have me:=e5.length_le;have pU:=BW d;simp;rw[qI (n:=l.length+(vC d).length) (by omega) (by omega)];have hu:=h.settled ho e3 e4 e5;have fin:∀o:List qY,Kd o→o.length≤100→∃u o',some (({t with B:=C,m:=m'}:zU).st,o,(0:Int))=some (u.st,o',(0:Int))∧qX r u∧u.to=t.to∧eu k u.B (vT u.m u.t)=none∧jR t.B u.B∧kZ o'∧o'.length≤100∧u.ids=t.ids:=fun o ho hl=>⟨{t with B:=C,m:=m'},o,rfl,hu,rfl,e7,e4,ho.ne,hl,rfl⟩
  have k1:Kd (l++vC d):=Bl.append (LN _);have b1:(l++vC d).length≤90:=by rw[List.length_append];omega
  cases decide (f.1=1) with
  |false=>exact fin _ k1 (by omega)
  |true=>
    rw[BI (by omega) (by omega)];simp;cases decide (kf m' f.2.1≥0) with
    |false=>exact fin _ k1 (by omega)
    |true=>
      have ej:Hs ((0:Int),dk r t who l) (l++vC d)=dk r t who (l++vC d):=rfl;rw[ej,Yn (by omega)];exact fin (l++vC d++[hY who 19 f.2.1]) (k1.append (Hn ⟨by unfold hY;simp,by unfold hY;simp⟩)) (by grind)
def Zn {k}(hk:1000≤k){r}(hr:vN r){s}(h:qX r s)(c:kX):
  ∃t o e,hZ k r s.st c=some (t.st,o,e)∧Zm k r s c t o e:=by
 unfold hZ;obtain⟨e,he,hm⟩:=yKg (k:=k) (by omega) r s c;rw[he];simp only[ae];by_cases h0:e=0
 ·obtain⟨hw,vf⟩:=hm h0;rw[aa h0];simp only[aA,ak];by_cases h9:c.2.1=9
  ·rw[aa h9];have pb:0≤c.1∧c.1<r.1:=by omega
   obtain⟨o,ho,bo,hol⟩:=vWq hk h pb;simp only[ag];rw[ho];refine⟨s,o,0,rfl,h,fun e=>absurd rfl e,fun _=>?_,.inl rfl,yY.refl s,bo,hol,fun _ h=>.inl h⟩;rw[if_neg (by omega),if_neg (by omega)];omega
  ·rw[ab h9];simp only[ak];have ho:s.ov=false:=by
    cases g:s.ov with
    |false=>rfl
    |true=>exact absurd (vf g) h9
   have fin:∀{t:zU} {l:List qY},Ht r s c.2 t l→∀{x:Option (rf×List qY×Int)},(∃u o,x=some (u.st,o,(0:Int))∧qX r u∧u.to=t.to∧eu k u.B (vT u.m u.t)=none∧jR t.B u.B∧kZ o∧o.length≤100∧u.ids=t.ids)→∃t o e,x=some (t.st,o,e)∧Zm k r s c t o e:=by
    intro t l hd x ⟨u,o,g1,g2,g3,g4,g5,g6,g7,g8⟩;exact⟨u,o,0,g1,g2,fun e=>absurd rfl e,fun _=>g3.trans hd.to,.inr fun _=>g4,hd.fell.kept (by have:=hd.inv.n;have:=h.n;omega) g5,g6,g7,by rw[g8];exact hd.ids⟩
   by_cases hp:c.1= -1
   ·rw[aa hp];have hf:10≤c.2.1∧c.2.1≤14:=by omega
    obtain⟨e,d,g1,g2⟩:=vWa hk hr h c.1 (f:=c.2) hf;have ed:jI r (vY s.st c.1)=fw r s c.1:=rfl;simp only[aA,ak];rw[ed,g1];simp only[ae];by_cases hz:e=0
    ·obtain⟨t,l,rfl,hd⟩:=g2 hz;rw[aa hz];by_cases Cn:c.2.1=14
     ·rw[aa Cn];simp only[ag];obtain⟨t,o,q1,q2⟩:=vQa hk hr h ho c Cn;exact⟨t,o,0,q1,q2⟩
     ·rw[ab Cn];simp only[ak];exact fin hd (vBv hk hr hd.inv (hd.ov.trans ho) c.1 hd.few hd.kd c.2)
    ·rw[ab hz];exact⟨s,[],e,rfl,h,fun _=>⟨rfl,rfl⟩,fun e'=>absurd e' hz,.inl rfl,yY.refl s,nA.ne,Nat.zero_le _,fun _ h=>.inl h⟩
   ·rw[ab hp];have hf:1≤c.2.1∧c.2.1≤8:=by omega
    have pb:0≤c.1∧c.1<r.1:=by omega
    have ed:LP k (jI r (vY s.st c.1)) 15 []=some (dk r s c.1 [hY c.1 15 0]):=rfl;obtain⟨e,d,g1,g2⟩:=vTf hk hr h ho pb (f:=c.2) hf (x:=hY c.1 15 0) (Hn ⟨by unfold hY;simp,by unfold hY;simp⟩);simp only[bF,ag];rw[ed];simp only[ae];rw[g1];simp only[ae];by_cases hz:e=0
    ·obtain⟨t,l,rfl,hd⟩:=g2 hz;rw[aa hz,ab (show¬c.2.1=14 by omega)];simp only[aA,ak];exact fin hd (vBv hk hr hd.inv (hd.ov.trans ho) c.1 hd.few hd.kd c.2)
    ·rw[ab hz];exact⟨s,[],e,rfl,h,fun _=>⟨rfl,rfl⟩,fun e'=>absurd e' hz,.inl rfl,yY.refl s,nA.ne,Nat.zero_le _,fun _ h=>.inl h⟩
 ·rw[ab h0];exact⟨s,[],e,rfl,h,fun _=>⟨rfl,rfl⟩,fun e'=>absurd e' h0,.inl rfl,yY.refl s,nA.ne,Nat.zero_le _,fun _ h=>.inl h⟩
def Zo {k:Nat}(hk:1000≤k){n:Nat}{m:List zH}{ids:AC}(h:kh n m ids):LQ k m=some true:=by
 have hm:=h.len;have e1 : Co k k m m (m.length : Int) 0 = some (.inl m) := Lp (L := fun n i => Co k n m m (m.length : Int) i) (fun n=>by
  show Hu k _ m m (m.length:Int) (m.length:Int)=_;unfold Hu;rw[ab (Int.lt_irrefl _)];rfl) (fun n i hi=>by
  show Hu k (Co k n) m m (m.length:Int) (i:Int)=_;unfold Hu;have e:m.getD i (0,0,0,0,0,0,0)=m.getD i pd:=rfl;rw[aa (show(i:Int)<m.length by omega),qC,aa hi,ao,e,BI (by omega) (by omega),yYf h.dist hi,qD hi (by omega)];simp only[ag,ae,decide_true,aA,ak]) (by omega)
 have e2:QL k m=some true:=by
  have down:∀(i n:Nat),i<n→i<m.length∨i=0→LR k n m (i:Int)=some (.inl ()):=by
   intro i
   induction i with
   |zero=>
    intro n hn _;obtain⟨n,rfl⟩:∃x,n=x+1:=⟨n-1,by omega⟩;rfl
   |succ i ih=>
    intro n hn hi;obtain⟨n,rfl⟩:∃x,n=x+1:=⟨n-1,by omega⟩;have bJ:i+1<m.length:=by omega
    show QM k (LR k n) m ((i+1:Nat):Int)=_;unfold QM;have w:zA (((i+1:Nat):Int)-1)=(i:Int):=by rw[zO (by omega) (by omega)];omega
    rw[aa (show((i+1:Nat):Int)>0 by omega),w,qC,qC,aa bJ,aa (show i<m.length by omega),ao,ao];simp only[ag];obtain⟨x,x1,x2,x3⟩:=XB (k:=k) (by omega) (m.getD (i+1) pd) (m.getD i pd);have hs:=List.pairwise_iff_getElem.1 h.sort i (i+1) (by omega) bJ (by omega);rw[←GL (d:=pd) m (by omega),←GL (d:=pd) m bJ] at hs;have nx:¬x<0:=fun q=>by
     have:kg (m.getD (i+1) pd) (m.getD i pd)=true:=by rw[←x3];exact aa q
     rw[YQ] at this;rw[Lx] at hs;omega
    refine(congrArg (fun z=>Option.bind z _) x1).trans ?_;simp only[ae];rw[ab nx];exact ih n (by omega) (.inl (by omega))
  unfold QL;by_cases hz:m.length=0
  ·have:m=[]:=List.eq_nil_of_length_eq_zero hz;subst this;have w:zA (((([]:List zH).length:Nat):Int)-1)= -1:=by rw[zO (by decide) (by decide)];rfl
   rw[w];obtain⟨j,rfl⟩:∃x,k=x+1:=⟨k-1,by omega⟩;rfl
  ·have w:zA ((m.length:Int)-1)=((m.length-1:Nat):Int):=by rw[zO (by omega) (by omega)];omega
   rw[w,down (m.length-1) k (by omega) (.inl (by omega))];rfl
 unfold LQ;rw[e1];simp only[ae];rw[aa (show(m.length:Int)≤40 by omega),e2];rfl
def Zp {k:Nat}(hk:1000≤k){n:Nat}{m:List zH}{ids:AC}(h:kh n m ids):LS k ids=some true:=by
 have hl:=h.idl;obtain ⟨s, e1, _⟩ := yW (L := fun n i (p : Int) => LU k n ids p ids (ids.length : Int) i) (N := ids.length) (fun _ => (.inl ids : AC ⊕ Bool)) (fun i p => p = if i = 0 then 0 else ids.getD (i - 1) 0) (fun n p _=>by
  show Hv k _ ids p ids (ids.length:Int) (ids.length:Int)=_;unfold Hv;rw[ab (Int.lt_irrefl _)];rfl) (fun n i p hi hp=>by
  refine⟨ids.getD i 0,?_,by rw[if_neg (by omega)];rfl⟩;show Hv k (LU k n) ids p ids (ids.length:Int) (i:Int)=_;unfold Hv;have bm:¬ids.getD i 0≤p:=by
   rw[hp];by_cases z:i=0
   ·rw[if_pos z];have:=h.pos _ (fa (d:=0) hi);omega
   ·rw[if_neg z];have:=List.pairwise_iff_getElem.1 h.asc (i-1) i (by omega) hi (by omega);rw[←GL (d:=0) ids (by omega),←GL (d:=0) ids hi] at this;omega
  rw[aa (show(i:Int)<ids.length by omega),qC,aa hi,ao,ab bm,qD hi (by omega)];rfl) (n:=k) (s:=0) (by omega) rfl
 unfold LS;rw[e1];simp only[ae];rw[aa (show(ids.length:Int)≤200 by omega)]
def vXb {k}(hk:1000≤k){r s}(h:qX r s):LV k s.st=some true:=by
 have hw:=h.waits;have hm:=hw.len;have e1:LV k s.st=(LQ k s.m).bind fun x0=>bif x0 then((LS k s.ids).bind fun x1=>bif x1 then((QN k s.m s.t s.B.1 s.B.2.1 s.B.2.2.1 s.B.2.2.2 s.pr s.ho s.m s.ids s.to s.ov).bind fun x2=>some (!x2)) else some false) else some false:=rfl
 rw[e1,Zo hk hw,Zp hk hw];have e2 : Cp k k s.m (s.m.length : Int) 0 s.t s.B.1 s.B.2.1 s.B.2.2.1 s.B.2.2.2 s.pr s.ho s.m s.ids s.to s.ov = some (.inl ()) := Lp (L := fun n i => Cp k n s.m (s.m.length : Int) i s.t s.B.1 s.B.2.1 s.B.2.2.1 s.B.2.2.2 s.pr s.ho s.m s.ids s.to s.ov) (fun n=>by
  show Hw k _ s.m (s.m.length:Int) (s.m.length:Int) s.t s.B.1 s.B.2.1 s.B.2.2.1 s.B.2.2.2 s.pr s.ho s.m s.ids s.to s.ov=_;unfold Hw;simp) (fun n i hi=>by
  show Hw k (Cp k n) s.m (s.m.length:Int) (i:Int) s.t s.B.1 s.B.2.1 s.B.2.2.1 s.B.2.2.2 s.pr s.ho s.m s.ids s.to s.ov=_;unfold Hw;have aY:s.m.getD i pd∈s.m:=fa hi;have ht:=hw.time _ aY;have an:=hw.were _ aY;have f1:QO k (s.m.getD i pd) (s.t,s.B.1,s.B.2.1,s.B.2.2.1,s.B.2.2.2,s.pr,s.ho,s.m,s.ids,s.to,s.ov)=some false:=by
   unfold QO;rw[OZ];have bR:qq s.B.1.length (s.m.getD i pd)=true:=WS.2 (hw.may _ aY);have LW:qq s.B.1.length ((s.m.getD i pd).1,(s.m.getD i pd).2.1,(s.m.getD i pd).2.2.1,(s.m.getD i pd).2.2.2.1,(s.m.getD i pd).2.2.2.2.1,(s.m.getD i pd).2.2.2.2.2.1,(s.m.getD i pd).2.2.2.2.2.2)=true:=bR;rw[LW];rw[ab (by grind),ny,aa (by grind),aa (by grind)];have hI:=hw.idl;rw[vPj (by omega) (by omega) hw.asc,aa an];rfl
  have e:s.m.getD i (0,0,0,0,0,0,0)=s.m.getD i pd:=rfl;rw[aa (by grind),qC,aa hi,ao,e,f1,qD hi (by omega)];rfl) (by omega)
 unfold QN Zq;simp_all
end Go.Ab.Gi
