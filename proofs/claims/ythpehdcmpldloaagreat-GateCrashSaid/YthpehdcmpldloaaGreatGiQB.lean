/- Plain proofs, part 1. -/
import Derived.Test.YthpehdcmpldloaaGreatGiQA
set_option linter.unusedVariables false
set_option linter.unusedSimpArgs false
set_option maxRecDepth 100000
namespace Go.Ab.Gi
open Go.Ab
structure jM (B C:BT):Prop where
 len:C.1.length=B.1.length
 sum:qG (fun i=>(C.1.getD i ad).1) B.1.length=qG (fun i=>(B.1.getD i ad).1) B.1.length
 cred:∀i,i<B.1.length→(C.1.getD i ad).2.1=(B.1.getD i ad).2.1
 bil:C.2.1=B.2.1
 mul:C.2.2.1=B.2.2.1
 fell:∀i,i<B.1.length→(C.1.getD i ad).1<(B.1.getD i ad).1→0≤(C.1.getD i ad).1+(C.1.getD i ad).2.1
theorem jM.refl B:jM B B:=⟨rfl,rfl,by simp,rfl,rfl,by simp⟩
theorem jM.trans {B C D}(h:jM B C)(g:jM C D):jM B D:=
 ⟨g.len.trans h.len,by have:=g.sum;rw[h.len] at this;exact this.trans h.sum,fun i hi=>(g.cred i (by rw[h.len];exact hi)).trans (h.cred i hi),g.bil.trans h.bil,g.mul.trans h.mul,fun i hi=>by
  have h1:=h.fell i hi;have h2:=g.fell i (by rw[h.len];exact hi);have h3:=g.cred i (by rw[h.len];exact hi);omega⟩
theorem yAw i:∀{l},(∀p∈l,0≤p.2.2.2.1)→0≤zO (gB i) l+(zO (gN i) l+zO (gR i) l)
 |[],_=>Int.le_refl _
 |p::l,h=>by
  have h1:=yAw i fun q hq=>h q (List.mem_cons_of_mem _ hq)
  have h2:=h p (by simp);have h3:0≤gB i p+(gN i p+gR i p):=by
   unfold gB gN gR;omega
  show 0≤gB i p+zO (gB i) l+(gN i p+zO (gN i) l+(gR i p+zO (gR i) l));omega
theorem vMm {a a' b p p' m l}(x:uc a.length a p l a' p')(hf:xh a b m p l=true)(hl:∀q∈l,yH a.length q){i}(hi:i<a.length):
  (a'.getD i ad).1<(a.getD i ad).1→0≤(a'.getD i ad).1+(a'.getD i ad).2.1:=by
 have h1:=yAw i (l:=l) fun q hq=>by have:=(hl q hq).a1;omega
 unfold xh at hf;rw[ba] at hf;have h2:=gg.1 hf.2 i hi;unfold gH at h2;rw[x.acct i hi];grind
theorem ySt {B}(h:qN B){l}(hf:xn B l=true){r}(hp:sj B.1 B.2.1 B.2.2.1 B.2.2.2 l r):jM B (r.1,r.2.1,r.2.2.1,r.2.2.2.1):=by
 have hs:=(Og h hp).1;by_cases c:vZ B.1.length l
 ·obtain⟨a',p',x,e⟩:=hp.1 c;cases hi:mP a' B.2.1 B.2.2.1 p' with
  |false=>rw[hi] at e;subst e;exact jM.refl B
  |true=>
   rw[hi] at e;subst e;exact⟨x.al,hs,fun i bH=>by show(a'.getD i ad).2.1=_;rw[x.acct i bH],rfl,rfl,fun i bH=>vMm x hf c.1 bH⟩
 ·rw[hp.2 c];exact jM.refl B
theorem yI9 {k}(hk:100<k){B C}(h:qN B){l}(hl:l.length≤80)(hg:im k B l=some C):jM B C:=by
 obtain⟨r,h1,h3⟩:=NH hk h hl;unfold im at hg;rw[h1] at hg;simp only at hg;cases hc:decide (r.2.2.2.2=0)&&xn B l with
 |false=>simp_all
 |true=>
  rw[hc] at hg;simp  at hg;subst hg;rw[ba] at hc;exact ySt h hc.2 h3
theorem gI.keptC {k}(hk:100<k){t B C l done m}(h:gI k t B l done C m)(hb:qN B):jM B C:=by
 induction h with
 |stop _=>exact jM.refl _
 |@step B C D l m done p h h' ih=>
  have hg:=(Ba h).2;exact(yI9 hk hb (by simp) hg).trans (ih (sr hk hb (by simp) hg).1)
theorem jQ.keptC {k}(hk:100<k){t B C l done m}(h:jQ k t B l done C m)(hb:qN B):jM B C:=by
 induction h with
 |stop _=>exact jM.refl _
 |@step B C D l m done p q h h' ih=>
  have hg:=(Ol h).2.2.2;exact(yI9 hk hb (by simp) hg).trans (ih (sr hk hb (by simp) hg).1)
theorem gI.bk {k}(hk:100<k){t B C l done m}(h:gI k t B l done C m)(hb:qN B):qN C:=by
 induction h with
 |stop _=>exact hb
 |step h h' ih=>exact ih (sr hk hb (by simp) (Ba h).2).1
theorem jQ.bk {k}(hk:100<k){t B C l done m}(h:jQ k t B l done C m)(hb:qN B):qN C:=by
 induction h with
 |stop _=>exact hb
 |step h h' ih=>exact ih (sr hk hb (by simp) (Ol h).2.2.2).1
theorem lY.keptC {k}(hk:100<k){t B C l done m}(h:lY k t B l done C m)(hb:qN B):jM B C:=by
 induction h with
 |stop h1 _=>exact h1.keptC hk hb
 |step h1 h2 ne h' ih=>
  have b1:=h1.bk hk hb;exact((h1.keptC hk hb).trans (h2.keptC hk b1)).trans (ih (h2.bk hk b1))
theorem vUi {k}(hk:200≤k){B}(hb:qN B){l:List zH}(hl:∀q∈l,yH B.1.length q)(bP:l.length≤64) t {C:BT}{m done:List zH}(hr:Be k B.1 B.2.1 B.2.2.1 B.2.2.2 l t=some (C.1,C.2.1,C.2.2.1,C.2.2.2,m,done)):jM B C:=by
 obtain⟨f,n,h,hn⟩:=VB hb hl bP t;have tx:=xu l t;have cM:=xq (yV l t) f;have Ov:=cM.length_le;obtain⟨r,h1,h3⟩:=NH (k:=k) (by omega) hb (l:=vK (yV l t) f) (by omega);have g1:=VM (k:=k) (by omega) hb hl bP t (by omega) h h1;unfold Fo at g1;rw[g1] at hr;cases c:decide (r.2.2.2.2=0) with
 |false=>
  rw[c] at hr;simp  at hr;obtain⟨e1,e2,e3,e4,_⟩:=hr;have:B=C:=by grind
  rw[←this];exact jM.refl B
 |true=>
  have:(r.1,r.2.1,r.2.2.1,r.2.2.2.1)=C:=by grind
  rw[←this];refine ySt hb ?_ h3;have hw:=JS (JT (t:=t) hl) (by omega) f;have hs:=vYb.1 h.final;unfold xn xh;rw[AQ.2 hw.1,aa hw.2];simp;rw[gg];intro j hj;have:=hs j hj;unfold uu at this;simp_all
theorem vT2 {C D:BT}{m n d e:List zH}(h:(C.1,C.2.1,C.2.2.1,C.2.2.2,m,d)=(D.1,D.2.1,D.2.2.1,D.2.2.2,n,e)):C=D∧m=n∧d=e:=by
 grind
theorem VR {k}(hk:200≤k){B}(hb:qN B){l}(hd:qK l)(hl:∀q∈l,yH B.1.length q)(bP:l.length≤64) t all {X:BT}{mx dx:List zH}
  (hr:uv k B.1 B.2.1 B.2.2.1 B.2.2.2 l t all=some (X.1,X.2.1,X.2.2.1,X.2.2.2,mx,dx)):jM B X:=by
 obtain⟨C,m,d,f1,f2,f3,f4,f5⟩:=Fz hk hb hd (by omega) t;have q1:=f2.keptC (by omega) hb;have p1:=f2.perm hd;have l1:=p1.length_eq;rw[List.length_append] at l1;unfold uv at hr;rw[f1] at hr;simp only[ae] at hr;cases all with
 |false=>
  grind
 |true=>
  have hm:qK m:=List.Pairwise.sublist f5 hd;have Mr:∀q∈m,yH C.1.length q:=fun q hq=>by grind
  obtain⟨D,n,x,g1,g2,g3,g4,g5,g6⟩:=VN hk f3 hm Mr (by omega) t;have q2:=vUi hk f3 Mr (by omega) t g1;have l2:=g5.length_eq;rw[List.length_append] at l2;rw[g1] at hr;simp only[ae] at hr;cases x with
  |nil=>
   grind
  |cons p x=>
   have e1:decide ((((p::x).length:Nat):Int)=0)=false:=by grind
   rw[e1] at hr;simp only[ak] at hr;have hn:qK n:=List.Pairwise.sublist g4 hm;obtain⟨E,o,y,k1,k2,k3,k4,k5⟩:=Fz hk g2 hn (by omega) t;have q3:=k2.keptC (by omega) g2;have p3:=k2.perm hn;have l3:=p3.length_eq;rw[List.length_append] at l3;have r1:zP (d.length+(p::x).length) 56=true:=by grind
   have r2:zP ((d++(p::x)).length+y.length) 56=true:=by grind
   rw[k1] at hr;simp only[ae,r1,r2,aj] at hr;have ot:some (E.1,E.2.1,E.2.2.1,E.2.2.2,o,d++(p::x)++y)=some (X.1,X.2.1,X.2.2.1,X.2.2.2,mx,dx):=hr;rw[←(vT2 (Option.some.inj ot)).1];exact(q1.trans q2).trans q3
theorem vJ2 {k}(hk:200≤k){B}(hb:qN B){m}(hd:qK m)(hm:∀q∈m,yH B.1.length q)(bP:m.length≤64) t pr ho ids to ov all:
  ∃(C:BT) (m' d:List zH),oU k t B.1 B.2.1 B.2.2.1 B.2.2.2 pr ho m ids to ov all=some (t,C.1,C.2.1,C.2.2.1,C.2.2.2,pr,ho,m',ids,to,ov,yX d)∧
   uv k B.1 B.2.1 B.2.2.1 B.2.2.2 m t all=some (C.1,C.2.1,C.2.2.1,C.2.2.2,m',d)∧qN C∧jM B C∧List.Sublist m' m∧List.Perm (d++m') m∧jP k C (vS m' t)=none:=by
 obtain⟨C,m',d,f1,f2,f3,f4,f5,f6,f7⟩:=yZc hk hb hd hm bP t all;have hlen:=f5.length_eq;rw[List.length_append] at hlen;refine⟨C,m',d,?_,f1,f2,VR hk hb hd hm bP t all f1,f4,f5,f6⟩;unfold oU;rw[f1];simp;rw[VO (by omega) (by omega)];rfl
theorem vTu {k}(hk:200≤k){B}(hb:qN B){m}(hd:qK m)(hm:∀q∈m,yH B.1.length q)(bP:m.length≤64) pa (sa:List (Int×Int)) cu cl pe t (ht:0≤t∧t<1099511627776)(J2:pe≠0) pr ho ids to:
  ∃(C:BT) (m':List zH) (ov:Bool) (o:List qZ),uw k pa sa cu cl pe t B.1 B.2.1 B.2.2.1 B.2.2.2 pr ho m ids to false=some (t+1,C.1,C.2.1,C.2.2.1,C.2.2.2,pr,ho,m',ids,to,ov,o)∧vDx t cl B C m m' ov o∧jM B C∧(ov=false→jP k C (vS m' (t+1))=none)∧
   ((ov=true∧m'=[]∧o=m.map (wO 22)++iJ B B.1.length∧C=B)∨∃l d n,o=l.map (wO 21)++yX d∧List.Perm (l++n) m∧List.Perm (d++m') n∧ov=false):=by
 have gl:=hb.n6;have w:zA (t+1)=t+1:=zN (by omega) (by omega);unfold uw Bi;simp only[w,ak,ae];cases hc:decide (t+1=cl) with
 |true=>
  simp only[aj];rw[yUy gl hk (by omega)];simp only[ae];refine⟨B,[],true,_,rfl,⟨hb,rfl,List.nil_sublist m,hc.symm,fun _=>rfl,(fun e=>by cases e),(fun p hp=>by cases hp),fun p hp _=>?_,fun q hq=>?_,?_⟩,jM.refl B,(fun e=>by cases e),.inl ⟨rfl,rfl,rfl,rfl⟩⟩
  ·rw[Bh,(FC (.inr rfl) hd).1 hp,yUm]
  ·rw[Bh,(FC (.inr rfl) hd).2 hq,yUm]
  ·rw[List.length_append,List.length_map];unfold iJ;rw[List.length_map,List.length_range];simp;omega
 |false=>
  simp only[ak];rw[yGy hk (by omega)];simp only[ae];have hs:∃x,FJ k pa sa cu cl pe (t+1)=some x:=by
   unfold FJ;cases decide (t+1>0) with
   |false=>exact⟨_,rfl⟩
   |true=>
    cases decide (t+1<cl) with
    |false=>exact⟨_,rfl⟩
    |true=>
     have:decide (pe=0)=false:=ab J2;rw[this];exact⟨_,rfl⟩
  obtain⟨x,hx⟩:=hs;rw[hx];simp only[ae];have cM:List.Sublist (m.filter (fun p=> !vE (t+1) p)) m:=List.filter_sublist;have dW:=cM.length_le;have oL:qK (m.filter (fun p=> !vE (t+1) p)):=List.Pairwise.sublist cM hd;obtain⟨C,m',d,f1,f2,f3,f4,f5,f6,f7⟩:=yZc hk hb oL (fun q hq=>hm q (cM.subset hq)) (by omega) (t+1) x;have hlen:=f5.length_eq;rw[List.length_append] at hlen;have hSt:oU k (t+1) B.1 B.2.1 B.2.2.1 B.2.2.2 pr ho (m.filter (fun p=> !vE (t+1) p)) ids to false x=some (t+1,C.1,C.2.1,C.2.2.1,C.2.2.2,pr,ho,m',ids,to,false,yX d):=by
   unfold oU;rw[f1];simp only[ae];rw[VO (by omega) (by omega)];rfl
  rw[hSt];have aa8:(m.filter (vE (t+1))).length+(m.filter (fun p=> !vE (t+1) p)).length=m.length:=by
   rw[←List.countP_eq_length_filter,←List.countP_eq_length_filter];have:=List.length_eq_countP_add_countP (vE (t+1)) (l:=m);simp only[Bool.not_eq_true,Bool.decide_eq_false] at this;exact this.symm
  have ph:=Bg d;have hr:zP (((m.filter (vE (t+1))).map (wO 21)).length+(yX d).length) 64=true:=qJ (by rw[List.length_map];omega) (by rw[List.length_map];omega);simp only[ae,hr,aj];have hdd:qK (d++m'):=oL.perm f5;have ux:qK d:=(List.pairwise_append.1 hdd).1;have hdm:∀p∈d,p∈m.filter (fun p=> !vE (t+1) p):=by grind
  have mT:∀p∈d,yH B.1.length p:=fun p hp=>hm p (cM.subset (hdm p hp))
  have uy:qK (m.filter (vE (t+1))):=hd.filter _;have xz:∀p∈m,vE (t+1) p=false→∀q∈m.filter (vE (t+1)),q.1≠p.1:=by
   intro p hp hl q hq e;have h1:=List.mem_filter.1 hq;have:=hd.eq_of h1.1 hp e;subst this;rw[hl] at h1;exact absurd h1.2 (by simp)
  refine⟨C,m',false,_,rfl,⟨f2,f3,f4.trans cM,hc.symm,(fun e=>by cases e),fun _ p hp=>?_,fun p hp=>?_,fun p hp hn=>?_,fun q hq=>?_,?_⟩,VR hk hb oL (fun q hq=>hm q (cM.subset hq)) (by omega) (t+1) x f1,(fun _=>f6),.inr ⟨m.filter (vE (t+1)),d,m.filter (fun p=> !vE (t+1) p),rfl,List.filter_append_perm _ _,f5,rfl⟩⟩
  ·have:=(List.mem_filter.1 (f4.subset hp)).2
   simpa using this
  ·have h1:=List.mem_filter.1 (f4.subset hp);have hl:vE (t+1) p=false:=by simpa using h1.2
   rw[Bh,(FC (.inl rfl) uy).2 (xz p h1.1 hl),(OA ux mT).2 (hdd.not_in (l:=d) hp)]
  ·cases hl:vE (t+1) p with
   |true=>
    have h1:p∈m.filter (vE (t+1)):=List.mem_filter.2 ⟨hp,hl⟩;have h2:∀q∈d,q.1≠p.1:=by
     grind
    rw[Bh,(FC (.inl rfl) uy).1 h1,(OA ux mT).2 h2]
   |false=>
    have h1:p∈m.filter (fun p=> !vE (t+1) p):=List.mem_filter.2 ⟨hp,by rw[hl];rfl⟩;have h2:p∈d:=by
     rcases List.mem_append.1 (f5.symm.subset h1) with h|h
     ·exact h
     ·exact absurd h hn
    rw[Bh,(FC (.inl rfl) uy).2 (xz p hp hl),(OA ux mT).1 h2]
  ·rw[Bh,(FC (.inl rfl) uy).2 (by grind),(OA ux mT).2 (fun p hp=>hq p (cM.subset (hdm p hp)))]
  ·rw[List.length_append,List.length_map];simp;omega
abbrev jF:=EQ
abbrev qD:=Int×List oP×Int×Int×Int
abbrev wI:=Int×Int×Int×Int×Int×Int×Int
abbrev vRc:=Int×List oP×Int×Int×Int×Int×List qX×jF×AC×jF×AC×jF×List zH×AC×Int×Bool×Int×List qZ
structure zR where
 t:Int
 B:BT
 pr:AC
 ho:jF
 m:List zH
 ids:AC
 to:Int
 ov:Bool
abbrev pS:=Int×List qX×jF×AC×jF×AC×jF×List zH×AC×Int×Bool
def zR.st (s:zR):pS:=(s.t,s.B.1,s.B.2.1,s.B.2.2.1,s.B.2.2.2,s.pr,s.ho,s.m,s.ids,s.to,s.ov)
def dk (r:qD)(s:zR)(who:Int)(l:List qZ):vRc:=(r.1,r.2.1,r.2.2.1,r.2.2.2.1,r.2.2.2.2,s.t,s.B.1,s.B.2.1,s.B.2.2.1,s.B.2.2.2,s.pr,s.ho,s.m,s.ids,s.to,s.ov,who,l)
structure vO (r:qD):Prop where
 pa:1≤r.1∧r.1≤6
 n3:r.2.1.length≤3
 price:∀i,i<r.2.1.length→0≤(r.2.1.getD i um).1∧(r.2.1.getD i um).1≤1048576
 cut:∀i,i<r.2.1.length→0≤(r.2.1.getD i um).2∧(r.2.1.getD i um).2≤10000
 cu:0≤r.2.2.1∧r.2.2.1≤r.2.2.2.1
 cl:1≤r.2.2.2.1∧r.2.2.2.1≤1048576
 pe:1≤r.2.2.2.2∧r.2.2.2.2≤1048576
def oV (m:List zH):Prop:=List.Pairwise (fun p q=>jD p q=true) m
structure j4 (n:Nat) (m:List zH) (ids:AC):Prop where
 dist:qK m
 len:m.length≤40
 sort:oV m
 may:∀p∈m,yH n p
 time:∀p∈m,0≤p.2.2.2.2.2.1∧p.2.2.2.2.2.1≤p.2.2.2.2.2.2∧p.2.2.2.2.2.2≤1048576
 were:∀p∈m,p.1∈ids
 asc:uj ids
 pos:∀x∈ids,1≤x
 idl:ids.length≤200
structure qV (r:qD) (s:zR):Prop where
 tk:0≤s.t∧s.t≤r.2.2.2.1
 bk:qN s.B
 n:(s.B.1.length:Int)=r.1
 hol:s.ho.length=s.B.1.length
 laid:∀i,i<s.B.1.length→kJ r.2.1 s.pr (s.ho.getD i [])
 cred:∀i,i<s.B.1.length→(s.B.1.getD i ad).2.1=lW r.2.1 s.pr (s.ho.getD i [])
 most:∀i,i<s.B.1.length→(s.B.1.getD i ad).2.1≤1152921504606846976
 waits:j4 s.B.1.length s.m s.ids
 sum:qG (fun i=>(s.B.1.getD i ad).1) s.B.1.length=s.to
 tot:0≤s.to∧s.to≤1152921504606846976
 over:s.ov=decide (s.t=r.2.2.2.1)
 none:s.ov=true→s.m=[]
theorem mU k a b c:vH k a b c=some (decide (a≥b)&&decide (a≤c)):=by
 unfold vH;grind
theorem ny {α:Type} c (a b:α):(bif c then some a else some b)=some (bif c then a else b):=by grind
def kM (pa t:Int)(p:zH):Bool:=
 decide (p.2.1≥0)&&decide (p.2.1<pa)&&(decide (p.2.2.1≥0)&&decide (p.2.2.1<pa)&&(decide (p.1≥1)&&(decide (p.2.2.2.1≥1)&&(decide (p.2.2.2.1≤1099511627776)&&(decide (p.2.2.2.2.1≥1)&&(!decide (p.2.1=p.2.2.1)&&(decide (p.2.2.2.2.1≤3)&&(decide (p.2.2.2.2.2.1≥0)&&(decide (p.2.2.2.2.2.1≤p.2.2.2.2.2.2)&&(decide (p.2.2.2.2.2.2≥t)&&decide (p.2.2.2.2.2.2≤1048576)))))))))))
theorem VT k (r:qD) w:J3 k r w=some (decide (w≥0)&&decide (w<r.1)):=by
 unfold J3;grind
theorem vTy k (r:qD) t (p:zH):OC k r t p=some (kM r.1 t p):=by
 unfold OC kM;simp[VT,ny]
def pT (cu cl t c:Int):Int:=bif decide (t≥cl) then 7 else bif decide (c=3)&&decide (t≥cu) then 7 else 0
theorem yMa k (r:qD) t c:Bj k r t c=some (pT r.2.2.1 r.2.2.2.1 t c):=by
 unfold Bj pT;grind
def mV (r:qD)(t:Int)(p:zH):Int:=bif !kM r.1 t p then 1 else pT r.2.2.1 r.2.2.2.1 t p.2.2.2.2.1
theorem vIx k (r:qD) t (p:zH):FK k r t p=some (mV r t p):=by
 unfold FK mV;rw[vTy];simp[yMa];grind
def fJ (who:Int)(f:wI):zH:=(f.2.1,who,f.2.2)
def iK (r:qD)(s:zR)(who:Int)(f:wI):Int×List zH×AC:=
 bif !(decide (f.2.2.1≥0)&&decide (f.2.2.1≤r.1-1)) then(1,s.m,s.ids)
 else bif !(decide (f.2.2.2.2.1≥1)&&decide (f.2.2.2.2.1≤3)) then(1,s.m,s.ids)
 else bif !decide (mV r s.t (fJ who f)=0) then(mV r s.t (fJ who f),s.m,s.ids)
 else bif decide (f.2.1∈s.ids) then(6,s.m,s.ids)
 else bif decide (200≤s.ids.length) then(3,s.m,s.ids)
 else bif (vW s.m f.2.1).isSome then(6,s.m,s.ids)
 else bif decide (40≤s.m.length) then(3,s.m,s.ids)
 else(0,oN s.m (fJ who f),pN s.ids f.2.1)
theorem yYe {k}(hk:1000≤k){r}(hr:vO r){s}(h:j4 s.B.1.length s.m s.ids) who l f:
  ∃d,OD k (dk r s who l) f.2=some ((iK r s who f).1,d)∧((iK r s who f).1=0→d=dk r {s with m:=(iK r s who f).2.1,ids:=(iK r s who f).2.2} who l):=by
 have hp:=hr.pa;have hi:=h.idl;have hm:=h.len;have w1:zA (r.1-1)=r.1-1:=zN (by omega) (by omega);have eD:OD k (dk r s who l) f.2=(vH k f.2.2.1 0 (zA (r.1-1))).bind fun x0=>
  bif !x0 then some (1,dk r s who l)
  else(vH k f.2.2.2.2.1 1 3).bind fun x1=>
  bif !x1 then some (1,dk r s who l)
  else(FK k r s.t (fJ who f)).bind fun x2=>
  bif !(decide (x2=0)) then some (x2,dk r s who l)
  else(E3 k s.ids f.2.1).bind fun x3=>
  bif !(decide (x3.2=0)) then some (x3.2,dk r s who l)
  else(xk k s.m (fJ who f)).bind fun x4=>
  bif !(decide (x4.2=0)) then some (x4.2,dk r s who l)
  else some (0,dk r {s with m:=x4.1,ids:=x3.1} who l):=rfl
 rw[eD,mU,mU,vIx,w1,Vn (by omega) (by omega) h.asc,Vh (by omega) (by omega) (by unfold qO;omega)];simp only[ae];unfold iK;cases decide (f.2.2.1≥0)&&decide (f.2.2.1≤r.1-1) with
 |false=>exact by simp
 |true=>
 cases decide (f.2.2.2.2.1≥1)&&decide (f.2.2.2.2.1≤3) with
 |false=>exact by simp
 |true=>
 by_cases hc:mV r s.t (fJ who f)=0
 ·rw[aa hc];by_cases h1:f.2.1∈s.ids
  ·rw[aa h1];exact by simp
  ·rw[ab h1];by_cases h2:200≤s.ids.length
   ·rw[aa h2];exact by simp
   ·rw[ab h2];have e1:(fJ who f).1=f.2.1:=rfl;rw[e1];cases(vW s.m f.2.1).isSome with
    |true=>exact by simp
    |false=>
     by_cases h3:40≤s.m.length
     ·rw[aa h3];exact by simp
     ·rw[ab h3];exact by simp
 ·rw[ab hc];exact by simp
def gK (who kd a:Int):qZ:=(who,kd,a,0,0,0,0,0)
theorem VU {k l}(hl:l.length≤1000) r s who kd a:uz k (dk r s who l) kd [a]=some (dk r s who (l++[gK who kd a])):=by
 have e:uz k (dk r s who l) kd [a]=bif zP (l.length+1) 64 then some (dk r s who (l++[gK who kd a])) else none:=rfl
 rw[e,qJ (by omega) (by omega)];rfl
def kN (r:qD)(s:zR)(who:Int)(f:wI):Int×List zH×List qZ:=match vW s.m f.2.1 with
 |none=>(4,s.m,[])
 |some x=>
  bif !decide ((s.m.getD x pd).2.1=who) then(4,s.m,[])
  else bif decide (f.1=2) then(0,yF s.m x,[gK who 20 f.2.1])
  else bif decide (f.1 = 4) then (bif !(decide (f.2.2.1≥1)&&decide (f.2.2.1≤3)) then(1,s.m,[])
   else bif !decide (pT r.2.2.1 r.2.2.2.1 s.t f.2.2.1=0) then(pT r.2.2.1 r.2.2.2.1 s.t f.2.2.1,s.m,[])
   else(0,oN (yF s.m x) ((s.m.getD x pd).1,(s.m.getD x pd).2.1,(s.m.getD x pd).2.2.1,(s.m.getD x pd).2.2.2.1,f.2.2.1,(s.m.getD x pd).2.2.2.2.2.1,(s.m.getD x pd).2.2.2.2.2.2),[]))
  else bif decide (f.2.2.1=0) then(0,JC (yF s.m x) (s.m.getD x pd),[])
  else bif decide (f.2.2.1=1) then(0,oN (yF s.m x) (s.m.getD x pd),[])
  else(1,s.m,[])
theorem yLk {k}(hk:1000≤k){r s}(h:j4 s.B.1.length s.m s.ids) who {l}(hl:l.length≤1000)(f:wI):
  ∃d,xA k (dk r s who l) f=some ((kN r s who f).1,d)∧((kN r s who f).1=0→d=dk r {s with m:=(kN r s who f).2.1} who (l++(kN r s who f).2.2)):=by
 have hm:=h.len;have oz:qO s.m:=by unfold qO;omega
 have eD : xA k (dk r s who l) f = ((nM k s.m f.2.1).bind fun x0=>
   bif decide (x0<0) then some (((0,0,0,0,0,0,0):zH),(4:Int))
   else bif zB x0 s.m.length then (bif !(decide ((s.m.getD x0.toNat (0,0,0,0,0,0,0)).2.1=who)) then some ((0,0,0,0,0,0,0),4)
    else bif zB x0 s.m.length then some ((s.m.getD x0.toNat (0,0,0,0,0,0,0)),0)
    else none)
   else none).bind fun x0=>
  bif !(decide (x0.2=0)) then some (x0.2,dk r s who l)
  else bif decide (f.1 = 2) then ((pM k s.m f.2.1).bind fun x1=>
   (uz k (dk r {s with m:=x1.1} who l) 20 [f.2.1]).bind fun x2=>
   some (x1.2.2.2.2.2.2.2.2,x2))
  else bif decide (f.1 = 4) then ((vH k f.2.2.1 1 3).bind fun x3=>
   bif !x3 then some (1,dk r s who l)
   else(Bj k r s.t f.2.2.1).bind fun x4=>
   bif !(decide (x4=0)) then some (x4,dk r s who l)
   else(EY k s.m f.2.1 f.2.2.1).bind fun x5=>
   some (x5.2,dk r {s with m:=x5.1} who l))
  else bif decide (f.2.2.1 = 0) then ((E1 k s.m f.2.1).bind fun x6=>
   some (x6.2,dk r {s with m:=x6.1} who l))
  else bif decide (f.2.2.1 = 1) then ((EZ k s.m f.2.1).bind fun x7=>
   some (x7.2,dk r {s with m:=x7.1} who l))
  else some (1,dk r s who l):=rfl
 rw[eD,A4 (by omega) (by omega)];unfold kN j0;cases hx:vW s.m f.2.1 with
 |none=>exact by simp
 |some x=>
  have dj:=kI hx;have e1:decide ((x:Int)<0)=false:=by simp
  simp only[ae,e1,ak,qB,aa dj.1,aj,aq];by_cases hw:(s.m.getD x (0,0,0,0,0,0,0)).2.1=who
  ·have oI:(s.m.getD x pd).2.1=who:=hw;rw[aa hw];by_cases h2:f.1=2
   ·rw[aa h2];simp only[aj,A6 (show s.m.length<k by omega) oz,ae,VU hl];unfold il;rw[hx];exact by simp
   ·rw[ab h2];simp only[ak];by_cases h4:f.1=4
    ·rw[aa h4];simp only[aj,mU,ae,yMa,vR7 (show 3≤k by omega) (by grind) oz h.dist hm hx];cases decide (f.2.2.1≥1)&&decide (f.2.2.1≤3) with
     |false=>exact by simp
     |true=>
      simp only[aA,ak];by_cases hc:pT r.2.2.1 r.2.2.2.1 s.t f.2.2.1=0
      all_goals simp_all
    ·rw[ab h4];simp only[ak];by_cases h0:f.2.2.1=0
     ·rw[aa h0];simp only[aj,vPa (show 3≤k by omega) (by grind) oz hx,ae];exact by simp
     ·rw[ab h0];simp only[ak];by_cases h1:f.2.2.1=1
      ·rw[aa h1];simp only[aj,vEc (show 3≤k by omega) (by grind) oz h.dist hm hx,ae];exact by simp
      ·rw[ab h1];exact by simp
  ·have oI:¬(s.m.getD x pd).2.1=who:=hw;rw[ab hw];exact by simp
def VV (s:zR)(a:List qX)(b:jF)(m:AC):zR:={s with B:=(a,b,m,s.B.2.2.2)}
def iL (r:qD)(s:zR)(who:Int)(f:wI):Int×zR:=
 bif decide (f.1 = 5) then (bif !((decide (f.2.1≥0)&&decide (f.2.1≤r.1-1))&& !decide (f.2.1=who)) then(1,s)
  else bif !(decide (f.2.2.1≥-1)&&decide (f.2.2.1≤1152921504606846976)) then(1,s)
  else(0,VV s s.B.1 (s.B.2.1.set who.toNat ((s.B.2.1.getD who.toNat []).set f.2.1.toNat f.2.2.1)) s.B.2.2.1))
 else bif decide (f.1 = 6) then (bif !(decide (f.2.1≥-1)&&decide (f.2.1≤1152921504606846976)) then(1,s)
  else(0,VV s s.B.1 s.B.2.1 (s.B.2.2.1.set who.toNat f.2.1)))
 else bif !(decide (f.2.1≥0)&&decide (f.2.1≤1152921504606846976)) then(1,s)
 else(0,VV s (s.B.1.set who.toNat ((s.B.1.getD who.toNat ad).1,(s.B.1.getD who.toNat ad).2.1,f.2.1)) s.B.2.1 s.B.2.2.1)
theorem yGv {k}(hk:1000≤k){r}(hr:vO r){s}(hb:qN s.B)(hn:(s.B.1.length:Int)=r.1){who}(hw:0≤who∧who<r.1) l (f:wI):
    ∃d,xB k (dk r s who l) f=some ((iL r s who f).1,d)∧((iL r s who f).1=0→d=dk r (iL r s who f).2 who l):=by
  have hp:=hr.pa;have w1:zA (r.1-1)=r.1-1:=zN (by omega) (by omega);obtain⟨w,rfl⟩:=Int.eq_ofNat_of_zero_le hw.1;have gm:w<s.B.1.length:=by omega
  have eD:xB k (dk r s w l) f=(gk k s.B.1 s.B.2.1 s.B.2.2.1 s.B.2.2.2).bind fun x0=>
    bif decide (f.1 = 5) then (((vH k f.2.1 0 (zA (r.1-1))).bind fun x0=>bif x0 then some (!(decide (f.2.1=(w:Int)))) else some false).bind fun x1=>
      bif !x1 then some (1,dk r s w l)
      else(vH k f.2.2.1 (-1) 1152921504606846976).bind fun x2=>
      bif !x2 then some (1,dk r s w l)
      else bif zB (w : Int) x0.2.1.length then (bif zB f.2.1 (x0.2.1.getD (w:Int).toNat []).length then
        some (0,dk r {s with B:=(x0.1,(x0.2.1.set (w:Int).toNat ((x0.2.1.getD (w:Int).toNat []).set f.2.1.toNat f.2.2.1)),x0.2.2.1,x0.2.2.2)} w l)
       else none)
      else none)
    else bif decide (f.1 = 6) then ((vH k f.2.1 (-1) 1152921504606846976).bind fun x3=>
      bif !x3 then some (1,dk r s w l)
      else bif zB (w:Int) x0.2.2.1.length then some (0,dk r {s with B:=(x0.1,x0.2.1,(x0.2.2.1.set (w:Int).toNat f.2.1),x0.2.2.2)} w l)
      else none)
    else(vH k f.2.1 0 1152921504606846976).bind fun x4=>
    bif !x4 then some (1,dk r s w l)
    else bif zB (w:Int) x0.1.length then some (0,dk r {s with B:=((x0.1.set (w:Int).toNat ((x0.1.getD (w:Int).toNat (0,0,0)).1,(x0.1.getD (w:Int).toNat (0,0,0)).2.1,f.2.1)),x0.2.1,x0.2.2.1,x0.2.2.2)} w l)
    else none:=rfl
  rw[eD,I3 (by omega) hb.toSized,w1];simp only[ae,mU,qB,aq];unfold iL;rw[aq];by_cases h5:f.1=5
  · rw[aa h5];simp only[aj];cases hc:decide (f.2.1≥0)&&decide (f.2.1≤r.1-1) with
    |false=>exact by simp
    |true=>
      simp  at hc;cases decide (f.2.1=(w:Int)) with
      |true=>exact by simp
      |false=>
        cases decide (f.2.2.1≥-1)&&decide (f.2.2.1≤1152921504606846976) with
        |false=>exact by simp
        |true=>
          have b1:decide (w<s.B.2.1.length)=true:=aa (by rw[hb.bl];exact gm);have b2:zB f.2.1 (s.B.2.1.getD w []).length=true:=fl hc.1 (by rw[hb.br w gm];omega);simp only[aj,ae,bQ,aA,ak,b1,b2,Bool.and_self];exact⟨_,rfl,fun _=>rfl⟩
  · rw[ab h5];simp only[ak];by_cases h6:f.1=6
    · rw[aa h6];cases decide (f.2.1≥-1)&&decide (f.2.1≤1152921504606846976) with
      |false=>exact by simp
      |true=>
        have b1:decide (w<s.B.2.2.1.length)=true:=aa (by rw[hb.ml];exact gm);simp only[aj,aA,ak,b1];exact⟨_,rfl,fun _=>rfl⟩
    · rw[ab h6];cases decide (f.2.1≥0)&&decide (f.2.1≤1152921504606846976) with
      |false=>exact by simp
      |true=>
        have b1:decide (w<s.B.1.length)=true:=by grind
        simp only[aj,aA,ak,b1];exact⟨_,rfl,fun _=>rfl⟩
def Bk (s:zR)(w:Nat)(h:AC)(n:Int):Int×zR:=
 bif decide (n>1152921504606846976) then(8,s)
 else bif decide (n<(s.B.1.getD w ad).2.1)&&decide ((s.B.1.getD w ad).1+n<0) then(9,s)
 else(0,{s with B:=(s.B.1.set w ((s.B.1.getD w ad).1,n,(s.B.1.getD w ad).2.2),s.B.2.1,s.B.2.2.1,s.B.2.2.2),ho:=s.ho.set w h})
def iM (r:qD)(s:zR)(who a many:Int):Int×zR:=
 bif !(decide (a≥0)&&decide (a≤(r.2.1.length:Int)-1)) then(1,s)
 else bif !(decide (many≥0)&&decide (many≤1099511627776)) then(1,s)
 else Bk s who.toNat ((s.ho.getD who.toNat []).set a.toNat many) (lW r.2.1 s.pr ((s.ho.getD who.toNat []).set a.toNat many))
theorem kJ.set {sa pr h}(L:kJ sa pr h){i}(hi:i<sa.length){v}(hv:0≤v∧v≤1099511627776):kJ sa pr (h.set i v):=
 ⟨L.n3,L.pl,by rw[List.length_set];exact L.hl,L.cut,L.price,fun j hj=>by
  rw[fm];split
  ·exact hv
  ·exact L.hold j hj⟩
theorem kJ.setP {sa pr h}(L:kJ sa pr h){i}(hi:i<sa.length){v}(hv:0≤v∧v≤1048576):kJ sa (pr.set i v) h:=
 ⟨L.n3,by rw[List.length_set];exact L.pl,L.hl,L.cut,fun j hj=>by
  rw[fm];split
  ·exact hv
  ·exact L.price j hj,L.hold⟩
theorem vH8 {k}{l:jF}(hl:l.length≤1000):FL k l=some l:=by
 unfold FL;rw[qJ (by omega) (by omega)];rfl
theorem yRr {k}(hk:1000≤k){r}(hr:vO r){s}(h:qV r s){who}(hw:0≤who∧who<r.1) l a many:
    ∃d,OE k (dk r s who l) a many=some ((iM r s who a many).1,d)∧((iM r s who a many).1=0→d=dk r (iM r s who a many).2 who l):=by
  have hp:=hr.pa;have h3:=hr.n3;have hn:=h.n;have gl:=h.bk.n6;have hol:=h.hol;have w1:zA ((r.2.1.length:Int)-1)=(r.2.1.length:Int)-1:=zN (by omega) (by omega);obtain⟨w,rfl⟩:=Int.eq_ofNat_of_zero_le hw.1;have gm:w<s.B.1.length:=by omega
  have eD:OE k (dk r s w l) a many=((vH k a 0 (zA ((r.2.1.length:Int)-1))).bind fun x0=>some x0).bind fun x0=>
    bif !x0 then some (1,dk r s w l)
    else(vH k many 0 1099511627776).bind fun x1=>
    bif !x1 then some (1,dk r s w l)
    else(FL k s.ho).bind fun x2=>
    bif zB (w : Int) x2.length then ((pP k (x2.getD (w:Int).toNat []) a many).bind fun x3=>
      bif zB (w:Int) x2.length then(
       bif zB (w : Int) (x2.set (w : Int).toNat x3).length then ((so k r.2.1 s.pr ((x2.set (w:Int).toNat x3).getD (w:Int).toNat [])).bind fun x4=>
        bif zB (w : Int) s.B.1.length then (bif !x4.2 then some (8,dk r s w l)
         else bif decide (x4.1>1152921504606846976) then some (8,dk r s w l)
         else bif decide (x4.1 < (s.B.1.getD (w : Int).toNat (0, 0, 0)).2.1) then (bif decide ((zA ((s.B.1.getD (w:Int).toNat (0,0,0)).1+x4.1))<0) then some (9,dk r s w l)
          else(gk k s.B.1 s.B.2.1 s.B.2.2.1 s.B.2.2.2).bind fun x5=>
          bif zB (w:Int) x5.1.length then
           some (0,dk r {s with B:=((x5.1.set (w:Int).toNat ((x5.1.getD (w:Int).toNat (0,0,0)).1,x4.1,(x5.1.getD (w:Int).toNat (0,0,0)).2.2)),x5.2.1,x5.2.2.1,x5.2.2.2),ho:=x2.set (w:Int).toNat x3} w l)
          else none)
         else(gk k s.B.1 s.B.2.1 s.B.2.2.1 s.B.2.2.2).bind fun x6=>
         bif zB (w:Int) x6.1.length then
          some (0,dk r {s with B:=((x6.1.set (w:Int).toNat ((x6.1.getD (w:Int).toNat (0,0,0)).1,x4.1,(x6.1.getD (w:Int).toNat (0,0,0)).2.2)),x6.2.1,x6.2.2.1,x6.2.2.2),ho:=x2.set (w:Int).toNat x3} w l)
         else none)
        else none)
       else none)
      else none)
    else none:=rfl
  rw[eD,w1,mU,mU,I3 (by omega) h.bk.toSized,vH8 (by omega)];simp only[ae,qB,aq];unfold iM;simp only[aq];cases hc:decide (a≥0)&&decide (a≤(r.2.1.length:Int)-1) with
  |false=>exact by simp
  |true=>
  simp only[ba,aX] at hc;cases hm:decide (many≥0)&&decide (many≤1099511627776) with
  |false=>exact by simp
  |true=>
  obtain⟨i,rfl⟩:=Int.eq_ofNat_of_zero_le hc.1;have hi:i<r.2.1.length:=by omega
  have L:=h.laid w gm;have L2:=L.set hi (v:=many) (by grind);have b1:decide (w<s.ho.length)=true:=by grind
  have b2:decide (w<s.B.1.length)=true:=aa gm;have lZ:pP k (s.ho.getD w []) (i:Int) many=some ((s.ho.getD w []).set i many):=by
    have:=yB5 (k:=k) (l:=s.ho.getD w []) (by rw[L.hl];omega) (i:=(i:Int)) (by omega) (by rw[L.hl];omega) many;simp_all
  have J4:(s.ho.set w ((s.ho.getD w []).set i many)).getD w []=(s.ho.getD w []).set i many:=by
    rw[fm,if_pos ⟨rfl,by omega⟩]
  have hv:=Vt (k:=k) L2 (by omega);have hb:=h.bk.nums.bal w gm;have zj:=Fa L2;simp only[aA,ak,b1,aj,lZ,ae,List.length_set,J4,hv,b2,aq];clear hv L2 J4 eD;generalize lW r.2.1 s.pr ((s.ho.getD w []).set i many)=n at zj⊢;unfold Bk;cases VW:decide (n>1152921504606846976) with
  |true=>exact by simp
  |false=>
    have h8:¬n>1152921504606846976:=gE VW;have w2:zA ((s.B.1.getD w (0,0,0)).1+n)=(s.B.1.getD w (0,0,0)).1+n:=zN (by have:=hb.1;simp only[ad] at this;omega) (by have:=hb.2;simp only[ad] at this;omega);simp only[w2,ak];cases decide (n<(s.B.1.getD w (0,0,0)).2.1) with
    |false=>exact by simp
    |true=>
      cases decide ((s.B.1.getD w (0,0,0)).1+n<0) with
      |true=>exact by simp
      |false=>exact by simp
def wT (a:qX)(n:Int):qX×Int:=bif jY (a.1+n,a.2.1,a.2.2) then((a.1+n,a.2.1,a.2.2),0) else(a,8)
theorem ySk {k}{a:qX}(ha:-4611686018427387904<a.1∧a.1<4611686018427387904){n}(hn:-1099511627776≤n∧n≤1099511627776):J5 k a n=some (wT a n):=by
 have abl:OF k a.1 n=some (a.1+n,true):=by
  unfold OF;have w1:n>0→zA (9223372036854775807-n)=9223372036854775807-n:=fun h=>zN (by omega) (by omega)
  have w2:n<0→zA (-9223372036854775808-n)= -9223372036854775808-n:=fun h=>zN (by omega) (by omega)
  have w3:zA (a.1+n)=a.1+n:=zN (by omega) (by omega);grind
 unfold J5 wT;simp[yM1];grind
abbrev gL:=Int×wI
theorem vOt k kd:∃n,tY k kd=some n∧-1≤n∧n≤6:=by
 have c:∀(b:Bool) (x y:Option Int),(∃n,x=some n∧-1≤n∧n≤6)→(∃n,y=some n∧-1≤n∧n≤6)→∃n,(bif b then x else y)=some n∧-1≤n∧n≤6:=by
  simp_all
 iterate 23 (refine c _ _ _ (by simp) ?_)
 simp
theorem yQ3 {k}{s:AC}(hs:s.length≤6):∀n i,s.length<i+n→i≤s.length→∃x,l9 k n s (s.length:Int) (i:Int)=some x
 |0,i,h,g=>by omega
 |n+1,i,h,g=>by
  show∃x,lg k (l9 k n) s (s.length:Int) (i:Int)=some x;unfold lg;by_cases hi:i<s.length
  ·simp only[qP,aa hi,qB,aq];cases decide (s.getD i 0=0) with
   |false=>simp
   |true=>
    rw[qE hi (by omega)];exact yQ3 hs n (i+1) (by omega) hi
  ·simp only[qP,ab hi];simp
theorem OG {k}(hk:10≤k)(f:wI):∃b,j5 k f=some b:=by
 unfold j5;obtain⟨n,h1,h2,h3⟩:=vOt k f.1;rw[h1];simp;by_cases h0:n<0
 ·simp_all
 ·rw[ab h0,aa (by grind),aa h3];have hl:(qR [f.2.1,f.2.2.1,f.2.2.2.1,f.2.2.2.2.1,f.2.2.2.2.2.1,f.2.2.2.2.2.2] n.toNat (6-n.toNat)).length≤6:=by
   unfold qR;simp
  obtain⟨x,hx⟩:=yQ3 (k:=k) hl k 0 (by omega) (by simp);rw[show((0:Nat):Int)=0 from rfl] at hx;rw[hx];cases x<;>exact by simp
theorem VX k a:OH k a=some (decide (a≥10)&&decide (a≤14)):=by
 unfold OH;grind
theorem VY k a:J6 k a=some (decide (a≥1)&&decide (a≤14)):=by
 unfold J6;grind
def yPa (A B C D E F G b o:Bool):Int:=
 bif !(D&&C) then 5 else bif !b then 5 else bif B&&C then(bif !E then 5 else bif o&& !G then 7 else 0) else bif !(A&&F) then 5 else bif o&& !G then 7 else 0
theorem vO0:∀{A B C D E F G b o},yPa A B C D E F G b o=0→(D&&C&&((B&&E)||(!B&&A&&F))&&(!o||G))=true:=by
 intro A B C D E F G b o h;cases A<;>cases B<;>cases C<;>cases D<;>cases E<;>cases F<;>cases G<;>cases b<;>cases o<;>first|rfl|exact absurd h (by decide)
theorem vRk {k}(hk:10≤k)(r:qD)(s:zR)(c:gL):∃b,uA k r s.st c=some (yPa (decide (c.1≥0)) (decide (c.2.1≥10)) (decide (c.2.1≤14)) (decide (c.2.1≥1)) (decide (c.1= -1)) (decide (c.1<r.1)) (decide (c.2.1=9)) b s.ov):=by
 unfold uA;rw[VX,VY];obtain⟨b,hb⟩:=OG hk c.2;rw[hb];have eo:s.st.2.2.2.2.2.2.2.2.2.2=s.ov:=rfl;rw[eo];refine⟨b,?_⟩;generalize decide (c.1≥0)=A;generalize decide (c.2.1≥10)=B;generalize decide (c.2.1≤14)=C;generalize decide (c.2.1≥1)=D;generalize decide (c.1= -1)=E;generalize decide (c.1<r.1)=F;generalize decide (c.2.1=9)=G;generalize s.ov=o;cases A<;>cases B<;>cases C<;>cases D<;>cases E<;>cases F<;>cases G<;>cases b<;>cases o<;>rfl
theorem yHh {k}(hk:10≤k)(r:qD)(s:zR)(c:gL):∃e,uA k r s.st c=some e∧
  (e=0→((10≤c.2.1∧c.2.1≤14∧c.1= -1)∨(1≤c.2.1∧c.2.1≤9∧0≤c.1∧c.1<r.1))∧(s.ov=true→c.2.1=9)):=by
 obtain⟨b,hb⟩:=vRk hk r s c;refine⟨_,hb,fun e=>?_⟩;have:=vO0 e;grind
def yB (f:wI):AC:=[f.2.1,f.2.2.1,f.2.2.2.1,f.2.2.2.2.1,f.2.2.2.2.2.1,f.2.2.2.2.2.2]
theorem yRv {k:Nat}{s:AC}:∀(n i:Nat),s.length≤6→l9 k n s (s.length:Int) (i:Int)=some (.inl ())→∀j,i≤j→j<s.length→s.getD j 0=0
 |0,i,_,h,_,_,_=>by cases h
 |n+1,i,h6,h,j,h1,h2=>by
  have h:lg k (l9 k n) s (s.length:Int) (i:Int)=some (.inl ()):=h;unfold lg at h;have hi:i<s.length:=by omega
  rw[aa (show(i:Int)<s.length by omega),qB,aa hi,aq] at h;simp only[aj] at h;cases hz:decide (s.getD i 0=0) with
  |false=>rw[hz] at h;cases h
  |true=>
   rw[hz] at h;simp only[aA,ak] at h;rw[qE hi (by omega)] at h;by_cases e:j=i
   ·subst e;exact ID hz
   ·exact yRv n (i+1) h6 h j (by omega) h2
theorem OI {k:Nat}{f:wI}(h:j5 k f=some true):0≤yC f.1∧∀j,(yC f.1).toNat≤j→j<6→(yB f).getD j 0=0:=by
 unfold j5 at h;rw[IE,ae] at h;have hm:=AK f.1;by_cases h0:yC f.1<0
 ·rw[aa h0] at h;cases h
 ·rw[ab h0,aa (show(0:Int)≤yC f.1 by omega),aa hm] at h;simp only[ak,Bool.and_self,aj] at h;refine⟨by omega,fun j h1 h2=>?_⟩;have hs:qR [f.2.1,f.2.2.1,f.2.2.2.1,f.2.2.2.2.1,f.2.2.2.2.2.1,f.2.2.2.2.2.2] (yC f.1).toNat (6-(yC f.1).toNat)=(yB f).drop (yC f.1).toNat:=by
   unfold qR;show List.take _ ((yB f).drop _)=_;exact List.take_of_length_le (by rw[List.length_drop];show 6-_≤_;omega)
  rw[hs] at h;have hl:((yB f).drop (yC f.1).toNat).length=6-(yC f.1).toNat:=by rw[List.length_drop];rfl
  cases hz:l9 k k ((yB f).drop (yC f.1).toNat) (((yB f).drop (yC f.1).toNat).length:Int) 0 with
  |none=>rw[hz] at h;cases h
  |some z=>
   rw[hz] at h;cases z with
   |inr b=>
    exfalso;have key:∀(n i:Nat) (b:Bool),l9 k n ((yB f).drop (yC f.1).toNat) (((yB f).drop (yC f.1).toNat).length:Int) (i:Int)=some (.inr b)→i≤6→b=false:=by
     intro n
     induction n with
     |zero=>intro i b h;cases h
     |succ n ih=>
      intro i b h h6;have h:lg k (l9 k n) _ _ _=some (.inr b):=h;unfold lg at h;by_cases hi:i<((yB f).drop (yC f.1).toNat).length
      ·rw[aa (by omega),qB,aa hi] at h;simp only[aj] at h;cases hz:decide (((yB f).drop (yC f.1).toNat).getD (i:Int).toNat 0=0) with
       |false=>rw[hz] at h;cases h;rfl
       |true=>
        rw[hz] at h;simp only[aA,ak] at h;rw[qE hi (by omega)] at h;exact ih (i+1) b h (by omega)
      ·rw[ab (by omega)] at h;cases h
    have:=key k 0 b hz (by omega);subst this;cases h
   |inl u=>
    have:=yRv (k:=k) k 0 (by omega) hz (j-(yC f.1).toNat) (Nat.zero_le _) (by omega);rw[List.getD_eq_getElem?_getD,List.getElem?_drop] at this;rw[List.getD_eq_getElem?_getD,←this]
    congr 2
    omega
theorem vF8 {k:Nat}(hk:1000≤k){w:Int}{f:wI}(hi:j5 k f=some true)(hw:-9223372036854775808≤w∧w<9223372036854775808)(hf:jx (yB f)):
  ∃b,OJ k (w,f)=some b∧sw k b=some ((w,f),0)∧b.length≤57:=by
 obtain⟨h0,hz⟩:=OI hi;have hm:=AK f.1;have wu:0≤f.1∧f.1<24:=by
  unfold yC at h0;split at h0
  ·assumption
  ·omega
 obtain⟨n,hn⟩:∃n:Nat,yC f.1=n:=⟨(yC f.1).toNat,by omega⟩;have dW:qR [f.2.1,f.2.2.1,f.2.2.2.1,f.2.2.2.2.1,f.2.2.2.2.2.1,f.2.2.2.2.2.2] 0 (n-0)=(yB f).take n:=by
  unfold qR;show List.take (n-0) ((yB f).drop 0)=_;rw[List.drop_zero,Nat.sub_zero]
 have xC:((yB f).take n).length=n:=by rw[List.length_take];show min n 6=n;omega
 have bP:jx ((yB f).take n):=fun x hx=>hf x (List.mem_of_mem_take hx)
 have pF:=mM ((yB f).take n);have Mq:=mM [w];refine⟨yA w++([IntKind.wrap .u8 f.1]++yD ((yB f).take n)),?_,?_,?_⟩
 ·unfold OJ VZ;dsimp only;rw[hi];simp only[ae,aA,ak];rw[IE,hn];simp only[ae];rw[aa (show(0:Int)≤(n:Int) by omega),aa (show(n:Int)≤6 by omega),aq,dW];simp only[Bool.and_self,aj];rw[IF (by omega) _ (by omega) (by omega)];simp only[ae];rw[qJ (by omega) (by omega)];simp only[aj,ae];rw[ab (by rw[List.length_append];simp;omega)];simp only[ak];rw[IF (by omega) [w] (by simp) (by simp;omega)];simp only[ae];simp only[List.length_singleton] at Mq;rw[qJ (by rw[List.length_append,List.length_singleton];omega) (by rw[List.length_append,List.length_singleton];omega)];simp only[aj];rw[show yD [w]=yA w by simp[yD]]
 ·unfold sw;have hlen:(yA w++([IntKind.wrap .u8 f.1]++yD ((yB f).take n))).length=9+8*n:=by
   rw[List.length_append,List.length_append,pF,xC];show 8+(1+8*n)=_;omega
  have ht:List.take 8 (yA w++([IntKind.wrap .u8 f.1]++yD ((yB f).take n)))=yA w:=rfl;have hd:List.drop 8 (yA w++([IntKind.wrap .u8 f.1]++yD ((yB f).take n)))=[IntKind.wrap .u8 f.1]++yD ((yB f).take n):=rfl;have mE:([IntKind.wrap .u8 f.1]++yD ((yB f).take n)).length=1+8*n:=by rw[List.length_append,pF,xC];rfl
  have V0:IntKind.wrap .u8 f.1=f.1:=by rw[IH];omega
  have V1:zA f.1=f.1:=zN (by omega) (by omega);have J7:mL ([IntKind.wrap .u8 f.1]++yD ((yB f).take n))=(f,0):=by
   unfold mL;have e1:List.drop 1 ([IntKind.wrap .u8 f.1]++yD ((yB f).take n))=yD ((yB f).take n):=rfl;have e2:([IntKind.wrap .u8 f.1]++yD ((yB f).take n)).getD 0 0=f.1:=V0;rw[if_neg (by simp),e1,e2,V1,Ug bP];simp only[];rw[if_neg (fun h=>h.elim (fun e=>e rfl) fun e=>e (by rw[xC,hn]))];have g:∀j,j<6→((yB f).take n).getD j 0=(yB f).getD j 0:=fun j hj=>by
    by_cases h:j<n
    ·rw[List.getD_eq_getElem?_getD,List.getD_eq_getElem?_getD,List.getElem?_take_of_lt h]
    ·rw[hz j (by omega) hj,List.getD_eq_getElem?_getD,List.getElem?_eq_none (by omega)];rfl
   rw[g 0 (by omega),g 1 (by omega),g 2 (by omega),g 3 (by omega),g 4 (by omega),g 5 (by omega)];rfl
  rw[ab (by omega),aa (by omega),ht,Uh (by omega) hw,hd,yN3 (by omega) (by omega) (by omega),J7];simp only[ak,aj,ae,decide_true,aA,List.getD_cons_zero];rfl
 ·rw[List.length_append,List.length_append,pF,xC];show 8+(1+8*n)≤57;omega
theorem vYu {k:Nat}(hk:10≤k){f:wI}(h0:0≤yC f.1)(hz:∀j,(yC f.1).toNat≤j→j<6→(yB f).getD j 0=0):j5 k f=some true:=by
 have hm:=AK f.1;unfold j5;rw[IE,ae,ab (by omega),aa (show(0:Int)≤yC f.1 by omega),aa hm];simp only[ak,Bool.and_self,aj];have hs:qR [f.2.1,f.2.2.1,f.2.2.2.1,f.2.2.2.2.1,f.2.2.2.2.2.1,f.2.2.2.2.2.2] (yC f.1).toNat (6-(yC f.1).toNat)=(yB f).drop (yC f.1).toNat:=by
  unfold qR;show List.take _ ((yB f).drop _)=_;exact List.take_of_length_le (by rw[List.length_drop];show 6-_≤_;omega)
 rw[hs];have hl:((yB f).drop (yC f.1).toNat).length=6-(yC f.1).toNat:=by rw[List.length_drop];rfl
 have hg:∀i,i<((yB f).drop (yC f.1).toNat).length→((yB f).drop (yC f.1).toNat).getD i 0=0:=fun i hi=>by
  have:=hz ((yC f.1).toNat+i) (by omega) (by omega);rw[List.getD_eq_getElem?_getD] at this;rw[List.getD_eq_getElem?_getD,List.getElem?_drop];exact this
 generalize (yB f).drop (yC f.1).toNat=s at hl hg⊢;have := lT (L := fun n i => l9 k n s (s.length : Int) i) (N := s.length) (fun _ => true) (.inl ()) (.inr false) (fun n=>by
  show lg k _ s (s.length:Int) (s.length:Int)=_;unfold lg;rw[ab (Int.lt_irrefl _)];rfl) (fun n i hi=>by
  show lg k _ s (s.length:Int) (i:Int)=_;unfold lg;rw[aa (show(i:Int)<s.length by omega),qB,aa hi,aq,hg i hi,qE hi (by omega)];rfl) (n:=k) (by omega)
 rw[show qF (fun _=>true) s.length 0=true from gg.2 fun _ _=>rfl] at this;exact(congrArg (fun z=>Option.bind z _) this).trans rfl
theorem ySx:∀(n:Nat) (b:AC),jx (w7 n b)
 |0,_=>fun x hx=>absurd hx List.not_mem_nil
 |n+1,b=>fun x hx=>by
  have hx:x∈Dv (b.take 8)::w7 n (b.drop 8):=hx;rcases List.mem_cons.1 hx with rfl|hx
  ·unfold Dv;exact⟨T9 _,vSy _⟩
  ·exact ySx n _ x hx
theorem vJm {k:Nat}(hk:10≤k){b:AC}(h:(mL b).2=0):j5 k (mL b).1=some true∧jx (yB (mL b).1):=by
 unfold mL at h⊢;by_cases h1:b=[]
 ·rw[if_pos h1] at h;cases h
 ·rw[if_neg h1] at h⊢;by_cases h2:(ij (b.drop 1)).2≠0∨((ij (b.drop 1)).1.length:Int)≠yC (zA (b.getD 0 0))
  ·rw[if_pos h2] at h;cases h
  ·rw[if_neg h2];have h3:((ij (b.drop 1)).1.length:Int)=yC (zA (b.getD 0 0)):=Decidable.byContradiction fun e=>h2 (.inr e)
   have h4:jx (ij (b.drop 1)).1:=by
    unfold ij;split
    ·exact ySx _ _
    ·exact fun x hx=>absurd hx List.not_mem_nil
   generalize (ij (b.drop 1)).1=l at h3 h4;have hg:∀j,j<6→(yB (zA (b.getD 0 0),l.getD 0 0,l.getD 1 0,l.getD 2 0,l.getD 3 0,l.getD 4 0,l.getD 5 0)).getD j 0=l.getD j 0:=fun j hj=>by
    have:j=0∨j=1∨j=2∨j=3∨j=4∨j=5:=by omega
    rcases this with rfl|rfl|rfl|rfl|rfl|rfl<;>rfl
   refine⟨vYu hk (by show 0≤yC (zA (b.getD 0 0));omega) (fun j h5 h6=>?_),fun x hx=>?_⟩
   ·have h5:(yC (zA (b.getD 0 0))).toNat≤j:=h5;rw[hg j h6,List.getD_eq_getElem?_getD,List.getElem?_eq_none (by omega)];rfl
   ·obtain⟨j,hj,rfl⟩:=List.mem_iff_getElem.1 hx;have hj6:j<6:=hj;have:=hg j hj6;rw[List.getD_eq_getElem?_getD,List.getElem?_eq_getElem hj] at this;have:(yB (zA (b.getD 0 0),l.getD 0 0,l.getD 1 0,l.getD 2 0,l.getD 3 0,l.getD 4 0,l.getD 5 0))[j]=l.getD j 0:=this;show-9223372036854775808≤(yB (zA (b.getD 0 0),l.getD 0 0,l.getD 1 0,l.getD 2 0,l.getD 3 0,l.getD 4 0,l.getD 5 0))[j]∧(yB (zA (b.getD 0 0),l.getD 0 0,l.getD 1 0,l.getD 2 0,l.getD 3 0,l.getD 4 0,l.getD 5 0))[j]<9223372036854775808;rw[this];by_cases rG:j<l.length
    ·rw[List.getD_eq_getElem?_getD,List.getElem?_eq_getElem rG];exact h4 _ (List.getElem_mem rG)
    ·rw[List.getD_eq_getElem?_getD,List.getElem?_eq_none (by omega)];show(-9223372036854775808:Int)≤0∧(0:Int)<9223372036854775808;omega
theorem vSq {k}(hk:10≤k)(f:zC):∃b,sA k f=some b∧(b=true→0≤yC f.1):=by
 have key:∀(c n i:Nat),i+c=6→c<n→∀x:Int,∃z,xD k n x (i:Int) f=some z∧(z=.inl x∨z=.inr false):=by
  intro c
  induction c with
  |zero=>
   intro n i h1 h2 x;obtain⟨n,rfl⟩:∃m,n=m+1:=⟨n-1,by omega⟩;obtain rfl:i=6:=by omega
   exact⟨_,rfl,.inl rfl⟩
  |succ c ih=>
   intro n i h1 h2 x;obtain⟨n,rfl⟩:∃m,n=m+1:=⟨n-1,by omega⟩;obtain⟨z,g1,g2⟩:=ih n (i+1) (by omega) (by omega) x;have st:∀v:Int,∃z',(bif !decide (v=0) then some (.inr false) else xD k n x ((i+1:Nat):Int) f)=some z'∧(z'=.inl x∨z'=.inr false):=by grind
   have:i=0∨i=1∨i=2∨i=3∨i=4∨i=5:=by omega
   rcases this with rfl|rfl|rfl|rfl|rfl|rfl
   ·exact st f.2.1
   ·exact st f.2.2.1
   ·exact st f.2.2.2.1
   ·exact st f.2.2.2.2.1
   ·exact st f.2.2.2.2.2.1
   ·exact st f.2.2.2.2.2.2
 have hm:=AK f.1;have e:wC false (yC f.1) 0=(((yC f.1).toNat:Nat):Int):=by
  grind
 obtain⟨z,g1,g2⟩:=key (6-(yC f.1).toNat) k (yC f.1).toNat (by omega) (by omega) (yC f.1);unfold sA;rw[Ue,ae,e,g1,ae];rcases g2 with rfl|rfl
 all_goals simp
structure kA (k:Nat) (l:AC):Prop where
 n:l.length<k
 m:l.length≤100000
 w:jx l
theorem OK x l b:qY (x::l)++b=wL x++(qY l++b):=by simp[qY]
theorem J8 {k}(hk:9≤k){l}(h:kA k l){b}(hb:b.length≤1000000):xE k (wL l++b,false)=some (l,b,false):=by
 unfold xE;rw[Ui hk h.n h.m h.w b hb];rfl
theorem V2 {k}(hk:9≤k){l}(h:kA k l){n}(hn:l.length=n){b}(hb:b.length≤1000000):FM k (wL l++b,false) (n:Int)=some (l,b,false):=by
 unfold FM;rw[J8 hk h hb];simp_all
theorem yM5 {k}(hk:9≤k){b}:∀l n r,(∀x∈l,kA k x)→l.length<n→(qY l++b).length≤1000000→r.length+l.length≤1000000→J9 k n (l.length:Int) (qY l++b,false) r=some ((b,false),r++l)
 |[],n,r,_,hn,_,_=>by
  obtain⟨n,rfl⟩:∃m,n=m+1:=⟨n-1,by omega⟩;rw[List.append_nil];rfl
 |x::l,n,r,h,hn,hb,hr=>by
  obtain⟨n,rfl⟩:∃m,n=m+1:=⟨n-1,by omega⟩;rw[OK,List.length_append] at hb;simp  at hn hr;have ih:=yM5 hk (b:=b) l n (r++[x]) (by grind) (by omega) (by omega) (by grind);rw[OK];show OM k (J9 k n) ((l.length+1:Nat):Int) (wL x++(qY l++b),false) r=_;unfold OM;rw[J8 hk (by grind) (by omega)];rw[qJ (by omega) (by omega),show zA (((l.length+1:Nat):Int)-1)=(l.length:Int) by rw[zN (by omega) (by omega)];omega];simp_all
theorem V3 {k}(hk:9≤k){l}(h:∀x∈l,kA k x)(hn:l.length<k)(hm:l.length≤1000000){b}(hb:(qY l++b).length≤1000000):FN k (qY l++b,false) (l.length:Int)=some (l,b,false):=by
 unfold FN;rw[yM5 hk l k [] h hn hb (by simp_all)];rfl
theorem yFp {k}(hk:9≤k){b s0 r2}{b0 b3:Int×Int×Bool}:∀l n (r:List (Int×Int×Int)),(∀x∈l,kA k (jw x))→l.length<n→(qY (l.map jw)++b).length≤1000000→r.length+l.length≤1000000→
  FO k n s0 (l.length:Int) b0 (qY (l.map jw)++b,false) r2 b3 r=some (s0,b0,(b,false),r2,b3,r++l)
 |[],n,r,_,hn,_,_=>by
  obtain⟨n,rfl⟩:∃m,n=m+1:=⟨n-1,by omega⟩;rw[List.append_nil];rfl
 |x::l,n,r,h,hn,hb,hr=>by
  obtain⟨n,rfl⟩:∃m,n=m+1:=⟨n-1,by omega⟩;rw[List.map_cons,OK,List.length_append] at hb;simp  at hn hr;have ih:=yFp hk (b:=b) (s0:=s0) (r2:=r2) (b0:=b0) (b3:=b3) l n (r++[x]) (by grind) (by omega) (by omega) (by grind);show ON k (FO k n) s0 ((l.length+1:Nat):Int) b0 (wL (jw x)++(qY (l.map jw)++b),false) r2 b3 r=_;unfold ON;rw[aa (by omega)];have hj:=V2 hk (h x (by simp)) (n:=3) rfl (b:=qY (l.map jw)++b) (by omega);rw[show((3:Nat):Int)=3 from rfl] at hj;rw[hj];rw[qJ (by omega) (by omega),show zA (((l.length+1:Nat):Int)-1)=(l.length:Int) by rw[zN (by omega) (by omega)];omega];show FO k n s0 (l.length:Int) b0 (qY (l.map jw)++b,false) r2 b3 (r++[x])=_;simp_all
theorem yS9 {k}(hk:9≤k){b s0}{b0 b2:Int×Int×Bool}{r3:List (Int×Int×Int)}{r4 r6 r8 r5 r7}:∀l n (r:List (Int×Int×Int×Int×Int×Int×Int)),(∀x∈l,kA k (gi x))→l.length<n→(qY (l.map gi)++b).length≤1000000→r.length+l.length≤1000000→
  FP k n s0 (l.length:Int) b0 (qY (l.map gi)++b,false) b2 r3 r4 r5 r6 r7 r8 r=some (s0,b0,(b,false),b2,r3,r4,r5,r6,r7,r8,r++l)
 |[],n,r,_,hn,_,_=>by
  obtain⟨n,rfl⟩:∃m,n=m+1:=⟨n-1,by omega⟩;rw[List.append_nil];rfl
 |x::l,n,r,h,hn,hb,hr=>by
  obtain⟨n,rfl⟩:∃m,n=m+1:=⟨n-1,by omega⟩;rw[List.map_cons,OK,List.length_append] at hb;simp only[List.length_cons] at hn hr;have ih:=yS9 hk (b:=b) (s0:=s0) (b0:=b0) (b2:=b2) (r3:=r3) (r4:=r4) (r5:=r5) (r6:=r6) (r7:=r7) (r8:=r8) l n (r++[x]) (by grind) (by omega) (by omega) (by grind);show OO k (FP k n) s0 ((l.length+1:Nat):Int) b0 (wL (gi x)++(qY (l.map gi)++b),false) b2 r3 r4 r5 r6 r7 r8 r=_;unfold OO;rw[aa (by omega)];have hj:=V2 hk (h x (by simp)) (n:=7) rfl (b:=qY (l.map gi)++b) (by omega);rw[show((7:Nat):Int)=7 from rfl] at hj;rw[hj];simp only[ae];rw[qJ (by omega) (by omega),show zA (((l.length+1:Nat):Int)-1)=(l.length:Int) by rw[zN (by omega) (by omega)];omega];show FP k n s0 (l.length:Int) b0 (qY (l.map gi)++b,false) b2 r3 r4 r5 r6 r7 r8 (r++[x])=_;simp_all
theorem vUd s:qY (gj s)=wL [s.1,s.2.2.2.2.2.2.2.2.2.1,bif s.2.2.2.2.2.2.2.2.2.2 then 1 else 0,(s.2.1.length:Int),(s.2.2.1.length:Int),(s.2.2.2.1.length:Int),(s.2.2.2.2.1.length:Int),(s.2.2.2.2.2.2.1.length:Int),(s.2.2.2.2.2.2.2.1.length:Int)]++
  (qY (s.2.1.map jw)++(qY s.2.2.1++(wL s.2.2.2.1++(qY s.2.2.2.2.1++(wL s.2.2.2.2.2.1++(qY s.2.2.2.2.2.2.1++(qY (s.2.2.2.2.2.2.2.1.map gi)++(wL s.2.2.2.2.2.2.2.2.1++[])))))))):=by
 simp[gj,qY]
theorem vWc {k}(hk:1000≤k){s}(hf:jZ (gj s))(hg:∀x∈gj s,kA k x)(hb:(qY (gj s)).length≤1000000):Ka k (qY (gj s))=some (s,true):=by
 have hsb:=vA7 hk hf;have hn:=hf.n;have e:=vUd s;obtain⟨S,hS⟩:∃S,qY (gj s)=S:=⟨_,rfl⟩;rw[hS] at hsb hb e⊢;obtain⟨t,ac,bi,mu,po,pr,ho,pa,ids,to,ov⟩:=s;have bL : ∀ x, (x = [t, to, bif ov then 1 else 0, (ac.length : Int), (bi.length : Int), (mu.length : Int), (po.length : Int), (ho.length : Int), (pa.length : Int)] ∨ x ∈ ac.map jw ∨ x ∈ bi ∨ x = mu ∨ x ∈ po ∨ x = pr ∨ x ∈ ho ∨ x ∈ pa.map gi ∨ x = ids) → kA k x := fun x hx => hg x (by
  simp only[gj,List.mem_append,List.mem_singleton];rcases hx with h|h|h|h|h|h|h|h|h<;>simp[h])
 simp only[gj,List.length_append,List.length_cons,List.length_nil,List.length_map] at hn;dsimp only at e;have l1:=congrArg List.length e;simp only[List.length_append,mN] at l1;have k9:9≤k:=by omega
 unfold Ka;rw[e];have j9:=V2 k9 (bL _ (.inl rfl)) (n:=9) rfl (b:=qY (ac.map jw)++(qY bi++(wL mu++(qY po++(wL pr++(qY ho++(qY (pa.map gi)++(wL ids++[])))))))) (by simp only[List.length_append,mN];omega);rw[show((9:Nat):Int)=9 from rfl] at j9;rw[j9,←e];simp only[ae];have a0:=yFp k9 (s0:=S) (r2:=[t,to,bif ov then 1 else 0,(ac.length:Int),(bi.length:Int),(mu.length:Int),(po.length:Int),(ho.length:Int),(pa.length:Int)]) (b0:=(0,0,false)) (b3:=(t,to,decide ((bif ov then(1:Int) else 0)=1))) (b:=qY bi++(wL mu++(qY po++(wL pr++(qY ho++(qY (pa.map gi)++(wL ids++[]))))))) ac k [] (fun x hx=>bL _ (.inr (.inl (List.mem_map_of_mem hx)))) (by omega) (by simp only[List.length_append,mN];omega) (by simp;omega);refine(congrArg (fun z=>Option.bind z _) a0).trans ?_;simp only[ae];have q1:=V3 k9 (l:=bi) (fun x hx=>bL _ (.inr (.inr (.inl hx)))) (by omega) (by omega) (b:=wL mu++(qY po++(wL pr++(qY ho++(qY (pa.map gi)++(wL ids++[])))))) (by simp only[List.length_append,mN];omega);refine(congrArg (fun z=>Option.bind z _) q1).trans ?_;simp only[ae];rw[J8 k9 (bL mu (.inr (.inr (.inr (.inl rfl))))) (by simp only[List.length_append,mN];omega)];simp only[ae];have q2:=V3 k9 (l:=po) (fun x hx=>bL _ (.inr (.inr (.inr (.inr (.inl hx)))))) (by omega) (by omega) (b:=wL pr++(qY ho++(qY (pa.map gi)++(wL ids++[])))) (by simp only[List.length_append,mN];omega);refine(congrArg (fun z=>Option.bind z _) q2).trans ?_;simp only[ae];rw[J8 k9 (bL pr (.inr (.inr (.inr (.inr (.inr (.inl rfl))))))) (by simp only[List.length_append,mN];omega)];simp only[ae];have q3:=V3 k9 (l:=ho) (fun x hx=>bL _ (.inr (.inr (.inr (.inr (.inr (.inr (.inl hx)))))))) (by omega) (by omega) (b:=qY (pa.map gi)++(wL ids++[])) (by simp only[List.length_append,mN];omega);refine(congrArg (fun z=>Option.bind z _) q3).trans ?_;simp only[ae];have p1:=yS9 k9 (s0:=S) (b0:=(0,0,false)) (b2:=(t,to,decide ((bif ov then(1:Int) else 0)=1))) (r3:=[]++ac) (r4:=bi) (r5:=mu) (r6:=po) (r7:=pr) (r8:=ho) (b:=wL ids++[]) pa k [] (fun x hx=>bL _ (.inr (.inr (.inr (.inr (.inr (.inr (.inr (.inl (List.mem_map_of_mem hx)))))))))) (by omega) (by simp only[List.length_append,mN];omega) (by simp;omega);refine(congrArg (fun z=>Option.bind z _) p1).trans ?_;simp only[ae];rw[J8 k9 (bL ids (.inr (.inr (.inr (.inr (.inr (.inr (.inr (.inr rfl))))))))) (by simp)];simp only[ae,ak,List.nil_append];have eov:decide ((bif ov then(1:Int) else 0)=1)=ov:=by cases ov<;>rfl
 rw[eov];refine(congrArg (fun z=>Option.bind z _) hsb).trans ?_;simp only[ae];unfold V4;rw[show yq S S=true from by simp[yq]];rfl
theorem vJy n (i:Nat)(hi:i≤7):IntKind.wrap .u8 (shr .u64 (IntKind.wrap .u64 n) (IntKind.wrap .u64 (8*(i:Int))))=vF n i:=by
 rw[yXr n i hi];have e:∀x:Int,∀j:Nat,j≤56→shr .u64 x (j:Int)=x/2^j:=fun x j hj=>by
  unfold shr;rw[aq,Nat.min_eq_left (show j≤IntKind.bits .u64 from Nat.le_trans hj (by decide)),Int.fdiv_eq_ediv_of_nonneg _ (by grind)]
 have w:IntKind.wrap .u64 (8*(i:Int))=((8*i:Nat):Int):=by
  rw[DC];omega
 rw[w,e _ _ (by omega),DC,IH];have:i=0∨i=1∨i=2∨i=3∨i=4∨i=5∨i=6∨i=7:=by omega
 rcases this with rfl|rfl|rfl|rfl|rfl|rfl|rfl|rfl<;>(omega)<;>omega
theorem vP7 {k l}(j:Nat)(hj:j<l.length)(hl:l.length≤1000000):∀c n,c<n→c≤8→∀r:AC,r.length+c≤100000000→Kb k n l (j:Int) (8*(c:Int)-8) r=some (l,(j:Int),r++(yA (l.getD j 0)).drop (8-c)):=by
 intro c
 induction c with
 |zero=>
  intro n h1 _ r hr;obtain⟨n,rfl⟩:∃m,n=m+1:=⟨n-1,by omega⟩;rw[show(yA (l.getD j 0)).drop (8-0)=[] from rfl,List.append_nil];rfl
 |succ c ih=>
  intro n h1 h2 r hr;obtain⟨n,rfl⟩:∃m,n=m+1:=⟨n-1,by omega⟩;have g:=ih n (by omega) (by omega) (r++[vF (l.getD j 0) c]) (by grind);show OP k (Kb k n) l _ _ r=_;unfold OP;have e8:8*((c+1:Nat):Int)-8=8*(c:Int):=by omega
  have w:IntKind.wrap .u64 (8*(c:Int))=8*(c:Int):=by rw[DC];omega
  rw[e8,aa (by omega),aj,fl (by omega) (by omega),aj];rw[show decide (IntKind.wrap .u64 (8*(c:Int))<0)=false from by grind,bQ,aj,qJ (by omega) (by omega),aj,aq];rw[vJy _ _ (by omega),show zA (8*(c:Int)-8)=8*(c:Int)-8 by rw[zN (by omega) (by omega)],g,List.append_assoc];have:c=0∨c=1∨c=2∨c=3∨c=4∨c=5∨c=6∨c=7:=by omega
  rcases this with rfl|rfl|rfl|rfl|rfl|rfl|rfl|rfl<;>rfl
theorem vDv {k}(hk:9≤k){l}(hl:l.length≤1000000)(tq:l.length<k):OQ k l=some (yD l):=by
 have all:∀(c n j:Nat),j+c=l.length→c<n→Bl k n l (j:Int) (yD (l.take j))=some (yD l):=by
  intro c
  induction c with
  |zero=>
   intro n j h1 h2;obtain⟨n,rfl⟩:∃m,n=m+1:=⟨n-1,by omega⟩;show FQ k (Bl k n) l _ _=_;unfold FQ;rw[ab (by omega),List.take_of_length_le (by omega)];rfl
  |succ c ih=>
   intro n j h1 h2;obtain⟨n,rfl⟩:∃m,n=m+1:=⟨n-1,by omega⟩;have hj:j<l.length:=by omega
   have g:=ih n (j+1) (by omega) (by omega);have hlen:(yD (l.take j)).length=8*j:=by rw[mM,List.length_take];omega
   have g1:=vP7 (k:=k) j hj hl 8 k (by omega) (by omega) (yD (l.take j)) (by omega);rw[show(8*((8:Nat):Int)-8)=56 from rfl] at g1;show FQ k (Bl k n) l _ _=_;unfold FQ;rw[aa (by omega),aj,g1,ae];rw[qE hj (by omega)];have e:yD (l.take (j+1))=yD (l.take j)++(yA (l.getD j 0)).drop (8-8):=by
    rw[←fH l j 0 hj];simp[yD]
   rw[e] at g;exact g
 unfold OQ;have:=all l.length k 0 (by omega) (by omega);have this:Bl k k l 0 []=some (yD l):=this;rw[this];rfl
theorem V5 x (s:Nat)(h:s≤62):shr .i64 x (s:Int)=x/2^s:=by
 have e:shr .i64 x (s:Int)=x.fdiv (2^(min (s:Int).toNat 64)):=rfl;grind
theorem sB x:shr .i64 x 16=x/65536:=V5 x 16 (by decide)
theorem yNv x:shr .i64 x 32=x/4294967296:=V5 x 32 (by decide)
theorem yOf x:shr .i64 x 48=x/281474976710656:=V5 x 48 (by decide)
theorem vGm x:shr .i64 x 0=x:=by grind
theorem uB x:yJ .i64 x 65535=x%65536:=vYl 16 (by decide) x
theorem V6 m (hm:m≤62){x y}(hx:0≤x)(hy:0≤y∧y<2^m)(hs:x*2^m+y<9223372036854775808):wG .i64 (x*2^m) y=x*2^m+y:=by
 obtain⟨a,rfl⟩:=Int.eq_ofNat_of_zero_le hx;obtain⟨b,rfl⟩:=Int.eq_ofNat_of_zero_le hy.1;have hp:(2:Int)^m=((2^m:Nat):Int):=by simp
 rw[hp] at hs hy⊢;have e1:(a:Int)*((2^m:Nat):Int)=((a*2^m:Nat):Int):=by simp
 rw[e1] at hs⊢;have hb:b<2^m:=by omega
 unfold wG sX;have Kc:IntKind.i64.bits=64:=rfl;have e2:(BitVec.ofInt IntKind.i64.bits ((a*2^m:Nat):Int)|||BitVec.ofInt IntKind.i64.bits (b:Int)).toNat=a*2^m+b:=by
  rw[BitVec.toNat_or,BitVec.ofInt_natCast,BitVec.ofInt_natCast,BitVec.toNat_ofNat,BitVec.toNat_ofNat,Kc,Nat.mod_eq_of_lt (by omega),Nat.mod_eq_of_lt (by omega)];have:=Nat.shiftLeft_add_eq_or_of_lt hb a;rw[Nat.shiftLeft_eq] at this;exact this.symm
 rw[e2];exact zN (by omega) (by omega)
def V9 (l0 l1 l2 l3 l4 l5 l6 l7 l8:Int):Int:=l0+65536*(l1+65536*(l2+65536*(l3+65536*(l4+65536*(l5+65536*(l6+65536*(l7+65536*l8)))))))
theorem vFy (l0 l1 l2 l3 l4 l5 l6 l7 l8:Int){c1 c2 c3 c4 c5 c6 c7 c8:Int}(h1:c1=zA (l1+shr .i64 l0 16))(h2:c2=zA (l2+shr .i64 c1 16))(h3:c3=zA (l3+shr .i64 c2 16))(h4:c4=zA (l4+shr .i64 c3 16))(h5:c5=zA (l5+shr .i64 c4 16))(h6:c6=zA (l6+shr .i64 c5 16))(h7:c7=zA (l7+shr .i64 c6 16))(h8:c8=zA (l8+shr .i64 c7 16)):
  FR 1000 [l0,l1,l2,l3,l4,l5,l6,l7,l8]=some [yJ .i64 l0 65535,yJ .i64 c1 65535,yJ .i64 c2 65535,yJ .i64 c3 65535,yJ .i64 c4 65535,yJ .i64 c5 65535,yJ .i64 c6 65535,yJ .i64 c7 65535,c8]:=by
 subst h8;subst h7;subst h6;subst h5;subst h4;subst h3;subst h2;subst h1
 kernel_rfl
theorem ySz {l0 l1 l2 l3 l4 l5 l6 l7 l8:Int}(g0:0≤l0∧l0≤1099511627776)(g1:0≤l1∧l1≤1099511627776)(g2:0≤l2∧l2≤1099511627776)(g3:0≤l3∧l3≤1099511627776)(g4:0≤l4∧l4≤1099511627776)(g5:0≤l5∧l5≤1099511627776)(g6:0≤l6∧l6≤1099511627776)(g7:0≤l7∧l7≤1099511627776)(g8:0≤l8∧l8≤1099511627776):∃d0 d1 d2 d3 d4 d5 d6 d7 d8,
  FR 1000 [l0,l1,l2,l3,l4,l5,l6,l7,l8]=some [d0,d1,d2,d3,d4,d5,d6,d7,d8]∧V9 d0 d1 d2 d3 d4 d5 d6 d7 d8=V9 l0 l1 l2 l3 l4 l5 l6 l7 l8∧(0≤d0∧d0<65536)∧(0≤d1∧d1<65536)∧(0≤d2∧d2<65536)∧(0≤d3∧d3<65536)∧(0≤d4∧d4<65536)∧(0≤d5∧d5<65536)∧(0≤d6∧d6<65536)∧(0≤d7∧d7<65536)∧0≤d8:=by
 obtain⟨c1,nF⟩:∃c,c=l1+l0/65536:=⟨_,rfl⟩;have b1:0≤c1∧c1≤2199023255552:=by omega
 have h1:c1=zA (l1+shr .i64 l0 16):=by rw[sB,←nF,zN (by omega) (by omega)]
 obtain⟨c2,cL⟩:∃c,c=l2+c1/65536:=⟨_,rfl⟩;have b2:0≤c2∧c2≤2199023255552:=by omega
 have h2:c2=zA (l2+shr .i64 c1 16):=by rw[sB,←cL,zN (by omega) (by omega)]
 obtain⟨c3,dH⟩:∃c,c=l3+c2/65536:=⟨_,rfl⟩;have b3:0≤c3∧c3≤2199023255552:=by omega
 have h3:c3=zA (l3+shr .i64 c2 16):=by rw[sB,←dH,zN (by omega) (by omega)]
 obtain⟨c4,gD⟩:∃c,c=l4+c3/65536:=⟨_,rfl⟩;have b4:0≤c4∧c4≤2199023255552:=by omega
 have h4:c4=zA (l4+shr .i64 c3 16):=by rw[sB,←gD,zN (by omega) (by omega)]
 obtain⟨c5,mI⟩:∃c,c=l5+c4/65536:=⟨_,rfl⟩;have b5:0≤c5∧c5≤2199023255552:=by omega
 have h5:c5=zA (l5+shr .i64 c4 16):=by rw[sB,←mI,zN (by omega) (by omega)]
 obtain⟨c6,Dl⟩:∃c,c=l6+c5/65536:=⟨_,rfl⟩;have b6:0≤c6∧c6≤2199023255552:=by omega
 have h6:c6=zA (l6+shr .i64 c5 16):=by rw[sB,←Dl,zN (by omega) (by omega)]
 obtain⟨c7,Dm⟩:∃c,c=l7+c6/65536:=⟨_,rfl⟩;have b7:0≤c7∧c7≤2199023255552:=by omega
 have h7:c7=zA (l7+shr .i64 c6 16):=by rw[sB,←Dm,zN (by omega) (by omega)]
 obtain⟨c8,hc8⟩:∃c,c=l8+c7/65536:=⟨_,rfl⟩;have b8:0≤c8∧c8≤2199023255552:=by omega
 have h8:c8=zA (l8+shr .i64 c7 16):=by rw[sB,←hc8,zN (by omega) (by omega)]
 have run:=vFy l0 l1 l2 l3 l4 l5 l6 l7 l8 h1 h2 h3 h4 h5 h6 h7 h8;simp only[uB] at run;refine⟨_,_,_,_,_,_,_,_,_,run,?_,⟨Int.emod_nonneg _ (by decide),Int.emod_lt_of_pos _ (by decide)⟩,⟨Int.emod_nonneg _ (by decide),Int.emod_lt_of_pos _ (by decide)⟩,⟨Int.emod_nonneg _ (by decide),Int.emod_lt_of_pos _ (by decide)⟩,⟨Int.emod_nonneg _ (by decide),Int.emod_lt_of_pos _ (by decide)⟩,⟨Int.emod_nonneg _ (by decide),Int.emod_lt_of_pos _ (by decide)⟩,⟨Int.emod_nonneg _ (by decide),Int.emod_lt_of_pos _ (by decide)⟩,⟨Int.emod_nonneg _ (by decide),Int.emod_lt_of_pos _ (by decide)⟩,⟨Int.emod_nonneg _ (by decide),Int.emod_lt_of_pos _ (by decide)⟩,b8.1⟩;unfold V9;clear run h1 h2 h3 h4 h5 h6 h7 h8;omega
theorem vYc l0 l1 l2 l3 l4 l5 l6 l7 l8 n:OR 1000 [l0,l1,l2,l3,l4,l5,l6,l7,l8] n=FR 1000 [zA (l0*n),zA (l1*n),zA (l2*n),zA (l3*n),zA (l4*n),zA (l5*n),zA (l6*n),zA (l7*n),zA (l8*n)]:=by
 have e:OT 1000 1000 n 0 [l0,l1,l2,l3,l4,l5,l6,l7,l8]=some [zA (l0*n),zA (l1*n),zA (l2*n),zA (l3*n),zA (l4*n),zA (l5*n),zA (l6*n),zA (l7*n),zA (l8*n)]:=by kernel_rfl
 unfold OR;simp_all
theorem V7 l0 l1 l2 l3 l4 l5 l6 l7 l8 n:V9 l0 l1 l2 l3 l4 l5 l6 l7 l8*n=V9 (l0*n) (l1*n) (l2*n) (l3*n) (l4*n) (l5*n) (l6*n) (l7*n) (l8*n):=by
 unfold V9;grind
theorem vXe l0 l1 l2 l3 l4 l5 l6 l7 l8 {x0 x1 x2 x3 x4 x5 x6 x7 x8 r0 r1 r2 r3 r4 r5 r6 r7 r8 r9}(h8:x8=zA (shl .i64 r9 16+l8))(h7:x7=zA (shl .i64 r8 16+l7))(h6:x6=zA (shl .i64 r7 16+l6))(h5:x5=zA (shl .i64 r6 16+l5))(h4:x4=zA (shl .i64 r5 16+l4))(h3:x3=zA (shl .i64 r4 16+l3))(h2:x2=zA (shl .i64 r3 16+l2))(h1:x1=zA (shl .i64 r2 16+l1))(h0:x0=zA (shl .i64 r1 16+l0))(h9:r9=0)(k8:r8=Int.tmod x8 10000)(k7:r7=Int.tmod x7 10000)(k6:r6=Int.tmod x6 10000)(k5:r5=Int.tmod x5 10000)(k4:r4=Int.tmod x4 10000)(k3:r3=Int.tmod x3 10000)(k2:r2=Int.tmod x2 10000)(k1:r1=Int.tmod x1 10000)(k0:r0=Int.tmod x0 10000):
  Ke 1000 1000 10000 0 8 [l0,l1,l2,l3,l4,l5,l6,l7,l8]=some [zA (Int.tdiv x0 10000),zA (Int.tdiv x1 10000),zA (Int.tdiv x2 10000),zA (Int.tdiv x3 10000),zA (Int.tdiv x4 10000),zA (Int.tdiv x5 10000),zA (Int.tdiv x6 10000),zA (Int.tdiv x7 10000),zA (Int.tdiv x8 10000)]:=by
 subst h0;subst k1;subst h1;subst k2;subst h2;subst k3;subst h3;subst k4;subst h4;subst k5;subst h5;subst k6;subst h6;subst k7;subst h7;subst k8;subst h8;subst h9
 kernel_rfl
theorem uC x:shl .i64 x 16=zA (x*65536):=rfl
theorem V8 q0 q1 q2 q3 (h : decide (q3 ≥ 32768) = false) : ((FT 1000 1000 4 [q0,q1,q2,q3,0,0,0,0,0]).bind fun z1=>
 match z1 with
 | .inl z2 => bif zB 3 z2.length then (bif decide ((z2.getD 3 0)≥32768) then some ((0:Int),false)
   else bif zB 3 z2.length then (bif zB 2 z2.length then (bif zB 1 z2.length then (bif zB 0 z2.length then some ((wG .i64 (wG .i64 (wG .i64 (shl .i64 (z2.getD 3 0) 48) (shl .i64 (z2.getD 2 0) 32)) (shl .i64 (z2.getD 1 0) 16)) (z2.getD 0 0)),true)
      else none)
     else none)
    else none)
   else none)
  else none
 |.inr z3=>some (z3.1,z3.2))=some (wG .i64 (wG .i64 (wG .i64 (shl .i64 q3 48) (shl .i64 q2 32)) (shl .i64 q1 16)) q0,true):=by
  have e:FT 1000 1000 4 [q0,q1,q2,q3,0,0,0,0,0]=some (.inl [q0,q1,q2,q3,0,0,0,0,0]):=by rfl
  rw[e];simp only[ae];have e3:([q0,q1,q2,q3,0,0,0,0,0]:AC).getD 3 0=q3:=rfl;rw[e3,h];rfl
theorem vHh {q0 q1 q2 q3}(h0:0≤q0∧q0<65536)(h1:0≤q1∧q1<65536)(h2:0≤q2∧q2<65536)(h3:0≤q3∧q3<32768):
  wG .i64 (wG .i64 (wG .i64 (shl .i64 q3 48) (shl .i64 q2 32)) (shl .i64 q1 16)) q0=q0+65536*(q1+65536*(q2+65536*q3)):=by
 have s3:shl .i64 q3 48=zA (q3*281474976710656):=rfl;have s2:shl .i64 q2 32=zA (q2*4294967296):=rfl;have s1:shl .i64 q1 16=zA (q1*65536):=rfl;rw[s3,s2,s1,zN (x:=q3*281474976710656) (by omega) (by omega),zN (x:=q2*4294967296) (by omega) (by omega),zN (x:=q1*65536) (by omega) (by omega)];have b1:=V6 48 (by decide) (x:=q3) (y:=q2*4294967296) h3.1 (by omega) (by omega);have p48:(2:Int)^48=281474976710656:=rfl;rw[p48] at b1;have b2:=V6 32 (by decide) (x:=q3*65536+q2) (y:=q1*65536) (by omega) (by omega) (by omega);have p32:(2:Int)^32=4294967296:=rfl;rw[p32] at b2;have b3:=V6 16 (by decide) (x:=(q3*65536+q2)*65536+q1) (y:=q0) (by omega) (by omega) (by omega);grind
theorem vU7 {l0 l1 l2 l3 l4 l5 l6 l7 l8}(g0:0≤l0∧l0<65536)(g1:0≤l1∧l1<65536)(g2:0≤l2∧l2<65536)(g3:0≤l3∧l3<65536)(g4:0≤l4∧l4<65536)(g5:0≤l5∧l5<65536)(g6:0≤l6∧l6<65536)(g7:0≤l7∧l7<65536)(g8:0≤l8∧l8≤0)(hV:V9 l0 l1 l2 l3 l4 l5 l6 l7 l8/10000≤1152921504606846976):OU 1000 [l0,l1,l2,l3,l4,l5,l6,l7,l8] 10000=some (V9 l0 l1 l2 l3 l4 l5 l6 l7 l8/10000,true):=by
  obtain⟨r9,h9⟩:∃r:Int,r=0:=⟨_,rfl⟩;obtain⟨x8,hx8⟩:∃x,x=r9*65536+l8:=⟨_,rfl⟩;obtain⟨r8,hr8⟩:∃r,r=x8%10000:=⟨_,rfl⟩;obtain⟨q8,hq8⟩:∃q,q=x8/10000:=⟨_,rfl⟩;have v8:x8=10000*q8+r8∧0≤r8∧r8<10000∧0≤x8∧x8<655360000:=by omega
  have h8:x8=zA (shl .i64 r9 16+l8):=by rw[uC,zN (x:=r9*65536) (by omega) (by omega),←hx8,zN (by omega) (by omega)]
  have k8:r8=Int.tmod x8 10000:=by rw[Int.tmod_eq_emod_of_nonneg (by omega)];exact hr8
  have t8:zA (Int.tdiv x8 10000)=q8:=by rw[Int.tdiv_eq_ediv_of_nonneg (by omega),←hq8,zN (by omega) (by omega)]
  obtain⟨x7,hx7⟩:∃x,x=r8*65536+l7:=⟨_,rfl⟩;obtain⟨r7,hr7⟩:∃r,r=x7%10000:=⟨_,rfl⟩;obtain⟨q7,hq7⟩:∃q,q=x7/10000:=⟨_,rfl⟩;have v7:x7=10000*q7+r7∧0≤r7∧r7<10000∧0≤x7∧x7<655360000:=by omega
  have h7:x7=zA (shl .i64 r8 16+l7):=by rw[uC,zN (x:=r8*65536) (by omega) (by omega),←hx7,zN (by omega) (by omega)]
  have k7:r7=Int.tmod x7 10000:=by rw[Int.tmod_eq_emod_of_nonneg (by omega)];exact hr7
  have t7:zA (Int.tdiv x7 10000)=q7:=by rw[Int.tdiv_eq_ediv_of_nonneg (by omega),←hq7,zN (by omega) (by omega)]
  obtain⟨x6,MV⟩:∃x,x=r7*65536+l6:=⟨_,rfl⟩;obtain⟨r6,hr6⟩:∃r,r=x6%10000:=⟨_,rfl⟩;obtain⟨q6,hq6⟩:∃q,q=x6/10000:=⟨_,rfl⟩;have v6:x6=10000*q6+r6∧0≤r6∧r6<10000∧0≤x6∧x6<655360000:=by omega
  have h6:x6=zA (shl .i64 r7 16+l6):=by rw[uC,zN (x:=r7*65536) (by omega) (by omega),←MV,zN (by omega) (by omega)]
  have k6:r6=Int.tmod x6 10000:=by rw[Int.tmod_eq_emod_of_nonneg (by omega)];exact hr6
  have t6:zA (Int.tdiv x6 10000)=q6:=by rw[Int.tdiv_eq_ediv_of_nonneg (by omega),←hq6,zN (by omega) (by omega)]
  obtain⟨x5,hx5⟩:∃x,x=r6*65536+l5:=⟨_,rfl⟩;obtain⟨r5,hr5⟩:∃r,r=x5%10000:=⟨_,rfl⟩;obtain⟨q5,hq5⟩:∃q,q=x5/10000:=⟨_,rfl⟩;have v5:x5=10000*q5+r5∧0≤r5∧r5<10000∧0≤x5∧x5<655360000:=by omega
  have h5:x5=zA (shl .i64 r6 16+l5):=by rw[uC,zN (x:=r6*65536) (by omega) (by omega),←hx5,zN (by omega) (by omega)]
  have k5:r5=Int.tmod x5 10000:=by rw[Int.tmod_eq_emod_of_nonneg (by omega)];exact hr5
  have t5:zA (Int.tdiv x5 10000)=q5:=by rw[Int.tdiv_eq_ediv_of_nonneg (by omega),←hq5,zN (by omega) (by omega)]
  obtain⟨x4,hx4⟩:∃x,x=r5*65536+l4:=⟨_,rfl⟩;obtain⟨r4,hr4⟩:∃r,r=x4%10000:=⟨_,rfl⟩;obtain⟨q4,hq4⟩:∃q,q=x4/10000:=⟨_,rfl⟩;have v4:x4=10000*q4+r4∧0≤r4∧r4<10000∧0≤x4∧x4<655360000:=by omega
  have h4:x4=zA (shl .i64 r5 16+l4):=by rw[uC,zN (x:=r5*65536) (by omega) (by omega),←hx4,zN (by omega) (by omega)]
  have k4:r4=Int.tmod x4 10000:=by rw[Int.tmod_eq_emod_of_nonneg (by omega)];exact hr4
  have t4:zA (Int.tdiv x4 10000)=q4:=by rw[Int.tdiv_eq_ediv_of_nonneg (by omega),←hq4,zN (by omega) (by omega)]
  obtain⟨x3,Wa⟩:∃x,x=r4*65536+l3:=⟨_,rfl⟩;obtain⟨r3,hr3⟩:∃r,r=x3%10000:=⟨_,rfl⟩;obtain⟨q3,hq3⟩:∃q,q=x3/10000:=⟨_,rfl⟩;have v3:x3=10000*q3+r3∧0≤r3∧r3<10000∧0≤x3∧x3<655360000:=by omega
  have h3:x3=zA (shl .i64 r4 16+l3):=by rw[uC,zN (x:=r4*65536) (by omega) (by omega),←Wa,zN (by omega) (by omega)]
  have k3:r3=Int.tmod x3 10000:=by rw[Int.tmod_eq_emod_of_nonneg (by omega)];exact hr3
  have t3:zA (Int.tdiv x3 10000)=q3:=by rw[Int.tdiv_eq_ediv_of_nonneg (by omega),←hq3,zN (by omega) (by omega)]
  obtain⟨x2,CO⟩:∃x,x=r3*65536+l2:=⟨_,rfl⟩;obtain⟨r2,rH⟩:∃r,r=x2%10000:=⟨_,rfl⟩;obtain⟨q2,hq2⟩:∃q,q=x2/10000:=⟨_,rfl⟩;have v2:x2=10000*q2+r2∧0≤r2∧r2<10000∧0≤x2∧x2<655360000:=by omega
  have h2:x2=zA (shl .i64 r3 16+l2):=by rw[uC,zN (x:=r3*65536) (by omega) (by omega),←CO,zN (by omega) (by omega)]
  have k2:r2=Int.tmod x2 10000:=by rw[Int.tmod_eq_emod_of_nonneg (by omega)];exact rH
  have t2:zA (Int.tdiv x2 10000)=q2:=by rw[Int.tdiv_eq_ediv_of_nonneg (by omega),←hq2,zN (by omega) (by omega)]
  obtain⟨x1,dj⟩:∃x,x=r2*65536+l1:=⟨_,rfl⟩;obtain⟨r1,vq⟩:∃r,r=x1%10000:=⟨_,rfl⟩;obtain⟨q1,hq1⟩:∃q,q=x1/10000:=⟨_,rfl⟩;have v1:x1=10000*q1+r1∧0≤r1∧r1<10000∧0≤x1∧x1<655360000:=by omega
  have h1:x1=zA (shl .i64 r2 16+l1):=by rw[uC,zN (x:=r2*65536) (by omega) (by omega),←dj,zN (by omega) (by omega)]
  have k1:r1=Int.tmod x1 10000:=by rw[Int.tmod_eq_emod_of_nonneg (by omega)];exact vq
  have t1:zA (Int.tdiv x1 10000)=q1:=by rw[Int.tdiv_eq_ediv_of_nonneg (by omega),←hq1,zN (by omega) (by omega)]
  obtain⟨x0,Wb⟩:∃x,x=r1*65536+l0:=⟨_,rfl⟩;obtain⟨r0,tu⟩:∃r,r=x0%10000:=⟨_,rfl⟩;obtain⟨q0,hq0⟩:∃q,q=x0/10000:=⟨_,rfl⟩;have v0:x0=10000*q0+r0∧0≤r0∧r0<10000∧0≤x0∧x0<655360000:=by omega
  have h0:x0=zA (shl .i64 r1 16+l0):=by rw[uC,zN (x:=r1*65536) (by omega) (by omega),←Wb,zN (by omega) (by omega)]
  have k0:r0=Int.tmod x0 10000:=by rw[Int.tmod_eq_emod_of_nonneg (by omega)];exact tu
  have t0:zA (Int.tdiv x0 10000)=q0:=by rw[Int.tdiv_eq_ediv_of_nonneg (by omega),←hq0,zN (by omega) (by omega)]
  have run:=vXe l0 l1 l2 l3 l4 l5 l6 l7 l8 h8 h7 h6 h5 h4 h3 h2 h1 h0 h9 k8 k7 k6 k5 k4 k3 k2 k1 k0;rw[t0,t1,t2,t3,t4,t5,t6,t7,t8] at run;clear h0 k0 t0 h1 k1 t1 h2 k2 t2 h3 k3 t3 h4 k4 t4 h5 k5 t5 h6 k6 t6 h7 k7 t7 h8 k8 t8;have hv:10000*V9 q0 q1 q2 q3 q4 q5 q6 q7 q8+r0=V9 l0 l1 l2 l3 l4 l5 l6 l7 l8:=by unfold V9;omega
  have hq:V9 q0 q1 q2 q3 q4 q5 q6 q7 q8=V9 l0 l1 l2 l3 l4 l5 l6 l7 l8/10000:=by omega
  rw[←hq] at hV⊢;unfold V9 at hV;have z8:q8=0:=by omega
  have z7:q7=0:=by omega
  have z6:q6=0:=by omega
  have z5:q5=0:=by omega
  have z4:q4=0:=by omega
  have z3:q3<32768:=by omega
  rw[z4,z5,z6,z7,z8] at run;have eU:OU 1000 [l0,l1,l2,l3,l4,l5,l6,l7,l8] 10000=(Ke 1000 1000 10000 0 8 [l0,l1,l2,l3,l4,l5,l6,l7,l8]).bind fun z=>(FT 1000 1000 4 z).bind fun z1=>
   match z1 with
   | .inl z2 => bif zB 3 z2.length then (bif decide ((z2.getD 3 0)≥32768) then some ((0:Int),false)
     else bif zB 3 z2.length then (bif zB 2 z2.length then (bif zB 1 z2.length then (bif zB 0 z2.length then some ((wG .i64 (wG .i64 (wG .i64 (shl .i64 (z2.getD 3 0) 48) (shl .i64 (z2.getD 2 0) 32)) (shl .i64 (z2.getD 1 0) 16)) (z2.getD 0 0)),true)
        else none)
       else none)
      else none)
     else none)
    else none
   |.inr z3=>some (z3.1,z3.2):=rfl
  rw[eU,run];simp only[ae];refine(V8 q0 q1 q2 q3 (ab (by omega))).trans ?_;rw[vHh ⟨by omega,by omega⟩ ⟨by omega,by omega⟩ ⟨by omega,by omega⟩ ⟨by omega,z3⟩];unfold V9;rw[z4,z5,z6,z7,z8];exact by simp
theorem vFm (a b x0 x1 x2 x3:Int):OV 1000 1000 b 0 [x0,x1,x2,x3] [0,0,0,0,0,0,0,0,0]=some [zA (0+zA (x0*yJ .i64 (shr .i64 b 0) 65535)),zA (zA (0+zA (x0*yJ .i64 (shr .i64 b 16) 65535))+zA (x1*yJ .i64 (shr .i64 b 0) 65535)),zA (zA (zA (0+zA (x0*yJ .i64 (shr .i64 b 32) 65535))+zA (x1*yJ .i64 (shr .i64 b 16) 65535))+zA (x2*yJ .i64 (shr .i64 b 0) 65535)),zA (zA (zA (zA (0+zA (x0*yJ .i64 (shr .i64 b 48) 65535))+zA (x1*yJ .i64 (shr .i64 b 32) 65535))+zA (x2*yJ .i64 (shr .i64 b 16) 65535))+zA (x3*yJ .i64 (shr .i64 b 0) 65535)),zA (zA (zA (0+zA (x1*yJ .i64 (shr .i64 b 48) 65535))+zA (x2*yJ .i64 (shr .i64 b 32) 65535))+zA (x3*yJ .i64 (shr .i64 b 16) 65535)),zA (zA (0+zA (x2*yJ .i64 (shr .i64 b 48) 65535))+zA (x3*yJ .i64 (shr .i64 b 32) 65535)),zA (0+zA (x3*yJ .i64 (shr .i64 b 48) 65535)),0,0]:=by kernel_rfl
theorem vI1 {x0 x1 x2 x3 y0 y1 y2 y3}:(x0+65536*x1+4294967296*x2+281474976710656*x3)*(y0+65536*y1+4294967296*y2+281474976710656*y3)=V9 (x0*y0) (x0*y1+x1*y0) (x0*y2+x1*y1+x2*y0) (x0*y3+x1*y2+x2*y1+x3*y0) (x1*y3+x2*y2+x3*y1) (x2*y3+x3*y2) (x3*y3) 0 0:=by
 have row:∀x:Int,x*(y0+65536*y1+4294967296*y2+281474976710656*y3)=x*y0+65536*(x*y1)+4294967296*(x*y2)+281474976710656*(x*y3):=by grind
 rw[Int.add_mul,Int.add_mul,Int.add_mul,Int.mul_assoc,Int.mul_assoc,Int.mul_assoc,row,row,row,row];unfold V9;omega
theorem vEm {a b}(ha:0≤a∧a≤1048576)(hb:0≤b∧b≤1099511627776):∃d0 d1 d2 d3 d4 d5 d6 d7 d8,
  OW 1000 a b=some [d0,d1,d2,d3,d4,d5,d6,d7,d8]∧V9 d0 d1 d2 d3 d4 d5 d6 d7 d8=a*b∧(0≤d0∧d0<65536)∧(0≤d1∧d1<65536)∧(0≤d2∧d2<65536)∧(0≤d3∧d3<65536)∧(0≤d4∧d4<65536)∧(0≤d5∧d5<65536)∧(0≤d6∧d6<65536)∧(0≤d7∧d7<65536)∧d8=0:=by
 obtain⟨x0,Wb⟩:∃z,z=a%65536:=⟨_,rfl⟩;have xF:0≤x0∧x0≤65535:=by omega
 obtain⟨x1,dj⟩:∃z,z=a/65536%65536:=⟨_,rfl⟩;have xG:0≤x1∧x1≤65535:=by omega
 obtain⟨x2,CO⟩:∃z,z=a/4294967296%65536:=⟨_,rfl⟩;have xH:0≤x2∧x2≤65535:=by omega
 obtain⟨x3,Wa⟩:∃z,z=a/281474976710656%65536:=⟨_,rfl⟩;have xI:0≤x3∧x3≤65535:=by omega
 obtain⟨y0,Sx⟩:∃z,z=b%65536:=⟨_,rfl⟩;have xJ:0≤y0∧y0≤65535:=by omega
 obtain⟨y1,S1⟩:∃z,z=b/65536%65536:=⟨_,rfl⟩;have xK:0≤y1∧y1≤65535:=by omega
 obtain⟨y2,S2⟩:∃z,z=b/4294967296%65536:=⟨_,rfl⟩;have xL:0≤y2∧y2≤65535:=by omega
 obtain⟨y3,hy3⟩:∃z,z=b/281474976710656%65536:=⟨_,rfl⟩;have xM:0≤y3∧y3≤65535:=by omega
 have ea:a=x0+65536*x1+4294967296*x2+281474976710656*x3:=by omega
 have eb:b=y0+65536*y1+4294967296*y2+281474976710656*y3:=by omega
 have dg:OX 1000 a=some [x0,x1,x2,x3]:=by
  unfold OX;rw[sB,yNv,yOf,uB,uB,uB,uB,←Wb,←dj,←CO,←Wa]
 have run:=vFm a b x0 x1 x2 x3;rw[vGm,sB,yNv,yOf,uB,uB,uB,uB,←Sx,←S1,←S2,←hy3] at run;have CB:=vI1 (x0:=x0) (x1:=x1) (x2:=x2) (x3:=x3) (y0:=y0) (y1:=y1) (y2:=y2) (y3:=y3);rw[←ea,←eb] at CB;have hm:=wA ha.1 ha.2 hb.1 hb.2;have m00:=wA xF.1 xF.2 xJ.1 xJ.2;have m01:=wA xF.1 xF.2 xK.1 xK.2;have m02:=wA xF.1 xF.2 xL.1 xL.2;have m03:=wA xF.1 xF.2 xM.1 xM.2;have m10:=wA xG.1 xG.2 xJ.1 xJ.2;have m11:=wA xG.1 xG.2 xK.1 xK.2;have m12:=wA xG.1 xG.2 xL.1 xL.2;have m13:=wA xG.1 xG.2 xM.1 xM.2;have m20:=wA xH.1 xH.2 xJ.1 xJ.2;have m21:=wA xH.1 xH.2 xK.1 xK.2;have m22:=wA xH.1 xH.2 xL.1 xL.2;have m23:=wA xH.1 xH.2 xM.1 xM.2;have m30:=wA xI.1 xI.2 xJ.1 xJ.2;have m31:=wA xI.1 xI.2 xK.1 xK.2;have m32:=wA xI.1 xI.2 xL.1 xL.2;have m33:=wA xI.1 xI.2 xM.1 xM.2;generalize x0*y0=Wc at*
 generalize x0*y1=OY at*
 generalize x0*y2=Kf at*
 generalize x0*y3=FU at*
 generalize x1*y0=Wd at*
 generalize x1*y1=OZ at*
 generalize x1*y2=Kg at*
 generalize x1*y3=Kh at*
 generalize x2*y0=We at*
 generalize x2*y1=O0 at*
 generalize x2*y2=O1 at*
 generalize x2*y3=O2 at*
 generalize x3*y0=Wg at*
 generalize x3*y1=Wh at*
 generalize x3*y2=Wi at*
 generalize x3*y3=Wj at*
 rw[zN (x:=Wc) (by omega) (by omega)] at run;rw[zN (x:=OY) (by omega) (by omega)] at run;rw[zN (x:=Kf) (by omega) (by omega)] at run;rw[zN (x:=FU) (by omega) (by omega)] at run;rw[zN (x:=Wd) (by omega) (by omega)] at run;rw[zN (x:=OZ) (by omega) (by omega)] at run;rw[zN (x:=Kg) (by omega) (by omega)] at run;rw[zN (x:=Kh) (by omega) (by omega)] at run;rw[zN (x:=We) (by omega) (by omega)] at run;rw[zN (x:=O0) (by omega) (by omega)] at run;rw[zN (x:=O1) (by omega) (by omega)] at run;rw[zN (x:=O2) (by omega) (by omega)] at run;rw[zN (x:=Wg) (by omega) (by omega)] at run;rw[zN (x:=Wh) (by omega) (by omega)] at run;rw[zN (x:=Wi) (by omega) (by omega)] at run;rw[zN (x:=Wj) (by omega) (by omega)] at run;rw[zN (x:=0+Wc) (by omega) (by omega)] at run;rw[zN (x:=0+OY) (by omega) (by omega)] at run;rw[zN (x:=0+Kf) (by omega) (by omega)] at run;rw[zN (x:=0+FU) (by omega) (by omega)] at run;rw[zN (x:=0+OY+Wd) (by omega) (by omega)] at run;rw[zN (x:=0+Kf+OZ) (by omega) (by omega)] at run;rw[zN (x:=0+FU+Kg) (by omega) (by omega)] at run;rw[zN (x:=0+Kh) (by omega) (by omega)] at run;rw[zN (x:=0+Kf+OZ+We) (by omega) (by omega)] at run;rw[zN (x:=0+FU+Kg+O0) (by omega) (by omega)] at run;rw[zN (x:=0+Kh+O1) (by omega) (by omega)] at run;rw[zN (x:=0+O2) (by omega) (by omega)] at run;rw[zN (x:=0+FU+Kg+O0+Wg) (by omega) (by omega)] at run;rw[zN (x:=0+Kh+O1+Wh) (by omega) (by omega)] at run;rw[zN (x:=0+O2+Wi) (by omega) (by omega)] at run;rw[zN (x:=0+Wj) (by omega) (by omega)] at run;obtain⟨d0,d1,d2,d3,d4,d5,d6,d7,d8,c1,c2,n0,n1,n2,n3,n4,n5,n6,n7,n8⟩:=ySz (l0:=0+Wc) (l1:=0+OY+Wd) (l2:=0+Kf+OZ+We) (l3:=0+FU+Kg+O0+Wg) (l4:=0+Kh+O1+Wh) (l5:=0+O2+Wi) (l6:=0+Wj) (l7:=0) (l8:=0) (by omega) (by omega) (by omega) (by omega) (by omega) (by omega) (by omega) (by omega) (by omega);refine⟨d0,d1,d2,d3,d4,d5,d6,d7,d8,?_,?_,n0,n1,n2,n3,n4,n5,n6,n7,?_⟩
 ·unfold OW;rw[dg];simp only[ae];rw[run];simp only[ae];rw[c1];rfl
 ·rw[c2,CB];unfold V9;omega
 ·have:V9 d0 d1 d2 d3 d4 d5 d6 d7 d8=a*b:=by
   rw[c2,CB];unfold V9;omega
  unfold V9 at this;omega
theorem vGo {p m c:Int}(hp:0≤p∧p≤1048576)(hm:0≤m∧m≤1099511627776)(hc:0≤c∧c≤10000):O3 1000 p m c=some (uk p m c,true):=by
 obtain⟨d0,d1,d2,d3,d4,d5,d6,d7,d8,e1,e2,n0,n1,n2,n3,n4,n5,n6,n7,n8⟩:=vEm hp hm;have xN:=wA hp.1 hp.2 hm.1 hm.2;have hn:0≤10000-c∧10000-c≤10000:=by omega
 have wn:zA (10000-c)=10000-c:=zN (by omega) (by omega);have hw:=yV3 hp hm hc;unfold uk at hw⊢;have hpn:=wA xN.1 xN.2 hn.1 hn.2;have eV:=V7 d0 d1 d2 d3 d4 d5 d6 d7 d8 (10000-c);rw[e2] at eV;unfold O3;rw[ab (show¬p<0 by omega),ab (show¬m<0 by omega),ab (show¬c<0 by omega),ab (show¬c>10000 by omega),e1,wn];simp only[ak,ae];rw[vYc];generalize 10000-c=n at*
 have u0:=wA n0.1 (show d0≤65535 by omega) hn.1 hn.2;have u1:=wA n1.1 (show d1≤65535 by omega) hn.1 hn.2;have u2:=wA n2.1 (show d2≤65535 by omega) hn.1 hn.2;have u3:=wA n3.1 (show d3≤65535 by omega) hn.1 hn.2;have u4:=wA n4.1 (show d4≤65535 by omega) hn.1 hn.2;have u5:=wA n5.1 (show d5≤65535 by omega) hn.1 hn.2;have u6:=wA n6.1 (show d6≤65535 by omega) hn.1 hn.2;have u7:=wA n7.1 (show d7≤65535 by omega) hn.1 hn.2;have u8:0≤d8*n∧d8*n≤0:=by rw[n8,Int.zero_mul];omega
 generalize d0*n=t0 at*
 generalize d1*n=t1 at*
 generalize d2*n=t2 at*
 generalize d3*n=t3 at*
 generalize d4*n=t4 at*
 generalize d5*n=t5 at*
 generalize d6*n=t6 at*
 generalize d7*n=t7 at*
 generalize d8*n=t8 at*
 rw[zN (x:=t0) (by omega) (by omega),zN (x:=t1) (by omega) (by omega),zN (x:=t2) (by omega) (by omega),zN (x:=t3) (by omega) (by omega),zN (x:=t4) (by omega) (by omega),zN (x:=t5) (by omega) (by omega),zN (x:=t6) (by omega) (by omega),zN (x:=t7) (by omega) (by omega),zN (x:=t8) (by omega) (by omega)];obtain⟨e0,e1,e2,e3,e4,e5,e6,e7,e8,f1,f2,k0,k1,k2,k3,k4,k5,k6,k7,k8⟩:=ySz (l0:=t0) (l1:=t1) (l2:=t2) (l3:=t3) (l4:=t4) (l5:=t5) (l6:=t6) (l7:=t7) (l8:=t8) (by omega) (by omega) (by omega) (by omega) (by omega) (by omega) (by omega) (by omega) (by omega);rw[f1];simp only[ae];rw[←eV] at f2;have z8:e8≤0:=by unfold V9 at f2;omega
 rw[vU7 k0 k1 k2 k3 k4 k5 k6 k7 ⟨k8,z8⟩ (by rw[f2];exact hw.2),f2];rfl
theorem ySv k x y:Ki k x.1 x.2.1 x.2.2.1 x.2.2.2.1 x.2.2.2.2.1 x.2.2.2.2.2.1 x.2.2.2.2.2.2 y.1 y.2.1 y.2.2.1 y.2.2.2.1 y.2.2.2.2.1 y.2.2.2.2.2.1 y.2.2.2.2.2.2=some (jD x y):=by
 unfold Ki jD;grind
theorem vTl k {a b}(ha:0≤a∧a≤4611686018427387904)(hb:0≤b∧b≤1152921504606846976):FV k a b=some (a+b,true):=by
 unfold FV;rw[zN (x:=a+b) (by omega) (by omega),zN (x:=9223372036854775807-b) (by omega) (by omega),ab (show¬a>9223372036854775807-b by omega),ab (show¬b<0 by omega)];simp
theorem yH3 {sa pr h}(L:kJ sa pr h):Bm 1000 sa pr h=some (lW sa pr h,true):=by
 have h3:=L.n3;obtain ⟨s', g1, g2⟩ := vJ (L := fun n i (v : Int) => Kj 1000 n sa pr h v i) (N := sa.length) (fun v => (.inl v : Int ⊕ Int × Bool)) (fun i v => v = qG (nP sa pr h) i) (fun n v _=>by
  show FW 1000 _ sa pr h v (sa.length:Int)=_;unfold FW;simp) (fun n i v hi hv=>by
  refine⟨v+nP sa pr h i,?_,by rw[hv];rfl⟩;show FW 1000 (Kj 1000 n) sa pr h v (i:Int)=_;unfold FW;have hw:=JK L hi;have hb:=Of (g:=nP sa pr h) (n:=i) (fun j hj=>JK L (by omega));have ed:sa.getD i (0,0)=sa.getD i um:=rfl;rw[aa (by grind),qB,qB,qB,aa hi,aa (show i<pr.length by rw[L.pl];exact hi),aa (show i<h.length by rw[L.hl];exact hi),aq,ed,vGo (L.price i hi) (L.hold i hi) (L.cut i hi)];simp only[ae];have e:uk (pr.getD i 0) (h.getD i 0) (sa.getD i um).2=nP sa pr h i:=rfl;rw[e,vTl _ (by omega) hw,qE hi (by omega)];rfl) (n:=1000) (s:=0) (by omega) rfl
 unfold Bm;rw[aa (show(pr.length:Int)=(sa.length:Int) by rw[L.pl]),aa (show(h.length:Int)=(sa.length:Int) by rw[L.hl]),g1,g2];rfl
theorem FX {α:Type}{d}(l:List α){i} h:l.getD i d=l[i]:=by
 simp_all
theorem Kk {X:Type}{L:Nat→Int→Option X}{N:Nat}{e}(bM:∀n,L (n+1) (N:Int)=some e)(aK:∀n i,i<N→L (n+1) (i:Int)=L n ((i+1:Nat):Int)){n}(hn:N<n):L n 0=some e:=by
 obtain⟨_,h,_⟩:=vJ (L:=fun n i (_:Unit)=>L n i) (N:=N) (fun _=>e) (fun _ _=>True) (by grind) (fun n i _ hi _=>⟨(),by grind,trivial⟩) (n:=n) (s:=()) hn trivial;exact h
theorem uD {k l}(hk:l.length<k)(hl:qO l) id:nQ k l id=some (il l id):=by
 unfold qO at hl;unfold nQ;rw[N2 hk (by omega)];unfold j0 il;cases hp:vW l id with
 |none=>rfl
 |some x=>
  have hx:=(kI hp).1;have e1:decide ((x:Int)<0)=false:=ab (by omega);have e2:decide ((0:Int)≤(x:Int))=true:=by simp
  have e3:decide ((x:Int)≤(l.length:Int))=true:=aa (by omega);have e4:decide ((0:Int)≤((x+1:Nat):Int))=true:=aa (by omega);have e5:decide (((x+1:Nat):Int)≤(l.length:Int))=true:=aa (by omega);have l1:=List.length_take_le x l;have l2:(l.drop (x+1)).length≤l.length:=by rw[List.length_drop];omega
  have e6:zP (0+(l.take x).length) 56=true:=qJ (by omega) (by omega);have e7:zP ((l.take x).length+(l.drop (x+1)).length) 56=true:=qJ (by omega) (by omega);simp only[ae,e3,e5,qE hx (show l.length<9223372036854775808 by omega),qB,aa hx,aq,e6,e7];rfl
theorem vQm (q p:zH):j3 q p= !jD p q:=by
 unfold j3 jD;rcases Int.lt_trichotomy q.2.1 p.2.1 with h|h|h
 ·have h1:¬p.2.1<q.2.1:=by omega
  have h2:¬p.2.1=q.2.1:=by omega
  simp[h,h1,h2]
 ·rcases Int.lt_trichotomy q.2.2.2.2.1 p.2.2.2.2.1 with g|g|g
  ·have g1:¬p.2.2.2.2.1≤q.2.2.2.2.1:=by omega
   simp[h,g,g1]
  ·simp[h,g]
  ·have g1:¬q.2.2.2.2.1<p.2.2.2.2.1:=by omega
   have g2:p.2.2.2.2.1≤q.2.2.2.2.1:=by omega
   simp[h,g1,g2]
 ·have h1:¬q.2.1<p.2.1:=by omega
  have h2:¬q.2.1=p.2.1:=by omega
  simp[h,h1,h2]
theorem O4 {k}{l:List zH}(hl:l.length≤1000){x}(hx:x≤l.length) y:Bn k l x y.1 y.2.1 y.2.2.1 y.2.2.2.1 y.2.2.2.2.1 y.2.2.2.2.2.1 y.2.2.2.2.2.2=some (l.take x++(y::l.drop x)):=by
 unfold Bn;have e1:(decide (0≤(x:Int))&&decide ((x:Int)≤((l.length:Nat):Int)))=true:=by simp_all
 have e2:zP (0+(l.take x).length) 56=true:=qJ (by grind) (by grind);have e3:zP ((l.take x).length+1) 56=true:=qJ (by grind) (by grind);rw[e1,aq,e2,e3];have e4:zP ((l.take x++[(y.1,(y.2.1,(y.2.2.1,(y.2.2.2.1,(y.2.2.2.2.1,(y.2.2.2.2.2.1,y.2.2.2.2.2.2))))))]).length+(l.drop x).length) 56=true:=qJ (by grind) (by grind);grind
theorem Wk {k}{l:List zH}(hk:l.length<k)(hl:l.length≤1000) y:FY k l y.1 y.2.1 y.2.2.1 y.2.2.2.1 y.2.2.2.2.1 y.2.2.2.2.2.1 y.2.2.2.2.2.2=some (((l.takeWhile (fun q=>jD q y)).length:Nat):Int):=by
 have := EV (L := fun n i => FZ k n l i y.1 y.2.1 y.2.2.1 y.2.2.2.1 y.2.2.2.2.1 y.2.2.2.2.2.1 y.2.2.2.2.2.2) (N := l.length) (fun x => jD (l.getD x pd) y) (fun i => (i : Int)) (fun n=>by
  show F0 k _ l l.length _ _ _ _ _ _ _=_;unfold F0;simp) (fun n i hi=>by
  show F0 k _ l i _ _ _ _ _ _ _=_;unfold F0;have h1:=ySv k (l.getD i pd) y;simp only[qB,qP,aq,aa hi,aj,h1,ae,qE hi (by grind)]
  ) l.length 0 k (by omega) hk
 have e:((0:Nat):Int)=0:=rfl;unfold FY;have h':FZ k k l 0 y.1 y.2.1 y.2.2.1 y.2.2.2.1 y.2.2.2.2.1 y.2.2.2.2.2.1 y.2.2.2.2.2.2=_:=this;rw[h',EW (fun q=>jD q y) l pd l.length 0 (by omega),List.drop_zero,Nat.zero_add];rfl
theorem Wl {k:Nat}{l:List zH}(hk:l.length<k)(hl:l.length≤1000)(p:zH):
  Bo k l p.1 p.2.1 p.2.2.1 p.2.2.2.1 p.2.2.2.2.1 p.2.2.2.2.2.1 p.2.2.2.2.2.2=some (bif (vW l p.1).isSome then(l,6) else bif decide (40≤l.length) then(l,3) else(oN l p,0)):=by
 unfold Bo;rw[N2 hk (by omega)];unfold j0;cases hp:vW l p.1 with
 |some x=>
  have e1:decide ((x:Int)≥0)=true:=aa (by omega);simp only[ae,e1,aj,Option.isSome_some]
 |none=>
  have e1:decide ((-1:Int)≥0)=false:=rfl;simp only[ae,e1,ak,Option.isSome_none];by_cases h:40≤l.length
  ·rw[aa h,aa (show(l.length:Int)≥40 by omega)];rfl
  ·rw[ab h,ab (show¬(l.length:Int)≥40 by omega)];simp only[ak];rw[Wk hk hl p];simp only[ae];rw[O4 hl (A7 _ l) p,(nO _ l).1,(nO _ l).2];rfl
theorem vZ1 {k l}(bN:l.length<k)(hl:qO l){id x}(hx:vW l id=some x) c:
  Kl k l id c=some (oN (yF l x) ((l.getD x pd).1,(l.getD x pd).2.1,(l.getD x pd).2.2.1,(l.getD x pd).2.2.2.1,c,(l.getD x pd).2.2.2.2.2.1,(l.getD x pd).2.2.2.2.2.2),0):=by
 have dj:=kI hx;have hlen:=nN dj.1;have dM:=hl;unfold qO at dM;unfold Kl;rw[uD bN hl];unfold il;rw[hx];simp only[ae];have h1:=Wk (k:=k) (l:=yF l x) (by omega) (by omega) ((l.getD x pd).1,(l.getD x pd).2.1,(l.getD x pd).2.2.1,(l.getD x pd).2.2.2.1,c,(l.getD x pd).2.2.2.2.2.1,(l.getD x pd).2.2.2.2.2.2);rw[h1];simp only[ae];have h2:=O4 (k:=k) (l:=yF l x) (by omega) (A7 (fun q=>jD q ((l.getD x pd).1,(l.getD x pd).2.1,(l.getD x pd).2.2.1,(l.getD x pd).2.2.2.1,c,(l.getD x pd).2.2.2.2.2.1,(l.getD x pd).2.2.2.2.2.2)) (yF l x)) ((l.getD x pd).1,(l.getD x pd).2.1,(l.getD x pd).2.2.1,(l.getD x pd).2.2.2.1,c,(l.getD x pd).2.2.2.2.2.1,(l.getD x pd).2.2.2.2.2.2);rw[h2,(nO _ (yF l x)).1,(nO _ (yF l x)).2];rfl
theorem vV1 {k l}(bN:l.length<k)(hl:qO l){id x}(hx:vW l id=some x):
  Km k l id=some (oN (yF l x) (l.getD x pd),0):=by
 have dj:=kI hx;have hlen:=nN dj.1;have dM:=hl;unfold qO at dM;unfold Km;rw[uD bN hl];unfold il;rw[hx];simp only[ae];rw[Wk (k:=k) (l:=yF l x) (by omega) (by omega) (l.getD x pd)];simp only[ae];rw[O4 (k:=k) (l:=yF l x) (by omega) (A7 (fun q=>jD q (l.getD x pd)) (yF l x)) (l.getD x pd),(nO _ (yF l x)).1,(nO _ (yF l x)).2];rfl
theorem vLr {k l}(bN:l.length<k)(hl:qO l){id x}(hx:vW l id=some x):
  Kn k l id=some (JC (yF l x) (l.getD x pd),0):=by
 have dj:=kI hx;have hlen:=nN dj.1;have dM:=hl;unfold qO at dM;have pU:∀(l:List zH),l.length<k→l.length≤1000→∀p:zH,Ko k k l 0 p=some (l,(((l.takeWhile (fun q=>j3 q p)).length:Nat):Int),p):=by
  intro l bN hl p;have := EV (L := fun n i => Ko k n l i p) (N := l.length) (fun x => j3 (l.getD x pd) p) (fun i => (l, (i : Int), p)) (fun n=>by
   show F1 k _ l l.length p=_;unfold F1;simp) (fun n i hi=>by
   show F1 k _ l i p=_;unfold F1;have h1:=ySv k p (l.getD i pd);simp only[qB,qP,aq,aa hi,h1,qE hi (by grind),vQm];rfl) l.length 0 k (by omega) bN
  have e:((0:Nat):Int)=0:=rfl;rw[e] at this;rw[this,EW (fun q=>j3 q p) l pd l.length 0 (by omega),List.drop_zero,Nat.zero_add]
 unfold Kn;rw[uD bN hl];unfold il;rw[hx];have h1:=pU (yF l x) (by omega) (by omega) (l.getD x pd);refine(congrArg (fun z=>Option.bind z _) h1).trans ?_;simp only[ae];rw[O4 (k:=k) (l:=yF l x) (by omega) (A7 (fun q=>j3 q (l.getD x pd)) (yF l x)) (l.getD x pd),(nO _ (yF l x)).1,(nO _ (yF l x)).2];rfl
theorem Wm {k:Nat}{l:AC}(hk:l.length<k)(hl:l.length≤1000)(id:Int):O5 k l id=some (decide (id∈l)):=by
 have := lT (L := fun n i => F2 k n l id i) (N := l.length) (fun i => !decide (l.getD i 0 = id)) (.inl ()) (.inr true) (fun n=>by
  show F3 k _ l id l.length=_;unfold F3;rw [ab (Int.lt_irrefl _)]; rfl) (fun n i hi=>by
  show F3 k (F2 k n) l id i=_;unfold F3;rw[aa (show(i:Int)<l.length by omega),qB,aa hi,aq,qE hi (by omega)];cases decide (l.getD i 0=id)<;>rfl) hk
 unfold O5;have h':F2 k k l id 0=_:=this;rw[h'];have e:qF (fun i=> !decide (l.getD i 0=id)) l.length 0= !decide (id∈l):=by
  by_cases hm:id∈l
  ·rw[aa hm];cases ha:qF (fun i=> !decide (l.getD i 0=id)) l.length 0 with
   |false=>rfl
   |true=>
    obtain⟨i,hi,e⟩:=List.getElem_of_mem hm;have:=gg.1 ha i hi;rw[FX l hi,e] at this;simp at this
  ·rw[ab hm];refine gg.2 fun i hi=>?_
   rw[ab (show¬l.getD i 0=id from fun e=>hm (by rw[←e];exact gh hi))];rfl
 rw[e];cases decide (id∈l)<;>rfl
theorem vPf {k:Nat}{l:AC}(hk:l.length<k)(hl:l.length≤1000)(id:Int):
  Bp k l id=some (bif decide (id∈l) then(l,6) else bif decide (200≤l.length) then(l,3) else(pN l id,0)):=by
 unfold Bp;rw[Wm hk hl];simp only[ae];by_cases hm:id∈l
 ·rw[aa hm];rfl
 ·rw[ab hm];simp only[ak];by_cases h:200≤l.length
  ·rw[aa h,aa (show(l.length:Int)≥200 by omega)];rfl
  ·rw[ab h,ab (show¬(l.length:Int)≥200 by omega)];have := EV (L := fun n i => Kp k n l id i) (N := l.length) (fun x => decide (l.getD x 0 < id)) (fun i => (l, id, (i : Int))) (fun n=>by
    show F4 k _ l id l.length=_;unfold F4;simp only [qP, ab (Nat.lt_irrefl _), ak]) (fun n i hi=>by
    show F4 k _ l id i=_;unfold F4;simp only[qB,qP,aq,aa hi,aj,qE hi (show l.length<9223372036854775808 by omega)];rfl) l.length 0 k (by omega) hk
   have e:((0:Nat):Int)=0:=rfl;rw[e,EW (fun x=>decide (x<id)) l 0 l.length 0 (by omega),List.drop_zero,Nat.zero_add] at this;have h':Kp k k l id 0=_:=this;simp only[ak];rw[h'];have hn:=A7 (fun x=>decide (x<id)) l;obtain⟨t1,t2⟩:=nO (fun x=>decide (x<id)) l;have e1:(decide (0≤(((l.takeWhile (fun x=>decide (x<id))).length:Nat):Int))&&decide ((((l.takeWhile (fun x=>decide (x<id))).length:Nat):Int)≤((l.length:Nat):Int)))=true:=by simp;exact hn
   have hd:=(List.dropWhile_sublist (fun x=>decide (x<id)) (l:=l)).length_le;simp only[ae,e1,aj,aq,t1,t2];rw[qJ (n:=0+(l.takeWhile (fun x=>decide (x<id))).length) (by omega) (by omega),qJ (n:=(l.takeWhile (fun x=>decide (x<id))).length+1) (by omega) (by omega),qJ (n:=(l.takeWhile (fun x=>decide (x<id))++[id]).length+(l.dropWhile (fun x=>decide (x<id))).length) (by rw[List.length_append];simp;omega) (by rw[List.length_append];simp;omega)];simp only[aj];unfold pN;simp
abbrev Wn:=Int×List oP×Int×Int×Int×Int×List qX×jF×AC×jF×AC×jF×List zH×AC×Int×Bool×Int
def eQ (r:qD)(s:zR)(who:Int):Wn:=(r.1,r.2.1,r.2.2.1,r.2.2.2.1,r.2.2.2.2,s.t,s.B.1,s.B.2.1,s.B.2.2.1,s.B.2.2.2,s.pr,s.ho,s.m,s.ids,s.to,s.ov,who)
def O6 (s:zR)(i:Nat)(a:qX)(to:Int):zR:={s with B:=(s.B.1.set i a,s.B.2.1,s.B.2.2.1,s.B.2.2.2),to:=to}
def F5 (s:zR)(i:Nat)(n:Int):Int×zR:=
 bif decide ((s.B.1.getD i ad).1+(s.B.1.getD i ad).2.1-(s.B.1.getD i ad).2.2<n) then(9,s)
 else bif decide (s.to-n<0) then(9,s)
 else bif !decide ((wT (s.B.1.getD i ad) (-n)).2=0) then((wT (s.B.1.getD i ad) (-n)).2,s)
 else bif decide (s.to-n>1152921504606846976) then(8,s)
 else(0,O6 s i (wT (s.B.1.getD i ad) (-n)).1 (s.to-n))
def F6 (s:zR)(i:Nat)(n:Int):Int×zR:=
 bif !decide ((wT (s.B.1.getD i ad) n).2=0) then((wT (s.B.1.getD i ad) n).2,s)
 else bif decide (s.to+n>1152921504606846976) then(8,s)
 else(0,O6 s i (wT (s.B.1.getD i ad) n).1 (s.to+n))
def iq (r:qD)(s:zR)(kd to n:Int):Int×zR:=
 bif !(decide (to≥0)&&decide (to≤r.1-1)) then(1,s)
 else bif !(decide (n≥1)&&decide (n≤1099511627776)) then(1,s)
 else bif decide (kd=11) then F5 s to.toNat n else F6 s to.toNat n
theorem vAo {k}(hk:1000≤k){r}(hr:vO r){s}(h:qV r s) who kd to n:
    ∃d,Bq k (eQ r s who) kd to n=some ((iq r s kd to n).1,d)∧((iq r s kd to n).1=0→d=dk r (iq r s kd to n).2 who []):=by
  have hp:=hr.pa;have hn:=h.n;have ht:=h.tot;have w1:zA (r.1-1)=r.1-1:=zN (by omega) (by omega);have eD:Bq k (eQ r s who) kd to n=(vH k to 0 (zA (r.1-1))).bind fun x0=>
    bif !x0 then some (1,dk r s who [])
    else(vH k n 1 1099511627776).bind fun x1=>
    bif !x1 then some (1,dk r s who [])
    else bif zB to s.B.1.length then ((F7 k (s.B.1.getD to.toNat (0,0,0)) n).bind fun x2=>
      bif decide (kd = 11) then ((F8 k (s.B.1.getD to.toNat (0,0,0)) n 3).bind fun x3=>
       (F9 k (s.B.1.getD to.toNat (0,0,0)) 3).bind fun x4=>
       bif decide (x4<n) then some (9,dk r s who [])
       else bif decide ((zA (s.to-n))<0) then some (9,dk r s who [])
       else bif !(decide (x3.2=0)) then some (x3.2,dk r s who [])
       else bif decide ((zA (s.to-n))>1152921504606846976) then some (8,dk r s who [])
       else(gk k s.B.1 s.B.2.1 s.B.2.2.1 s.B.2.2.2).bind fun x5=>
       bif zB to x5.1.length then some (0,dk r {s with B:=(x5.1.set to.toNat x3.1,x5.2.1,x5.2.2.1,x5.2.2.2),to:=zA (s.to-n)} who [])
       else none)
      else bif !(decide (x2.2=0)) then some (x2.2,dk r s who [])
      else bif decide ((zA (s.to+n))>1152921504606846976) then some (8,dk r s who [])
      else(gk k s.B.1 s.B.2.1 s.B.2.2.1 s.B.2.2.2).bind fun x6=>
      bif zB to x6.1.length then some (0,dk r {s with B:=(x6.1.set to.toNat x2.1,x6.2.1,x6.2.2.1,x6.2.2.2),to:=zA (s.to+n)} who [])
      else none)
    else none:=rfl
  rw[eD,w1,mU,mU,I3 (by omega) h.bk.toSized];simp only[ae];unfold iq;cases hc:decide (to≥0)&&decide (to≤r.1-1) with
  |false=>exact by simp
  |true=>
  simp only[ba,aX] at hc;cases hm:decide (n≥1)&&decide (n≤1099511627776) with
  |false=>exact by simp
  |true=>
  simp only[ba,aX] at hm;obtain⟨i,rfl⟩:=Int.eq_ofNat_of_zero_le hc.1;have hi:i<s.B.1.length:=by omega
  have hb:=h.bk.nums.bal i hi;have kD:=h.bk.nums.res i hi;have hcr:=h.most i hi;have Wo:0≤(s.B.1.getD i ad).2.1:=by rw[h.cred i hi];exact Fa (h.laid i hi)
  have b0:zB (i:Int) s.B.1.length=true:=by rw[qB,aa hi]
  have Kq:F7 k (s.B.1.getD i (0,0,0)) n=some (wT (s.B.1.getD i ad) n):=by
    unfold F7;rw[ySk hb (by omega)];rfl
  have Kr:F8 k (s.B.1.getD i (0,0,0)) n 3=some (wT (s.B.1.getD i ad) (-n)):=by
    unfold F8;rw[show zA (0-n)= -n by rw[zN (by omega) (by omega)];omega,ySk hb (by omega)];simp
  have xO:F9 k (s.B.1.getD i (0,0,0)) 3=some ((s.B.1.getD i ad).1+(s.B.1.getD i ad).2.1-(s.B.1.getD i ad).2.2):=by
    unfold F9;have d1:decide ((3:Int)=3)=true:=rfl;rw[d1,aj];have q1:zA ((s.B.1.getD i (0,0,0)).1+(s.B.1.getD i (0,0,0)).2.1)=(s.B.1.getD i ad).1+(s.B.1.getD i ad).2.1:=zN (by simp only[ad] at*;omega) (by simp only[ad] at*;omega);rw[q1];exact congrArg some (zN (by simp only[ad] at*;omega) (by simp only[ad] at*;omega))
  have q2:zA (s.to-n)=s.to-n:=zN (by omega) (by omega);have q3:zA (s.to+n)=s.to+n:=zN (by omega) (by omega);simp only[aA,ak,b0,aj,aq,Kq,Kr,xO,ae,q2,q3];clear Kq Kr xO eD;cases decide (kd=11) with
  |true=>
    simp only[aj];unfold F5;cases decide ((s.B.1.getD i ad).1+(s.B.1.getD i ad).2.1-(s.B.1.getD i ad).2.2<n) with
    |true=>exact by simp
    |false=>
    cases decide (s.to-n<0) with
    |true=>exact by simp
    |false=>
    cases hz:decide ((wT (s.B.1.getD i ad) (-n)).2=0) with
    |false=>exact by simp
    |true=>
    cases decide (s.to-n>1152921504606846976) with
    |true=>exact by simp
    |false=>exact⟨_,rfl,fun _=>rfl⟩
  |false=>
    simp only[ak];unfold F6;cases hz:decide ((wT (s.B.1.getD i ad) n).2=0) with
    |false=>exact by simp
    |true=>
    cases decide (s.to+n>1152921504606846976) with
    |true=>exact by simp
    |false=>exact⟨_,rfl,fun _=>rfl⟩
def fK (sa:List oP)(pr:AC)(ho:jF)(j:Nat):Int:=lW sa pr (ho.getD j [])
def sC (sa:List oP)(pr:AC)(ho:jF)(a:List qX):List qX:=(List.range a.length).map fun j=>((a.getD j ad).1,fK sa pr ho j,(a.getD j ad).2.2)
def Br (r:qD)(s:zR)(pr:AC):Int×zR:=
 bif qF (fun j=> !decide (fK r.2.1 pr s.ho j>1152921504606846976)) s.B.1.length 0 then(0,{s with B:=(sC r.2.1 pr s.ho s.B.1,s.B.2.1,s.B.2.2.1,s.B.2.2.2),pr:=pr}) else(8,s)
def iN (r:qD)(s:zR)(a p:Int):Int×zR:=
 bif !(decide (a≥0)&&decide (a≤(r.2.1.length:Int)-1)) then(1,s)
 else bif !(decide (p≥0)&&decide (p≤1048576)) then(1,s)
 else Br r s (s.pr.set a.toNat p)
theorem Wp sa pr ho a:(sC sa pr ho a).length=a.length:=by simp[sC]
theorem O7 sa pr ho a {j}(hj:j<a.length):(sC sa pr ho a).getD j ad=((a.getD j ad).1,fK sa pr ho j,(a.getD j ad).2.2):=by
 unfold sC;simp_all
theorem Wq {k:Nat}(hk:1000≤k){r:qD}{s:zR}(who:Int){pr:AC}(hL:∀i,i<s.B.1.length→kJ r.2.1 pr (s.ho.getD i []))(hol:s.ho.length=s.B.1.length)(gl:s.B.1.length≤6):
  (qF (fun j=> !decide (fK r.2.1 pr s.ho j>1152921504606846976)) s.B.1.length 0=true∧uE k k s.ho s.ho.length 0 (eQ r s who) pr s.B.1 s.B.2.1 s.B.2.2.1 s.B.2.2.2=some (.inl (eQ r s who,pr,sC r.2.1 pr s.ho s.B.1,s.B.2.1,s.B.2.2.1,s.B.2.2.2)))∨
  (qF (fun j=> !decide (fK r.2.1 pr s.ho j>1152921504606846976)) s.B.1.length 0=false∧uE k k s.ho s.ho.length 0 (eQ r s who) pr s.B.1 s.B.2.1 s.B.2.2.1 s.B.2.2.2=some (.inr (8,eQ r s who))):=by
 rw[hol];have:=NK (L:=fun n i (a:List qX)=>uE k n s.ho s.B.1.length i (eQ r s who) pr a s.B.2.1 s.B.2.2.1 s.B.2.2.2) (N:=s.B.1.length) (fun j=> !decide (fK r.2.1 pr s.ho j>1152921504606846976))
  (fun a=>.inl (eQ r s who,pr,a,s.B.2.1,s.B.2.2.1,s.B.2.2.2)) (.inr (8,eQ r s who))
  (fun i a => a.length = s.B.1.length ∧ ∀ j, j < s.B.1.length → a.getD j ad = if j < i then ((s.B.1.getD j ad).1, fK r.2.1 pr s.ho j, (s.B.1.getD j ad).2.2) else s.B.1.getD j ad) (fun n a _=>by
   show Ga k _ s.ho s.B.1.length s.B.1.length (eQ r s who) pr a s.B.2.1 s.B.2.2.1 s.B.2.2.2=_;unfold Ga;simp only [qP, ab (Nat.lt_irrefl _), ak]) (fun n i a hi ha=>by
   have hv:=Vt (k:=k) (hL i hi) (by omega);have aK:uE k (n+1) s.ho s.B.1.length i (eQ r s who) pr a s.B.2.1 s.B.2.2.1 s.B.2.2.2=bif decide (fK r.2.1 pr s.ho i>1152921504606846976) then some (.inr (8,eQ r s who)) else uE k n s.ho s.B.1.length ((i+1:Nat):Int) (eQ r s who) pr (a.set i ((a.getD i ad).1,fK r.2.1 pr s.ho i,(a.getD i ad).2.2)) s.B.2.1 s.B.2.2.1 s.B.2.2.2:=by
    show Ga k _ s.ho s.B.1.length i (eQ r s who) pr a s.B.2.1 s.B.2.2.1 s.B.2.2.2=_;unfold Ga;have iC:so k (eQ r s who).2.1 pr (s.ho.getD i [])=some (fK r.2.1 pr s.ho i,true):=hv;simp only[qP,qB,aq,aa hi,aa (show i<s.ho.length by omega),aa (show i<a.length by rw[ha.1];exact hi),aj,iC,ae,aA,ak,qE hi (show s.B.1.length<9223372036854775808 by omega)];rfl
   refine⟨fun ho=>?_,fun ho=>?_⟩
   ·have h1:decide (fK r.2.1 pr s.ho i>1152921504606846976)=false:=by simpa using ho
    refine⟨_,by rw[aK,h1];rfl,by rw[List.length_set];exact ha.1,fun j hj=>?_⟩;rw[fm];by_cases e:i=j
    ·subst e;rw[if_pos ⟨rfl,by rw[ha.1];exact hi⟩,if_pos (by omega),ha.2 i hi,if_neg (Nat.lt_irrefl _)]
    ·rw[if_neg (by omega),ha.2 j hj];by_cases h:j<i
     ·rw[if_pos h,if_pos (by omega)]
     ·rw[if_neg h,if_neg (by omega)]
   ·have h1:decide (fK r.2.1 pr s.ho i>1152921504606846976)=true:=by simpa using ho
    rw[aK,h1];rfl) s.B.1.length 0 k s.B.1 (by omega) (by omega) ⟨rfl,fun j _=>by rw[if_neg (Nat.not_lt_zero _)]⟩
 rcases this with⟨h1,a,h2,h3,h4⟩|⟨h1,h2⟩
 ·refine .inl ⟨h1,?_⟩;have e:a=sC r.2.1 pr s.ho s.B.1:=Du ad (by rw[h3,Wp]) fun j hj=>by
   rw[h3] at hj;rw[h4 j hj,if_pos hj,O7 _ _ _ _ hj]
  rw[←e];exact h2
 ·exact .inr ⟨h1,h2⟩
theorem vAk {k:Nat}(hk:1000≤k){r:qD}(hr:vO r){s:zR}(h:qV r s)(who a p:Int):
  ∃d,O8 k (eQ r s who) a p=some ((iN r s a p).1,d)∧((iN r s a p).1=0→d=dk r (iN r s a p).2 who []):=by
 have h3:=hr.n3;have gl:=h.bk.n6;have lL:=h.bk.n1;have w1:zA ((r.2.1.length:Int)-1)=(r.2.1.length:Int)-1:=zN (by omega) (by omega);have eD:O8 k (eQ r s who) a p=((vH k a 0 (zA ((r.2.1.length:Int)-1))).bind fun x0=>some x0).bind fun x0=>
  bif !x0 then some (1,dk r s who [])
  else(vH k p 0 1048576).bind fun x1=>
  bif !x1 then some (1,dk r s who [])
  else(pP k s.pr a p).bind fun x2=>
  (gk k s.B.1 s.B.2.1 s.B.2.2.1 s.B.2.2.2).bind fun x3=>
  (uE k k s.ho (s.ho.length:Int) 0 (eQ r s who) x2 x3.1 x3.2.1 x3.2.2.1 x3.2.2.2).bind fun z=>
  match z with
  |.inl z1=>some (0,(jN z1.1 (Bt z1 (z1.2.1,(Wr z1.1 [])))))
  |.inr z2=>some (jI z2 []):=rfl
 rw[eD,w1,mU,mU,I3 (by omega) h.bk.toSized];simp only[ae];unfold iN;cases hc:decide (a≥0)&&decide (a≤(r.2.1.length:Int)-1) with
 |false=>exact⟨_,rfl,fun e=>by cases e⟩
 |true=>
 simp only[ba,aX] at hc;cases hm:decide (p≥0)&&decide (p≤1048576) with
 |false=>exact⟨_,rfl,fun e=>by cases e⟩
 |true=>
 simp only[ba,aX] at hm;obtain⟨i,rfl⟩:=Int.eq_ofNat_of_zero_le hc.1;have hi:i<r.2.1.length:=by omega
 have L0:=h.laid 0 (by omega);have lZ:pP k s.pr (i:Int) p=some (s.pr.set i p):=by
  have:=yB5 (k:=k) (l:=s.pr) (by rw[L0.pl];omega) (i:=(i:Int)) (by omega) (by rw[L0.pl];omega) p;rw[aq] at this;exact this
 simp only[aA,ak,lZ,ae,aq];unfold Br;rcases Wq (r:=r) (s:=s) hk who (pr:=s.pr.set i p) (fun j hj=>(h.laid j hj).setP hi ⟨by omega,by omega⟩) h.hol gl with⟨g1,g2⟩|⟨g1,g2⟩
 ·rw[g2,g1];exact⟨_,rfl,fun _=>rfl⟩
 ·rw[g2,g1];exact⟨_,rfl,fun e=>by cases e⟩
theorem Ks {q p}:jD q p=true↔q.2.1<p.2.1∨(q.2.1=p.2.1∧q.2.2.2.2.1≤p.2.2.2.2.1):=by
 unfold jD;simp
theorem Ws {q p}:j3 q p=true↔q.2.1<p.2.1∨(q.2.1=p.2.1∧q.2.2.2.2.1<p.2.2.2.2.1):=by
 unfold j3;simp
theorem vVl {a b c}(h:jD a b=true)(g:jD b c=true):jD a c=true:=by
 rw[Ks] at*;omega
theorem vQw {a b}(h:¬jD a b=true):jD b a=true:=by
 rw[Ks] at*;omega
theorem vDa {a b}(h:j3 a b=true):jD a b=true:=by
 rw[Ws] at h;rw[Ks];omega
theorem vKp {a b}(h:¬j3 a b=true):jD b a=true:=by
 rw[Ws] at h;rw[Ks];omega
theorem yAo f l (p:zH):List.Perm (l.takeWhile f++(p::l.dropWhile f)) (p::l):=by
 have:=List.perm_middle (a:=p) (l₁:=l.takeWhile f) (l₂:=l.dropWhile f);simp_all
theorem yVq {l:List zH}(hs:oV l)(p:zH)(f:zH→Bool)(h1:∀q,f q=true→jD q p=true)(h2:∀q,¬f q=true→jD p q=true):oV (l.takeWhile f++(p::l.dropWhile f)):=by
 have rK:=hs;unfold oV at hs rK⊢;rw[←List.takeWhile_append_dropWhile (p:=f) (l:=l)] at hs;obtain⟨a1,a2,a3⟩:=List.pairwise_append.1 hs;have Wt:∀q∈l.takeWhile f,f q=true:=fun q hq=>List.all_eq_true.1 (List.all_takeWhile (p:=f) (l:=l)) q hq
 have Wu:∀q∈l.dropWhile f,jD p q=true:=by
  cases hd:l.dropWhile f with
  |nil=>intro q hq;cases hq
  |cons x m=>
   have hx:¬f x=true:=by
    have bm:l.dropWhile f≠[]:=by rw[hd];simp
    have:=List.head_dropWhile_not f bm;have e:(l.dropWhile f).head bm=x:=by simp only[hd,List.head_cons]
    rw[e] at this;simp[this]
   intro q hq;rcases List.mem_cons.1 hq with rfl|hq
   ·exact h2 _ hx
   ·rw[hd] at a2;exact vVl (h2 x hx) ((List.pairwise_cons.1 a2).1 q hq)
 refine List.pairwise_append.2 ⟨a1,List.pairwise_cons.2 ⟨Wu,a2⟩,fun a ha b hb=>?_⟩;rcases List.mem_cons.1 hb with rfl|hb
 ·exact h1 a (Wt a ha)
 ·exact a3 a ha b hb
theorem Wv {l}(hs:oV l) p:oV (oN l p):=yVq hs p _ (by simp) (fun _ h=>vQw h)
theorem vOv {l}(hs:oV l) p:oV (JC l p):=yVq hs p _ (fun _ h=>vDa h) (fun _ h=>vKp h)
theorem Ww l p:List.Perm (oN l p) (p::l):=yAo _ l p
theorem vVk l p:List.Perm (JC l p) (p::l):=yAo _ l p
theorem oV.cut {l}(h:oV l) x:oV (yF l x):=List.Pairwise.sublist (ui l x) h
theorem Wx {l:AC}(ha:uj l){id:Int}(hn:id∉l):uj (pN l id):=by
 unfold pN;have rq:=ha;unfold uj at ha rq⊢;rw[←List.takeWhile_append_dropWhile (p:=fun x=>decide (x<id)) (l:=l)] at ha;obtain⟨a1,a2,a3⟩:=List.pairwise_append.1 ha;have Wt:∀q∈l.takeWhile (fun x=>decide (x<id)),q<id:=fun q hq=>by simpa using List.all_eq_true.1 (List.all_takeWhile (p:=fun x=>decide (x<id)) (l:=l)) q hq
 have Wu:∀q∈l.dropWhile (fun x=>decide (x<id)),id<q:=by
  cases hd:l.dropWhile (fun x=>decide (x<id)) with
  |nil=>intro q hq;cases hq
  |cons x m=>
   have zo:x∈l:=(List.dropWhile_sublist _).subset (by rw[hd];exact List.mem_cons_self ..);have hx:¬x<id:=by
    have bm:l.dropWhile (fun x=>decide (x<id))≠[]:=by rw[hd];simp
    have:=List.head_dropWhile_not (fun x=>decide (x<id)) bm;have e:(l.dropWhile (fun x=>decide (x<id))).head bm=x:=by simp only[hd,List.head_cons]
    rw[e] at this
    simpa using this
   have bm:x≠id:=fun e=>hn (e▸zo)
   intro q hq;rcases List.mem_cons.1 hq with rfl|hq
   ·omega
   ·rw[hd] at a2;have:=(List.pairwise_cons.1 a2).1 q hq;omega
 refine List.pairwise_append.2 ⟨a1,List.pairwise_cons.2 ⟨Wu,a2⟩,fun a ha b hb=>?_⟩;rcases List.mem_cons.1 hb with rfl|hb
 ·exact Wt a ha
 ·exact a3 a ha b hb
theorem vEw l id:List.Perm (pN l id) (id::l):=by
 have:=List.perm_middle (a:=id) (l₁:=l.takeWhile (fun x=>decide (x<id))) (l₂:=l.dropWhile (fun x=>decide (x<id)))
 rwa [List.takeWhile_append_dropWhile] at this
theorem j4.sub {n m m' ids}(h:j4 n m ids)(hs:List.Sublist m' m):j4 n m' ids:=
 ⟨List.Pairwise.sublist hs h.dist,by have:=hs.length_le;have:=h.len;omega,List.Pairwise.sublist hs h.sort,fun p hp=>h.may p (by grind),fun p hp=>h.time p (by grind),fun p hp=>h.were p (by grind),h.asc,h.pos,h.idl⟩
theorem j4.turn {n:Nat}{m:List zH}{ids:AC}(h:j4 n m ids){x:Nat}(hx:x<m.length){p:zH}{m':List zH}(hp:List.Perm m' (p::yF m x))(hs:oV m')(h1:p.1=(m.getD x pd).1)
  (h2:yH n p) (h3:0≤p.2.2.2.2.2.1∧p.2.2.2.2.2.1≤p.2.2.2.2.2.2∧p.2.2.2.2.2.2≤1048576):j4 n m' ids:=by
 have hc:=ui m x;have hl:=nN hx;have hd:qK (p::yF m x):=by
  refine List.pairwise_cons.2 ⟨fun q hq=>?_,h.dist.cut x⟩;rw[h1];have hd:=h.dist;unfold qK at hd;rw[N0 m x pd hx] at hd;have JF:=List.pairwise_append.1 hd;have Vj:=List.pairwise_cons.1 JF.2.1;unfold yF at hq;rcases List.mem_append.1 hq with hq|hq
  ·exact fun e=>JF.2.2 _ hq _ (List.mem_cons_self ..) e.symm
  ·exact Vj.1 _ hq
 have hlen:=hp.length_eq;rw[List.length_cons] at hlen;refine⟨hd.perm hp,by have:=h.len;omega,hs,fun q hq=>?_,fun q hq=>?_,fun q hq=>?_,h.asc,h.pos,h.idl⟩;all_goals rcases List.mem_cons.1 (hp.subset hq) with rfl|oO
 ·exact h2
 ·exact h.may q (hc.subset oO)
 ·exact h3
 ·exact h.time q (hc.subset oO)
 ·rw[h1];exact h.were _ (gh hx)
 ·exact h.were q (hc.subset oO)
theorem yEh {r:qD}{s:zR}(hr:vO r)(h:qV r s){who:Int}{f:wI}(h0:(iK r s who f).1=0):j4 s.B.1.length (iK r s who f).2.1 (iK r s who f).2.2:=by
 have hw:=h.waits;have hn:=h.n;have ht:=h.tk;unfold iK at h0⊢;cases hc:decide (f.2.2.1≥0)&&decide (f.2.2.1≤r.1-1) with
 |false=>rw[hc] at h0;cases h0
 |true=>
 cases cL:decide (f.2.2.2.2.1≥1)&&decide (f.2.2.2.2.1≤3) with
 |false=>rw[hc,cL] at h0;cases h0
 |true=>
 cases dH:decide (mV r s.t (fJ who f)=0) with
 |false=>rw[hc,cL,dH] at h0;exact absurd h0 (gE dH)
 |true=>
 cases gD:decide (f.2.1∈s.ids) with
 |true=>rw[hc,cL,dH,gD] at h0;cases h0
 |false=>
 cases mI:decide (200≤s.ids.length) with
 |true=>rw[hc,cL,dH,gD,mI] at h0;cases h0
 |false=>
 cases Dl:(vW s.m f.2.1).isSome with
 |true=>rw[hc,cL,dH,gD,mI,Dl] at h0;cases h0
 |false=>
 cases Dm:decide (40≤s.m.length) with
 |true=>rw[hc,cL,dH,gD,mI,Dl,Dm] at h0;cases h0
 |false=>
 show j4 s.B.1.length (oN s.m (fJ who f)) (pN s.ids f.2.1);have Mn:f.2.1∉s.ids:=gE gD;have hi:=gE mI;have hm:=gE Dm;have Bu:=ID dH;have Wy:kM r.1 s.t (fJ who f)=true:=by
  unfold mV at Bu;cases hb:kM r.1 s.t (fJ who f) with
  |true=>rfl
  |false=>rw[hb] at Bu;cases Bu
 unfold kM at Wy;simp only[ba,aX,Bool.not_eq_true',decide_eq_false_iff_not] at Wy;obtain⟨⟨p1,p2⟩,⟨p3,p4⟩,p5,p6,p7,p8,p9,tU,p11,p12,p13,p14⟩:=Wy;have xN:=Ww s.m (fJ who f);have O9:=vEw s.ids f.2.1;have hlen:=xN.length_eq;have pD:=O9.length_eq;rw[List.length_cons] at hlen pD;have bR:yH s.B.1.length (fJ who f):=⟨p1,by omega,p3,by omega,p9,p6,p7,p8,tU⟩;have fh:∀x,x∈s.ids→x∈pN s.ids f.2.1:=fun x hx=>O9.symm.subset (List.mem_cons_of_mem _ hx)
 have Kt:qK (fJ who f::s.m):=List.pairwise_cons.2 ⟨fun q hq e=>Mn (by have:=hw.were q hq;rw[←e] at this;exact this),hw.dist⟩;refine⟨Kt.perm xN,by omega,Wv hw.sort _,fun q hq=>?_,fun q hq=>?_,fun q hq=>?_,Wx hw.asc Mn,fun x hx=>?_,by omega⟩
 ·rcases List.mem_cons.1 (xN.subset hq) with rfl|oO
  ·exact bR
  ·exact hw.may q oO
 ·rcases List.mem_cons.1 (xN.subset hq) with rfl|oO
  ·exact⟨p11,p12,p14⟩
  ·exact hw.time q oO
 ·rcases List.mem_cons.1 (xN.subset hq) with rfl|oO
  ·exact O9.symm.subset (List.mem_cons_self ..)
  ·exact fh _ (hw.were q oO)
 ·rcases List.mem_cons.1 (O9.subset hx) with rfl|nr
  ·exact p5
  ·exact hw.pos x nr
theorem yCt {r s}(h:qV r s){who f}(h0:(kN r s who f).1=0):j4 s.B.1.length (kN r s who f).2.1 s.ids:=by
 have hw:=h.waits;unfold kN at h0⊢;cases hx:vW s.m f.2.1 with
 |none=>omega
 |some x=>
 rw[hx] at h0;have dj:=(kI hx).1;have bL:s.m.getD x pd∈s.m:=by grind
 have hm:=hw.may _ bL;have ht:=hw.time _ bL;simp only at h0⊢;cases hc:decide ((s.m.getD x pd).2.1=who) with
 |false=>simp_all
 |true=>
 cases cL:decide (f.1=2) with
 |true=>exact hw.sub (ui _ _)
 |false=>
 cases dH:decide (f.1=4) with
 |true=>
  cases gD:decide (f.2.2.1≥1)&&decide (f.2.2.1≤3) with
  |false=>simp_all
  |true=>
  cases mI:decide (pT r.2.2.1 r.2.2.2.1 s.t f.2.2.1=0) with
  |false=>simp_all
  |true=>
  simp  at gD;obtain⟨m1,m2,m3,m4,m5,m6,m7,m8,m9⟩:=hm;exact hw.turn dj (Ww _ _) (Wv (hw.sort.cut x) _) rfl ⟨m1,m2,m3,m4,m5,m6,m7,gD.1,gD.2⟩ ht
 |false=>
  cases gD:decide (f.2.2.1=0) with
  |true=>exact hw.turn dj (vVk _ _) (vOv (hw.sort.cut x) _) rfl hm ht
  |false=>
   cases mI:decide (f.2.2.1=1) with
   |true=>exact hw.turn dj (Ww _ _) (Wv (hw.sort.cut x) _) rfl hm ht
   |false=>simp_all
theorem yJi {n}(h:-1≤n∧n≤1152921504606846976):wN n=true:=by
 unfold wN;grind
theorem oW {a}:jY a=true↔(-4611686018427387904<a.1∧a.1<4611686018427387904)∧(0≤a.2.1∧a.2.1≤2305843009213693952)∧(0≤a.2.2∧a.2.2≤2305843009213693952):=by
 unfold jY;grind
theorem wK.setBil {a}{b:jF}{m}{p:jF}(h:wK a b m p){w i}(hw:w<a.length)(hi:i<a.length){n}(hn:-1≤n∧n≤1152921504606846976):wK a (b.set w ((b.getD w []).set i n)) m p:=
  { h with
    bl:=by rw[List.length_set];exact h.bl
    br:=fun j hj=>by
      rw[fm];split
      · rw[List.length_set];exact h.br w hw
      · exact h.br j hj
    bil:=fun j hj k hk=>by
      unfold cell;rw[fm];split
      · rw[fm];split
        · exact yJi hn
        · exact h.bil w hw k hk
      · exact h.bil j hj k hk}
theorem wK.setMul {a}{b:jF}{m}{p:jF}(h:wK a b m p) w {n}(hn:-1≤n∧n≤1152921504606846976):wK a b (m.set w n) p:=
  { h with
    ml:=by rw[List.length_set];exact h.ml
    mul:=fun j hj=>by
      rw[fm];split
      · exact yJi hn
      · exact h.mul j hj}
theorem wK.setAcct {a}{b:jF}{m}{p:jF}(h:wK a b m p){a'}(hl:a'.length=a.length)(ha:∀i,i<a.length→jY (a'.getD i ad)=true):wK a' b m p where
 n1:=by rw[hl];exact h.n1
 n6:=by rw[hl];exact h.n6
 bl:=by rw[hl];exact h.bl
 br:=by rw[hl];exact h.br
 ml:=by rw[hl];exact h.ml
 pl:=by rw[hl];exact h.pl
 pr:=by rw[hl];exact h.pr
 mul:=by rw[hl];exact h.mul
 bil:=by rw[hl];exact h.bil
 acct:=by simp_all
 net:=by rw[hl];exact h.net
 turn:=by rw[hl];exact h.turn
theorem vNd {n g i}(hi:i<n) d:qG (fun j=>if j=i then g j+d else g j) n=qG g n+d:=by
 have e:qG (fun j=>if j=i then g j+d else g j) n=qG (fun j=>g j+(if j=i then d else 0)) n:=by grind
 rw[e,Dt,AI,if_pos hi]
theorem qV.books {r s}(h:qV r s){B}(hb:qN B)(hl:B.1.length=s.B.1.length)(AU:∀i,i<s.B.1.length→(B.1.getD i ad).1=(s.B.1.getD i ad).1)(hc:∀i,i<s.B.1.length→(B.1.getD i ad).2.1=(s.B.1.getD i ad).2.1):qV r {s with B:=B} where
 tk:=h.tk
 bk:=hb
 n:=by rw[hl];exact h.n
 hol:=by rw[hl];exact h.hol
 laid:=by rw[hl];exact h.laid
 cred:=by rw[hl];intro i hi;rw[hc i hi];exact h.cred i hi
 most:=by rw[hl];intro i hi;rw[hc i hi];exact h.most i hi
 waits:=by rw[hl];exact h.waits
 sum:=by rw[hl,se AU];exact h.sum
 tot:=h.tot
 over:=h.over
 none:=h.none
theorem qV.queue {r s}(h:qV r s)(ho:s.ov=false){m ids}(hw:j4 s.B.1.length m ids):qV r {s with m:=m,ids:=ids} where
 tk:=h.tk
 bk:=h.bk
 n:=h.n
 hol:=h.hol
 laid:=h.laid
 cred:=h.cred
 most:=h.most
 waits:=hw
 sum:=h.sum
 tot:=h.tot
 over:=h.over
 none:=by grind
theorem yZk {r:qD}{s:zR}(h:qV r s){who:Int}(hw:0≤who∧who<r.1){f:wI}(h0:(iL r s who f).1=0):qV r (iL r s who f).2:=by
 have hn:=h.n;have hb:wK s.B.1 s.B.2.1 s.B.2.2.1 s.B.2.2.2:=h.bk;obtain⟨w,rfl⟩:=Int.eq_ofNat_of_zero_le hw.1;have gm:w<s.B.1.length:=by omega
 unfold iL at h0⊢;cases hc:decide (f.1=5) with
 |true=>
  rw[hc] at h0;simp only[aj] at h0⊢;cases cL:decide (f.2.1≥0)&&decide (f.2.1≤r.1-1) with
  |false=>rw[cL] at h0;cases h0
  |true=>
  cases dH:decide (f.2.1=(w:Int)) with
  |true=>rw[cL,dH] at h0;cases h0
  |false=>
  cases gD:decide (f.2.2.1≥-1)&&decide (f.2.2.1≤1152921504606846976) with
  |false=>rw[cL,dH,gD] at h0;cases h0
  |true=>
  simp only[ba,aX] at cL gD;exact h.books (B:=(s.B.1,s.B.2.1.set w ((s.B.2.1.getD w []).set f.2.1.toNat f.2.2.1),s.B.2.2.1,s.B.2.2.2)) (hb.setBil gm (by omega) (by grind)) rfl (by simp) (by simp)
 |false=>
  rw[hc] at h0;simp only[ak] at h0⊢;cases cL:decide (f.1=6) with
  |true=>
   rw[cL] at h0;simp only[aj] at h0⊢;cases dH:decide (f.2.1≥-1)&&decide (f.2.1≤1152921504606846976) with
   |false=>rw[dH] at h0;cases h0
   |true=>
   simp only[ba,aX] at dH;exact h.books (B:=(s.B.1,s.B.2.1,s.B.2.2.1.set w f.2.1,s.B.2.2.2)) (hb.setMul w (by grind)) rfl (fun _ _=>rfl) (by simp)
  |false=>
   rw[cL] at h0;simp only[ak] at h0⊢;cases dH:decide (f.2.1≥0)&&decide (f.2.1≤1152921504606846976) with
   |false=>rw[dH] at h0;cases h0
   |true=>
   have hg:∀i,(s.B.1.set w ((s.B.1.getD w ad).1,(s.B.1.getD w ad).2.1,f.2.1)).getD i ad=if i=w then((s.B.1.getD w ad).1,(s.B.1.getD w ad).2.1,f.2.1) else s.B.1.getD i ad:=by grind
   refine h.books (B:=(s.B.1.set w ((s.B.1.getD w ad).1,(s.B.1.getD w ad).2.1,f.2.1),s.B.2.1,s.B.2.2.1,s.B.2.2.2)) (hb.setAcct (by rw[List.length_set]) fun i hi=>?_) (by simp) (fun i hi=>?_) (fun i hi=>?_)
   ·rw[hg];split
    ·have:=oW.1 (hb.acct w gm);rw[oW];grind
    ·exact hb.acct i hi
   all_goals grind
theorem yCd {r}(hr:vO r){s}(h:qV r s){who}(hw:0≤who∧who<r.1){a many}(h0:(iM r s who a many).1=0):qV r (iM r s who a many).2:=by
  have hn:=h.n;have hb:wK s.B.1 s.B.2.1 s.B.2.2.1 s.B.2.2.2:=h.bk;obtain⟨w,rfl⟩:=Int.eq_ofNat_of_zero_le hw.1;have gm:w<s.B.1.length:=by omega
  have hol:=h.hol;unfold iM at h0⊢;simp only[aq] at h0⊢;cases hc:decide (a≥0)&&decide (a≤(r.2.1.length:Int)-1) with
  |false=>simp_all
  |true=>
  cases cL:decide (many≥0)&&decide (many≤1099511627776) with
  |false=>simp_all
  |true=>
  rw[hc,cL] at h0;simp only[aA,ak] at h0⊢;simp  at hc cL;have L2:=(h.laid w gm).set (i:=a.toNat) (by omega) (v:=many) (by grind);have zj:=Fa L2;obtain⟨n,bm⟩:∃n,n=lW r.2.1 s.pr ((s.ho.getD w []).set a.toNat many):=by simp
  rw[←bm] at h0 zj⊢;unfold Bk at h0⊢;cases dH:decide (n>1152921504606846976) with
  |true=>simp_all
  |false=>
  cases gD:decide (n<(s.B.1.getD w ad).2.1)&&decide ((s.B.1.getD w ad).1+n<0) with
  |true=>simp_all
  |false=>
  have dH:=gE dH;have hg:∀i,(s.B.1.set w ((s.B.1.getD w ad).1,n,(s.B.1.getD w ad).2.2)).getD i ad=if i=w then((s.B.1.getD w ad).1,n,(s.B.1.getD w ad).2.2) else s.B.1.getD i ad:=by grind
  have hgh:∀i,(s.ho.set w ((s.ho.getD w []).set a.toNat many)).getD i []=if i=w then(s.ho.getD w []).set a.toNat many else s.ho.getD i []:=by grind
  simp only[ak];have gn:(s.B.1.set w ((s.B.1.getD w ad).1,n,(s.B.1.getD w ad).2.2)).length=s.B.1.length:=by simp
  exact{
    tk:=h.tk
    bk:=hb.setAcct gn fun i hi=>by
      rw[hg];split
      · have:=oW.1 (hb.acct w gm);rw[oW];grind
      · exact hb.acct i hi
    n:=by simp_all
    hol:=by simp_all
    laid:=by
      rw[gn];intro i hi;rw[hgh];split
      · exact L2
      · exact h.laid i hi
    cred:=by
      rw[gn];intro i hi;rw[hg,hgh];split
      · exact bm
      · exact h.cred i hi
    most:=by
      rw[gn];intro i hi;rw[hg];split
      · show n≤_;omega
      · exact h.most i hi
    waits:=by rw[gn];exact h.waits
    sum:=by
      rw[gn,se (h:=fun i=>(s.B.1.getD i ad).1) (by grind)];exact h.sum
    tot:=h.tot
    over:=h.over
    none:=h.none}
theorem yE6 {r s}(h:qV r s){i}(hi:i<s.B.1.length){n}(hz:(wT (s.B.1.getD i ad) n).2=0)(ht:0≤s.to+n∧s.to+n≤1152921504606846976):
    qV r (O6 s i (wT (s.B.1.getD i ad) n).1 (s.to+n)):=by
  have hb:wK s.B.1 s.B.2.1 s.B.2.2.1 s.B.2.2.2:=h.bk;unfold wT at hz⊢;cases hc:jY ((s.B.1.getD i ad).1+n,(s.B.1.getD i ad).2.1,(s.B.1.getD i ad).2.2) with
  |false=>simp_all
  |true=>
  simp only[aj];have hg:∀j,(s.B.1.set i ((s.B.1.getD i ad).1+n,(s.B.1.getD i ad).2.1,(s.B.1.getD i ad).2.2)).getD j ad=if j=i then((s.B.1.getD i ad).1+n,(s.B.1.getD i ad).2.1,(s.B.1.getD i ad).2.2) else s.B.1.getD j ad:=by grind
  have gn:(s.B.1.set i ((s.B.1.getD i ad).1+n,(s.B.1.getD i ad).2.1,(s.B.1.getD i ad).2.2)).length=s.B.1.length:=by simp
  unfold O6;exact{
    tk:=h.tk
    bk:=hb.setAcct gn fun j hj=>by
      rw[hg];split
      · exact hc
      · exact hb.acct j hj
    n:=by rw[gn];exact h.n
    hol:=by rw[gn];exact h.hol
    laid:=by rw[gn];exact h.laid
    cred:=by
      rw[gn];intro j hj;rw[hg];split
      · rename_i e;rw[e];exact h.cred i hi
      · exact h.cred j hj
    most:=by
      rw[gn];intro j hj;rw[hg];split
      · exact h.most i hi
      · exact h.most j hj
    waits:=by rw[gn];exact h.waits
    sum:=by
      rw[gn,se (h:=fun j=>if j=i then(s.B.1.getD j ad).1+n else(s.B.1.getD j ad).1) (by grind),vNd hi,h.sum]
    tot:=ht
    over:=h.over
    none:=h.none}
theorem yQs {r s}(h:qV r s){kd to n}(h0:(iq r s kd to n).1=0):qV r (iq r s kd to n).2∧(iq r s kd to n).2.to=s.to+(if kd=11 then-n else n)∧(iq r s kd to n).2.m=s.m∧(iq r s kd to n).2.ids=s.ids∧(iq r s kd to n).2.t=s.t:=by
 have hn:=h.n;have ht:=h.tot;unfold iq at h0⊢;cases hc:decide (to≥0)&&decide (to≤r.1-1) with
 |false=>rw[hc] at h0;cases h0
 |true=>
 cases cL:decide (n≥1)&&decide (n≤1099511627776) with
 |false=>simp_all
 |true=>
 rw[hc,cL] at h0;simp  at hc cL;have hi:to.toNat<s.B.1.length:=by omega
 by_cases hk:kd=11
 ·rw[aa hk] at h0⊢;rw[if_pos hk];unfold F5 at h0⊢;cases dH:decide ((s.B.1.getD to.toNat ad).1+(s.B.1.getD to.toNat ad).2.1-(s.B.1.getD to.toNat ad).2.2<n) with
  |true=>rw[dH] at h0;cases h0
  |false=>
  cases gD:decide (s.to-n<0) with
  |true=>simp_all
  |false=>
  cases hz:decide ((wT (s.B.1.getD to.toNat ad) (-n)).2=0) with
  |false=>grind
  |true=>
  cases mI:decide (s.to-n>1152921504606846976) with
  |true=>grind
  |false=>
  have gD:=gE gD;have:=yE6 h hi (n:= -n) (by grind) (by omega);exact⟨this,rfl,rfl,rfl,rfl⟩
 ·rw[ab hk] at h0⊢;rw[if_neg hk];unfold F6 at h0⊢;cases hz:decide ((wT (s.B.1.getD to.toNat ad) n).2=0) with
  |false=>simp_all
  |true=>
  cases mI:decide (s.to+n>1152921504606846976) with
  |true=>simp_all
  |false=>
  have mI:=gE mI;exact⟨yE6 h hi (by grind) (by omega),rfl,rfl,rfl,rfl⟩
theorem yH0 {r s}(h:qV r s){a p}(h0:(iN r s a p).1=0):qV r (iN r s a p).2:=by
  have hb:wK s.B.1 s.B.2.1 s.B.2.2.1 s.B.2.2.2:=h.bk;unfold iN at h0⊢;cases hc:decide (a≥0)&&decide (a≤(r.2.1.length:Int)-1) with
  |false=>simp_all
  |true=>
  cases cL:decide (p≥0)&&decide (p≤1048576) with
  |false=>simp_all
  |true=>
  simp  at hc cL;have hL:∀i,i<s.B.1.length→kJ r.2.1 (s.pr.set a.toNat p) (s.ho.getD i []):=fun i hi=>(h.laid i hi).setP (by omega) (by grind)
  generalize s.pr.set a.toNat p=pr at*
  unfold Br at h0⊢;cases dH:qF (fun j=> !decide (fK r.2.1 pr s.ho j>1152921504606846976)) s.B.1.length 0 with
  |false=>simp_all
  |true=>
  simp;have hle:∀i,i<s.B.1.length→fK r.2.1 pr s.ho i≤1152921504606846976:=fun i hi=>by
    have:=gg.1 dH i hi;simp_all
  have gn:=Wp r.2.1 pr s.ho s.B.1;have hg:=fun(j:Nat) (hj:j<s.B.1.length)=>O7 r.2.1 pr s.ho s.B.1 hj
  exact{
    tk:=h.tk
    bk:=hb.setAcct gn fun i hi=>by
      rw[hg i hi];have:=oW.1 (hb.acct i hi);have h1:=Fa (hL i hi);rw[oW];exact⟨this.1,⟨h1,by grind⟩,this.2.2⟩
    n:=by rw[gn];exact h.n
    hol:=by rw[gn];exact h.hol
    laid:=by simp_all
    cred:=by
      rw[gn];intro i hi;rw[hg i hi];rfl
    most:=by
      simp_all
    waits:=by rw[gn];exact h.waits
    sum:=by
      rw[gn,se (h:=fun i=>(s.B.1.getD i ad).1) (by grind)];exact h.sum
    tot:=h.tot
    over:=h.over
    none:=h.none}
abbrev MT:=Int×List oP×Int×Int×Int×Int×List qX×jF×AC×jF×AC×jF×List zH×AC×Int×Bool×Int×Int
abbrev Wz:=Int×List oP×Int×Int×Int×Int×List qX×jF×AC×jF×AC×jF×List zH×AC×Int×Bool×Int×List qZ×Int
def rk (r:qD)(s:zR)(who:Int):MT:=(r.1,r.2.1,r.2.2.1,r.2.2.2.1,r.2.2.2.2,s.t,s.B.1,s.B.2.1,s.B.2.2.1,s.B.2.2.2,s.pr,s.ho,s.m,s.ids,s.to,s.ov,who,0)
def qL (r:qD)(s:zR)(who:Int)(l:List qZ)(paid:Int):Wz:=(r.1,r.2.1,r.2.2.1,r.2.2.2.1,r.2.2.2.2,s.t,s.B.1,s.B.2.1,s.B.2.2.1,s.B.2.2.2,s.pr,s.ho,s.m,s.ids,s.to,s.ov,who,l,paid)
def Gc (pa n:Int):Int:=bif decide (n<0) then-1 else bif decide (n≥pa) then-1 else n
theorem WA k r s who l p n:uF k (qL r s who l p) n=some (Gc r.1 n):=by
 unfold uF Gc;have e:(qL r s who l p).1=r.1:=rfl;grind
theorem WB {pa n}(h:0≤n∧n<pa):Gc pa n=n:=by
 unfold Gc;grind
theorem WC {pa n}(h:¬(0≤n∧n<pa)):Gc pa n= -1:=by
 unfold Gc;grind
theorem yYj k (r:qD) t c:Gd k r t c=some (pT r.2.2.1 r.2.2.2.1 t c):=by
 unfold Gd pT;grind
theorem yVz k (r:qD) t (p:zH):Bv k r t p=some (mV r t p):=by
 unfold Bv mV;rw[yYj];simp only[ae];have no:¬(p.2.1≥0∧p.2.1<r.1∧p.2.2.1≥0∧p.2.2.1<r.1∧p.1≥1∧p.2.2.2.1≥1∧p.2.2.2.1≤1099511627776∧p.2.2.2.2.1≥1∧¬p.2.1=p.2.2.1∧p.2.2.2.2.1≤3∧p.2.2.2.2.2.1≥0∧p.2.2.2.2.2.1≤p.2.2.2.2.2.2∧p.2.2.2.2.2.2≥t∧p.2.2.2.2.2.2≤1048576)→kM r.1 t p=false:=by
  intro h;cases e:kM r.1 t p with
  |false=>rfl
  |true=>
   unfold kM at e;grind
 by_cases c1:p.1<1
 ·rw[aa c1,no (fun⟨_,_,_,_,h,_⟩=>by omega)];rfl
 by_cases c2:p.2.1<0
 ·rw[ab c1,aa c2,no (fun⟨h,_⟩=>by omega)];rfl
 by_cases c3:p.2.1≥r.1
 ·rw[ab c1,ab c2,aa c3,no (fun⟨_,h,_⟩=>by omega)];rfl
 by_cases c4:p.2.2.1<0
 ·rw[ab c1,ab c2,ab c3,aa c4,no (fun⟨_,_,h,_⟩=>by omega)];rfl
 by_cases c5:p.2.2.1≥r.1
 ·rw[ab c1,ab c2,ab c3,ab c4,aa c5,no (fun⟨_,_,_,h,_⟩=>by omega)];rfl
 rw[ab c1,ab c2,ab c3,ab c4,ab c5];simp only[ak];by_cases c6:p.2.1=p.2.2.1
 ·rw[aa c6,no (fun⟨_,_,_,_,_,_,_,_,h,_⟩=>h c6)];rfl
 by_cases c7:p.2.2.2.1<1
 ·rw[ab c6,aa c7,no (fun⟨_,_,_,_,_,h,_⟩=>by omega)];rfl
 by_cases c8:p.2.2.2.1>1099511627776
 ·rw[ab c6,ab c7,aa c8,no (fun⟨_,_,_,_,_,_,h,_⟩=>by omega)];rfl
 by_cases c9:p.2.2.2.2.1<1
 ·rw[ab c6,ab c7,ab c8,aa c9,no (fun⟨_,_,_,_,_,_,_,h,_⟩=>by omega)];rfl
 by_cases N3:p.2.2.2.2.1>3
 ·rw[ab c6,ab c7,ab c8,ab c9,aa N3,no (by grind)];rfl
 rw[ab c6,ab c7,ab c8,ab c9,ab N3];simp only[ak];by_cases A5:p.2.2.2.2.2.1<0
 ·rw[aa A5,no (by grind)];rfl
 by_cases Pb:p.2.2.2.2.2.1>p.2.2.2.2.2.2
 ·rw[ab A5,aa Pb,no (by grind)];rfl
 by_cases WD:p.2.2.2.2.2.2<t
 ·rw[ab A5,ab Pb,aa WD,no (by grind)];rfl
 by_cases c14:p.2.2.2.2.2.2>1048576
 ·rw[ab A5,ab Pb,ab WD,aa c14,no (by grind)];rfl
 rw[ab A5,ab Pb,ab WD,ab c14];have e:kM r.1 t p=true:=by
  unfold kM;simp_all
 rw[e];rfl
def Bw (k:Nat)(r:qD)(s:zR)(who:Int)(p:zH):Option (Int×Wz):=
 (Bv k r s.t p).bind fun x1=>
 bif !(decide (x1=0)) then some (x1,qL r s who [] 0)
 else(Bp k s.ids p.1).bind fun x2=>
 bif !(decide (x2.2=0)) then some (x2.2,qL r s who [] 0)
 else(Bo k s.m p.1 p.2.1 p.2.2.1 p.2.2.2.1 p.2.2.2.2.1 p.2.2.2.2.2.1 p.2.2.2.2.2.2).bind fun x3=>
 bif !(decide (x3.2=0)) then some (x3.2,qL r s who [] 0)
 else some (0,qL r {s with m:=x3.1,ids:=x2.1} who [] p.1)
theorem vMf {k}(hk:1000≤k){r}(hr:vO r){s}(h:j4 s.B.1.length s.m s.ids) who f:
  ∃d,Pc k (rk r s who) f.2=some ((iK r s who f).1,d)∧((iK r s who f).1=0→d=qL r {s with m:=(iK r s who f).2.1,ids:=(iK r s who f).2.2} who [] f.2.1):=by
 have hp:=hr.pa;have hi:=h.idl;have hm:=h.len;have eD:Pc k (rk r s who) f.2=(uF k (qL r s who [] 0) f.2.2.1).bind fun x0=>
  bif decide (f.2.2.2.2.1 ≥ 1) then (bif decide (f.2.2.2.2.1≤3) then Bw k r s who (f.2.1,who,x0,f.2.2.2)
   else Bw k r s who (f.2.1,who,x0,f.2.2.2.1,0,f.2.2.2.2.2))
  else Bw k r s who (f.2.1,who,x0,f.2.2.2.1,0,f.2.2.2.2.2):=rfl
 have bad:∀p:zH,kM r.1 s.t p=false→Bw k r s who p=some (1,qL r s who [] 0):=by
  intro p hp;unfold Bw;rw[yVz];unfold mV;rw[hp];rfl
 have abm:∀p:zH,¬(p.2.2.1≥0∧p.2.2.2.2.1≥1)→kM r.1 s.t p=false:=by
  intro p hn;cases e:kM r.1 s.t p with
  |false=>rfl
  |true=>
   unfold kM at e;simp  at e;obtain⟨_,⟨a3,_⟩,_,_,_,a8,_⟩:=e;exact absurd ⟨a3,a8⟩ hn
 rw[eD,WA];simp only[ae];unfold iK;by_cases Ku:0≤f.2.2.1∧f.2.2.1<r.1
 ·rw[WB Ku,aa (show f.2.2.1≥0 by omega),aa (show f.2.2.1≤r.1-1 by omega)];by_cases hc:f.2.2.2.2.1≥1∧f.2.2.2.2.1≤3
  ·rw[aa hc.1,aa hc.2];simp only[Bool.and_self,aA,ak,aj];have ep:((f.2.1,who,f.2.2.1,f.2.2.2):zH)=fJ who f:=rfl;rw[ep];unfold Bw;rw[yVz];simp only[ae];by_cases hz:mV r s.t (fJ who f)=0
   ·rw[aa hz];have e1:(fJ who f).1=f.2.1:=rfl;simp only[aA,ak];rw[e1,vPf (by omega) (by omega)];simp only[ae];by_cases h1:f.2.1∈s.ids
    ·rw[aa h1];exact⟨_,rfl,fun e=>by cases e⟩
    ·rw[ab h1];by_cases h2:200≤s.ids.length
     ·rw[aa h2];exact⟨_,rfl,fun e=>by cases e⟩
     ·rw[ab h2];have e3:=Wl (k:=k) (l:=s.m) (by omega) (by omega) (fJ who f);rw[e1] at e3;simp only[ak,decide_true,aA];rw[e3];simp only[ae];cases(vW s.m f.2.1).isSome with
      |true=>exact⟨_,rfl,fun e=>by cases e⟩
      |false=>
       by_cases h3:40≤s.m.length
       ·rw[aa h3];exact⟨_,rfl,fun e=>by cases e⟩
       ·rw[ab h3];exact⟨_,rfl,fun _=>rfl⟩
   ·rw[ab hz];exact⟨_,rfl,fun e=>absurd e hz⟩
  ·have e0:=bad (f.2.1,who,f.2.2.1,f.2.2.2.1,0,f.2.2.2.2.2) (by grind);rw[e0];have g:(!(decide (f.2.2.2.2.1≥1)&&decide (f.2.2.2.2.1≤3)))=true:=by
    by_cases a:f.2.2.2.2.1≥1
    ·rw[aa a,ab (fun b=>hc ⟨a,b⟩)];rfl
    ·rw[ab a];rfl
   rw[g];refine⟨qL r s who [] 0,?_,fun e=>by cases e⟩;by_cases a:f.2.2.2.2.1≥1
   ·rw[aa a,ab (fun b=>hc ⟨a,b⟩)];rfl
   ·rw[ab a];rfl
 ·have g:(!(decide (f.2.2.1≥0)&&decide (f.2.2.1≤r.1-1)))=true:=by
   by_cases a:f.2.2.1≥0
   ·rw[aa a,ab (show¬f.2.2.1≤r.1-1 by omega)];rfl
   ·rw[ab a];rfl
  have q:∀x:Int×Int×Int×Int,Bw k r s who (f.2.1,who,-1,x)=some (1,qL r s who [] 0):=by grind
  rw[g,WC Ku,q,q];refine⟨qL r s who [] 0,?_,fun e=>by cases e⟩;cases decide (f.2.2.2.2.1≥1)<;>cases decide (f.2.2.2.2.1≤3)<;>rfl
theorem vGb {k}(hk:1000≤k){r s}(h:j4 s.B.1.length s.m s.ids) who f (hf:f.1=2∨f.1=3∨f.1=4):
    ∃d,Bx k (rk r s who) f.1 f.2=some ((kN r s who f).1,d)∧((kN r s who f).1=0→d=qL r {s with m:=(kN r s who f).2.1} who (kN r s who f).2.2 0):=by
  have hm:=h.len;have oz:qO s.m:=by unfold qO;omega
  have eD : Bx k (rk r s who) f.1 f.2 = ((mQ k s.m f.2.1).bind fun x0=>
      bif decide (x0<0) then some (((0,0,0,0,0,0,0):zH),false)
      else bif zB x0 s.m.length then (bif !(decide ((s.m.getD x0.toNat (0,0,0,0,0,0,0)).2.1=who)) then some ((0,0,0,0,0,0,0),false)
        else bif zB x0 s.m.length then some ((s.m.getD x0.toNat (0,0,0,0,0,0,0)),true)
        else none)
      else none).bind fun x0=>
    bif !x0.2 then some (4,qL r s who [] 0)
    else bif decide (f.1 = 2) then ((nQ k s.m f.2.1).bind fun x1=>
      (eW k 20 [f.2.1]).bind fun x2=>
      some (0,qL r {s with m:=x1.1} who [(who,x2)] 0))
    else bif decide (f.1 = 3) then (bif decide (f.2.2.1 = 0) then ((Kn k s.m f.2.1).bind fun x3=>
       some (0,qL r {s with m:=x3.1} who [] 0))
      else bif decide (f.2.2.1 = 1) then ((Km k s.m f.2.1).bind fun x4=>
       some (0,qL r {s with m:=x4.1} who [] 0))
      else some (1,qL r s who [] 0))
    else bif decide (f.2.2.1<1) then some (1,qL r s who [] 0)
    else bif decide (f.2.2.1>3) then some (1,qL r s who [] 0)
    else(Gd k r s.t f.2.2.1).bind fun x5=>
    bif !(decide (x5=0)) then some (x5,qL r s who [] 0)
    else(Kl k s.m f.2.1 f.2.2.1).bind fun x6=>
    some (0,qL r {s with m:=x6.1} who [] 0):=rfl
  rw[eD,N2 (by omega) (by omega)];unfold kN j0;cases hx:vW s.m f.2.1 with
  |none=>exact by simp
  |some x=>
    have dj:=kI hx;have e1:decide ((x:Int)<0)=false:=ab (by omega);simp only[ae,e1,ak,qB,aa dj.1,aj,aq];by_cases hw:(s.m.getD x (0,0,0,0,0,0,0)).2.1=who
    · have oI:(s.m.getD x pd).2.1=who:=hw;rw[aa hw];simp only[aA,ak,ae];by_cases h2:f.1=2
      · rw[aa h2];obtain⟨n,rfl⟩:∃n,k=n+5:=⟨k-5,by omega⟩;have eo:eW (n+5) 20 [f.2.1]=some (20,f.2.1,0,0,0,0,0):=by kernel_rfl
        simp only[aj,uD (show s.m.length<n+5 by omega) oz,ae,eo];unfold il;rw[hx];exact⟨_,rfl,fun _=>rfl⟩
      · rw[ab h2];simp only[ak];by_cases h3:f.1=3
        · rw[aa h3,ab (show¬f.1=4 by omega)];simp only[aj,ak];by_cases h0:f.2.2.1=0
          · rw[aa h0];simp only[aj,vLr (show s.m.length<k by omega) oz hx,ae];exact⟨_,rfl,fun _=>rfl⟩
          · rw[ab h0];simp only[ak];by_cases h1:f.2.2.1=1
            · rw[aa h1];simp only[aj,vV1 (show s.m.length<k by omega) oz hx,ae];exact⟨_,rfl,fun _=>rfl⟩
            · rw[ab h1];exact by simp
        · rw[ab h3,aa (show f.1=4 by omega)];simp only[ak,aj,yYj,ae,vZ1 (show s.m.length<k by omega) oz hx];by_cases c1:f.2.2.1<1
          · rw[aa c1,ab (show¬f.2.2.1≥1 by omega)];exact⟨_,rfl,fun e=>by cases e⟩
          · rw[ab c1,aa (show f.2.2.1≥1 by omega)];by_cases c2:f.2.2.1>3
            · rw[aa c2,ab (show¬f.2.2.1≤3 by omega)];exact⟨_,rfl,fun e=>by cases e⟩
            · rw[ab c2,aa (show f.2.2.1≤3 by omega)];simp only[Bool.and_self,aA,ak];by_cases hc:pT r.2.2.1 r.2.2.2.1 s.t f.2.2.1=0
              · rw[aa hc];exact⟨_,rfl,fun _=>rfl⟩
              · rw[ab hc];exact by simp
    · rw[ab hw];exact⟨_,rfl,fun e=>by cases e⟩
theorem vNb {k}(hk:1000≤k){r}(hr:vO r){s}(hb:qN s.B)(hn:(s.B.1.length:Int)=r.1){who}(hw:0≤who∧who<r.1) f:
    ∃d,By k (rk r s who) f.1 f.2=some ((iL r s who f).1,d)∧((iL r s who f).1=0→d=qL r (iL r s who f).2 who [] 0):=by
  obtain⟨w,rfl⟩:=Int.eq_ofNat_of_zero_le hw.1;have gm:w<s.B.1.length:=by omega
  have eD:By k (rk r s w) f.1 f.2=(oM k s.B.1 s.B.2.1 s.B.2.2.1 s.B.2.2.2).bind fun x0=>
    bif decide (f.1 = 5) then ((uF k (qL r s w [] 0) f.2.1).bind fun x1=>
      bif decide (x1<0) then some (1,qL r s w [] 0)
      else bif decide (x1=(w:Int)) then some (1,qL r s w [] 0)
      else bif decide (f.2.2.1<(-1)) then some (1,qL r s w [] 0)
      else bif decide (f.2.2.1>1152921504606846976) then some (1,qL r s w [] 0)
      else bif zB (w : Int) x0.2.1.length then (bif zB x1 (x0.2.1.getD (w:Int).toNat []).length then
        some (0,qL r {s with B:=(x0.1,(x0.2.1.set (w:Int).toNat ((x0.2.1.getD (w:Int).toNat []).set x1.toNat f.2.2.1)),x0.2.2.1,x0.2.2.2)} w [] 0)
       else none)
      else none)
    else bif decide (f.1 = 6) then (bif decide (f.2.1<(-1)) then some (1,qL r s w [] 0)
      else bif decide (f.2.1>1152921504606846976) then some (1,qL r s w [] 0)
      else bif zB (w:Int) x0.2.2.1.length then some (0,qL r {s with B:=(x0.1,x0.2.1,(x0.2.2.1.set (w:Int).toNat f.2.1),x0.2.2.2)} w [] 0)
      else none)
    else bif decide (f.2.1<0) then some (1,qL r s w [] 0)
    else bif decide (f.2.1>1152921504606846976) then some (1,qL r s w [] 0)
    else bif zB (w:Int) x0.1.length then some (0,qL r {s with B:=((x0.1.set (w:Int).toNat ((x0.1.getD (w:Int).toNat (0,0,0)).1,(x0.1.getD (w:Int).toNat (0,0,0)).2.1,f.2.1)),x0.2.1,x0.2.2.1,x0.2.2.2)} w [] 0)
    else none:=rfl
  rw[eD,I2 (by omega) hb.toSized,WA];simp only[ae,qB,aq];have two:∀a b:Int,∀x:Int,decide (x<a)= !decide (x≥a)∧decide (x>b)= !decide (x≤b):=by
    intro a b x;constructor
    · by_cases h:x<a
      · rw[aa h,ab (show¬x≥a by omega)];rfl
      · rw[ab h,aa (show x≥a by omega)];rfl
    · by_cases h:x>b
      · rw[aa h,ab (show¬x≤b by omega)];rfl
      · rw[ab h,aa (show x≤b by omega)];rfl
  unfold iL;rw[aq,(two (-1) 1152921504606846976 f.2.2.1).1,(two (-1) 1152921504606846976 f.2.2.1).2,(two (-1) 1152921504606846976 f.2.1).1,(two (-1) 1152921504606846976 f.2.1).2,(two 0 0 f.2.1).1];by_cases h5:f.1=5
  · rw[aa h5];simp only[aj];by_cases hc:0≤f.2.1∧f.2.1<r.1
    · rw[WB hc,aa (show f.2.1≥0 by omega),aa (show f.2.1≤r.1-1 by omega),ab (show¬f.2.1<0 by omega)];have b1:decide (w<s.B.2.1.length)=true:=aa (by rw[hb.bl];exact gm);have b2:zB f.2.1 (s.B.2.1.getD w []).length=true:=fl hc.1 (by rw[hb.br w gm];omega);rw[b1,b2];cases decide (f.2.1=(w:Int)) with
      |true=>exact⟨_,rfl,fun e=>by cases e⟩
      |false=>
        cases decide (f.2.2.1≥-1) with
        |false=>exact⟨_,rfl,fun e=>by cases e⟩
        |true=>
          cases decide (f.2.2.1≤1152921504606846976) with
          |false=>exact⟨_,rfl,fun e=>by cases e⟩
          |true=>exact⟨_,rfl,fun _=>rfl⟩
    · rw[WC hc];have g:(decide (f.2.1≥0)&&decide (f.2.1≤r.1-1))=false:=by
        by_cases a:f.2.1≥0
        · rw[aa a,ab (show¬f.2.1≤r.1-1 by omega)];rfl
        · rw[ab a];rfl
      rw[g];exact⟨_,rfl,fun e=>by cases e⟩
  · rw[ab h5];by_cases h6:f.1=6
    · rw[aa h6];have b1:decide (w<s.B.2.2.1.length)=true:=aa (by rw[hb.ml];exact gm);rw[b1];cases decide (f.2.1≥-1) with
      |false=>exact⟨_,rfl,fun e=>by cases e⟩
      |true=>
        cases decide (f.2.1≤1152921504606846976) with
        |false=>exact⟨_,rfl,fun e=>by cases e⟩
        |true=>exact⟨_,rfl,fun _=>rfl⟩
    · rw[ab h6];have b1:decide (w<s.B.1.length)=true:=aa gm;rw[b1];cases decide (f.2.1≥0) with
      |false=>exact⟨_,rfl,fun e=>by cases e⟩
      |true=>
        cases decide (f.2.1≤1152921504606846976) with
        |false=>exact⟨_,rfl,fun e=>by cases e⟩
        |true=>exact⟨_,rfl,fun _=>rfl⟩
theorem yGj {k l}(hl:l.length≤1000){i:Nat}(h1:i<l.length) v:uG k l i v=some (l.set i v):=by
 unfold uG;rw[qJ (n:=0+l.length) (by omega) (by omega),aa (by simp),aa (by grind),qB,aa h1,aq];rfl
theorem vNz {r}(hr:vO r){s}(h:qV r s){who}(hw:0≤who∧who<r.1) a many:
    ∃d,Pd 1000 (rk r s who) a many=some ((iM r s who a many).1,d)∧((iM r s who a many).1=0→d=qL r (iM r s who a many).2 who [] 0):=by
  have h3:=hr.n3;have hn:=h.n;have gl:=h.bk.n6;have hol:=h.hol;obtain⟨w,rfl⟩:=Int.eq_ofNat_of_zero_le hw.1;have gm:w<s.B.1.length:=by omega
  have eD:Pd 1000 (rk r s w) a many=
    bif decide (a<0) then some (1,qL r s w [] 0)
    else bif decide (a≥(r.2.1.length:Int)) then some (1,qL r s w [] 0)
    else bif decide (many<0) then some (1,qL r s w [] 0)
    else bif decide (many>1099511627776) then some (1,qL r s w [] 0)
    else bif zB (w : Int) s.ho.length then ((uG 1000 (s.ho.getD (w:Int).toNat []) a many).bind fun x0=>
      (Bm 1000 r.2.1 s.pr x0).bind fun x1=>
      bif !x1.2 then some (8,qL r s w [] 0)
      else bif decide (x1.1>1152921504606846976) then some (8,qL r s w [] 0)
      else(oM 1000 s.B.1 s.B.2.1 s.B.2.2.1 s.B.2.2.2).bind fun x2=>
      bif zB (w : Int) x2.1.length then (bif decide (x1.1 < (x2.1.getD (w : Int).toNat (0, 0, 0)).2.1) then (bif decide ((zA ((x2.1.getD (w:Int).toNat (0,0,0)).1+x1.1))<0) then some (9,qL r s w [] 0)
         else bif zB (w:Int) x2.1.length then(
          bif zP (0 + s.ho.length) 24 then (bif zB (w:Int) s.ho.length then
           some (0,qL r {s with B:=((x2.1.set (w:Int).toNat ((x2.1.getD (w:Int).toNat (0,0,0)).1,x1.1,(x2.1.getD (w:Int).toNat (0,0,0)).2.2)),x2.2.1,x2.2.2.1,x2.2.2.2),ho:=s.ho.set (w:Int).toNat x0} w [] 0)
           else none)
          else none)
         else none)
        else bif zB (w:Int) x2.1.length then(
         bif zP (0 + s.ho.length) 24 then (bif zB (w:Int) s.ho.length then
           some (0,qL r {s with B:=((x2.1.set (w:Int).toNat ((x2.1.getD (w:Int).toNat (0,0,0)).1,x1.1,(x2.1.getD (w:Int).toNat (0,0,0)).2.2)),x2.2.1,x2.2.2.1,x2.2.2.2),ho:=s.ho.set (w:Int).toNat x0} w [] 0)
          else none)
         else none)
        else none)
      else none)
    else none:=rfl
  rw[eD,I2 (by omega) h.bk.toSized];simp only[ae,qB,aq];unfold iM;simp only[aq];by_cases c1:a<0
  · rw[aa c1,ab (show¬a≥0 by omega)];exact⟨_,rfl,fun e=>by cases e⟩
  rw[ab c1,aa (show a≥0 by omega)];by_cases c2:a≥(r.2.1.length:Int)
  · rw[aa c2,ab (show¬a≤(r.2.1.length:Int)-1 by omega)];exact⟨_,rfl,fun e=>by cases e⟩
  rw[ab c2,aa (show a≤(r.2.1.length:Int)-1 by omega)];by_cases c3:many<0
  · rw[aa c3,ab (show¬many≥0 by omega)];exact⟨_,rfl,fun e=>by cases e⟩
  rw[ab c3,aa (show many≥0 by omega)];by_cases c4:many>1099511627776
  · rw[aa c4,ab (show¬many≤1099511627776 by omega)];exact⟨_,rfl,fun e=>by cases e⟩
  rw[ab c4,aa (show many≤1099511627776 by omega)];obtain⟨i,rfl⟩:=Int.eq_ofNat_of_zero_le (show 0≤a by omega);have hi:i<r.2.1.length:=by omega
  have L:=h.laid w gm;have L2:=L.set hi (v:=many) ⟨by omega,by omega⟩;have b1:decide (w<s.ho.length)=true:=aa (by omega);have b2:decide (w<s.B.1.length)=true:=aa gm;have lZ:uG 1000 (s.ho.getD w []) (i:Int) many=some ((s.ho.getD w []).set i many):=yGj (by rw[L.hl];omega) (by rw[L.hl];omega) many;have hv:=yH3 L2;have hb:=h.bk.nums.bal w gm;have zj:=Fa L2;have e24:zP (0+s.ho.length) 24=true:=qJ (by omega) (by omega);simp only[Bool.and_self,aA,ak,b1,aj,lZ,ae,hv,b2,aq,e24];clear hv L2 eD;generalize lW r.2.1 s.pr ((s.ho.getD w []).set i many)=n at zj⊢;unfold Bk;cases VW:decide (n>1152921504606846976) with
  |true=>exact⟨_,rfl,fun e=>by cases e⟩
  |false=>
    have h8:¬n>1152921504606846976:=gE VW;have w2:zA ((s.B.1.getD w (0,0,0)).1+n)=(s.B.1.getD w (0,0,0)).1+n:=zN (by have:=hb.1;simp only[ad] at this;omega) (by have:=hb.2;simp only[ad] at this;omega);simp only[w2,ak];cases decide (n<(s.B.1.getD w (0,0,0)).2.1) with
    |false=>exact⟨_,rfl,fun _=>rfl⟩
    |true=>
      cases decide ((s.B.1.getD w (0,0,0)).1+n<0) with
      |true=>exact⟨_,rfl,fun e=>by cases e⟩
      |false=>exact⟨_,rfl,fun _=>rfl⟩
theorem In9 {k}{a:qX}(ha:-4611686018427387904<a.1∧a.1<4611686018427387904){n}(hn:1≤n∧n≤1099511627776):Ge k a n=some (wT a n):=by
 unfold Ge wT FV;rw[aa (by grind),zN (x:=9223372036854775807-n) (by omega) (by omega),ab (by grind),ab (by grind),zN (x:=a.1+n) (by omega) (by omega)];simp[Uj];grind
theorem WE {r}(hr:vO r){s}(h:qV r s) who kd to n (wu:kd=10∨kd=11):
    ∃d,Gf 1000 (rk r s who) (decide (kd=10)) to n=some ((iq r s kd to n).1,d)∧((iq r s kd to n).1=0→d=qL r (iq r s kd to n).2 who [] 0):=by
  have hn:=h.n;have ht:=h.tot;have eD:Gf 1000 (rk r s who) (decide (kd=10)) to n=(uF 1000 (qL r s who [] 0) to).bind fun x0=>
    bif decide (x0<0) then some (1,qL r s who [] 0)
    else bif decide (n<1) then some (1,qL r s who [] 0)
    else bif decide (n>1099511627776) then some (1,qL r s who [] 0)
    else(oM 1000 s.B.1 s.B.2.1 s.B.2.2.1 s.B.2.2.2).bind fun x1=>
    bif decide (kd = 10) then (bif zB x0 x1.1.length then ((Ge 1000 (x1.1.getD x0.toNat (0,0,0)) n).bind fun x2=>
      bif decide ((zA (s.to+n))>1152921504606846976) then some (8,qL r s who [] 0)
      else bif !(decide (x2.2=0)) then some (8,qL r s who [] 0)
      else bif zB x0 x1.1.length then some (0,qL r {s with B:=((x1.1.set x0.toNat x2.1),x1.2.1,x1.2.2.1,x1.2.2.2),to:=zA (s.to+n)} who [] 0)
      else none)
     else none)
    else bif zB x0 x1.1.length then (bif decide ((zA ((zA ((x1.1.getD x0.toNat (0,0,0)).1+(x1.1.getD x0.toNat (0,0,0)).2.1))-(x1.1.getD x0.toNat (0,0,0)).2.2))<n) then some (9,qL r s who [] 0)
     else bif decide (s.to<n) then some (9,qL r s who [] 0)
     else bif zB x0 x1.1.length then
      some (0,qL r {s with B:=((x1.1.set x0.toNat ((zA ((x1.1.getD x0.toNat (0,0,0)).1-n)),(x1.1.getD x0.toNat (0,0,0)).2)),x1.2.1,x1.2.2.1,x1.2.2.2),to:=zA (s.to-n)} who [] 0)
     else none)
    else none:=rfl
  rw[eD,WA,I2 (by omega) h.bk.toSized];simp only[ae];unfold iq;by_cases hc:0≤to∧to<r.1
  · rw[WB hc,ab (show¬to<0 by omega),aa (show to≥0 by omega),aa (show to≤r.1-1 by omega)];by_cases c1:n<1
    · rw[aa c1,ab (show¬n≥1 by omega)];exact⟨_,rfl,fun e=>by cases e⟩
    rw[ab c1,aa (show n≥1 by omega)];by_cases c2:n>1099511627776
    · rw[aa c2,ab (show¬n≤1099511627776 by omega)];exact⟨_,rfl,fun e=>by cases e⟩
    rw[ab c2,aa (show n≤1099511627776 by omega)];obtain⟨i,rfl⟩:=Int.eq_ofNat_of_zero_le hc.1;have hi:i<s.B.1.length:=by omega
    have hb:=h.bk.nums.bal i hi;have kD:=h.bk.nums.res i hi;have hcr:=h.most i hi;have Wo:0≤(s.B.1.getD i ad).2.1:=by rw[h.cred i hi];exact Fa (h.laid i hi)
    have WG:=oW.1 (h.bk.acct i hi);have b0:zB (i:Int) s.B.1.length=true:=by rw[qB,aa hi]
    have q2:zA (s.to-n)=s.to-n:=zN (by omega) (by omega);have q3:zA (s.to+n)=s.to+n:=zN (by omega) (by omega);have Kq:Ge 1000 (s.B.1.getD i (0,0,0)) n=some (wT (s.B.1.getD i ad) n):=In9 hb ⟨by omega,by omega⟩;simp only[Bool.and_self,aA,ak,b0,aj,aq,Kq,ae,q2,q3];clear Kq eD;rcases wu with e|e
    · rw[aa e,ab (show¬kd=11 by omega)];simp only[aj,ak];unfold F6;cases hz:decide ((wT (s.B.1.getD i ad) n).2=0) with
      |false=>
        have e8:(wT (s.B.1.getD i ad) n).2=8:=by
          have:=gE hz;unfold wT at this⊢;cases hx:jY ((s.B.1.getD i ad).1+n,(s.B.1.getD i ad).2.1,(s.B.1.getD i ad).2.2) with
          |true=>rw[hx] at this;exact absurd rfl this
          |false=>rfl
        rw[e8];cases decide (s.to+n>1152921504606846976)<;>exact⟨_,rfl,fun e=>by cases e⟩
      |true=>
        cases decide (s.to+n>1152921504606846976) with
        |true=>exact⟨_,rfl,fun e=>by cases e⟩
        |false=>exact⟨_,rfl,fun _=>rfl⟩
    · rw[ab (show¬kd=10 by omega),aa e];simp only[aj,ak];unfold F5;have q1:zA ((s.B.1.getD i (0,0,0)).1+(s.B.1.getD i (0,0,0)).2.1)=(s.B.1.getD i ad).1+(s.B.1.getD i ad).2.1:=zN (by simp only[ad] at*;omega) (by simp only[ad] at*;omega);have q4:zA ((s.B.1.getD i ad).1+(s.B.1.getD i ad).2.1-(s.B.1.getD i (0,0,0)).2.2)=(s.B.1.getD i ad).1+(s.B.1.getD i ad).2.1-(s.B.1.getD i ad).2.2:=zN (by simp only[ad] at*;omega) (by simp only[ad] at*;omega);have q5:zA ((s.B.1.getD i (0,0,0)).1-n)=(s.B.1.getD i ad).1+-n:=by rw[zN (by simp only[ad] at*;omega) (by simp only[ad] at*;omega)];rfl
      simp only[q1,q4,q5];by_cases c5:(s.B.1.getD i ad).1+(s.B.1.getD i ad).2.1-(s.B.1.getD i ad).2.2<n
      · rw[aa c5];exact⟨_,rfl,fun e=>by cases e⟩
      rw[ab c5];by_cases c6:s.to<n
      · rw[aa c6,aa (show s.to-n<0 by omega)];exact⟨_,rfl,fun e=>by cases e⟩
      rw[ab c6,ab (show¬s.to-n<0 by omega),ab (show¬s.to-n>1152921504606846976 by omega)];have em:wT (s.B.1.getD i ad) (-n)=(((s.B.1.getD i ad).1+-n,(s.B.1.getD i ad).2.1,(s.B.1.getD i ad).2.2),0):=by
        unfold wT;have:jY ((s.B.1.getD i ad).1+-n,(s.B.1.getD i ad).2.1,(s.B.1.getD i ad).2.2)=true:=oW.2 ⟨by simp only;omega,WG.2⟩;rw[this];rfl
      rw[em];exact⟨_,rfl,fun _=>rfl⟩
  · rw[WC hc];have g:(decide (to≥0)&&decide (to≤r.1-1))=false:=by
      by_cases a:to≥0
      · rw[aa a,ab (show¬to≤r.1-1 by omega)];rfl
      · rw[ab a];rfl
    rw[g];exact⟨_,rfl,fun e=>by cases e⟩
theorem vSn {r s} who {pr}(hL:∀i,i<s.B.1.length→kJ r.2.1 pr (s.ho.getD i []))(hol:s.ho.length=s.B.1.length)(gl:s.B.1.length≤6):
  (qF (fun j=> !decide (fK r.2.1 pr s.ho j>1152921504606846976)) s.B.1.length 0=true∧uH 1000 1000 0 (rk r s who) pr s.B.1 s.B.2.1 s.B.2.2.1 s.B.2.2.2=some (.inl (rk r s who,pr,sC r.2.1 pr s.ho s.B.1,s.B.2.1,s.B.2.2.1,s.B.2.2.2)))∨
  (qF (fun j=> !decide (fK r.2.1 pr s.ho j>1152921504606846976)) s.B.1.length 0=false∧uH 1000 1000 0 (rk r s who) pr s.B.1 s.B.2.1 s.B.2.2.1 s.B.2.2.2=some (.inr (8,rk r s who))):=by
 have:=NK (L:=fun n i (a:List qX)=>uH 1000 n i (rk r s who) pr a s.B.2.1 s.B.2.2.1 s.B.2.2.2) (N:=s.B.1.length) (fun j=> !decide (fK r.2.1 pr s.ho j>1152921504606846976))
  (fun a=>.inl (rk r s who,pr,a,s.B.2.1,s.B.2.2.1,s.B.2.2.2)) (.inr (8,rk r s who))
  (fun i a => a.length = s.B.1.length ∧ ∀ j, j < s.B.1.length → a.getD j ad = if j < i then ((s.B.1.getD j ad).1, fK r.2.1 pr s.ho j, (s.B.1.getD j ad).2.2) else s.B.1.getD j ad) (fun n a ha=>by
   show Gg 1000 _ s.B.1.length (rk r s who) pr a s.B.2.1 s.B.2.2.1 s.B.2.2.2=_;unfold Gg;simp_all) (fun n i a hi ha=>by
   have hv:=yH3 (hL i hi);have aK:uH 1000 (n+1) i (rk r s who) pr a s.B.2.1 s.B.2.2.1 s.B.2.2.2=bif decide (fK r.2.1 pr s.ho i>1152921504606846976) then some (.inr (8,rk r s who)) else uH 1000 n ((i+1:Nat):Int) (rk r s who) pr (a.set i ((a.getD i ad).1,fK r.2.1 pr s.ho i,(a.getD i ad).2.2)) s.B.2.1 s.B.2.2.1 s.B.2.2.2:=by
    show Gg 1000 _ i (rk r s who) pr a s.B.2.1 s.B.2.2.1 s.B.2.2.2=_;unfold Gg;have iC:Bm 1000 (rk r s who).2.1 pr (s.ho.getD i [])=some (fK r.2.1 pr s.ho i,true):=hv;have eh:(rk r s who).2.2.2.2.2.2.2.2.2.2.2.1=s.ho:=rfl;simp only[eh,qP,qB,aq,aa (show i<s.ho.length by omega),aa (show i<a.length by omega),aj,iC,aA,ak,qE hi (by grind)];rfl
   grind) s.B.1.length 0 1000 s.B.1 (by omega) (by omega) (by simp)
 rcases this with⟨h1,a,h2,h3,h4⟩|⟨h1,h2⟩
 ·have e:a=sC r.2.1 pr s.ho s.B.1:=Du ad (by rw[h3,Wp]) fun j hj=>by
   rw[h3] at hj;rw[h4 j hj,if_pos hj,O7 _ _ _ _ hj]
  simp_all
 simp_all
theorem vHj {r}(hr:vO r){s}(h:qV r s) who a p:
  ∃d,Pe 1000 (rk r s who) a p=some ((iN r s a p).1,d)∧((iN r s a p).1=0→d=qL r (iN r s a p).2 who [] 0):=by
 have h3:=hr.n3;have gl:=h.bk.n6;have lL:=h.bk.n1;have eD:Pe 1000 (rk r s who) a p=
  bif decide (a<0) then some (1,qL r s who [] 0)
  else bif decide (a≥(r.2.1.length:Int)) then some (1,qL r s who [] 0)
  else bif decide (p<0) then some (1,qL r s who [] 0)
  else bif decide (p>1048576) then some (1,qL r s who [] 0)
  else(uG 1000 s.pr a p).bind fun x0=>
  (oM 1000 s.B.1 s.B.2.1 s.B.2.2.1 s.B.2.2.2).bind fun x1=>
  (uH 1000 1000 0 (rk r s who) x0 x1.1 x1.2.1 x1.2.2.1 x1.2.2.2).bind fun z=>
  match z with
  |.inl z1=>some (0,(jN z1.1 (Bt z1 (z1.2.1,(yCz z1.1 ([],z1.1.2.2.2.2.2.2.2.2.2.2.2.2.2.2.2.2.2))))))
  |.inr z2=>some (yZr z2 ([],z2.2.2.2.2.2.2.2.2.2.2.2.2.2.2.2.2.2.2)):=rfl
 rw[eD,I2 (by omega) h.bk.toSized];simp only[ae];unfold iN;by_cases c1:a<0
 ·rw[aa c1,ab (show¬a≥0 by omega)];exact by simp
 rw[ab c1,aa (show a≥0 by omega)];by_cases c2:a≥(r.2.1.length:Int)
 ·grind
 rw[ab c2,aa (show a≤(r.2.1.length:Int)-1 by omega)];by_cases c3:p<0
 ·rw[aa c3,ab (show¬p≥0 by omega)];exact by simp
 rw[ab c3,aa (show p≥0 by omega)];by_cases c4:p>1048576
 ·rw[aa c4,ab (show¬p≤1048576 by omega)];exact by simp
 rw[ab c4,aa (show p≤1048576 by omega)];obtain⟨i,rfl⟩:=Int.eq_ofNat_of_zero_le (show 0≤a by omega);have hi:i<r.2.1.length:=by omega
 have L0:=h.laid 0 (by omega);have lZ:uG 1000 s.pr (i:Int) p=some (s.pr.set i p):=yGj (by rw[L0.pl];omega) (by rw[L0.pl];omega) p;simp only[Bool.and_self,aA,ak,lZ,ae,aq];unfold Br;rcases vSn (r:=r) (s:=s) who (pr:=s.pr.set i p) (fun j hj=>(h.laid j hj).setP hi ⟨by omega,by omega⟩) h.hol gl with⟨g1,g2⟩|⟨g1,g2⟩
 ·rw[g2,g1];exact⟨_,rfl,fun _=>rfl⟩
 ·rw[g2,g1];exact⟨_,rfl,fun e=>by cases e⟩
theorem yQ9 {m}(hd:qK m){i}(hi:i<m.length):j0 m (m.getD i pd).1=(i:Int):=by
 obtain⟨x,hx⟩:=N1 (gh (d:=pd) hi);have h:=kI hx;unfold j0;have:x=i:=by
  rcases Nat.lt_trichotomy x i with g|g|g
  ·have:=List.pairwise_iff_getElem.1 hd x i h.1 hi g;grind
  ·exact g
  ·have:=List.pairwise_iff_getElem.1 hd i x hi h.1 g;grind
 simp_all
theorem vLc {k}(hk:100<k){B}(h:qN B){l:List zH}(hl:l.length≤80):Jf k B.1 B.2.1 B.2.2.1 B.2.2.2 l=some (xn B l):=vZ0 hk h hl
theorem Pf {k}(hk:100<k){B}(h:qN B){l:List zH}(hl:l.length≤80):
  ∃C:BT,uI k B.1 B.2.1 B.2.2.1 B.2.2.2 l=some (C.1,C.2.1,C.2.2.1,C.2.2.2,(im k B l).isSome)∧(∀D,im k B l=some D→D=C):=by
 obtain⟨r,h1,h2,h3⟩:=Fc hk h hl;unfold uI im;rw[h2,h1,vLc hk h hl];refine⟨(r.1,r.2.1,r.2.2.1,r.2.2.2.1),?_,?_⟩;all_goals grind
theorem yEm {k}(hk:100<k){B}(h:qN B)(m:List zH)(hm:m.length≤1000):∀c i n,i+c=m.length→c<n→
  Kv k n i B.1 B.2.1 B.2.2.1 B.2.2.2 0 0 0 0 0 0 0 m = some (match jP k B (m.drop i) with
   |some (p,C)=>.inr (true,p.1,p.2.1,p.2.2.1,p.2.2.2.1,p.2.2.2.2.1,p.2.2.2.2.2.1,p.2.2.2.2.2.2)
   |none=>.inl (0,0,0,0,0,0,0))
 |0,i,n,e,hn=>by
  obtain⟨n,rfl⟩:∃x,n=x+1:=⟨n-1,by omega⟩;have:i=m.length:=by omega
  subst this;show Gh k _ m.length B.1 B.2.1 B.2.2.1 B.2.2.2 0 0 0 0 0 0 0 m=_;unfold Gh;simp;rfl
 |c+1,i,n,e,hn=>by
  obtain⟨n,rfl⟩:∃x,n=x+1:=⟨n-1,by omega⟩;have hi:i<m.length:=by omega
  have ih:=yEm hk h m hm c (i+1) n (by omega) (by omega);show Gh k _ i B.1 B.2.1 B.2.2.1 B.2.2.2 0 0 0 0 0 0 0 m=_;unfold Gh;obtain⟨C,h1,h2⟩:=Pf hk h (l:=[m.getD i pd]) (by simp);have c1:decide ((0:Int)≤(i:Int))=true:=by simp
  have c2:decide ((i:Int)≤((i+1:Nat):Int))=true:=by grind
  have c3:decide (((i+1:Nat):Int)≤(m.length:Int))=true:=by grind
  simp only[qB,qE hi (by grind),aq,vPp m i hi];rw[yAg k B hi];grind
theorem yG9 {k} (hk : 100 < k) {B} (h : qN B) {l} (bN : l.length < k) (hl : qO l) t : Pg k B.1 B.2.1 B.2.2.1 B.2.2.2 l t = some (match jP k B (vS l t) with
   |some (p,C)=>(p.1,p.2.1,p.2.2.1,p.2.2.2.1,p.2.2.2.2.1,p.2.2.2.2.2.1,p.2.2.2.2.2.2,true)
   |none=>(0,0,0,0,0,0,0,false)):=by
 unfold Pg;rw[yNj bN hl];have Fg:=Oh l t;unfold qO at hl;have:=yEm hk h (vS l t) (by omega) (vS l t).length 0 k (by omega) (by omega);grind
theorem vDw {k}(hk:100<k) t {B C l m done}(h:gI k t B l done C m):∀n (r:List zH),qN B→l.length≤100→l.length<n→r.length+l.length≤1000→
  Kw k n l t B.1 B.2.1 B.2.2.1 B.2.2.2 r=some (m,C.1,C.2.1,C.2.2.1,C.2.2.2,r++done):=by
 induction h with
 |@stop B l hx=>
  intro n r hb hl hn hr;obtain⟨n,rfl⟩:∃x,n=x+1:=⟨n-1,by omega⟩;have h2:=yG9 hk hb (l:=l) (by omega) (by show l.length≤1000;omega) t;rw[hx] at h2;show Gj k _ l t B.1 B.2.1 B.2.2.1 B.2.2.2 r=_;unfold Gj;simp_all
 |@step B C D l m done p hx _ ih=>
  intro n r hb hl hn hr;obtain⟨n,rfl⟩:∃x,n=x+1:=⟨n-1,by omega⟩;have h2:=yG9 hk hb (l:=l) (by omega) (by show l.length≤1000;omega) t;rw[hx] at h2;obtain⟨hp,hg⟩:=Ba hx;have CT:=Fe hp;obtain⟨tt,mE⟩:=uo CT;obtain⟨nF,cL⟩:=sr hk hb (by simp) hg;have g2:=ih n (r++[p]) nF (by omega) (by omega) (by grind);show Gj k _ l t B.1 B.2.1 B.2.2.1 B.2.2.2 r=_;unfold Gj;rw[h2];obtain⟨C',e1,e2⟩:=Pf hk hb (l:=[p]) (by simp);have:=e2 C hg;subst this;simp[uD (show l.length<k by omega) (show qO l by show l.length≤1000;omega),nL (show r.length≤1000 by omega)];rw[List.append_cons r p done,←g2];have Kx:uI k B.1 B.2.1 B.2.2.1 B.2.2.2 [(p.1,p.2.1,p.2.2.1,p.2.2.2.1,p.2.2.2.2.1,p.2.2.2.2.2.1,p.2.2.2.2.2.2)]=_:=e1;rw[Kx];rfl
theorem yJ4 {k}(hk:200≤k){B C}(hb:qN B){l m done}(hl:l.length≤100){t}(h:gI k t B l done C m):Ph k B.1 B.2.1 B.2.2.1 B.2.2.2 l t=some (C.1,C.2.1,C.2.2.1,C.2.2.2,m,done):=by
 unfold Ph;rw[vDw (by omega) t h k [] hb hl (by omega) (by grind)];rfl
def WH (x:Option (zH×zH×BT)):Int×Int×Int×Int×Int×Int×Int×Int×Int×Int×Int×Int×Int×Int×Bool:=match x with
 |some (p,q,C)=>(p.1,p.2.1,p.2.2.1,p.2.2.2.1,p.2.2.2.2.1,p.2.2.2.2.2.1,p.2.2.2.2.2.2,q.1,q.2.1,q.2.2.1,q.2.2.2.1,q.2.2.2.2.1,q.2.2.2.2.2.1,q.2.2.2.2.2.2,true)
 |none=>(0,0,0,0,0,0,0,0,0,0,0,0,0,0,false)
theorem yGz {k}(hk:100<k){B}(h:qN B)(m:List zH)(hm:m.length≤1000){j}(hj:j<m.length):∀c i n,i+c=m.length→c<n→
  Ky k n j i B.1 B.2.1 B.2.2.1 B.2.2.2 0 0 0 0 0 0 0 0 0 0 0 0 0 0 m = some (match oQ k B (m.getD j pd) (m.drop i) with
   |some (q,C)=>.inr (true,(m.getD j pd).1,(m.getD j pd).2.1,(m.getD j pd).2.2.1,(m.getD j pd).2.2.2.1,(m.getD j pd).2.2.2.2.1,(m.getD j pd).2.2.2.2.2.1,(m.getD j pd).2.2.2.2.2.2,q.1,q.2.1,q.2.2.1,q.2.2.2.1,q.2.2.2.2.1,q.2.2.2.2.2.1,q.2.2.2.2.2.2)
   |none=>.inl ((j:Int),B.1,B.2.1,B.2.2.1,B.2.2.2,0,0,0,0,0,0,0,0,0,0,0,0,0,0,m))
 |0,i,n,e,hn=>by
  obtain⟨n,rfl⟩:∃x,n=x+1:=⟨n-1,by omega⟩;have:i=m.length:=by omega
  subst this;show Gk k _ j m.length B.1 B.2.1 B.2.2.1 B.2.2.2 0 0 0 0 0 0 0 0 0 0 0 0 0 0 m=_;unfold Gk;simp;rfl
 |c+1,i,n,e,hn=>by
  obtain⟨n,rfl⟩:∃x,n=x+1:=⟨n-1,by omega⟩;have hi:i<m.length:=by omega
  have ih:=yGz hk h m hm hj c (i+1) n (by omega) (by omega);show Gk k _ j i B.1 B.2.1 B.2.2.1 B.2.2.2 0 0 0 0 0 0 0 0 0 0 0 0 0 0 m=_;unfold Gk;obtain⟨C,h1,h2⟩:=Pf hk h (l:=[m.getD j pd,m.getD i pd]) (by simp);simp[qB,qE hi (by grind),h1];rw[yGh k B _ hi];unfold pQ;grind
theorem yBj {k}(hk:100<k){B}(h:qN B)(m:List zH)(hm:m.length≤1000)(JO:m.length<k):∀c i n,i+c=m.length→c<n→
  Kz k n i B.1 B.2.1 B.2.2.1 B.2.2.2 0 0 0 0 0 0 0 0 0 0 0 0 0 0 m = some (match ss k B m (m.drop i) with
   |some (p,q,C)=>.inr (true,p.1,p.2.1,p.2.2.1,p.2.2.2.1,p.2.2.2.2.1,p.2.2.2.2.2.1,p.2.2.2.2.2.2,q.1,q.2.1,q.2.2.1,q.2.2.2.1,q.2.2.2.2.1,q.2.2.2.2.2.1,q.2.2.2.2.2.2)
   |none=>.inl (0,0,0,0,0,0,0,0,0,0,0,0,0,0))
 |0,i,n,e,hn=>by
  obtain⟨n,rfl⟩:∃x,n=x+1:=⟨n-1,by omega⟩;have:i=m.length:=by omega
  subst this;show Gl k _ m.length B.1 B.2.1 B.2.2.1 B.2.2.2 0 0 0 0 0 0 0 0 0 0 0 0 0 0 m=_;unfold Gl;simp;rfl
 |c+1,i,n,e,hn=>by
  obtain⟨n,rfl⟩:∃x,n=x+1:=⟨n-1,by omega⟩;have hi:i<m.length:=by omega
  have ih:=yBj hk h m hm JO c (i+1) n (by omega) (by omega);show Gl k _ i B.1 B.2.1 B.2.2.1 B.2.2.2 0 0 0 0 0 0 0 0 0 0 0 0 0 0 m=_;unfold Gl;have fh:=yGz hk h m hm hi m.length 0 k (by omega) JO;have e0:((0:Nat):Int)=0:=rfl;rw[e0,List.drop_zero] at fh;simp[aa hi];rw[fh];rw[yRy k B m hi];cases oQ k B (m.getD i pd) m with
  |none=>
   simp[qE hi (by grind)];exact ih
  |some x=>rfl
theorem yI3 {k}(hk:100<k){B}(h:qN B){l}(bN:l.length<k)(hl:qO l) t:Pj k B.1 B.2.1 B.2.2.1 B.2.2.2 l t=some (WH (fz k B l t)):=by
 unfold Pj fz;rw[yNj bN hl];have Fg:=Oh l t;unfold qO at hl;have:=yBj hk h (vS l t) (by omega) (by omega) (vS l t).length 0 k (by omega) (by omega);have e:((0:Nat):Int)=0:=rfl;rw[e,List.drop_zero] at this;simp;rw[this];cases ss k B (vS l t) (vS l t) with
 |none=>rfl
 |some x=>rfl
theorem vXv {k}(hk:100<k) t {B C l m done}(h:jQ k t B l done C m):∀n (r:List zH),qN B→qK l→l.length≤100→l.length<n→r.length+l.length≤900→
  KA k n l t B.1 B.2.1 B.2.2.1 B.2.2.2 r=some (m,C.1,C.2.1,C.2.2.1,C.2.2.2,r++done):=by
 induction h with
 |@stop B l hx=>
  intro n r hb hd hl hn hr;obtain⟨n,rfl⟩:∃x,n=x+1:=⟨n-1,by omega⟩;have h2:=yI3 hk hb (l:=l) (by omega) (by show l.length≤1000;omega) t;rw[hx] at h2;show Gm k _ l t B.1 B.2.1 B.2.2.1 B.2.2.2 r=_;unfold Gm;rw[h2];simp only[ae,WH,bQ,aj,List.append_nil]
 |@step B C D l m done p q hx _ ih=>
  intro n r hb hd hl hn hr;obtain⟨n,rfl⟩:∃x,n=x+1:=⟨n-1,by omega⟩;have h2:=yI3 hk hb (l:=l) (by omega) (by show l.length≤1000;omega) t;rw[hx] at h2;obtain⟨hp,hq,oR,hg⟩:=Fi hx;obtain⟨tt,mE⟩:=Fj hd hp hq oR;obtain⟨nF,cL⟩:=sr hk hb (by simp) hg;have oL:(eO l p.1).length≤l.length:=(uo hp).2.length_le;have g2:=ih n (r++[p,q]) nF (List.Pairwise.sublist mE hd) (by omega) (by omega) (by grind);have e2:r++[p,q]++done=r++p::q::done:=by rw[List.append_assoc];rfl
  show Gm k _ l t B.1 B.2.1 B.2.2.1 B.2.2.2 r=_;unfold Gm;rw[h2];obtain⟨C',e1,e2'⟩:=Pf hk hb (l:=[p,q]) (by simp);have:=e2' C hg;subst this;have Kx:uI k B.1 B.2.1 B.2.2.1 B.2.2.2 [(p.1,p.2.1,p.2.2.1,p.2.2.2.1,p.2.2.2.2.1,p.2.2.2.2.2.1,p.2.2.2.2.2.2),(q.1,q.2.1,q.2.2.1,q.2.2.2.1,q.2.2.2.2.1,q.2.2.2.2.2.1,q.2.2.2.2.2.2)]=_:=e1;have d1:=uD (show l.length<k by omega) (show qO l by show l.length≤1000;omega) p.1;have d2:=uD (k:=k) (l:=(il l p.1).1) (Nat.lt_of_le_of_lt oL (by omega)) (Nat.le_trans oL (by omega)) q.1;have e3:zP (r.length+2) 56=true:=qJ (by omega) (by omega);simp only[ae,WH,Kx,d1,d2,e3];rw[←e2,←g2];rfl
theorem yJp {k}(hk:200≤k){B C}(hb:qN B){l m done}(hd:qK l)(hl:l.length≤100){t}(h:jQ k t B l done C m):Pk k B.1 B.2.1 B.2.2.1 B.2.2.2 l t=some (C.1,C.2.1,C.2.2.1,C.2.2.2,m,done):=by
 unfold Pk;rw[vXv (by omega) t h k [] hb hd hl (by omega) (by grind)];rfl
theorem WI {k l}(hk:l.length<k)(hl:qO l) many:Gn k l many=some (vK l many):=by
 unfold qO at hl;unfold Gn;obtain ⟨s', h1, h2⟩ := vJ (L := fun n i s => Gp k n l many i s) (N := l.length) (fun s => s) (fun i s => s = mR l many i) (fun n s _=>by
  show Gq k _ l many l.length s=_;unfold Gq;simp) (fun n i s hi hs=>by
  have dW:s.length≤i:=by rw[hs];exact VA l many i
  refine⟨bif su l many i then s++[l.getD i pd] else s,?_,?_⟩
  ·show Gq k _ l many i s=_;unfold Gq;have c1:decide ((0:Int)≤(i:Int))=true:=by simp
   have c2:decide ((i:Int)≤(l.length:Int))=true:=by grind
   have U3:=NW (k:=k) (l:=l.take i) (by grind) (by show(l.take i).length≤1000;grind) (l.getD i pd).2.1;simp only[qB,qE hi (by grind),qP,aq,aa hi,nL (show s.length≤1000 by omega),c2,U3];unfold su jT;cases e1:decide ((l.getD i (0,(0,(0,(0,(0,(0,0))))))).2.1≥0) with
   |false=>rfl
   |true=>
    cases e2:decide ((l.getD i (0,(0,(0,(0,(0,(0,0))))))).2.1<(many.length:Int)) with
    |false=>rfl
    |true=>
     rw[aX] at e1 e2;have hb:zB (l.getD i (0,(0,(0,(0,(0,(0,0))))))).2.1 many.length=true:=fl e1 (by omega);grind
  ·show _=mR l many i++_;grind) (s:=[]) hk rfl
 have ga:Gp k k l many 0 []=some s':=h1;rw[ga,h2];rfl
theorem vR6 {k}{B:BT}{l}(hk:l.length<k)(hl:qO l)(hn:B.1.length<k)(hn':B.1.length≤1000):
  Bz k k 0 B.1 B.2.1 B.2.2.1 B.2.2.2 l []=some (B.1,B.2.1,B.2.2.1,B.2.2.2,l,gJ l B.1.length):=by
 obtain ⟨s', h1, h2⟩ := vJ (L := fun n i (s : AC) => Bz k n i B.1 B.2.1 B.2.2.1 B.2.2.2 l s) (N := B.1.length) (fun s => (B.1, B.2.1, B.2.2.1, B.2.2.2, l, s)) (fun i s => s = gJ l i) (fun n s _=>by
  show Gr k _ B.1.length B.1 B.2.1 B.2.2.1 B.2.2.2 l s=_;unfold Gr;simp) (fun n i s hi hs=>by
  refine⟨_,?_,(yVj l i).symm⟩;show Gr k _ i B.1 B.2.1 B.2.2.1 B.2.2.2 l s=_;unfold Gr;have hr:zP (s.length+1) 8=true:=by rw[hs,xr];exact qJ (by omega) (by omega)
  simp[aa hi,NW hk hl,hr,qE hi (by grind)];rw[hs];rfl) (s:=[]) hn rfl
 simp_all
theorem vVp {k}{B:BT}{l:List zH}{s m}(hk:s.length<k)(hs:s.length≤1000)(fh:∀x∈s,0≤x∧x<(m.length:Int))(h0:oS m)(hm:∀i,m.getD i 0≤1000) aR:
  Gs k k aR 0 B.1 B.2.1 B.2.2.1 B.2.2.2 l m s=some (aR,B.1,B.2.1,B.2.2.1,B.2.2.2,l,eP s m):=by
 obtain ⟨s', h1, h2⟩ := vJ (L := fun n i (r : AC) => Gs k n aR i B.1 B.2.1 B.2.2.1 B.2.2.2 l r s) (N := s.length) (fun r => (aR, B.1, B.2.1, B.2.2.1, B.2.2.2, l, r)) (fun i r => r = eP (s.take i) m) (fun n r _=>by
  show Gt k _ aR s.length B.1 B.2.1 B.2.2.1 B.2.2.2 l r s=_;unfold Gt;simp) (fun n i r hi hr=>by
  refine⟨_,?_,(yRa s m i hi).symm⟩;show Gt k _ aR i B.1 B.2.1 B.2.2.1 B.2.2.2 l r s=_;unfold Gt;obtain⟨b1,b2⟩:=fh _ (gh (d:=0) hi);have tx:r.length=m.length:=by rw[hr,ur]
  have hb:zB (s.getD i 0) r.length=true:=fl b1 (by omega);have T8:=JR (s.take i) m (s.getD i 0).toNat;have HZ:=h0 (s.getD i 0).toNat;have lO:=hm (s.getD i 0).toNat;have bh:(s.take i).length≤s.length:=by grind
  have hw:zA (r.getD (s.getD i 0).toNat 0-1)=r.getD (s.getD i 0).toNat 0-1:=by
   rw[hr];exact zN (by omega) (by omega)
  simp only[qP,qB,aq,aa hi,aj,hb,hw,qE hi (by grind)];rw[hr]) (s:=m) hk rfl
 simp_all
theorem WJ {k}(hk:100<k){B}(hb:qN B){l}(hl:∀q∈l,yH B.1.length q)(bP:l.length≤64){m f n}(h:kK B l m f n):
  ∀N (s7:Int),m.length=B.1.length→oS m→(∀i,m.getD i 0≤1000)→n<N→0≤s7→s7+n<1000000→
  KB k N s7 B.1 B.2.1 B.2.2.1 B.2.2.2 l m=some (s7+n,f):=by
 induction h with
 |@stop m h=>
  intro N s7 hm h0 h1 hn hs rK;obtain⟨N,rfl⟩:∃x,N=x+1:=⟨N-1,by omega⟩;show Gu k _ s7 B.1 B.2.1 B.2.2.1 B.2.2.2 l m=_;unfold Gu;have hS:=yUh hk hb (JS hl bP m);have oq:ue k B.1 B.2.1 B.2.2.1 B.2.2.2 (vK l m)=some (jX B (vK l m)):=hS;rw[WI (by omega) (show qO l by show l.length≤1000;omega)];simp_all
 |@step m f n h h' ih=>
  intro N s7 hm h0 h1 hn hs rK;obtain⟨N,rfl⟩:∃x,N=x+1:=⟨N-1,by omega⟩;have gl:=hb.n6;show Gu k _ s7 B.1 B.2.1 B.2.2.1 B.2.2.2 l m=_;unfold Gu;have hS:=yUh hk hb (JS hl bP m);have oq:ue k B.1 B.2.1 B.2.2.1 B.2.2.2 (vK l m)=some (jX B (vK l m)):=hS;rw[WI (by omega) (show qO l by show l.length≤1000;omega)];simp only[ae];rw[oq];simp only[ae];have w:zA (s7+1)=s7+1:=zN (by omega) (by omega);have bm : decide ((((jX B (vK l m)).length : Nat) : Int) = 0) = false := ab (by
   have:=List.length_pos_iff.2 h;omega)
  have dW:(jX B (vK l m)).length≤B.1.length:=by
   unfold jX ug;grind
  rw[bm];simp;rw[vVp (by omega) (by omega) (by rw[hm];exact Vz) h0 h1];simp[w];have VL:=Oo hl hm h0;have:=ih N (s7+1) ((ur _ _).trans hm) VL (fun i=>by have:=(JR (jX B (vK l m)) m i).2;have:=h1 i;omega) (by omega) (by omega) (by omega);rw[this]
  congr 2
  omega
theorem vVf {k}(hk:100<k){B}(hb:qN B){l}(hl:∀q∈l,yH B.1.length q)(bP:l.length≤64) t {f n}(hn:n≤l.length)(h:kK B (yV l t) (gJ (yV l t) B.1.length) f n):
  Pl k B.1 B.2.1 B.2.2.1 B.2.2.2 l t=some (f,((n+1:Nat):Int)):=by
 have gl:=hb.n6;have hr:=xu l t;have h1:=Oq (l:=yV l t) (by omega) B.1.length;unfold Pl;rw[U1 (by omega) (by show l.length≤1000;omega)];simp;have e:Bz k k 0 B.1 B.2.1 B.2.2.1 B.2.2.2 (l.filter (jz t)) []=_:=vR6 (k:=k) (B:=B) (l:=yV l t) (by omega) (by show(yV l t).length≤1000;omega) (by omega) (by omega);rw[e];simp;rw[WJ hk hb (JT hl) (by omega) h k 1 (xr _ _) h1.1 h1.2 (by omega) (by omega) (by omega)];grind
theorem vKe {k}{C:BT}{l hs:List zH}(hl:l.length<k)(dM:l.length≤1000)(hk:hs.length<k)(hh:hs.length≤1000):
  BA k k l 0 hs C.1 C.2.1 C.2.2.1 C.2.2.2=some (oT l hs,hs,C.1,C.2.1,C.2.2.1,C.2.2.2):=by
 obtain ⟨s', h1, h2⟩ := vJ (L := fun n i (s : List zH) => BA k n s i hs C.1 C.2.1 C.2.2.1 C.2.2.2) (N := hs.length) (fun s => (s, hs, C.1, C.2.1, C.2.2.1, C.2.2.2)) (fun i s => s = oT l (hs.take i)) (fun n s _=>by
  show Gv k _ s hs.length hs C.1 C.2.1 C.2.2.1 C.2.2.2=_;unfold Gv;simp) (fun n i s hi hr=>by
  refine⟨_,?_,(yO5 l hs i hi).symm⟩;show Gv k _ s i hs C.1 C.2.1 C.2.2.1 C.2.2.2=_;unfold Gv;have dW:=(Ot (hs.take i) l).1;rw[←hr] at dW⊢;simp[qB,aa hi,uD (show s.length<k by omega) (show qO s by show s.length≤1000;omega),qE hi (by grind)];rfl) (s:=l) hk rfl
 simp_all
theorem vX9 {k}(hk:100<k){B}(hb:qN B){l}(hl:∀q∈l,yH B.1.length q)(bP:l.length≤64) t {f n}(hn:n≤l.length)(h:kK B (yV l t) (gJ (yV l t) B.1.length) f n)
  {r:List qX×EQ×AC×EQ×Int} (hr:AT k B.1 B.2.1 B.2.2.1 B.2.2.2 (vK (yV l t) f)=some r):KC k B.1 B.2.1 B.2.2.1 B.2.2.2 l t=some (Fo B l (vK (yV l t) f) r):=by
 have tx:=xu l t;have Ov:=(xq (yV l t) f).length_le;unfold KC;rw[vVf hk hb hl bP t hn h,U1 (by omega) (by show l.length≤1000;omega)];simp;have e:Gn k (l.filter (jz t)) f=_:=WI (k:=k) (l:=yV l t) (by omega) (by show(yV l t).length≤1000;omega) f;rw[e];simp;rw[hr];simp;unfold Fo;cases decide (r.2.2.2.2=0) with
 |false=>rfl
 |true=>
  have e2:BA k k l 0 (vK (yV l t) f) r.1 r.2.1 r.2.2.1 r.2.2.2.1=_:=vKe (C:=(r.1,r.2.1,r.2.2.1,r.2.2.2.1)) (by omega) (by omega) (by omega) (by omega);simp_all
theorem gI.books {k}(hk:100<k){t B C l done m}(h:gI k t B l done C m)(hb:qN B)(hd:qK l):qN C∧C.1.length=B.1.length∧List.Sublist m l:=by
 induction h with
 |stop _=>simp_all
 |step h _ ih=>
  obtain⟨hp,hg⟩:=Ba h;obtain⟨h1,h2⟩:=uo (Fe hp);obtain⟨h3,h4⟩:=sr hk hb (by simp) hg;obtain⟨g1,g2,g3⟩:=ih h3 (List.Pairwise.sublist h2 hd);exact⟨g1,g2.trans h4,g3.trans h2⟩
theorem jQ.books {k}(hk:100<k){t B C l done m}(h:jQ k t B l done C m)(hb:qN B)(hd:qK l):qN C∧C.1.length=B.1.length∧List.Sublist m l:=by
 induction h with
 |stop _=>simp_all
 |step h _ ih=>
  obtain⟨hp,hq,oR,hg⟩:=Fi h;obtain⟨h1,h2⟩:=Fj hd hp hq oR;obtain⟨h3,h4⟩:=sr hk hb (by simp) hg;obtain⟨g1,g2,g3⟩:=ih h3 (List.Pairwise.sublist h2 hd);exact⟨g1,g2.trans h4,g3.trans h2⟩
theorem vDs {k}(hk:200≤k){t B C l m done}(h:lY k t B l done C m):∀n (r:List zH),qN B→qK l→l.length≤100→l.length<n→r.length+l.length≤900→
  KD k n l t B.1 B.2.1 B.2.2.1 B.2.2.2 r=some (m,C.1,C.2.1,C.2.2.1,C.2.2.2,r++done):=by
 induction h with
 |@stop B C l m d h1 h2=>
  intro n r hb hd hl hn hr;obtain⟨n,rfl⟩:∃x,n=x+1:=⟨n-1,by omega⟩;have p1:=h1.perm hd;have l1:=p1.length_eq;rw[List.length_append] at l1;obtain⟨g1,g2,g3⟩:=h1.books (by omega) hb hd;have f1:=yJ4 hk hb hl h1;have f2:=yJp hk g1 (List.Pairwise.sublist g3 hd) (by omega) (jQ.stop (t:=t) h2);have r1:zP (r.length+d.length) 56=true:=qJ (by omega) (by omega);show Gw k _ l t B.1 B.2.1 B.2.2.1 B.2.2.2 r=_;unfold Gw;grind
 |@step B C D E l m n' o d e f h1 h2 ne h' ih=>
  intro n r hb hd hl hn hr;obtain⟨n,rfl⟩:∃x,n=x+1:=⟨n-1,by omega⟩;have p1:=h1.perm hd;have l1:=p1.length_eq;rw[List.length_append] at l1;obtain⟨g1,g2,g3⟩:=h1.books (by omega) hb hd;have hm:qK m:=List.Pairwise.sublist g3 hd;have p2:=h2.perm hm;have l2:=p2.length_eq;rw[List.length_append] at l2;obtain⟨k1,k2,k3⟩:=h2.books (by omega) g1 hm;have f1:=yJ4 hk hb hl h1;have f2:=yJp hk g1 hm (by omega) h2;have lE:=List.length_pos_iff.2 ne;have r1:zP (r.length+d.length) 56=true:=qJ (by omega) (by omega);have r2:zP ((r++d).length+e.length) 56=true:=qJ (by rw[List.length_append];omega) (by rw[List.length_append];omega);have:=ih n (r++d++e) k1 (List.Pairwise.sublist k3 hm) (by omega) (by omega) (by simp;omega);show Gw k _ l t B.1 B.2.1 B.2.2.1 B.2.2.2 r=_;unfold Gw;grind
theorem yY3 {k}(hk:200≤k){t B C l m done}(hb:qN B)(hd:qK l)(hl:l.length≤100)(h:lY k t B l done C m):
  KE k B.1 B.2.1 B.2.2.1 B.2.2.2 l t=some (C.1,C.2.1,C.2.2.1,C.2.2.2,m,done):=by
 unfold KE;rw[vDs hk h k [] hb hd hl (by omega) (by grind)];rfl
theorem vHd {k}(hk:200≤k){B}(hb:qN B){l:List zH}(hl:∀q∈l,yH B.1.length q)(bP:l.length≤64) t:
  ∃r,Be k B.1 B.2.1 B.2.2.1 B.2.2.2 l t=some r∧KC k B.1 B.2.1 B.2.2.1 B.2.2.2 l t=some r:=by
 obtain⟨f,n,h,hn⟩:=VB hb hl bP t;have tx:=xu l t;have Ov:=(xq (yV l t) f).length_le;obtain⟨r,h1,h2,h3⟩:=Fc (k:=k) (by omega) hb (l:=vK (yV l t) f) (by omega);exact⟨_,VM (k:=k) (by omega) hb hl bP t (by omega) h h1,vX9 (k:=k) (by omega) hb hl bP t (by omega) h h2⟩
theorem vRi {k}(hk:200≤k){B}(hb:qN B){l}(hd:qK l)(hl:∀q∈l,yH B.1.length q)(bP:l.length≤64) t all:
  ∃(C:BT) (m done:List zH),uv k B.1 B.2.1 B.2.2.1 B.2.2.2 l t all=some (C.1,C.2.1,C.2.2.1,C.2.2.2,m,done)∧Pm k B.1 B.2.1 B.2.2.1 B.2.2.2 l t all=some (C.1,C.2.1,C.2.2.1,C.2.2.2,m,done)∧
   qN C∧C.1.length=B.1.length∧List.Sublist m l∧List.Perm (done++m) l∧jP k C (vS m t)=none∧fz k C m t=none:=by
 obtain⟨C,m,d,f1,f2,f3,f4,f5⟩:=Fz hk hb hd (by omega) t;have fr:=yY3 hk hb hd (by omega) f2;have p1:=f2.perm hd;have l1:=p1.length_eq;rw[List.length_append] at l1;unfold uv Pm;rw[f1,fr];simp only[ae];cases all with
 |false=>exact⟨C,m,d,rfl,rfl,f3,f4,f5,p1,f2.final⟩
 |true=>
  have hm:qK m:=List.Pairwise.sublist f5 hd;have hmm:∀q∈m,yH C.1.length q:=by grind
  obtain⟨D,n,x,g1,g2,g3,g4,g5,g6⟩:=VN hk f3 hm hmm (by omega) t;obtain⟨R,r1,r2⟩:=vHd hk f3 hmm (by omega) t;have hR:R=(D.1,D.2.1,D.2.2.1,D.2.2.2,n,x):=by rw[g1] at r1;exact(Option.some.inj r1).symm
  subst hR;have l2:=g5.length_eq;rw[List.length_append] at l2;rw[g1,r2];simp only[ae];cases x with
  |nil=>
   obtain⟨rfl,rfl⟩:=g6 rfl;exact⟨D,n,d,rfl,rfl,f3,f4,f5,p1,f2.final⟩
  |cons p x=>
   have e1:decide ((((p::x).length:Nat):Int)=0)=false:=ab (by simp;omega);rw[e1];have hn:qK n:=List.Pairwise.sublist g4 hm;obtain⟨E,o,y,k1,k2,k3,k4,k5⟩:=Fz hk g2 hn (by omega) t;have kr:=yY3 hk g2 hn (by omega) k2;have p3:=k2.perm hn;have l3:=p3.length_eq;rw[List.length_append] at l3;have e2:zP (d.length+(p::x).length) 56=true:=qJ (by simp at l2⊢;omega) (by simp at l2⊢;omega);have e3:zP ((d++(p::x)).length+y.length) 56=true:=qJ (by simp at l2⊢;omega) (by simp at l2⊢;omega);rw[k1,kr];simp only[ae,e2,e3,aj];refine⟨E,o,d++(p::x)++y,rfl,rfl,k3,k4.trans (g3.trans f4),k5.trans (g4.trans f5),?_,k2.final⟩;have e4:d++(p::x)++y++o=d++((p::x)++(y++o)):=by simp
   rw[e4];exact by grind
theorem yEz {B:BT}(hb:qN B){m:List zH}(hd:qK m)(hm:∀q∈m,yH B.1.length q)(bP:m.length≤64)(t:Int)(pr:AC)(ho:EQ)(ids:AC)(to:Int)(ov all:Bool):
  ∃(C:BT) (m' d:List zH),oU 1000 t B.1 B.2.1 B.2.2.1 B.2.2.2 pr ho m ids to ov all=some (t,C.1,C.2.1,C.2.2.1,C.2.2.2,pr,ho,m',ids,to,ov,yX d)∧
   nR 1000 t B.1 B.2.1 B.2.2.1 B.2.2.2 pr ho m ids to ov all=some (t,C.1,C.2.1,C.2.2.1,C.2.2.2,pr,ho,m',ids,to,ov,yX d)∧qN C∧jM B C∧List.Sublist m' m∧List.Perm (d++m') m∧jP 1000 C (vS m' t)=none:=by
 obtain⟨C,m',d,f1,fr,f2,f3,f4,f5,f6,f7⟩:=vRi (k:=1000) (by decide) hb hd hm bP t all;have hlen:=f5.length_eq;rw[List.length_append] at hlen;refine⟨C,m',d,?_,?_,f2,VR (by decide) hb hd hm bP t all f1,f4,f5,f6⟩
 ·unfold oU;rw[f1];simp only[ae];rw[VO (by omega) (by omega)];rfl
 ·unfold nR;rw[fr];simp only[ae];rw[vGp (by omega) (by omega)];rfl
theorem Pn kd a:eW 1000 kd [a]=some (kd,a,0,0,0,0,0):=by rfl
theorem Of0 kd:eW 1000 kd []=some (kd,0,0,0,0,0,0):=by rfl
theorem Of5 kd a b c d e:eW 1000 kd [a,b,c,d,e]=some (kd,a,b,c,d,e,0):=by rfl
theorem vPv (s:zR)(hm:s.m.length≤100)(b:Int×Int×Bool):xP 1000 1000 s.m 0 s.st b []=some (s.st,b,s.m.map (wO 22)):=by
 obtain ⟨s', h1, h2⟩ := vJ (L := fun n i (o : List qZ) => xP 1000 n s.m i s.st b o) (N := s.m.length) (fun o => (s.st, b, o)) (fun i o => o = (s.m.take i).map (wO 22)) (fun n o _=>by
  show Gx 1000 (xP 1000 n) s.m s.m.length s.st b o=_;unfold Gx;simp) (fun n i o hi ho=>by
  refine⟨_,?_,(yUj (wO 22) s.m i pd hi).symm⟩;show Gx 1000 (xP 1000 n) s.m i s.st b o=_;unfold Gx;have dW:o.length≤900:=by grind
  rw[aa (by grind),qB,aa hi,aq,Pn,qE hi (by omega)];simp only[xv (show o.length≤1000 by omega)];rw[ho];rfl) (s:=[]) (show s.m.length<1000 by omega) rfl
 simp_all
theorem vX2 (s:zR)(hB:s.B.1.length≤6)(b:Int×Int×Bool)(l:List qZ)(hl:l.length≤100):xQ 1000 1000 0 s.st b l=some (s.st,b,l++iJ s.B s.B.1.length):=by
 have ea:s.st.2.1=s.B.1:=rfl;obtain ⟨s', h1, h2⟩ := vJ (L := fun n i (o : List qZ) => xQ 1000 n i s.st b o) (N := s.B.1.length) (fun o => (s.st, b, o)) (fun i o => o = l ++ iJ s.B i) (fun n o _=>by
  show Gy 1000 (xQ 1000 n) s.B.1.length s.st b o=_;unfold Gy;simp_all) (fun n i o hi ho=>by
  refine⟨_,?_,(show l++iJ s.B i++[xy s.B i]=l++iJ s.B (i+1) by rw[yU3,List.append_assoc])⟩;show Gy 1000 (xQ 1000 n) i s.st b o=_;unfold Gy;have dW:o.length≤900:=by
   rw[ho,List.length_append];unfold iJ;grind
  rw[ea,aa (by grind),qB,aa hi,aq,Pn,qE hi (by omega)];simp only[xv (show o.length≤1000 by omega)];rw[ho];rfl) (s:=l) (show s.B.1.length<1000 by omega) (by show _=_++[];simp)
 simp_all
theorem WK {a b p}(hd:qK (a++p::b)):il (a++p::b) p.1=(a++b,p.1,p.2.1,p.2.2.1,p.2.2.2.1,p.2.2.2.2.1,p.2.2.2.2.2.1,p.2.2.2.2.2.2,0):=by
 have hl:a.length<(a++p::b).length:=by simp
 have hg:(a++p::b).getD a.length pd=p:=by simp
 have hp:=yQ9 hd hl;rw[hg] at hp;unfold j0 at hp;unfold il;cases hx:vW (a++p::b) p.1 with
 |none=>simp_all
 |some x=>
  rw[hx] at hp;simp only at hp;obtain rfl:x=a.length:=by omega
  unfold yF;simp
theorem vIg (r:qD)(s:zR)(hd:qK s.m)(hm:s.m.length≤100)(b:Int×Int×Bool):
  uJ 1000 1000 s.m 0 r s.st b []=some (r,zR.st {s with m:=s.m.filter (fun p=> !vE s.t p)},b,(s.m.filter (vE s.t)).map (wO 21)):=by
 obtain ⟨s', h1, h2, h3⟩ := vJ (L := fun n i (x : List zH × List qZ) => uJ 1000 n s.m i r (zR.st { s with m := x.1 }) b x.2) (N := s.m.length) (fun x => (r, zR.st { s with m := x.1 }, b, x.2)) (fun i x => x.1 = (s.m.take i).filter (fun p => !vE s.t p) ++ s.m.drop i ∧ x.2 = ((s.m.take i).filter (vE s.t)).map (wO 21)) (fun n x _=>by
  show Gz 1000 (uJ 1000 n) s.m s.m.length r _ b _=_;unfold Gz;rw [ab (Int.lt_irrefl _)]; rfl) (fun n i x hi hx=>by
  have f1:=A2 (vE s.t) s.m i pd hi;have f2:=A2 (fun p=> !vE s.t p) s.m i pd hi;have hdr:s.m.drop i=s.m.getD i pd::s.m.drop (i+1):=by rw[List.drop_eq_getElem_cons hi,FX _ hi]
  have mE:x.2.length≤900:=by
   rw[hx.2,List.length_map];have:=List.length_filter_le (vE s.t) (s.m.take i);rw[List.length_take] at this;omega
  have tt:x.1.length≤s.m.length:=by
   rw[hx.1,List.length_append,List.length_drop];have:=List.length_filter_le (fun p=> !vE s.t p) (s.m.take i);rw[List.length_take] at this;omega
  have cM:List.Sublist x.1 s.m:=by
   have h:=List.Sublist.append (List.filter_sublist (p:=fun p=> !vE s.t p) (l:=s.m.take i)) (List.Sublist.refl (s.m.drop i));rw[List.take_append_drop] at h;rw[hx.1];exact h
  have hdx:qK x.1:=List.Pairwise.sublist cM hd;have e0:∀p:zH,WL 1000 p.1 p.2.1 p.2.2.1 p.2.2.2.1 p.2.2.2.2.1 p.2.2.2.2.2.1 p.2.2.2.2.2.2 s.t=some (vE s.t p):=fun p=>rfl
  have ed:s.m.getD i (0,0,0,0,0,0,0)=s.m.getD i pd:=rfl;have et:(zR.st {s with m:=x.1}).1=s.t:=rfl;have em:(zR.st {s with m:=x.1}).2.2.2.2.2.2.2.1=x.1:=rfl;show∃s',Gz 1000 (uJ 1000 n) s.m i r (zR.st {s with m:=x.1}) b x.2=_∧_;unfold Gz;rw[aa (show(i:Int)<s.m.length by omega),qB,aa hi,aq,ed,et,em,e0,Pn,qE hi (by omega),uD (by omega) (by unfold qO;omega)];simp only[aj,ae,xv (show x.2.length≤1000 by omega)];cases hb:vE s.t (s.m.getD i pd) with
  |true=>
   have dj:=hx.1;rw[hdr] at dj;have e1:=WK (a:=(s.m.take i).filter (fun p=> !vE s.t p)) (b:=s.m.drop (i+1)) (p:=s.m.getD i pd) (by rw[←dj];exact hdx);rw[←dj] at e1;rw[e1];refine⟨((s.m.take i).filter (fun p=> !vE s.t p)++s.m.drop (i+1),x.2++[wO 21 (s.m.getD i pd)]),rfl,?_,?_⟩
   ·show _=_;rw[f2,hb];simp
   ·show x.2++_=_;rw[f1,hb,hx.2];simp
  |false=>
   refine⟨x,rfl,?_,?_⟩
   ·rw[f2,hb,hx.1,hdr];simp
   ·rw[f1,hb,hx.2];simp) (s:=(s.m,[])) (show s.m.length<1000 by omega) ⟨by simp,rfl⟩
 rw[List.take_length,List.drop_length,List.append_nil] at h2;rw[List.take_length] at h3;have ga:uJ 1000 1000 s.m 0 r s.st b []=_:=h1;rw[ga,h2,h3]
theorem vY7 (r:qD){s:zR}(hb:qN s.B)(hd:qK s.m)(hm:∀q∈s.m,yH s.B.1.length q)(bP:s.m.length≤64)(ht:0≤s.t∧s.t<1099511627776)(J2:r.2.2.2.2≠0)(ho:s.ov=false):
  ∃x:Int×List qX×jF×AC×jF×AC×jF×List zH×AC×Int×Bool×List qZ,uw 1000 r.1 r.2.1 r.2.2.1 r.2.2.2.1 r.2.2.2.2 s.t s.B.1 s.B.2.1 s.B.2.2.1 s.B.2.2.2 s.pr s.ho s.m s.ids s.to s.ov=some x∧GA 1000 r s.st=some (qQ x,x.2.2.2.2.2.2.2.2.2.2.2):=by
 have gl:=hb.n6;have w:zA (s.t+1)=s.t+1:=zN (by omega) (by omega);have eR:GA 1000 r s.st=bif s.ov then some (s.st,[])
  else(Po 1000 r (zA (s.t+1))).bind fun x0=>
  bif x0 then ((xP 1000 1000 s.m 0 ((zA (s.t+1)),s.st.2) (0,0,false) []).bind fun z=>
   (xQ 1000 1000 0 z.1 z.2.1 z.2.2).bind fun z1=>
   some ((j6 z1.1 ([],z1.1.2.2.2.2.2.2.2.2.1,z1.1.2.2.2.2.2.2.2.2.2.1,true)),z1.2.2))
  else(uJ 1000 1000 s.m 0 r ((zA (s.t+1)),s.st.2) (0,0,false) []).bind fun z2=>
  (KF 1000 z2.1 z2.2.1.1).bind fun x6=>
  (nR 1000 z2.2.1.1 z2.2.1.2.1 z2.2.1.2.2.1 z2.2.1.2.2.2.1 z2.2.1.2.2.2.2.1 z2.2.1.2.2.2.2.2.1 z2.2.1.2.2.2.2.2.2.1 z2.2.1.2.2.2.2.2.2.2.1 z2.2.1.2.2.2.2.2.2.2.2.1 z2.2.1.2.2.2.2.2.2.2.2.2.1 z2.2.1.2.2.2.2.2.2.2.2.2.2 x6).bind fun x7=>
  bif zP (z2.2.2.2.length+x7.2.2.2.2.2.2.2.2.2.2.2.length) 64 then some ((qQ x7),(z2.2.2.2++x7.2.2.2.2.2.2.2.2.2.2.2))
  else none:=rfl
 have eT:((s.t+1,s.st.2):pS)=zR.st {s with t:=s.t+1}:=rfl;rw[eR,w,eT,ho];unfold uw Bi Po;simp only[w,ak,ae];cases hc:decide (s.t+1=r.2.2.2.1) with
 |true=>
  simp only[aj];rw[yUy gl (by decide) (by omega)];have c0:=vPv {s with t:=s.t+1,ov:=false} (by show s.m.length≤100;omega) (0,0,false);have c1:=vX2 {s with t:=s.t+1,ov:=false} (by show s.B.1.length≤6;exact gl) (0,0,false) (s.m.map (wO 22)) (by rw[List.length_map];omega);refine⟨_,rfl,?_⟩;refine(congrArg (fun z=>Option.bind z _) c0).trans ?_;refine(congrArg (fun z=>Option.bind z _) c1).trans ?_;rfl
 |false=>
  simp only[ak];rw[yGy (by decide) (by omega)];have c2:=vIg r {s with t:=s.t+1,ov:=false} hd (by show s.m.length≤100;omega) (0,0,false);have hs:∃x,FJ 1000 r.1 r.2.1 r.2.2.1 r.2.2.2.1 r.2.2.2.2 (s.t+1)=some x∧KF 1000 r (s.t+1)=some x:=by
   unfold FJ KF;cases decide (s.t+1>0) with
   |false=>exact⟨_,rfl,rfl⟩
   |true=>
    cases decide (s.t+1<r.2.2.2.1) with
    |false=>exact⟨_,rfl,rfl⟩
    |true=>
     have:decide (r.2.2.2.2=0)=false:=ab J2;rw[this];exact⟨_,rfl,rfl⟩
  obtain⟨x,hx,nr⟩:=hs;simp only[ae];rw[hx];have cM:List.Sublist (s.m.filter (fun p=> !vE (s.t+1) p)) s.m:=List.filter_sublist;have dW:=cM.length_le;have oL:qK (s.m.filter (fun p=> !vE (s.t+1) p)):=List.Pairwise.sublist cM hd;obtain⟨C,m',d,f1,f1',f2,f3,f4,f5,f6⟩:=yEz hb oL (by grind) (by omega) (s.t+1) s.pr s.ho s.ids s.to false x;have hlen:=f5.length_eq;rw[List.length_append] at hlen;have hla:(s.m.filter (vE (s.t+1))).length≤s.m.length:=by grind
  have ph:=Bg d;have hr:zP (((s.m.filter (vE (s.t+1))).map (wO 21)).length+(yX d).length) 64=true:=qJ (by rw[List.length_map];omega) (by rw[List.length_map];omega);simp only[ae];rw[f1];simp only[ae,hr,aj];refine⟨_,rfl,?_⟩;refine(congrArg (fun z=>Option.bind z _) c2).trans ?_;simp only[ae];refine(congrArg (fun z=>Option.bind z _) nr).trans ?_;have WM:nR 1000 (s.t+1) s.B.1 s.B.2.1 s.B.2.2.1 s.B.2.2.2 s.pr s.ho (s.m.filter (fun p=> !vE (s.t+1) p)) s.ids s.to false x=_:=f1';refine(congrArg (fun z=>Option.bind z _) WM).trans ?_;grind
theorem qV.settled {r s}(h:qV r s)(ho:s.ov=false){C}(hc:qN C)(kc:jM s.B C){m}(hm:List.Sublist m s.m):qV r {s with B:=C,m:=m}:=by
  have hl:=kc.len;exact{
    tk:=h.tk
    bk:=hc
    n:=by rw[hl];exact h.n
    hol:=by rw[hl];exact h.hol
    laid:=by rw[hl];exact h.laid
    cred:=by rw[hl];intro i hi;rw[kc.cred i hi];exact h.cred i hi
    most:=by rw[hl];intro i hi;rw[kc.cred i hi];exact h.most i hi
    waits:=by rw[hl];exact h.waits.sub hm
    sum:=by rw[hl,kc.sum];exact h.sum
    tot:=h.tot
    over:=h.over
    none:=by grind}
theorem yNo {k}(hk:1000≤k){r}(hr:vO r){s}(h:qV r s)(ho:s.ov=false):
    ∃(C:BT) (m':List zH) (ov:Bool) (o:List qZ),uw k r.1 r.2.1 r.2.2.1 r.2.2.2.1 r.2.2.2.2 s.t s.B.1 s.B.2.1 s.B.2.2.1 s.B.2.2.2 s.pr s.ho s.m s.ids s.to s.ov=some (s.t+1,C.1,C.2.1,C.2.2.1,C.2.2.2,s.pr,s.ho,m',s.ids,s.to,ov,o)∧
      qV r {s with t:=s.t+1,B:=C,m:=m',ov:=ov}∧jM s.B C∧(ov=false→jP k C (vS m' (s.t+1))=none)∧o.length≤100∧
      ((ov=true∧m'=[]∧o=s.m.map (wO 22)++iJ s.B s.B.1.length∧C=s.B)∨∃l d n,o=l.map (wO 21)++yX d∧List.Perm (l++n) s.m∧List.Perm (d++m') n∧ov=false):=by
  have CP:=hr.cl;have J2:=hr.pe;have htk:=h.tk;have hn:=h.n;have bh:s.t≠r.2.2.2.1:=by
    have:=h.over;simp_all
  have hbk:=h.bk;have hm:=h.waits.len;rw[ho];obtain⟨C,m',ov,o,e1,e2,e3,e4,e5⟩:=vTu (k:=k) (by omega) hbk h.waits.dist h.waits.may (by omega) r.1 r.2.1 r.2.2.1 r.2.2.2.1 r.2.2.2.2 s.t (by omega) (by omega) s.pr s.ho s.ids s.to;have hl:=e3.len;refine⟨C,m',ov,o,e1,?_,e3,e4,?_,e5⟩
  · exact{
      tk:=by grind
      bk:=e2.bk
      n:=by simp_all
      hol:=by rw[hl];exact h.hol
      laid:=by rw[hl];exact h.laid
      cred:=by rw[hl];intro i hi;rw[e3.cred i hi];exact h.cred i hi
      most:=by rw[hl];intro i hi;rw[e3.cred i hi];exact h.most i hi
      waits:=by rw[hl];exact h.waits.sub e2.sub
      sum:=by rw[hl,e3.sum];exact h.sum
      tot:=h.tot
      over:=e2.over
      none:=e2.none}
  · have:=e2.room;split at this<;>omega
theorem yMy r s who f:(iL r s who f).2.t=s.t∧(iL r s who f).2.ov=s.ov∧(iL r s who f).2.to=s.to:=by
 unfold iL;cases decide (f.1=5) with
 |true=>
  cases !((decide (f.2.1≥0)&&decide (f.2.1≤r.1-1))&& !decide (f.2.1=who))<;>cases !(decide (f.2.2.1≥-1)&&decide (f.2.2.1≤1152921504606846976))<;>exact⟨rfl,rfl,rfl⟩
 |false=>
  cases decide (f.1=6) with
  |true=>cases !(decide (f.2.1≥-1)&&decide (f.2.1≤1152921504606846976))<;>exact⟨rfl,rfl,rfl⟩
  |false=>cases !(decide (f.2.1≥0)&&decide (f.2.1≤1152921504606846976))<;>exact⟨rfl,rfl,rfl⟩
theorem yZj r s who a n:(iM r s who a n).2.t=s.t∧(iM r s who a n).2.ov=s.ov∧(iM r s who a n).2.to=s.to:=by
 unfold iM;cases !(decide (a≥0)&&decide (a≤(r.2.1.length:Int)-1)) with
 |true=>simp
 |false=>
 cases !(decide (n≥0)&&decide (n≤1099511627776)) with
 |true=>simp
 |false=>
 unfold Bk;grind
theorem yMo r s a p:(iN r s a p).2.t=s.t∧(iN r s a p).2.ov=s.ov∧(iN r s a p).2.to=s.to:=by
 unfold iN;cases !(decide (a≥0)&&decide (a≤(r.2.1.length:Int)-1)) with
 |true=>simp
 |false=>
 cases !(decide (p≥0)&&decide (p≤1048576)) with
 |true=>simp
 |false=>
 unfold Br;grind
theorem yTn {r s kd to n}:(iq r s kd to n).2.ov=s.ov:=by
 unfold iq;cases !(decide (to≥0)&&decide (to≤r.1-1)) with
 |true=>rfl
 |false=>
 cases !(decide (n≥1)&&decide (n≤1099511627776)) with
 |true=>rfl
 |false=>
 cases decide (kd=11) with
 |true=>
  unfold F5;cases decide ((s.B.1.getD to.toNat ad).1+(s.B.1.getD to.toNat ad).2.1-(s.B.1.getD to.toNat ad).2.2<n)<;>cases decide (s.to-n<0)<;>cases decide ((wT (s.B.1.getD to.toNat ad) (-n)).2=0)<;>cases decide (s.to-n>1152921504606846976)<;>rfl
 |false=>
  unfold F6;cases decide ((wT (s.B.1.getD to.toNat ad) n).2=0)<;>cases decide (s.to+n>1152921504606846976)<;>rfl
theorem yNp {r s who f}:(kN r s who f).2.2.length≤1:=by
 unfold kN;grind
def Kd (o:List qZ):Prop:=∀x∈o,x.2.1≠16∧x.2.1≠23
theorem mW:Kd []:=fun x h=>by grind
theorem GB {x}(h:x.2.1≠16∧x.2.1≠23):Kd [x]:=fun y hy=>by simp_all
theorem Kd.append {a b}(h:Kd a)(g:Kd b):Kd (a++b):=fun x hx=>(List.mem_append.1 hx).elim (h x) (g x)
theorem KG:∀d:List zH,Kd (yX d)
 |[]=>mW
 | p :: d => (show Kd [fq p.2.1 p,fq p.2.2.1 p] from fun x hx=>by
   rcases List.mem_cons.1 hx with rfl|hx
   ·exact⟨by nofun,by nofun⟩
   ·rw[List.mem_singleton.1 hx];exact⟨by nofun,by nofun⟩).append (KG d)
theorem Pp {kd}(hk:kd=21∨kd=22)(l:List zH):Kd (l.map (wO kd)):=fun x hx=>by
 obtain⟨p,_,rfl⟩:=List.mem_map.1 hx;show kd≠16∧kd≠23;omega
theorem yXl {r s who f}:Kd (kN r s who f).2.2:=by
 unfold kN;cases vW s.m f.2.1 with
 |none=>exact mW
 |some x=>
  simp only[];cases !decide ((s.m.getD x pd).2.1=who) with
  |true=>exact mW
  |false=>
  cases decide (f.1=2) with
  |true=>exact GB ⟨by nofun,by nofun⟩
  |false=>
  cases decide (f.1=4) with
  |true=>
   cases !(decide (f.2.2.1≥1)&&decide (f.2.2.1≤3))<;>cases !decide (pT r.2.2.1 r.2.2.2.1 s.t f.2.2.1=0)<;>exact mW
  |false=>
  cases decide (f.2.2.1=0)<;>cases decide (f.2.2.1=1)<;>exact mW
def kO (o:List qZ):Prop:=∀x∈o,x.2.1≠16
theorem Kd.ne {o}(h:Kd o):kO o:=fun x hx=>(h x hx).1
theorem kO.append {a b}(h:kO a)(g:kO b):kO (a++b):=fun x hx=>(List.mem_append.1 hx).elim (h x) (g x)
theorem yCr B n:kO (iJ B n):=fun x hx=>by
 obtain⟨i,_,rfl⟩:=List.mem_map.1 hx
 nofun
theorem vBl {r:qD}{s:zR}{who:Int}{f:wI}(h:(iK r s who f).1=0):∀x∈(iK r s who f).2.2,x∈s.ids∨x=f.2.1:=by
 unfold iK at h⊢;cases h1:decide (f.2.2.1≥0)&&decide (f.2.2.1≤r.1-1) with
 |false=>exact fun _ h=>.inl h
 |true=>
 cases h2:decide (f.2.2.2.2.1≥1)&&decide (f.2.2.2.2.1≤3) with
 |false=>exact fun _ h=>.inl h
 |true=>
 cases decide (mV r s.t (fJ who f)=0) with
 |false=>exact fun _ h=>.inl h
 |true=>
 cases decide (f.2.1∈s.ids) with
 |true=>exact fun _ h=>.inl h
 |false=>
 cases decide (200≤s.ids.length) with
 |true=>exact fun _ h=>.inl h
 |false=>
 cases(vW s.m f.2.1).isSome with
 |true=>exact fun _ h=>.inl h
 |false=>
 cases decide (40≤s.m.length) with
 |true=>exact fun _ h=>.inl h
 |false=>
  intro x hx;have hx:x∈pN s.ids f.2.1:=hx;unfold pN at hx;have e:=List.takeWhile_append_dropWhile (p:=fun x=>decide (x<f.2.1)) (l:=s.ids);rcases List.mem_append.1 hx with hx|hx
  ·exact .inl (e▸List.mem_append_left _ hx)
  ·rcases List.mem_cons.1 hx with hx|hx
   ·exact .inr hx
   ·exact .inl (e▸List.mem_append_right _ hx)
theorem yLw (r:qD)(s:zR)(who:Int)(f:wI):(iL r s who f).2.ids=s.ids:=by
 unfold iL;cases decide (f.1=5) with
 |true=>cases !((decide (f.2.1≥0)&&decide (f.2.1≤r.1-1))&& !decide (f.2.1=who))<;>cases !(decide (f.2.2.1≥-1)&&decide (f.2.2.1≤1152921504606846976))<;>rfl
 |false=>
  cases decide (f.1=6) with
  |true=>cases !(decide (f.2.1≥-1)&&decide (f.2.1≤1152921504606846976))<;>rfl
  |false=>cases !(decide (f.2.1≥0)&&decide (f.2.1≤1152921504606846976))<;>rfl
theorem yTj (r:qD)(s:zR)(who a n:Int):(iM r s who a n).2.ids=s.ids:=by
 unfold iM;cases !(decide (a≥0)&&decide (a≤(r.2.1.length:Int)-1)) with
 |true=>rfl
 |false=>
 cases !(decide (n≥0)&&decide (n≤1099511627776)) with
 |true=>rfl
 |false=>
 simp only[ak];unfold Bk;generalize (s.ho.getD who.toNat []).set a.toNat n=h;cases decide (lW r.2.1 s.pr h>1152921504606846976) with
 |true=>rfl
 |false=>cases decide (lW r.2.1 s.pr h<(s.B.1.getD who.toNat ad).2.1)&&decide ((s.B.1.getD who.toNat ad).1+lW r.2.1 s.pr h<0)<;>rfl
theorem yC6 (r:qD)(s:zR)(a p:Int):(iN r s a p).2.ids=s.ids:=by
 unfold iN;cases !(decide (a≥0)&&decide (a≤(r.2.1.length:Int)-1)) with
 |true=>rfl
 |false=>
 cases !(decide (p≥0)&&decide (p≤1048576)) with
 |true=>rfl
 |false=>
 simp only[ak];unfold Br;cases qF (fun j=> !decide (fK r.2.1 (s.pr.set a.toNat p) s.ho j>1152921504606846976)) s.B.1.length 0<;>rfl
def WN (m:wI)(i:Nat):Int:=[m.2.1,m.2.2.1,m.2.2.2.1,m.2.2.2.2.1,m.2.2.2.2.2.1,m.2.2.2.2.2.2].getD i 0
theorem WO (x:Int)(m:wI){n:Nat}(hn:n≤6):xD 1000 1000 x n m=some (bif qF (fun j=>decide (WN m j=0)) (6-n) n then .inl x else .inr false):=
 Ua (L := fun n i => xD 1000 n x i m) (N := 6) (fun j => decide (WN m j = 0)) (.inl x) (.inr false) (fun n => rfl) (fun n i hi=>by
  show WQ 1000 (xD 1000 n) x i m=_;have:i=0∨i=1∨i=2∨i=3∨i=4∨i=5:=by omega
  rcases this with rfl|rfl|rfl|rfl|rfl|rfl
  ·show(bif !(decide (m.2.1=0)) then _ else _)=bif decide (m.2.1=0) then _ else _
   cases decide (m.2.1=0)<;>rfl
  ·show(bif !(decide (m.2.2.1=0)) then _ else _)=bif decide (m.2.2.1=0) then _ else _
   cases decide (m.2.2.1=0)<;>rfl
  ·show(bif !(decide (m.2.2.2.1=0)) then _ else _)=bif decide (m.2.2.2.1=0) then _ else _
   cases decide (m.2.2.2.1=0)<;>rfl
  ·show(bif !(decide (m.2.2.2.2.1=0)) then _ else _)=bif decide (m.2.2.2.2.1=0) then _ else _
   cases decide (m.2.2.2.2.1=0)<;>rfl
  ·show(bif !(decide (m.2.2.2.2.2.1=0)) then _ else _)=bif decide (m.2.2.2.2.2.1=0) then _ else _
   cases decide (m.2.2.2.2.2.1=0)<;>rfl
  ·show(bif !(decide (m.2.2.2.2.2.2=0)) then _ else _)=bif decide (m.2.2.2.2.2.2=0) then _ else _
   cases decide (m.2.2.2.2.2.2=0)<;>rfl) (6-n) n 1000 (by omega) (by omega)
theorem ma (m:wI)(n:Nat)(hn:n≤6)(h1:tY 1000 m.1=some (n:Int))(h2:Dz 1000 m.1=some (n:Int)):sA 1000 m=j5 1000 m:=by
 unfold sA j5;rw[h1,h2];have e1:wC false (n:Int) 0=(n:Int):=by
  rfl
 simp only[ae];rw[e1,WO _ m hn,ab (by simp),aa (by simp),aa (by grind),aq];have hl:(qR [m.2.1,m.2.2.1,m.2.2.2.1,m.2.2.2.2.1,m.2.2.2.2.2.1,m.2.2.2.2.2.2] n (6-n)).length=6-n:=by
  unfold qR;simp
 have := lT (L := fun k i => l9 1000 k (qR [m.2.1, m.2.2.1, m.2.2.2.1, m.2.2.2.2.1, m.2.2.2.2.2.1, m.2.2.2.2.2.2] n (6 - n)) ((6 - n : Nat) : Int) i) (N := 6 - n) (fun j => decide ((qR [m.2.1, m.2.2.1, m.2.2.2.1, m.2.2.2.2.1, m.2.2.2.2.2.1, m.2.2.2.2.2.2] n (6 - n)).getD j 0 = 0)) (.inl ()) (.inr false) (fun k=>by
  show lg 1000 (l9 1000 k) _ _ _=_;unfold lg;simp) (fun k i hi=>by
  show lg 1000 (l9 1000 k) _ _ _=_;unfold lg;rw[aa (by grind),qB,hl,aa hi,aq,qE hi (by omega)];simp) (n:=1000) (by omega)
 have h':l9 1000 1000 (qR [m.2.1,m.2.2.1,m.2.2.2.1,m.2.2.2.2.1,m.2.2.2.2.2.1,m.2.2.2.2.2.2] n (6-n)) ((6-n:Nat):Int) 0=_:=this;have ea:qF (fun j=>decide (WN m j=0)) (6-n) n=qF (fun j=>decide ((qR [m.2.1,m.2.2.1,m.2.2.2.1,m.2.2.2.2.1,m.2.2.2.2.2.1,m.2.2.2.2.2.2] n (6-n)).getD j 0=0)) (6-n) 0:=by
  have:n=0∨n=1∨n=2∨n=3∨n=4∨n=5∨n=6:=by omega
  rcases this with rfl|rfl|rfl|rfl|rfl|rfl|rfl<;>rfl
 grind
theorem vVg (kd a b c d e f:Int)(h:1≤kd∧kd≤14):sA 1000 (kd,a,b,c,d,e,f)=j5 1000 (kd,a,b,c,d,e,f):=by
 have:kd=1∨kd=2∨kd=3∨kd=4∨kd=5∨kd=6∨kd=7∨kd=8∨kd=9∨kd=10∨kd=11∨kd=12∨kd=13∨kd=14:=by omega
 rcases this with rfl|rfl|rfl|rfl|rfl|rfl|rfl|rfl|rfl|rfl|rfl|rfl|rfl|rfl
 ·exact ma _ 6 (by decide) rfl rfl
 ·exact ma _ 1 (by decide) rfl rfl
 ·exact ma _ 2 (by decide) rfl rfl
 ·exact ma _ 2 (by decide) rfl rfl
 ·exact ma _ 2 (by decide) rfl rfl
 ·exact ma _ 1 (by decide) rfl rfl
 ·exact ma _ 1 (by decide) rfl rfl
 ·exact ma _ 2 (by decide) rfl rfl
 ·exact ma _ 0 (by decide) rfl rfl
 ·exact ma _ 2 (by decide) rfl rfl
 ·exact ma _ 2 (by decide) rfl rfl
 ·exact ma _ 2 (by decide) rfl rfl
 ·exact ma _ 0 (by decide) rfl rfl
 ·exact ma _ 0 (by decide) rfl rfl
theorem vDl (r:qD)(s:zR)(c:gL){X:Type}(bad:Int→X)(Q:X):∃e,uA 1000 r s.st c=some e∧
  (e=0→((10≤c.2.1∧c.2.1≤14∧c.1= -1)∨(1≤c.2.1∧c.2.1≤9∧0≤c.1∧c.1<r.1))∧(s.ov=true→c.2.1=9))∧
  ((BB 1000 r c).bind fun x0=>some (bif !x0 then bad 5 else bif s.ov then(bif !(decide (c.2.1=9)) then bad 7 else Q) else Q))=some (bif decide (e=0) then Q else bad e):=by
 obtain⟨e,he,hm⟩:=yHh (k:=1000) (by decide) r s c;refine⟨e,he,hm,?_⟩;have hA:Pq 1000 c.2.1=some (decide (c.2.1≥1)&&decide (c.2.1≤14)):=by
  unfold Pq;cases decide (c.2.1≥1)<;>rfl
 have hH:Pr 1000 c.2.1=some (decide (c.2.1≥10)&&decide (c.2.1≤14)):=by
  unfold Pr;cases decide (c.2.1≥10)<;>rfl
 by_cases hk:1≤c.2.1∧c.2.1≤14
 ·obtain⟨b,hb⟩:=OG (k:=1000) (by decide) c.2;have bF:sA 1000 c.2=some b:=(vVg _ _ _ _ _ _ _ hk).trans hb;have eo:s.st.2.2.2.2.2.2.2.2.2.2=s.ov:=rfl;unfold uA at he;rw[VX,VY,hb,eo] at he;simp only[ae] at he;unfold BB;rw[hA,hH,bF];simp only[ae];clear hm hA hH hb bF;generalize decide (c.1≥0)=A at he⊢;generalize decide (c.2.1≥10)=B at he⊢;generalize decide (c.2.1≤14)=C at he⊢;generalize decide (c.2.1≥1)=D at he⊢;generalize decide (c.1= -1)=E at he⊢;generalize decide (c.1<r.1)=F at he⊢;generalize decide (c.2.1=9)=G at he⊢;generalize s.ov=o at he⊢;cases A<;>cases B<;>cases C<;>cases D<;>cases E<;>cases F<;>cases G<;>cases b<;>cases o<;>(cases he;rfl)
 ·have g:(decide (c.2.1≥1)&&decide (c.2.1≤14))=false:=by
   by_cases a:c.2.1≥1
   ·rw[aa a,ab (fun b=>hk ⟨a,b⟩)];rfl
   ·rw[ab a];rfl
  have e5:e=5:=by
   unfold uA at he;rw[VX,VY,g] at he;simp only[ae] at he;cases hd:decide (c.1≥0)<;>rw[hd] at he<;>(cases he;rfl)
  subst e5;unfold BB;rw[hA,g];rfl
structure Dlt (r:qD) (s:zR) (f:wI) (t:zR) (l:List qZ):Prop where
 inv:qV r t
 ov:t.ov=s.ov
 few:l.length≤2
 kd:Kd l
 ids:∀x∈t.ids,x∈s.ids∨x=f.2.1
structure BC (r:qD) (s:zR) (f:wI) (t:zR) (o:List qZ) (e:Int):Prop where
 inv:qV r t
 bad:e≠0→t=s∧o=[]
 ne:kO o
 few:o.length≤200
 ids:∀x∈t.ids,x∈s.ids∨x=f.2.1
theorem BC.none {r:qD}{s:zR}{f:wI}(h:qV r s)(e:Int):BC r s f s [] e:=⟨h,fun _=>⟨rfl,rfl⟩,fun x hx=>absurd hx List.not_mem_nil,Nat.zero_le _,fun _ h=>.inl h⟩
theorem kn (who a:Int)(kd:Int)(h:kd≠16∧kd≠23):Kd [gK who kd a]:=GB h
structure GC (r:qD) (s:zR) (who:Int) (f:wI) (t:zR) (l l':List qZ) (paid:Int):Prop where
 dealt:Dlt r s f t l
 told:l=(if who= -1 then l' else gK who 15 0::l')
 paid:paid=if f.1=1 then f.2.1 else 0
 pos:f.1=1→0<f.2.1
theorem vGd {r:qD}{s:zR}{who:Int}{f:wI}(h:(iK r s who f).1=0):0<f.2.1:=by
 unfold iK at h;cases h1:decide (f.2.2.1≥0)&&decide (f.2.2.1≤r.1-1) with
 |false=>rw[h1] at h;cases h
 |true=>
 cases h2:decide (f.2.2.2.2.1≥1)&&decide (f.2.2.2.2.1≤3) with
 |false=>rw[h1,h2] at h;cases h
 |true=>
 rw[h1,h2] at h;simp only[aA,ak] at h;by_cases hc:mV r s.t (fJ who f)=0
 ·unfold mV at hc;cases hb:kM r.1 s.t (fJ who f) with
  |false=>rw[hb] at hc;cases hc
  |true=>
   unfold kM at hb;simp only[ba,aX] at hb;have:(fJ who f).1≥1:=hb.2.2.1;have e:(fJ who f).1=f.2.1:=rfl;omega
 ·rw[ab hc] at h;exact absurd h hc
theorem vYn {r:qD}(hr:vO r){s:zR}(h:qV r s)(ho:s.ov=false){who:Int}(hw:0≤who∧who<r.1){f:wI}(hf:1≤f.1∧f.1≤8):
  ∃e d d',GD 1000 (dk r s who [gK who 15 0]) f=some (e,d)∧xR 1000 (rk r s who) f=some (e,d')∧(e=0→∃t l l' paid,d=dk r t who l∧d'=qL r t who l' paid∧GC r s who f t l l' paid):=by
 unfold GD xR;have rR:¬who= -1:=by omega
 have kn:=kn who 0 15 (by decide);by_cases h1:f.1=1
 ·rw[aa h1];obtain⟨d,e1,e2⟩:=yYe (k:=1000) (by decide) hr h.waits who [gK who 15 0] f;obtain⟨d',q1,q2⟩:=vMf (k:=1000) (by decide) hr h.waits who f;simp only[aj];rw[e1,q1];exact⟨_,d,d',rfl,rfl,fun e=>⟨_,_,_,_,e2 e,q2 e,⟨h.queue ho (yEh hr h e),rfl,by simp,kn,vBl e⟩,(if_neg rR).symm,(if_pos h1).symm,fun _=>vGd e⟩⟩
 rw[ab h1];by_cases hq:f.1=2∨f.1=3∨f.1=4
 ·obtain⟨d,e1,e2⟩:=yLk (k:=1000) (by decide) h.waits who (l:=[gK who 15 0]) (by simp) f;obtain⟨d',q1,q2⟩:=vGb (k:=1000) (by decide) (r:=r) h.waits who f hq;have g:∃e d d',(xA 1000 (dk r s who [gK who 15 0]) f).bind (fun x=>some (x.1,x.2))=some (e,d)∧(Bx 1000 (rk r s who) f.1 f.2).bind (fun x=>some (x.1,x.2))=some (e,d')∧(e=0→∃t l l' paid,d=dk r t who l∧d'=qL r t who l' paid∧GC r s who f t l l' paid):=by
   rw[e1,q1];refine⟨_,d,d',rfl,rfl,fun e=>⟨_,_,_,_,e2 e,q2 e,⟨h.queue ho (yCt h e),rfl,?_,kn.append yXl,fun _ h=>.inl h⟩,?_,(if_neg h1).symm,fun e'=>absurd e' h1⟩⟩
   ·have:=yNp (r:=r) (s:=s) (who:=who) (f:=f);rw[List.length_append];simp;omega
   ·rw[if_neg rR];rfl
  rcases hq with e|e|e
  ·rw[aa e];exact g
  ·rw[ab (show¬f.1=2 by omega),aa e];exact g
  ·rw[ab (show¬f.1=2 by omega),ab (show¬f.1=3 by omega),aa e];exact g
 rw[ab (show¬f.1=2 by omega),ab (show¬f.1=3 by omega),ab (show¬f.1=4 by omega)];by_cases hq:f.1=5∨f.1=6∨f.1=7
 ·obtain⟨d,e1,e2⟩:=yGv (k:=1000) (by decide) hr h.bk h.n hw [gK who 15 0] f;obtain⟨d',q1,q2⟩:=vNb (k:=1000) (by decide) hr h.bk h.n hw f;have g:∃e d d',(xB 1000 (dk r s who [gK who 15 0]) f).bind (fun x=>some (x.1,x.2))=some (e,d)∧(By 1000 (rk r s who) f.1 f.2).bind (fun x=>some (x.1,x.2))=some (e,d')∧(e=0→∃t l l' paid,d=dk r t who l∧d'=qL r t who l' paid∧GC r s who f t l l' paid):=by
   rw[e1,q1];have bb:=yMy r s who f;exact⟨_,d,d',rfl,rfl,fun e=>⟨_,_,_,_,e2 e,q2 e,⟨yZk h hw e,bb.2.1,by simp,kn,by rw[yLw];exact fun _ h=>.inl h⟩,(if_neg rR).symm,(if_neg h1).symm,fun e'=>absurd e' h1⟩⟩
  rcases hq with e|e|e
  ·rw[aa e];exact g
  ·rw[ab (show¬f.1=5 by omega),aa e];exact g
  ·rw[ab (show¬f.1=5 by omega),ab (show¬f.1=6 by omega),aa e];exact g
 rw[ab (show¬f.1=5 by omega),ab (show¬f.1=6 by omega),ab (show¬f.1=7 by omega),aa (show f.1=8 by omega)];obtain⟨d,e1,e2⟩:=yRr (k:=1000) (by decide) hr h hw [gK who 15 0] f.2.1 f.2.2.1;obtain⟨d',q1,q2⟩:=vNz hr h hw f.2.1 f.2.2.1;simp only[aj,ak];rw[e1,q1];have bb:=yZj r s who f.2.1 f.2.2.1;exact⟨_,d,d',rfl,rfl,fun e=>⟨_,_,_,_,e2 e,q2 e,⟨yCd hr h hw e,bb.2.1,by simp,kn,by rw[yTj];exact fun _ h=>.inl h⟩,(if_neg rR).symm,(if_neg h1).symm,fun e'=>absurd e' h1⟩⟩
theorem vKu {r:qD}(hr:vO r){s:zR}(h:qV r s){f:wI}(hf:10≤f.1∧f.1≤13):
  ∃e d d',xS 1000 (eQ r s (-1)) f=some (e,d)∧xR 1000 (rk r s (-1)) f=some (e,d')∧(e=0→∃t l l' paid,d=dk r t (-1) l∧d'=qL r t (-1) l' paid∧GC r s (-1) f t l l' paid):=by
 unfold xS xR;have h1:¬f.1=1:=by omega
 rw[ab h1,ab (show¬f.1=2 by omega),ab (show¬f.1=3 by omega),ab (show¬f.1=4 by omega),ab (show¬f.1=5 by omega),ab (show¬f.1=6 by omega),ab (show¬f.1=7 by omega),ab (show¬f.1=8 by omega)];by_cases hq:f.1=10∨f.1=11
 ·obtain⟨d,e1,e2⟩:=vAo (k:=1000) (by decide) hr h (-1) f.1 f.2.1 f.2.2.1;obtain⟨d',q1,q2⟩:=WE hr h (-1) f.1 f.2.1 f.2.2.1 hq;have g:∃e d d',(Bq 1000 (eQ r s (-1)) f.1 f.2.1 f.2.2.1).bind (fun x=>some (x.1,x.2))=some (e,d)∧(Gf 1000 (rk r s (-1)) (decide (f.1=10)) f.2.1 f.2.2.1).bind (fun x=>some (x.1,x.2))=some (e,d')∧(e=0→∃t l l' paid,d=dk r t (-1) l∧d'=qL r t (-1) l' paid∧GC r s (-1) f t l l' paid):=by
   rw[e1,q1];refine⟨_,d,d',rfl,rfl,fun e=>?_⟩;obtain⟨g1,g2,g3,g4,g5⟩:=yQs h e;exact⟨_,_,_,_,e2 e,q2 e,⟨g1,yTn,by simp,mW,by rw[g4];exact fun _ h=>.inl h⟩,rfl,(if_neg h1).symm,fun e'=>absurd e' h1⟩
  rcases hq with e|e
  ·have e1:decide (f.1=10)=true:=aa e;rw[e1] at g⊢;exact g
  ·have e1:decide (f.1=10)=false:=ab (by omega);rw[e1] at g⊢;rw[aa e];exact g
 rw[ab (show¬f.1=10 by omega),ab (show¬f.1=11 by omega)];by_cases hp:f.1=12
 ·rw[aa hp];obtain⟨d,e1,e2⟩:=vAk (k:=1000) (by decide) hr h (-1) f.2.1 f.2.2.1;obtain⟨d',q1,q2⟩:=vHj hr h (-1) f.2.1 f.2.2.1;simp only[aj,ak];rw[e1,q1];have bb:=yMo r s f.2.1 f.2.2.1;exact⟨_,d,d',rfl,rfl,fun e=>⟨_,_,_,_,e2 e,q2 e,⟨yH0 h e,bb.2.1,by simp,mW,by rw[yC6];exact fun _ h=>.inl h⟩,rfl,(if_neg h1).symm,fun e'=>absurd e' h1⟩⟩
 ·rw[ab hp];exact⟨_,_,_,rfl,rfl,fun _=>⟨s,[],[],0,rfl,rfl,⟨h,rfl,by simp,mW,fun _ h=>.inl h⟩,rfl,(if_neg h1).symm,fun e'=>absurd e' h1⟩⟩
def Ps (who kd:Int)(x4:Int×Wz):Option (pS×List qZ×Int):=
  bif !(decide (who = (-1))) then ((eW 1000 15 []).bind fun x5=>
   (nR 1000 x4.2.2.2.2.2.2.1 x4.2.2.2.2.2.2.2.1 x4.2.2.2.2.2.2.2.2.1 x4.2.2.2.2.2.2.2.2.2.1 x4.2.2.2.2.2.2.2.2.2.2.1 x4.2.2.2.2.2.2.2.2.2.2.2.1 x4.2.2.2.2.2.2.2.2.2.2.2.2.1 x4.2.2.2.2.2.2.2.2.2.2.2.2.2.1 x4.2.2.2.2.2.2.2.2.2.2.2.2.2.2.1 x4.2.2.2.2.2.2.2.2.2.2.2.2.2.2.2.1 x4.2.2.2.2.2.2.2.2.2.2.2.2.2.2.2.2.1 (decide (kd=13))).bind fun x6=>
   bif zP (1 + x4.2.2.2.2.2.2.2.2.2.2.2.2.2.2.2.2.2.2.1.length) 64 then (let y0:List qZ:=([(who,x5)]++x4.2.2.2.2.2.2.2.2.2.2.2.2.2.2.2.2.2.2.1)
    bif zP (y0.length + x6.2.2.2.2.2.2.2.2.2.2.2.length) 64 then (bif decide (x4.2.2.2.2.2.2.2.2.2.2.2.2.2.2.2.2.2.2.2 > 0) then ((mQ 1000 x6.2.2.2.2.2.2.2.1 x4.2.2.2.2.2.2.2.2.2.2.2.2.2.2.2.2.2.2.2).bind fun x7=>
      bif decide (x7 ≥ 0) then ((eW 1000 19 [x4.2.2.2.2.2.2.2.2.2.2.2.2.2.2.2.2.2.2.2]).bind fun x8=>
       bif zP ((y0 ++ x6.2.2.2.2.2.2.2.2.2.2.2).length + 1) 64 then (let y1:List qZ:=((y0++x6.2.2.2.2.2.2.2.2.2.2.2)++[(who,x8)])
        some ((qQ x6),y1,0))
       else none)
      else some ((qQ x6),(y0++x6.2.2.2.2.2.2.2.2.2.2.2),0))
     else some ((qQ x6),(y0++x6.2.2.2.2.2.2.2.2.2.2.2),0))
    else none)
   else none)
  else(nR 1000 x4.2.2.2.2.2.2.1 x4.2.2.2.2.2.2.2.1 x4.2.2.2.2.2.2.2.2.1 x4.2.2.2.2.2.2.2.2.2.1 x4.2.2.2.2.2.2.2.2.2.2.1 x4.2.2.2.2.2.2.2.2.2.2.2.1 x4.2.2.2.2.2.2.2.2.2.2.2.2.1 x4.2.2.2.2.2.2.2.2.2.2.2.2.2.1 x4.2.2.2.2.2.2.2.2.2.2.2.2.2.2.1 x4.2.2.2.2.2.2.2.2.2.2.2.2.2.2.2.1 x4.2.2.2.2.2.2.2.2.2.2.2.2.2.2.2.2.1 (decide (kd=13))).bind fun x9=>
  bif zP x4.2.2.2.2.2.2.2.2.2.2.2.2.2.2.2.2.2.2.1.length 64 then (let y2:List qZ:=x4.2.2.2.2.2.2.2.2.2.2.2.2.2.2.2.2.2.2.1
   bif zP (y2.length + x9.2.2.2.2.2.2.2.2.2.2.2.length) 64 then (bif decide (x4.2.2.2.2.2.2.2.2.2.2.2.2.2.2.2.2.2.2.2 > 0) then ((mQ 1000 x9.2.2.2.2.2.2.2.1 x4.2.2.2.2.2.2.2.2.2.2.2.2.2.2.2.2.2.2.2).bind fun dm=>
     bif decide (dm ≥ 0) then ((eW 1000 19 [x4.2.2.2.2.2.2.2.2.2.2.2.2.2.2.2.2.2.2.2]).bind fun cR=>
      bif zP ((y2 ++ x9.2.2.2.2.2.2.2.2.2.2.2).length + 1) 64 then (let y3:List qZ:=((y2++x9.2.2.2.2.2.2.2.2.2.2.2)++[(who,cR)])
       some ((qQ x9),y3,0))
      else none)
     else some ((qQ x9),(y2++x9.2.2.2.2.2.2.2.2.2.2.2),0))
    else some ((qQ x9),(y2++x9.2.2.2.2.2.2.2.2.2.2.2),0))
   else none)
  else none
def BD (r:qD)(s:pS)(c:gL):Option (pS×List qZ×Int):=
  bif decide (c.2.1 = 9) then (bif zB c.1 s.2.1.length then ((uh 1000 s.2.2.2.2.2.2.2.1 c.1).bind fun x1=>
    (eW 1000 17 [(s.2.1.getD c.1.toNat (0,0,0)).1,(s.2.1.getD c.1.toNat (0,0,0)).2.1,(s.2.1.getD c.1.toNat (0,0,0)).2.2,(x1.length:Int),s.1]).bind fun x2=>
    some (s,[(c.1,x2)],0))
   else none)
  else bif decide (c.2.1 = 14) then ((GA 1000 r s).bind fun x3=>
   some (x3.1,x3.2,0))
  else(xR 1000 (jE r (wP s (c.1,0))) c.2).bind fun x4=>
  bif !(decide (x4.1=0)) then some (s,[],x4.1)
  else Ps c.1 c.2.1 x4
theorem vLk (r:qD)(s:pS)(c:gL):GG 1000 r s c=(BB 1000 r c).bind fun x0=>
  bif !x0 then some (s,[],5) else bif s.2.2.2.2.2.2.2.2.2.2 then(bif !(decide (c.2.1=9)) then some (s,[],7) else BD r s c) else BD r s c:=rfl
theorem yGb {r:qD}(hr:vO r){s t:zR}(ho:s.ov=false){who:Int}{l l':List qZ}{f:wI}{paid:Int}(hB:GC r s who f t l l' paid):
    ∃ u o, ((oU 1000 t.t t.B.1 t.B.2.1 t.B.2.2.1 t.B.2.2.2 t.pr t.ho t.m t.ids t.to t.ov (decide (f.1=13))).bind fun x5=>
      bif zP (l.length + x5.2.2.2.2.2.2.2.2.2.2.2.length) 64 then (let y0:List qZ:=(l++x5.2.2.2.2.2.2.2.2.2.2.2)
       bif decide (f.1 = 1) then ((nM 1000 x5.2.2.2.2.2.2.2.1 f.2.1).bind fun x6=>
        bif decide (x6 ≥ 0) then ((uz 1000 (GH ((0:Int),dk r t who l) y0) 19 [f.2.1]).bind fun x7=>
         some ((qQ x5),x7.2.2.2.2.2.2.2.2.2.2.2.2.2.2.2.2.2,(0:Int)))
        else some ((qQ x5),y0,0))
       else some ((qQ x5),y0,0))
      else none)=some (u.st,o,(0:Int))∧Ps who f.1 (0,qL r t who l' paid)=some (u.st,o,(0:Int))∧qV r u∧kO o∧o.length≤200∧u.ids=t.ids:=by
  have h:=hB.dealt.inv;have uK:=hB.dealt.ov.trans ho;have hl:=hB.dealt.few;have hm:=h.waits.len;obtain⟨C,m',d,e1,Kx,e3,e4,e5,e6,e7⟩:=yEz h.bk h.waits.dist h.waits.may (by omega) t.t t.pr t.ho t.ids t.to t.ov (decide (f.1=13));have hd:d.length≤40:=by
    have:=e6.length_eq;rw[List.length_append] at this;omega
  have lO:=e5.length_le;have ph:=Bg d;have hu:=h.settled uK e3 e4 e5;have dM:l'.length≤2:=by
    have:=hB.told;by_cases hw:who= -1
    · rw[if_pos hw] at this;rw[←this];exact hl
    · rw[if_neg hw] at this;rw[this,List.length_cons] at hl;omega
  have key:Ps who f.1 (0,qL r t who l' paid)=bif decide (paid>0) then(bif decide (j0 m' paid≥0) then some ((t.t,C.1,C.2.1,C.2.2.1,C.2.2.2,t.pr,t.ho,m',t.ids,t.to,t.ov),(l++yX d)++[gK who 19 paid],(0:Int)) else some ((t.t,C.1,C.2.1,C.2.2.1,C.2.2.2,t.pr,t.ho,m',t.ids,t.to,t.ov),l++yX d,0)) else some ((t.t,C.1,C.2.1,C.2.2.1,C.2.2.2,t.pr,t.ho,m',t.ids,t.to,t.ov),l++yX d,0):=by
    have es:nR 1000 (qL r t who l' paid).2.2.2.2.2.1 (qL r t who l' paid).2.2.2.2.2.2.1 (qL r t who l' paid).2.2.2.2.2.2.2.1 (qL r t who l' paid).2.2.2.2.2.2.2.2.1 (qL r t who l' paid).2.2.2.2.2.2.2.2.2.1 (qL r t who l' paid).2.2.2.2.2.2.2.2.2.2.1 (qL r t who l' paid).2.2.2.2.2.2.2.2.2.2.2.1 (qL r t who l' paid).2.2.2.2.2.2.2.2.2.2.2.2.1 (qL r t who l' paid).2.2.2.2.2.2.2.2.2.2.2.2.2.1 (qL r t who l' paid).2.2.2.2.2.2.2.2.2.2.2.2.2.2.1 (qL r t who l' paid).2.2.2.2.2.2.2.2.2.2.2.2.2.2.2.1 (decide (f.1=13))=_:=Kx;have eo:(qL r t who l' paid).2.2.2.2.2.2.2.2.2.2.2.2.2.2.2.2.2.1=l':=rfl;have ep:(qL r t who l' paid).2.2.2.2.2.2.2.2.2.2.2.2.2.2.2.2.2.2=paid:=rfl;have ef:mQ 1000 m' paid=some (j0 m' paid):=N2 (by omega) (by omega) paid;unfold Ps;simp only[es,eo,ep,Of0,Pn,ae];have ht:=hB.told;by_cases hw:who= -1
    · rw[if_pos hw] at ht;rw[aa hw,qJ (n:=l'.length) (by omega) (by omega),qJ (n:=l'.length+(yX d).length) (by omega) (by omega),qJ (n:=(l'++yX d).length+1) (by rw[List.length_append];omega) (by rw[List.length_append];omega),ht];simp only[aA,ak,aj];rw[ef];rfl
    · rw[if_neg hw] at ht;have er:[((who,(15,0,0,0,0,0,0)):qZ)]++l'=l:=ht.symm;rw[ab hw,er,qJ (n:=1+l'.length) (by omega) (by omega),qJ (n:=l.length+(yX d).length) (by omega) (by omega),qJ (n:=(l++yX d).length+1) (by rw[List.length_append];omega) (by rw[List.length_append];omega)];simp only[bQ,aj];rw[ef];rfl
  rw[e1,key];simp only[ae];rw[qJ (n:=l.length+(yX d).length) (by omega) (by omega)];simp only[aj];have fin:∀(o:List qZ) {x:Option (pS×List qZ×Int)},o.length≤200→kO o→x=some (({t with B:=C,m:=m'}:zR).st,o,(0:Int))→∃u o',some (({t with B:=C,m:=m'}:zR).st,o,(0:Int))=some (u.st,o',(0:Int))∧x=some (u.st,o',(0:Int))∧qV r u∧kO o'∧o'.length≤200∧u.ids=t.ids:=fun o _ hl hk hx=>⟨{t with B:=C,m:=m'},o,rfl,hx,hu,hk,hl,rfl⟩
  have k1:Kd (l++yX d):=hB.dealt.kd.append (KG _);have b1:(l++yX d).length≤199:=by rw[List.length_append];omega
  have b2:∀x:qZ,(l++yX d++[x]).length≤200:=fun x=>by rw[List.length_append];simp;rw[List.length_append] at b1;omega
  have hp:=hB.paid;by_cases h1:f.1=1
  · rw[if_pos h1] at hp;subst hp;rw[aa h1,aa (show f.2.1>0 from hB.pos h1)];simp only[aj];rw[A4 (by omega) (by omega)];simp only[ae];cases decide (j0 m' f.2.1≥0) with
    |false=>exact fin _ (by omega) k1.ne rfl
    |true=>
      simp only[aj];have ej:GH ((0:Int),dk r t who l) (l++yX d)=dk r t who (l++yX d):=rfl;rw[ej,VU (by rw[List.length_append];omega)];exact fin _ (b2 _) (k1.append (kn _ _ _ (by decide))).ne rfl
  · rw[if_neg h1] at hp;subst hp;rw[ab h1,ab (show¬(0:Int)>0 by decide)];exact fin _ (by omega) k1.ne rfl
theorem vE6 {r:qD}{s:zR}(h:qV r s){who:Int}(hw:0≤who∧who<r.1)(c:gL)(hc:c.1=who)(h9:c.2.1=9):
  ∃o,BE 1000 s.st who=some o∧BD r s.st c=some (s.st,o,0)∧o.length≤200∧kO o:=by
 have hm:=h.waits.len;have hn:=h.n;have hb:zB who s.B.1.length=true:=fl hw.1 (by omega);have e1:s.st.2.1=s.B.1:=rfl;have e2:s.st.2.2.2.2.2.2.2.1=s.m:=rfl;unfold BE BD;rw[aa h9,hc,e1,e2,hb,VH (by omega) (by unfold qO;omega),NW (by omega) (by unfold qO;omega)];simp only[aj,ae,Of5];exact⟨_,rfl,rfl,by simp,(GB ⟨by simp,by simp⟩).ne⟩
theorem vS0 {r:qD}(hr:vO r){s:zR}(h:qV r s)(c:gL):
  ∃t o e,gM 1000 r s.st c=some (t.st,o,e)∧GG 1000 r s.st c=some (t.st,o,e)∧BC r s c.2 t o e:=by
 obtain⟨e,he,hm,hb⟩:=vDl r s c (fun e=>(some (s.st,[],e):Option (pS×List qZ×Int))) (BD r s.st c);have hR:GG 1000 r s.st c=bif decide (e=0) then BD r s.st c else some (s.st,[],e):=by
  rw[vLk];have eo:s.st.2.2.2.2.2.2.2.2.2.2=s.ov:=rfl;rw[eo];cases hx:BB 1000 r c with
  |none=>rw[hx] at hb;cases hb
  |some x=>
   rw[hx] at hb;simp only[ae,Option.some.injEq] at hb;exact hb
 unfold gM;rw[he,hR];simp only[ae];by_cases h0:e=0
 ·obtain⟨hw,uK⟩:=hm h0;rw[aa h0];simp only[aA,ak,aj];by_cases h9:c.2.1=9
  ·have oI:0≤c.1∧c.1<r.1:=by omega
   obtain⟨o,ho,lA,hol,fD⟩:=vE6 h oI c rfl h9;rw[aa h9,lA];simp only[aj];rw[ho];exact⟨s,o,0,rfl,rfl,h,fun e=>absurd rfl e,fD,hol,fun _ h=>.inl h⟩
  ·have ho:s.ov=false:=by
    cases g:s.ov with
    |false=>rfl
    |true=>exact absurd (uK g) h9
   have fin:∀{t:zR} {x y:Option (pS×List qZ×Int)},(∀x∈t.ids,x∈s.ids∨x=c.2.2.1)→(∃u o,x=some (u.st,o,(0:Int))∧y=some (u.st,o,(0:Int))∧qV r u∧kO o∧o.length≤200∧u.ids=t.ids)→∃t o e,x=some (t.st,o,e)∧y=some (t.st,o,e)∧BC r s c.2 t o e:=by
    intro t x y hi ⟨u,o,g1,A8,g2,g3,g4,g5⟩;exact⟨u,o,0,g1,A8,g2,fun e=>absurd rfl e,g3,g4,by rw[g5];exact hi⟩
   unfold BD;rw[ab h9];simp only[ak];by_cases hp:c.1= -1
   ·rw[aa hp];have hf:10≤c.2.1∧c.2.1≤14:=by omega
    have ed:jE r (wP s.st c.1)=eQ r s (-1):=by rw[hp];rfl
    have er:jE r (wP s.st (c.1,0))=rk r s (-1):=by rw[hp];rfl
    simp only[aA,ak];rw[ed,er];by_cases BF:c.2.1=14
    ·have g0:xS 1000 (eQ r s (-1)) c.2=some (0,dk r s (-1) []):=by
      unfold xS;rw[BF];rfl
     rw[g0];simp only[ae];rw[aa BF];have bh:=h.tk;have CP:=hr.cl;have J2:=hr.pe;obtain⟨x,x1,x2⟩:=vY7 r h.bk h.waits.dist h.waits.may (by have:=h.waits.len;omega) ⟨by omega,by omega⟩ (by omega) ho;obtain⟨C,m',ov,o,y1,y2,_,_,y3,y4⟩:=yNo (k:=1000) (by decide) hr h ho;rw[x1] at y1;have y1:=Option.some.inj y1;subst y1;refine⟨_,o,0,(congrArg (fun z=>Option.bind z _) x1).trans rfl,(congrArg (fun z=>Option.bind z _) x2).trans rfl,y2,fun e=>absurd rfl e,?_,by omega,fun _ h=>.inl h⟩;rcases y4 with⟨_,_,rfl,_⟩|⟨l,d,n,rfl,_,_,_⟩
     ·exact(Pp (.inr rfl) _).ne.append (yCr _ _)
     ·exact((Pp (.inl rfl) _).append (KG _)).ne
    ·obtain⟨e,d,d',g1,A8,g2⟩:=vKu hr h (f:=c.2) (by omega);rw[g1,ab BF,A8];simp only[ae,ak];by_cases hz:e=0
     ·obtain⟨t,l,l',paid,rfl,rfl,hd⟩:=g2 hz;rw[aa hz,hp];simp only[aA,ak];subst hz;exact fin hd.dealt.ids (yGb hr ho hd)
     ·rw[ab hz];exact⟨s,[],e,rfl,rfl,BC.none h e⟩
   ·rw[ab hp,ab (show¬c.2.1=14 by omega)];have hf:1≤c.2.1∧c.2.1≤8:=by omega
    have oI:0≤c.1∧c.1<r.1:=by omega
    have ed:KH 1000 (jE r (wP s.st c.1)) 15 []=some (dk r s c.1 [gK c.1 15 0]):=rfl;have er:jE r (wP s.st (c.1,0))=rk r s c.1:=rfl;obtain⟨e,d,d',g1,A8,g2⟩:=vYn hr h ho oI (f:=c.2) hf;simp only[bQ,aj,ak];rw[ed,er,A8];simp only[ae];rw[g1];simp only[ae];by_cases hz:e=0
    ·obtain⟨t,l,l',paid,rfl,rfl,hd⟩:=g2 hz;rw[aa hz];simp only[aA,ak];subst hz;exact fin hd.dealt.ids (yGb hr ho hd)
    ·rw[ab hz];exact⟨s,[],e,rfl,rfl,BC.none h e⟩
 ·rw[ab h0];exact⟨s,[],e,rfl,rfl,BC.none h e⟩
theorem vCk (m:wI):sA 1000 m=j5 1000 m:=by
 have hm:=AK m.1;by_cases h:yC m.1<0
 ·obtain⟨b,h1,h2⟩:=vSq (k:=1000) (by decide) m;obtain⟨c,h3⟩:=OG (k:=1000) (by decide) m;have hb:b=false:=by
   cases b with
   |false=>rfl
   |true=>have:=h2 rfl;omega
  have hc:c=false:=by
   cases c with
   |false=>rfl
   |true=>have:=(OI h3).1;omega
  rw[h1,h3,hb,hc]
 ·obtain⟨n,hn⟩:∃n:Nat,yC m.1=n:=⟨(yC m.1).toNat,by omega⟩;exact ma m n (by omega) (by rw[IE,hn]) (by rw[Ue,hn])
theorem WR {f:wI}(hi:j5 1000 f=some true)(hf:jx (yB f)){n:Nat}(hn:yC f.1=n):mL ([IntKind.wrap .u8 f.1]++yD ((yB f).take n))=(f,0):=by
 obtain⟨h0,hz⟩:=OI hi;have hm:=AK f.1;have wu:0≤f.1∧f.1<24:=by
  unfold yC at h0;split at h0
  ·assumption
  ·omega
 have xC:((yB f).take n).length=n:=by rw[List.length_take];show min n 6=n;omega
 have bP:jx ((yB f).take n):=fun x hx=>hf x (List.mem_of_mem_take hx)
 have V0:IntKind.wrap .u8 f.1=f.1:=by rw[IH];omega
 have V1:zA f.1=f.1:=zN (by omega) (by omega);unfold mL;have e1:List.drop 1 ([IntKind.wrap .u8 f.1]++yD ((yB f).take n))=yD ((yB f).take n):=rfl;have e2:([IntKind.wrap .u8 f.1]++yD ((yB f).take n)).getD 0 0=f.1:=V0;rw[if_neg (by simp),e1,e2,V1,Ug bP];simp only[];rw[if_neg (fun h=>h.elim (fun e=>e rfl) fun e=>e (by rw[xC,hn]))];have g:∀j,j<6→((yB f).take n).getD j 0=(yB f).getD j 0:=fun j hj=>by
  by_cases h:j<n
  ·rw[List.getD_eq_getElem?_getD,List.getD_eq_getElem?_getD,List.getElem?_take_of_lt h]
  ·rw[hz j (by omega) hj,List.getD_eq_getElem?_getD,List.getElem?_eq_none (by omega)];rfl
 rw[g 0 (by omega),g 1 (by omega),g 2 (by omega),g 3 (by omega),g 4 (by omega),g 5 (by omega)];rfl
theorem WS {f:wI}(hf:jx (yB f)):BG 1000 f=some (.inl ())∨∃b,BG 1000 f=some (.inr b)∧0<b.length∧b.length≤49∧mL b=(f,0):=by
 unfold BG;rw[vCk];obtain⟨b,hb⟩:=OG (k:=1000) (by decide) f;rw[hb];cases b with
 |false=>exact .inl rfl
 |true=>
  right;have hm:=AK f.1;have h0:=(OI hb).1;obtain⟨n,hn⟩:∃n:Nat,yC f.1=n:=⟨(yC f.1).toNat,by omega⟩;have xC:((yB f).take n).length=n:=by rw[List.length_take];show min n 6=n;omega
  have pF:=mM ((yB f).take n);have dW:qR [f.2.1,f.2.2.1,f.2.2.2.1,f.2.2.2.2.1,f.2.2.2.2.2.1,f.2.2.2.2.2.2] 0 (n-0)=(yB f).take n:=by
   unfold qR;show List.take (n-0) ((yB f).drop 0)=_;rw[List.drop_zero,Nat.sub_zero]
  refine⟨[IntKind.wrap .u8 f.1]++yD ((yB f).take n),?_,by simp,by rw[List.length_append,pF,xC];show 1+8*n≤49;omega,WR hb hf hn⟩;simp only[ae,aA,ak];rw[Ue,hn];simp only[ae];rw[aa (show(0:Int)≤(n:Int) by omega),aa (show(n:Int)≤6 by omega),aq,dW,vDv (by decide) (by omega) (by omega)];simp only[Bool.and_self,aj,ae];rw[qJ (by omega) (by omega)];rfl
end Go.Ab.Gi
