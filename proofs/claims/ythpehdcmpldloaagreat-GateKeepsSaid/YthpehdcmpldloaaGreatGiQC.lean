/- Plain proofs, part 2. -/
import Derived.Test.YthpehdcmpldloaaGreatGiQB
import Derived.Test.YthpehdcmpldloaaGreatGiQA
set_option linter.unusedVariables false
set_option linter.unusedSimpArgs false
set_option maxRecDepth 100000
namespace Go.Ab.Gi
open Go.Ab
def yY (s t:zT):Prop:=∀i,i<s.B.1.length→(t.B.1.getD i ad).1<(s.B.1.getD i ad).1→0≤(t.B.1.getD i ad).1+(t.B.1.getD i ad).2.1
theorem yY.same {s t}(h:∀i,i<s.B.1.length→(t.B.1.getD i ad).1=(s.B.1.getD i ad).1):yY s t:=fun i hi bj=>by simp_all
theorem yY.refl s:yY s s:=yY.same (by simp)
theorem yY.book {s t}(h:t.B=s.B):yY s t:=yY.same (by grind)
theorem yY.set {s t:zT}{j:Nat}{a:qY}(h:t.B.1=s.B.1.set j a)(ha:a.1<(s.B.1.getD j ad).1→0≤a.1+a.2.1):yY s t:=fun i hi=>by
 rw[h,fm];split
 ·next h=>rw[←h.1];exact ha
 ·omega
theorem vDp (r:qF)(s:zT)(who:Int)(f:wM):yY s (iL r s who f).2:=by
 unfold iL;cases decide (f.1=5) with
 |true=>
  cases !((decide (f.2.1≥0)&&decide (f.2.1≤r.1-1))&& !decide (f.2.1=who))<;>cases !(decide (f.2.2.1≥-1)&&decide (f.2.2.1≤1152921504606846976))<;>exact yY.same fun _ _=>rfl
 |false=>
  cases decide (f.1=6) with
  |true=>cases !(decide (f.2.1≥-1)&&decide (f.2.1≤1152921504606846976))<;>exact yY.same fun _ _=>rfl
  |false=>
   cases !(decide (f.2.1≥0)&&decide (f.2.1≤1152921504606846976))
   ·exact yY.set (j:=who.toNat) rfl fun h=>absurd h (Int.lt_irrefl _)
   ·exact yY.refl s
theorem vQl (r:qF)(s:zT)(who a n:Int):yY s (iM r s who a n).2:=by
 unfold iM;cases !(decide (a≥0)&&decide (a≤(r.2.1.length:Int)-1)) with
 |true=>exact yY.refl s
 |false=>
 cases !(decide (n≥0)&&decide (n≤1099511627776)) with
 |true=>exact yY.refl s
 |false=>
 simp only[an];unfold BF;generalize (s.ho.getD who.toNat []).set a.toNat n=h;cases decide (mc r.2.1 s.pr h>1152921504606846976) with
 |true=>exact yY.refl s
 |false=>
  cases decide (mc r.2.1 s.pr h<(s.B.1.getD who.toNat ad).2.1)&&decide ((s.B.1.getD who.toNat ad).1+mc r.2.1 s.pr h<0)
  ·exact yY.set (j:=who.toNat) rfl fun h=>absurd h (Int.lt_irrefl _)
  ·exact yY.refl s
theorem vSb (r:qF)(s:zT)(a p:Int):yY s (iN r s a p).2:=by
 unfold iN;cases !(decide (a≥0)&&decide (a≤(r.2.1.length:Int)-1)) with
 |true=>exact yY.refl s
 |false=>
 cases !(decide (p≥0)&&decide (p≤1048576)) with
 |true=>exact yY.refl s
 |false=>
 simp only[an];unfold BM;cases qG (fun j=> !decide (fK r.2.1 (s.pr.set a.toNat p) s.ho j>1152921504606846976)) s.B.1.length 0
 ·exact yY.refl s
 ·exact yY.same fun i hi=>by show((sX r.2.1 (s.pr.set a.toNat p) s.ho s.B.1).getD i ad).1=_;rw[Px _ _ _ _ hi]
theorem vUv {r:qF}{s:zT}(h:qW r s)(kd:Int){to n:Int}(h0:(il r s kd to n).1=0):yY s (il r s kd to n).2:=by
 have hn:=h.n;unfold il at h0⊢;cases hc:decide (to≥0)&&decide (to≤r.1-1) with
 |false=>rw[hc] at h0;cases h0
 |true=>
 cases cN:decide (n≥1)&&decide (n≤1099511627776) with
 |false=>rw[hc,cN] at h0;cases h0
 |true=>
 rw[hc,cN] at h0;simp only[aB,an] at h0⊢;simp only[bb,aX] at hc cN;have ha:=pj.1 (h.bk.acct to.toNat (by omega));have hr:0≤(s.B.1.getD to.toNat ad).2.2:=ha.2.2.1;cases hk:decide (kd=11) with
 |true=>
  rw[hk] at h0;simp only[ak] at h0⊢;unfold Gm at h0⊢;cases h1:decide ((s.B.1.getD to.toNat ad).1+(s.B.1.getD to.toNat ad).2.1-(s.B.1.getD to.toNat ad).2.2<n) with
  |true=>exact yY.refl s
  |false=>
  cases decide (s.to-n<0) with
  |true=>exact yY.refl s
  |false=>
  cases decide ((wT (s.B.1.getD to.toNat ad) (-n)).2=0) with
  |false=>exact yY.refl s
  |true=>
  cases decide (s.to-n>1152921504606846976) with
  |true=>exact yY.refl s
  |false=>
   simp only[decide_eq_false_iff_not] at h1;refine yY.set (j:=to.toNat) (a:=(wT (s.B.1.getD to.toNat ad) (-n)).1) rfl ?_;unfold wT;cases eM ((s.B.1.getD to.toNat ad).1+-n,(s.B.1.getD to.toNat ad).2.1,(s.B.1.getD to.toNat ad).2.2)
   ·exact fun h=>absurd h (Int.lt_irrefl _)
   ·show(s.B.1.getD to.toNat ad).1+-n<_→0≤(s.B.1.getD to.toNat ad).1+-n+(s.B.1.getD to.toNat ad).2.1;omega
 |false=>
  simp only[an];unfold Gn;cases decide ((wT (s.B.1.getD to.toNat ad) n).2=0) with
  |false=>exact yY.refl s
  |true=>
  cases decide (s.to+n>1152921504606846976) with
  |true=>exact yY.refl s
  |false=>
   refine yY.set (j:=to.toNat) (a:=(wT (s.B.1.getD to.toNat ad) n).1) rfl ?_;unfold wT;cases eM ((s.B.1.getD to.toNat ad).1+n,(s.B.1.getD to.toNat ad).2.1,(s.B.1.getD to.toNat ad).2.2)
   ·exact fun h=>absurd h (Int.lt_irrefl _)
   ·show(s.B.1.getD to.toNat ad).1+n<_→_;omega
structure GY (r:qF) (s:zT) (f:wM) (t:zT) (l:List qT):Prop where
 inv:qW r t
 tk:t.t=s.t
 ov:t.ov=s.ov
 few:l.length≤2
 to:t.to=s.to+(if f.1=10 then f.2.2.1 else if f.1=11 then-f.2.2.1 else 0)
 fell:yY s t
 kd:Kd l
 ids:∀x∈t.ids,x∈s.ids∨x=f.2.1
theorem vFf {k:Nat}(hk:1000≤k){r:qF}(hr:vT r){s:zT}(h:qW r s)(ho:s.ov=false){who:Int}(hw:0≤who∧who<r.1){f:wM}(hf:1≤f.1∧f.1≤8){x:qT}(kn:Kd [x]):
  ∃e d,GW k (dk r s who [x]) f=some (e,d)∧(e=0→∃t l,d=dk r t who l∧GY r s f t l):=by
 unfold GW;have Jl:¬f.1=10:=by omega
 have UW:¬f.1=11:=by omega
 have h0:s.to=s.to+(if f.1=10 then f.2.2.1 else if f.1=11 then-f.2.2.1 else 0):=by rw[if_neg Jl,if_neg UW];omega
 by_cases h1:f.1=1
 ·rw[aa h1];obtain⟨d,e1,e2⟩:=yF4 hk hr h.waits who [x] f;simp only[ak];rw[e1];refine⟨_,d,rfl,fun e=>⟨_,_,e2 e,h.queue ho (yL2 hr h e),rfl,rfl,by simp,h0,yY.book rfl,kn,vAz e⟩⟩
 rw[ab h1];by_cases hq:f.1=2∨f.1=3∨f.1=4
 ·obtain⟨d,e1,e2⟩:=yUj hk h.waits who (l:=[x]) (by simp) f;have g:∃e d,(xN k (dk r s who [x]) f).bind (fun x=>some (x.1,x.2))=some (e,d)∧(e=0→∃t l,d=dk r t who l∧GY r s f t l):=by
   rw[e1];refine⟨_,d,rfl,fun e=>⟨_,_,e2 e,h.queue ho (yXy h e),rfl,rfl,?_,h0,yY.book rfl,kn.append yIc,fun _ h=>.inl h⟩⟩;have:=yEv (r:=r) (s:=s) (who:=who) (f:=f);rw[List.length_append];simp;omega
  rcases hq with e|e|e
  ·rw[aa e];exact g
  ·rw[ab (show¬f.1=2 by omega),aa e];exact g
  ·rw[ab (show¬f.1=2 by omega),ab (show¬f.1=3 by omega),aa e];exact g
 rw[ab (show¬f.1=2 by omega),ab (show¬f.1=3 by omega),ab (show¬f.1=4 by omega)];by_cases hq:f.1=5∨f.1=6∨f.1=7
 ·obtain⟨d,e1,e2⟩:=yQu hk hr h.bk h.n hw [x] f;have g:∃e d,(xO k (dk r s who [x]) f).bind (fun x=>some (x.1,x.2))=some (e,d)∧(e=0→∃t l,d=dk r t who l∧GY r s f t l):=by
   rw[e1];have bc:=yDc r s who f;refine⟨_,d,rfl,fun e=>⟨_,_,e2 e,yTl h hw e,bc.1,bc.2.1,by simp,bc.2.2.trans h0,vDp r s who f,kn,by rw[qZ7];exact fun _ h=>.inl h⟩⟩
  rcases hq with e|e|e
  ·rw[aa e];exact g
  ·rw[ab (show¬f.1=5 by omega),aa e];exact g
  ·rw[ab (show¬f.1=5 by omega),ab (show¬f.1=6 by omega),aa e];exact g
 rw[ab (show¬f.1=5 by omega),ab (show¬f.1=6 by omega),ab (show¬f.1=7 by omega),aa (show f.1=8 by omega)];obtain⟨d,e1,e2⟩:=yI1 hk hr h hw [x] f.2.1 f.2.2.1;simp only[ak,an];rw[e1];have bc:=yO3 r s who f.2.1 f.2.2.1;exact⟨_,d,rfl,fun e=>⟨_,_,e2 e,yNn hr h hw e,bc.1,bc.2.1,by simp,bc.2.2.trans h0,vQl r s who _ _,kn,by rw[yCa];exact fun _ h=>.inl h⟩⟩
theorem vL5 {k:Nat}(hk:1000≤k){r:qF}(hr:vT r){s:zT}(h:qW r s)(who:Int){f:wM}(hf:10≤f.1∧f.1≤14):
  ∃e d,yg k (eZ r s who) f=some (e,d)∧(e=0→∃t l,d=dk r t who l∧GY r s f t l):=by
 unfold yg;rw[ab (show¬f.1=1 by omega),ab (show¬f.1=2 by omega),ab (show¬f.1=3 by omega),ab (show¬f.1=4 by omega),ab (show¬f.1=5 by omega),ab (show¬f.1=6 by omega),ab (show¬f.1=7 by omega),ab (show¬f.1=8 by omega)];by_cases hq:f.1=10∨f.1=11
 ·obtain⟨d,e1,e2⟩:=yQr hk hr h who f.1 f.2.1 f.2.2.1;have g:∃e d,(BL k (eZ r s who) f.1 f.2.1 f.2.2.1).bind (fun x=>some (x.1,x.2))=some (e,d)∧(e=0→∃t l,d=dk r t who l∧GY r s f t l):=by
   rw[e1];refine⟨_,d,rfl,fun e=>?_⟩;obtain⟨g1,g2,g3,g4,g5⟩:=yO9 h e;refine⟨_,_,e2 e,g1,g5,yE8,by simp,?_,vUv h _ e,ng,by rw[g4];exact fun _ h=>.inl h⟩;rw[g2];rcases hq with e|e
   ·rw[if_neg (by omega),if_pos e]
   ·rw[if_pos e,if_neg (by omega),if_pos e]
  rcases hq with e|e
  ·rw[aa e];exact g
  ·rw[ab (show¬f.1=10 by omega),aa e];exact g
 have h0:s.to=s.to+(if f.1=10 then f.2.2.1 else if f.1=11 then-f.2.2.1 else 0):=by rw[if_neg (by omega),if_neg (by omega)];omega
 rw[ab (show¬f.1=10 by omega),ab (show¬f.1=11 by omega)];by_cases hp:f.1=12
 ·rw[aa hp];obtain⟨d,e1,e2⟩:=yUl hk hr h who f.2.1 f.2.2.1;simp only[ak,an];rw[e1];have bc:=yXm r s f.2.1 f.2.2.1;exact⟨_,d,rfl,fun e=>⟨_,_,e2 e,yIk h e,bc.1,bc.2.1,by simp,bc.2.2.trans h0,vSb r s _ _,ng,by rw[ySn];exact fun _ h=>.inl h⟩⟩
 ·rw[ab hp];exact⟨_,_,rfl,fun _=>⟨s,[],rfl,h,rfl,rfl,by simp,h0,yY.refl s,ng,fun _ h=>.inl h⟩⟩
theorem vXo {k}(hk:1000≤k){r s}(h:qW r s){who}(hw:0≤who∧who<r.1):∃o,BZ k s.st who=some o∧kU o∧o.length≤100:=by
 have hm:=h.waits.len;have hn:=h.n;have hb:zB who s.B.1.length=true:=jS hw.1 (by omega);unfold BZ;have e1:s.st.2.1=s.B.1:=rfl;have e2:s.st.2.2.2.2.2.2.2.1=s.m:=rfl;rw[e1,e2,hb,V3 (by omega) (by unfold qQ;omega)];exact⟨_,rfl,(GU (by simp)).ne,by simp⟩
structure Xe (k:Nat) (r:qF) (s:zT) (c:fJ) (t:zT) (o:List qT) (e:Int):Prop where
 inv:qW r t
 bad:e≠0→t=s∧o=[]
 to:e=0→t.to=s.to+(if c.2.1=10 then c.2.2.2.1 else if c.2.1=11 then-c.2.2.2.1 else 0)
 still:t=s∨(t.ov=false→jW k t.B (vR t.m t.t)=none)
 fell:yY s t
 ne:kU o
 few:o.length≤100
 ids:∀x∈t.ids,x∈s.ids∨x=c.2.2.1
theorem yY.kept {s t u}(h:yY s t)(hl:t.B.1.length=s.B.1.length)(g:jJ t.B u.B):yY s u:=fun i hi=>by
 have h1:=h i hi;have h2:=g.fell i (by omega);have h3:=g.cred i (by omega);omega
theorem Xf {k}(hk:1000≤k){r}(hr:vT r){s}(h:qW r s)(ho:s.ov=false) c (hc:c.2.1=14):
  ∃t o,(uK k r.1 r.2.1 r.2.2.1 r.2.2.2.1 r.2.2.2.2 s.t s.B.1 s.B.2.1 s.B.2.2.1 s.B.2.2.2 s.pr s.ho s.m s.ids s.to s.ov).bind (fun x4=>some ((qV x4),x4.2.2.2.2.2.2.2.2.2.2.2,(0:Int)))=some (t.st,o,(0:Int))∧Xe k r s c t o 0:=by
 obtain⟨C,m',ov,o,e1,e2,e3,e4,e6,e5⟩:=yIi hk hr h ho;rw[e1];refine⟨{s with t:=s.t+1,B:=C,m:=m',ov:=ov},o,rfl,e2,by simp,fun _=>?_,.inr e4,e3.fell,?_,e6,by grind⟩
 rotate_left
 ·rcases e5 with⟨_,_,rfl,_⟩|⟨l,d,n,rfl,_,_,_⟩
  ·exact(PO (.inr rfl) _).ne.append (yJ2 _ _)
  ·exact((PO (.inl rfl) _).append (K3 _)).ne
 simp_all
theorem yHk {k}(hk:1000≤k){r}(hr:vT r){t}(h:qW r t)(ho:t.ov=false) who {l}(hl:l.length≤2)(xg:Kd l)(f:wM):
    ∃ u o, ((pg k t.t t.B.1 t.B.2.1 t.B.2.2.1 t.B.2.2.2 t.pr t.ho t.m t.ids t.to t.ov (decide (f.1=13))).bind fun x5=>
      bif zQ (l.length + x5.2.2.2.2.2.2.2.2.2.2.2.length) 64 then (let y0:List qT:=(l++x5.2.2.2.2.2.2.2.2.2.2.2)
       bif decide (f.1 = 1) then ((nS k x5.2.2.2.2.2.2.2.1 f.2.1).bind fun x6=>
        bif decide (x6 ≥ 0) then ((uN k (GX ((0:Int),dk r t who l) y0) 19 [f.2.1]).bind fun x7=>
         some ((qV x5),x7.2.2.2.2.2.2.2.2.2.2.2.2.2.2.2.2.2,(0:Int)))
        else some ((qV x5),y0,0))
       else some ((qV x5),y0,0))
      else none)=some (u.st,o,(0:Int))∧qW r u∧u.to=t.to∧jW k u.B (vR u.m u.t)=none∧jJ t.B u.B∧kU o∧o.length≤100∧u.ids=t.ids:=by
  have hm:=h.waits.len;obtain⟨C,m',d,e1,e2,e3,e4,e5,e6,e7⟩:=vPm (k:=k) (by omega) h.bk h.waits.dist h.waits.may (by omega) t.t t.pr t.ho t.ids t.to t.ov (decide (f.1=13));rw[e1];have hd:d.length≤40:=by
    have:=e6.length_eq;grind
  have lW:=e5.length_le;have pE:=BB d;simp;rw[qK (n:=l.length+(yZ d).length) (by omega) (by omega)];have hu:=h.settled ho e3 e4 e5;have fin:∀o:List qT,Kd o→o.length≤100→∃u o',some (({t with B:=C,m:=m'}:zT).st,o,(0:Int))=some (u.st,o',(0:Int))∧qW r u∧u.to=t.to∧jW k u.B (vR u.m u.t)=none∧jJ t.B u.B∧kU o'∧o'.length≤100∧u.ids=t.ids:=fun o ho hl=>⟨{t with B:=C,m:=m'},o,rfl,hu,rfl,e7,e4,ho.ne,hl,rfl⟩
  have k1:Kd (l++yZ d):=xg.append (K3 _);have b1:(l++yZ d).length≤90:=by rw[List.length_append];omega
  cases decide (f.1=1) with
  |false=>exact fin _ k1 (by omega)
  |true=>
    rw[Bo (by omega) (by omega)];simp;cases decide (j7 m' f.2.1≥0) with
    |false=>exact fin _ k1 (by omega)
    |true=>
      have ej:GX ((0:Int),dk r t who l) (l++yZ d)=dk r t who (l++yZ d):=rfl;rw[ej,Wg (by omega)];exact fin (l++yZ d++[gM who 19 f.2.1]) (k1.append (GU ⟨by unfold gM;simp,by unfold gM;simp⟩)) (by grind)
theorem vFw {k}(hk:1000≤k){r}(hr:vT r){s}(h:qW r s)(c:fJ):
  ∃t o e,im k r s.st c=some (t.st,o,e)∧Xe k r s c t o e:=by
 unfold im;obtain⟨e,he,hm⟩:=yZw (k:=k) (by omega) r s c;rw[he];simp only[ae];by_cases h0:e=0
 ·obtain⟨hw,uY⟩:=hm h0;rw[aa h0];simp only[aB,an];by_cases h9:c.2.1=9
  ·rw[aa h9];have oR:0≤c.1∧c.1<r.1:=by omega
   obtain⟨o,ho,bn,hol⟩:=vXo hk h oR;simp only[ak];rw[ho];refine⟨s,o,0,rfl,h,fun e=>absurd rfl e,fun _=>?_,.inl rfl,yY.refl s,bn,hol,fun _ h=>.inl h⟩;rw[if_neg (by omega),if_neg (by omega)];omega
  ·rw[ab h9];simp only[an];have ho:s.ov=false:=by
    cases g:s.ov with
    |false=>rfl
    |true=>exact absurd (uY g) h9
   have fin:∀{t:zT} {l:List qT},GY r s c.2 t l→∀{x:Option (qh×List qT×Int)},(∃u o,x=some (u.st,o,(0:Int))∧qW r u∧u.to=t.to∧jW k u.B (vR u.m u.t)=none∧jJ t.B u.B∧kU o∧o.length≤100∧u.ids=t.ids)→∃t o e,x=some (t.st,o,e)∧Xe k r s c t o e:=by
    intro t l hd x ⟨u,o,g1,g2,g3,g4,g5,g6,g7,g8⟩;exact⟨u,o,0,g1,g2,fun e=>absurd rfl e,fun _=>g3.trans hd.to,.inr fun _=>g4,hd.fell.kept (by have:=hd.inv.n;have:=h.n;omega) g5,g6,g7,by rw[g8];exact hd.ids⟩
   by_cases hp:c.1= -1
   ·rw[aa hp];have hf:10≤c.2.1∧c.2.1≤14:=by omega
    obtain⟨e,d,g1,g2⟩:=vL5 hk hr h c.1 (f:=c.2) hf;have ed:jI r (wZ s.st c.1)=eZ r s c.1:=rfl;simp only[aB,an];rw[ed,g1];simp only[ae];by_cases hz:e=0
    ·obtain⟨t,l,rfl,hd⟩:=g2 hz;rw[aa hz];by_cases B1:c.2.1=14
     ·rw[aa B1];simp only[ak];obtain⟨t,o,q1,q2⟩:=Xf hk hr h ho c B1;exact⟨t,o,0,q1,q2⟩
     ·rw[ab B1];simp only[an];exact fin hd (yHk hk hr hd.inv (hd.ov.trans ho) c.1 hd.few hd.kd c.2)
    ·rw[ab hz];exact⟨s,[],e,rfl,h,fun _=>⟨rfl,rfl⟩,fun e'=>absurd e' hz,.inl rfl,yY.refl s,ng.ne,Nat.zero_le _,fun _ h=>.inl h⟩
   ·rw[ab hp];have hf:1≤c.2.1∧c.2.1≤8:=by omega
    have oR:0≤c.1∧c.1<r.1:=by omega
    have ed:K4 k (jI r (wZ s.st c.1)) 15 []=some (dk r s c.1 [gM c.1 15 0]):=rfl;obtain⟨e,d,g1,g2⟩:=vFf hk hr h ho oR (f:=c.2) hf (x:=gM c.1 15 0) (GU ⟨by unfold gM;simp,by unfold gM;simp⟩);simp only[bZ,ak];rw[ed];simp only[ae];rw[g1];simp only[ae];by_cases hz:e=0
    ·obtain⟨t,l,rfl,hd⟩:=g2 hz;rw[aa hz,ab (show¬c.2.1=14 by omega)];simp only[aB,an];exact fin hd (yHk hk hr hd.inv (hd.ov.trans ho) c.1 hd.few hd.kd c.2)
    ·rw[ab hz];exact⟨s,[],e,rfl,h,fun _=>⟨rfl,rfl⟩,fun e'=>absurd e' hz,.inl rfl,yY.refl s,ng.ne,Nat.zero_le _,fun _ h=>.inl h⟩
 ·rw[ab h0];exact⟨s,[],e,rfl,h,fun _=>⟨rfl,rfl⟩,fun e'=>absurd e' h0,.inl rfl,yY.refl s,ng.ne,Nat.zero_le _,fun _ h=>.inl h⟩
theorem vSt {k:Nat}(hk:1000≤k){n:Nat}{m:List zH}{ids:AC}(h:ka n m ids):K5 k m=some true:=by
 have hm:=h.len;have e1 : B2 k k m m (m.length : Int) 0 = some (.inl m) := KH (L := fun n i => B2 k n m m (m.length : Int) i) (fun n=>by
  show GZ k _ m m (m.length:Int) (m.length:Int)=_;unfold GZ;rw[ab (Int.lt_irrefl _)];rfl) (fun n i hi=>by
  show GZ k (B2 k n) m m (m.length:Int) (i:Int)=_;unfold GZ;have e:m.getD i (0,0,0,0,0,0,0)=m.getD i pd:=rfl;rw[aa (show(i:Int)<m.length by omega),qC,aa hi,au,e,Bo (by omega) (by omega),yU3 h.dist hi,qE hi (by omega)];simp only[ak,ae,decide_true,aB,an]) (by omega)
 have e2:PU k m=some true:=by
  have down:∀(i n:Nat),i<n→i<m.length∨i=0→K6 k n m (i:Int)=some (.inl ()):=by
   intro i
   induction i with
   |zero=>
    intro n hn _;obtain⟨n,rfl⟩:∃x,n=x+1:=⟨n-1,by omega⟩;rfl
   |succ i ih=>
    intro n hn hi;obtain⟨n,rfl⟩:∃x,n=x+1:=⟨n-1,by omega⟩;have bI:i+1<m.length:=by omega
    show PV k (K6 k n) m ((i+1:Nat):Int)=_;unfold PV;have w:zA (((i+1:Nat):Int)-1)=(i:Int):=by rw[zO (by omega) (by omega)];omega
    rw[aa (show((i+1:Nat):Int)>0 by omega),w,qC,qC,aa bI,aa (show i<m.length by omega),au,au];simp only[ak];obtain⟨x,x1,x2,x3⟩:=VE (k:=k) (by omega) (m.getD (i+1) pd) (m.getD i pd);have hs:=List.pairwise_iff_getElem.1 h.sort i (i+1) (by omega) bI (by omega);rw[←Gd (d:=pd) m (by omega),←Gd (d:=pd) m bI] at hs;have nx:¬x<0:=fun q=>by
     have:j8 (m.getD (i+1) pd) (m.getD i pd)=true:=by rw[←x3];exact aa q
     rw[WR] at this;rw[KP] at hs;omega
    refine(congrArg (fun z=>Option.bind z _) x1).trans ?_;simp only[ae];rw[ab nx];exact ih n (by omega) (.inl (by omega))
  unfold PU;by_cases hz:m.length=0
  ·have:m=[]:=List.eq_nil_of_length_eq_zero hz;subst this;have w:zA (((([]:List zH).length:Nat):Int)-1)= -1:=by rw[zO (by decide) (by decide)];rfl
   rw[w];obtain⟨j,rfl⟩:∃x,k=x+1:=⟨k-1,by omega⟩;rfl
  ·have w:zA ((m.length:Int)-1)=((m.length-1:Nat):Int):=by rw[zO (by omega) (by omega)];omega
   rw[w,down (m.length-1) k (by omega) (.inl (by omega))];rfl
 unfold K5;rw[e1];simp only[ae];rw[aa (show(m.length:Int)≤40 by omega),e2];rfl
theorem Xg {k:Nat}(hk:1000≤k){n:Nat}{m:List zH}{ids:AC}(h:ka n m ids):K7 k ids=some true:=by
 have hl:=h.idl;obtain ⟨s, e1, _⟩ := vK (L := fun n i (p : Int) => K8 k n ids p ids (ids.length : Int) i) (N := ids.length) (fun _ => (.inl ids : AC ⊕ Bool)) (fun i p => p = if i = 0 then 0 else ids.getD (i - 1) 0) (fun n p _=>by
  show G0 k _ ids p ids (ids.length:Int) (ids.length:Int)=_;unfold G0;rw[ab (Int.lt_irrefl _)];rfl) (fun n i p hi hp=>by
  refine⟨ids.getD i 0,?_,by rw[if_neg (by omega)];rfl⟩;show G0 k (K8 k n) ids p ids (ids.length:Int) (i:Int)=_;unfold G0;have bj:¬ids.getD i 0≤p:=by
   rw[hp];by_cases z:i=0
   ·rw[if_pos z];have:=h.pos _ (gh (d:=0) hi);omega
   ·rw[if_neg z];have:=List.pairwise_iff_getElem.1 h.asc (i-1) i (by omega) hi (by omega);rw[←Gd (d:=0) ids (by omega),←Gd (d:=0) ids hi] at this;omega
  rw[aa (show(i:Int)<ids.length by omega),qC,aa hi,au,ab bj,qE hi (by omega)];rfl) (n:=k) (s:=0) (by omega) rfl
 unfold K7;rw[e1];simp only[ae];rw[aa (show(ids.length:Int)≤200 by omega)]
theorem vRt {k}(hk:1000≤k){r s}(h:qW r s):K9 k s.st=some true:=by
 have hw:=h.waits;have hm:=hw.len;have e1:K9 k s.st=(K5 k s.m).bind fun x0=>bif x0 then((K7 k s.ids).bind fun x1=>bif x1 then((PW k s.m s.t s.B.1 s.B.2.1 s.B.2.2.1 s.B.2.2.2 s.pr s.ho s.m s.ids s.to s.ov).bind fun x2=>some (!x2)) else some false) else some false:=rfl
 rw[e1,vSt hk hw,Xg hk hw];have e2 : B3 k k s.m (s.m.length : Int) 0 s.t s.B.1 s.B.2.1 s.B.2.2.1 s.B.2.2.2 s.pr s.ho s.m s.ids s.to s.ov = some (.inl ()) := KH (L := fun n i => B3 k n s.m (s.m.length : Int) i s.t s.B.1 s.B.2.1 s.B.2.2.1 s.B.2.2.2 s.pr s.ho s.m s.ids s.to s.ov) (fun n=>by
  show G1 k _ s.m (s.m.length:Int) (s.m.length:Int) s.t s.B.1 s.B.2.1 s.B.2.2.1 s.B.2.2.2 s.pr s.ho s.m s.ids s.to s.ov=_;unfold G1;simp) (fun n i hi=>by
  show G1 k (B3 k n) s.m (s.m.length:Int) (i:Int) s.t s.B.1 s.B.2.1 s.B.2.2.1 s.B.2.2.2 s.pr s.ho s.m s.ids s.to s.ov=_;unfold G1;have bD:s.m.getD i pd∈s.m:=gh hi;have ht:=hw.time _ bD;have ao:=hw.were _ bD;have f1:PX k (s.m.getD i pd) (s.t,s.B.1,s.B.2.1,s.B.2.2.1,s.B.2.2.2,s.pr,s.ho,s.m,s.ids,s.to,s.ov)=some false:=by
   unfold PX;rw[NV];have bQ:pX s.B.1.length (s.m.getD i pd)=true:=UZ.2 (hw.may _ bD);have La:pX s.B.1.length ((s.m.getD i pd).1,(s.m.getD i pd).2.1,(s.m.getD i pd).2.2.1,(s.m.getD i pd).2.2.2.1,(s.m.getD i pd).2.2.2.2.1,(s.m.getD i pd).2.2.2.2.2.1,(s.m.getD i pd).2.2.2.2.2.2)=true:=bQ;rw[La];rw[ab (by grind),nc,aa (by grind),aa (by grind)];have hI:=hw.idl;rw[VL (by omega) (by omega) hw.asc,aa ao];rfl
  have e:s.m.getD i (0,0,0,0,0,0,0)=s.m.getD i pd:=rfl;rw[aa (by grind),qC,aa hi,au,e,f1,qE hi (by omega)];rfl) (by omega)
 unfold PW Xh;simp_all
theorem vQj {k}(hk:1000≤k){r}(hr:vT r){s}(h:qW r s):Lb k s.pr=some false:=by
 have mO:=h.bk.n1;have L:=h.laid 0 (by omega);have h3:=L.n3;have hp:=L.pl;have e2 : B4 k k s.pr (s.pr.length : Int) 0 = some (.inl ()) := KH (L := fun n i => B4 k n s.pr (s.pr.length : Int) i) (fun n=>by
  show G2 k _ s.pr (s.pr.length:Int) (s.pr.length:Int)=_;unfold G2;simp) (fun n i hi=>by
  show G2 k (B4 k n) s.pr (s.pr.length:Int) (i:Int)=_;unfold G2 Xi;have hv:=L.price i (by omega);rw[aa (by grind),qC,aa hi,au,nc,aa (by grind),aa (by grind),qE hi (by omega)];rfl) (by omega)
 unfold Lb Xj;simp_all
theorem vDm {k}(hk:1000≤k){sa pr h}(L:kP sa pr h):PY k h=some false:=by
 have h3:=L.n3;have hp:=L.hl;have e2 : B5 k k h (h.length : Int) 0 = some (.inl ()) := KH (L := fun n i => B5 k n h (h.length : Int) i) (fun n=>by
  show G3 k _ h (h.length:Int) (h.length:Int)=_;unfold G3;simp) (fun n i hi=>by
  show G3 k (B5 k n) h (h.length:Int) (i:Int)=_;unfold G3 Xk;have hv:=L.hold i (by omega);rw[aa (by grind),qC,aa hi,au,ab (by grind),qE hi (by omega)];rfl) (by omega)
 unfold PY Xl;simp_all
theorem vJr {k}(hk:1000≤k){r}(hr:vT r){s}(h:qW r s):Lc k r s.st=some true:=by
 have mO:=h.bk.n1;have gL:=h.bk.n6;have hn:=h.n;have hol:=h.hol;have L:=h.laid 0 (by omega);have e0:Lc k r s.st=bif !(decide ((s.pr.length:Int)=(r.2.1.length:Int))) then some false
  else bif !(decide ((s.ho.length:Int)=r.1)) then some false
  else(Lb k s.pr).bind fun x0=>
  bif x0 then some false
  else(yi k k s.ho (s.ho.length:Int) 0 r s.st).bind fun z=>
  match z with
  |.inl z1=>some true
  |.inr z2=>some z2:=rfl
 have e2 : yi k k s.ho (s.ho.length : Int) 0 r s.st = some (.inl ()) := KH (L := fun n i => yi k n s.ho (s.ho.length : Int) i r s.st) (fun n=>by
  show G4 k (yi k n) s.ho (s.ho.length:Int) (s.ho.length:Int) r s.st=_;unfold G4;simp) (fun n i hi=>by
  show G4 k (yi k n) s.ho (s.ho.length:Int) (i:Int) r s.st=_;unfold G4;have bI:i<s.B.1.length:=by omega
  have Li:=h.laid i bI;have hc:(s.B.1.getD i ad).2.1=_:=h.cred i bI;have hm:(s.B.1.getD i ad).2.1≤_:=h.most i bI;have ep:s.st.2.2.2.2.2.1=s.pr:=rfl;have ea:s.st.2.1=s.B.1:=rfl;have ed:s.B.1.getD i (0,0,0)=s.B.1.getD i ad:=rfl;rw[aa (by grind),qC,aa hi,au,ep,VP Li (by omega),ea,qC,aa bI,ed,vDm hk Li,qE hi (by omega)];grind) (by omega)
 rw[e0,aa (show(s.pr.length:Int)=(r.2.1.length:Int) by rw[L.pl]),aa (by grind),vQj hk hr h,e2];rfl
theorem vHu (s:zT):iI ((List.range s.B.1.length).map fun j=>(s.B.1.getD j ad).1)=qH (fun j=>(s.B.1.getD j ad).1) s.B.1.length:=VO _ _
theorem vI6 {k}(hk:1000≤k){r}(hr:vT r){s}(h:qW r s):Ld k r s.st=some true:=by
  have gL:=h.bk.n6;have ht:=h.tk;have KR:=h.tot;have Xm:Bb k s.B.1 s.B.2.1 s.B.2.2.1 s.B.2.2.2=some true:=by rw[yKd (by omega),NT.2 h.bk]
  obtain ⟨x, h1, h2⟩ := vK (L := fun n j (x : AC) => G5 k n s.B.1 (s.B.1.length : Int) j r s.st x) (N := s.B.1.length) (fun x => (r, s.st, x)) (fun j x => x = (List.range j).map fun j => (s.B.1.getD j ad).1) (fun n x _=>by
    show G6 k _ s.B.1 (s.B.1.length:Int) (s.B.1.length:Int) r s.st x=_;unfold G6;simp) (fun n j x hj hx=>by
    refine⟨x++[(s.B.1.getD j ad).1],?_,?_⟩
    · show G6 k (G5 k n) s.B.1 (s.B.1.length:Int) (j:Int) r s.st x=_;unfold G6;have hl:x.length=j:=by simp_all
      rw[aa (by grind),qC,aa hj,qK (by omega) (by omega),au,qE hj (by omega)];rfl
    · rw[hx,List.range_succ,List.map_append];rfl) (n:=k) (s:=[]) (by omega) rfl
  have hb:∀i,i<x.length→-9223372036854775808≤x.getD i 0∧x.getD i 0<9223372036854775808:=by
    intro i hi;have hm:x.getD i 0∈x:=gh hi;rw[h2] at hm;obtain⟨j,hj,e⟩:=List.mem_map.1 hm;have:=pj.1 (h.bk.acct j (List.mem_range.1 hj));grind
  have hlen:x.length=s.B.1.length:=by simp_all
  have Le:iI x=s.to:=by rw[h2,vHu];exact h.sum
  have fj:xA (iI x)=true:=by rw[Le];unfold xA;grind
  have eU:Ld k r s.st=(vF k s.t 0 r.2.2.2.1).bind fun x0=>
     bif !x0 then some false
     else(Bb k s.B.1 s.B.2.1 s.B.2.2.1 s.B.2.2.2).bind fun x1=>
     bif !x1 then some false
     else bif !(decide ((s.B.1.length:Int)=r.1)) then some false
     else(Lc k r s.st).bind fun x2=>
     bif !x2 then some false
     else(K9 k s.st).bind fun x3=>
     bif !x3 then some false
     else(G5 k k s.B.1 (s.B.1.length:Int) 0 r s.st []).bind fun z=>
     (Fk k z.2.2).bind fun x4=>
     bif !x4.2 then some false
     else bif !(decide (x4.1=z.2.1.2.2.2.2.2.2.2.2.2.1)) then some false
     else(vF k x4.1 0 1152921504606846976).bind fun x5=>
     bif !x5 then some false
     else(BD k z.1.1 z.1.2.1 z.1.2.2.1 z.1.2.2.2.1 z.1.2.2.2.2 z.2.1.1).bind fun x6=>
     bif nu z.2.1.2.2.2.2.2.2.2.2.2.2 x6 then (bif !z.2.1.2.2.2.2.2.2.2.2.2.2 then some true
      else some (decide ((z.2.1.2.2.2.2.2.2.2.1.length:Int)=0)))
     else some false:=rfl
  have ec:∀b:Bool,nu b b=true:=fun b=>by cases b<;>rfl
  have eo:s.st.2.2.2.2.2.2.2.2.2.2=s.ov:=rfl;have em:s.st.2.2.2.2.2.2.2.1=s.m:=rfl;have et:s.st.2.2.2.2.2.2.2.2.2.1=s.to:=rfl;have e1:s.st.1=s.t:=rfl;have ecl:BD k r.1 r.2.1 r.2.2.1 r.2.2.2.1 r.2.2.2.2 s.t=some (decide (s.t=r.2.2.2.1)):=rfl;rw[eU,nc,aa (by grind),aa (by grind),Xm,aa h.n,vJr hk hr h,vRt hk h,h1];simp;rw[yKn (by omega) (by omega) hb,fj,Le];simp;rw[et,aa (by simp),nc,aa (by grind),aa (by grind)];rw[e1,ecl,eo,em,←h.over];simp only[ae];rw[ec];cases ho:s.ov with
  |false=>rfl
  |true=>rw[h.none ho];rfl
instance B6:DecidableEq zH:=fun a b=>inferInstanceAs (Decidable (a=b))
theorem vLe {k}{a b:List zH}(hk:a.length<k)(hl:a.length<9223372036854775808):Lf k a b=some (decide (a=b)):=by
 unfold Lf;by_cases hlen:a.length=b.length
 case neg=>
  have e:decide (((a.length:Nat):Int)=((b.length:Nat):Int))=false:=by grind
  have:a≠b:=by grind
  simp_all
 have e:decide (((a.length:Nat):Int)=((b.length:Nat):Int))=true:=by grind
 have := lu (L := fun n i => Lg k n a b i) (N := a.length) (fun i => decide (a.getD i pd = b.getD i pd)) (.inl ()) (.inr false) (fun n=>by
  show G7 k _ a b a.length=_;unfold G7;simp) (fun n i hi=>by
  show G7 k _ a b i=_;unfold G7;have e7:=eq7 (a.getD i pd) (b.getD i pd);simp only[qC,qE hi hl];simp_all) hk
 rw[this,Jo pd hlen];grind
theorem Xn {r s}(hr:vT r)(h:qW r s):qm 1000 s.st s.st=some true:=by
 have hb:wS s.B.1 s.B.2.1 s.B.2.2.1 s.B.2.2.2:=h.bk;have gL:=h.bk.n6;have mO:=h.bk.n1;have hm:=h.waits.len;have hi:=h.waits.idl;have h3:=hr.n3;have hL:=h.laid 0 (by omega);have e1:Jr 1000 s.B.1 s.B.2.1 s.B.2.2.1 s.B.2.2.2 s.B.1 s.B.2.1 s.B.2.2.1 s.B.2.2.2=some true:=by
  rw[vNy (by decide) hb.toSized];simp
 have e2:ur 1000 s.pr s.pr=some true:=by rw[NU (by rw[hL.pl];omega) (by rw[hL.pl];omega),aa rfl]
 have e3:Bc 1000 s.ho s.ho=some true:=by
  have hol:=h.hol;rw [UY (by omega) (by omega) (fun i hi=>by
   have:=(h.laid i (by omega)).hl;omega),aa rfl]
 have e4:Lf 1000 s.m s.m=some true:=by rw[vLe (by omega) (by omega),aa rfl]
 have e5:ur 1000 s.ids s.ids=some true:=by rw[NU (by omega) (by omega),aa rfl]
 unfold qm;have f0:s.st.1=s.t:=rfl;have f9:s.st.2.2.2.2.2.2.2.2.2.1=s.to:=rfl;have f10:s.st.2.2.2.2.2.2.2.2.2.2=s.ov:=rfl;have q:nu s.ov s.ov=true:=by cases s.ov<;>rfl
 rw[f0,f9,f10,aa rfl,aa rfl,q];refine(congrArg (fun z=>Option.bind z _) e1).trans ?_;refine(congrArg (fun z=>Option.bind z _) e2).trans ?_;refine(congrArg (fun z=>Option.bind z _) e3).trans ?_;refine(congrArg (fun z=>Option.bind z _) e4).trans ?_;refine(congrArg (fun z=>Option.bind z _) e5).trans ?_;rfl
def jT (r:qF):zT where
 t:=0
 B:=(List.replicate r.1.toNat (0,0,0),List.replicate r.1.toNat (List.replicate r.1.toNat (-1)),List.replicate r.1.toNat (-1),List.replicate r.1.toNat (List.replicate r.1.toNat 0))
 pr:=r.2.1.map Prod.fst
 ho:=List.replicate r.1.toNat (List.replicate r.2.1.length 0)
 m:=[]
 ids:=[]
 to:=0
 ov:=false
structure uZ (r:qF):Prop where
 ok:vT r
 inv:qW r (jT r)
 new:qn 1000 r=some (jT r).st
 cl:r.2.2.2.1≤20
 abm:qn 20000 r=some (jT r).st
theorem PZ n:ka n [] [] where
 dist:=List.Pairwise.nil
 len:=by decide
 sort:=List.Pairwise.nil
 may:=by simp
 time:=by simp
 were:=by simp
 asc:=List.Pairwise.nil
 pos:=by simp
 idl:=by decide
def r0:qF:=(3,[(100,1000),(7,0)],12,20,4)
def r1:qF:=(4,[(100,1000),(7,0)],12,20,100)
def r2:qF:=(3,[],20,20,4)
def r3:qF:=(3,[(100,1000),(7,0)],0,6,1)
theorem Xo {pr h}(h1:pr=[100,7])(h2:h=[0,0]):kP [(100,1000),(7,0)] pr h:=by
 subst h1;subst h2;exact⟨by decide,rfl,rfl,by decide,by decide,by decide⟩
theorem P0 {B}(h:mV B.1 B.2.1 B.2.2.1 B.2.2.2=true):qO B:=NT.1 h
theorem vIv:uZ r0:=⟨⟨by decide,by decide,by decide,by decide,by decide,by decide,by decide⟩,
  { tk:=by decide,bk:=P0 (by rfl),n:=rfl,hol:=rfl,
    laid:=fun i hi=>by
      have e:∀i,i<(jT r0).B.1.length→(jT r0).ho.getD i []=[0,0]:=by decide
      exact Xo rfl (e i hi)
    cred:=by decide,most:=by decide,waits:=PZ _,sum:=by decide,tot:=by decide,over:=by decide,none:=nofun},by rfl,by decide,by rfl⟩
theorem Xp:uZ r1:=⟨⟨by decide,by decide,by decide,by decide,by decide,by decide,by decide⟩,
  { tk:=by decide,bk:=P0 (by rfl),n:=rfl,hol:=rfl,
    laid:=fun i hi=>by
      have e:∀i,i<(jT r1).B.1.length→(jT r1).ho.getD i []=[0,0]:=by decide
      exact Xo rfl (e i hi)
    cred:=by decide,most:=by decide,waits:=PZ _,sum:=by decide,tot:=by decide,over:=by decide,none:=nofun},by rfl,by decide,by rfl⟩
theorem vC0:uZ r2:=⟨⟨by decide,by decide,by decide,by decide,by decide,by decide,by decide⟩,
  { tk:=by decide,bk:=P0 (by rfl),n:=rfl,hol:=rfl,
    laid:=fun i hi=>by
      have e:∀i,i<(jT r2).B.1.length→(jT r2).ho.getD i []=[]:=by decide
      rw[e i hi];exact⟨by decide,rfl,rfl,by decide,by decide,by decide⟩
    cred:=by decide,most:=by decide,waits:=PZ _,sum:=by decide,tot:=by decide,over:=by decide,none:=nofun},by rfl,by decide,by rfl⟩
theorem vLw:uZ r3:=⟨⟨by decide,by decide,by decide,by decide,by decide,by decide,by decide⟩,
  { tk:=by decide,bk:=P0 (by rfl),n:=rfl,hol:=rfl,
    laid:=fun i hi=>by
      have e:∀i,i<(jT r3).B.1.length→(jT r3).ho.getD i []=[0,0]:=by decide
      exact Xo rfl (e i hi)
    cred:=by decide,most:=by decide,waits:=PZ _,sum:=by decide,tot:=by decide,over:=by decide,none:=nofun},by rfl,by decide,by rfl⟩
structure Tk (L:gv) (N:Nat):Prop where
 side:L.1=0∨L.1=1
 gen:1≤L.2.1∧L.2.1≤(N:Int)+1
 rows:0≤L.2.2.1∧L.2.2.1≤(N:Int)
 stale:L.2.2.2=false
theorem Tk.more {L N M}(h:Tk L N)(hN:N≤M):Tk L M:=⟨h.side,⟨h.gen.1,by have:=h.gen.2;omega⟩,⟨h.rows.1,by have:=h.rows.2;omega⟩,h.stale⟩
structure abB (k:Nat) (s:NC) (b:AC):Prop where
 is:mb k s=some b
 len:b.length≤50000
theorem vD6 {c:Nat}{l:EQ}(h:∀x∈l,x.length≤c):(yA l).length≤8*(c+1)*l.length:=by
 induction l with
 |nil=>simp[yA]
 |cons x l ih=>
  have h1:=ih fun y hy=>h y (List.mem_cons_of_mem _ hy)
  have h2:=h x (List.mem_cons_self ..);have h3:8*(c+1)*(l.length+1)=8*(c+1)*l.length+8*(c+1):=Nat.mul_succ _ _;simp only[yA,List.flatMap_cons,List.length_append,mT,List.length_cons] at h1⊢;rw[h3];omega
theorem Xq {l:EQ}{n:Nat}(h:∀i,i<l.length→(l.getD i []).length=n){x:AC}(hx:x∈l):x.length=n:=by
 obtain⟨i,hi,e⟩:=List.mem_iff_getElem.1 hx;have:=h i hi;rw[List.getD_eq_getElem?_getD,List.getElem?_eq_getElem hi] at this;rw[←e];exact this
theorem vBm {r:qF}(hr:vT r){s:zT}(h:qW r s):∃l,gj s.st=l++[s.ids]∧l.length≤67∧∀x∈l,x.length≤9:=by
 have n6:=h.bk.n6;have n1:=h.bk.n1;have hm:=h.waits.len;have h3:=hr.n3;have hb:wS s.B.1 s.B.2.1 s.B.2.2.1 s.B.2.2.2:=h.bk;have hL:=h.laid 0 (by omega);have hol:=h.hol;refine⟨_,rfl,?_,fun x hx=>?_⟩
 ·simp only[List.length_append,List.length_cons,List.length_nil,List.length_map];show 0+1+s.B.1.length+s.B.2.1.length+(0+1)+s.B.2.2.2.length+(0+1)+s.ho.length+s.m.length≤67;have:=hb.bl;have:=hb.pl;omega
 ·simp only[List.mem_append,List.mem_singleton,List.mem_map] at hx;rcases hx with(((((((rfl|⟨a,_,rfl⟩)|hx)|rfl)|hx)|rfl)|hx)|⟨a,_,rfl⟩)
  ·simp
  ·simp[j4]
  ·have:=Xq (l:=s.B.2.1) (fun i hi=>hb.br i (by have:=hb.bl;omega)) hx;omega
  ·show s.B.2.2.1.length≤9;have:=hb.ml;omega
  ·have:=Xq (l:=s.B.2.2.2) (fun i hi=>hb.pr i (by have:=hb.pl;omega)) hx;omega
  ·show s.pr.length≤9;rw[hL.pl];omega
  ·have:=Xq (l:=s.ho) (fun i hi=>(h.laid i (by omega)).hl) hx;omega
  ·simp[gi]
theorem Xr {k:Nat}(hk:1000≤k){r:qF}(hr:vT r){s:zT}(h:qW r s):∃b,mb k s.st=some b∧b=yA (gj s.st)∧b.length≤7000:=by
 obtain⟨l,e,h1,h2⟩:=vBm hr h;have hi:=h.waits.idl;have hf:eL (gj s.st):=by
  rw[e];refine⟨by rw[List.length_append];simp;omega,fun x hx=>?_⟩;rcases List.mem_append.1 hx with hx|hx
  ·have:=h2 x hx;omega
  ·rw[List.mem_singleton.1 hx];omega
 refine⟨_,yI4 hk hf,rfl,?_⟩;rw[e];have:=vD6 h2;have e2:yA (l++[s.ids])=yA l++wH s.ids:=by simp[yA]
 rw[e2,List.length_append,mT];omega
def wX (r:qF)(s:zT)(ev:Int):sG:=(r.1,r.2.1,r.2.2.1,r.2.2.2.1,r.2.2.2.2,s.t,s.B.1,s.B.2.1,s.B.2.2.1,s.B.2.2.2,s.pr,s.ho,s.m,s.ids,s.to,s.ov,ev,false)
structure Xs (r:qF) (ev:Int) (N:Nat) (s:zT) (G:sG) (L:gv) (D:wE):Prop where
 g:G=wX r s ev
 inv:qW r s
 calm:UE D
 room:D.1=200000
 x:(vI D 0).length≤20000+100*N
 y:(vI D 1).length≤20000+100*N
 tk:Tk L N
theorem Xs.more {r:qF}{ev:Int}{N M:Nat}{s:zT}{G:sG}{L:gv}{D:wE}(h:Xs r ev N s G L D)(hM:N≤M):Xs r ev M s G L D:=
 ⟨h.g,h.inv,h.calm,h.room,by have:=h.x;omega,by have:=h.y;omega,h.tk.more hM⟩
def Xt (k:Nat)(r:qF)(s:zT)(a:Int)(m:zC×Int)(t:zT)(o:List qP):Prop:=
 (m.2≠0∧t=s∧o=[(a,16,m.2,0,0,0,0,0)])∨
 (m.2=0∧∃u p e,im k r s.st (a,m.1)=some (u,p,e)∧((e≠0∧t=s∧o=[(a,16,e,0,0,0,0,0)])∨(e=0∧u=t.st∧o=p)))
theorem vJ7 (x y:Int):vZ false x y=max x y:=by
 unfold vZ;by_cases h:y>x
 ·rw[aa h];show y=_;omega
 ·rw[ab h];show x=_;omega
theorem vOd (x y:Int):vZ true x y=min x y:=by
 unfold vZ;by_cases h:y<x
 ·rw[aa h];show y=_;omega
 ·rw[ab h];show x=_;omega
section
variable {k:Nat} {ro sx sy cA cK op:Int} {x y b:AC} {ar:Bool}
theorem Lh (hx:0≤sx∧sx≤(x.length:Int))(hy:0≤sy∧sy≤(y.length:Int))(lx:x.length≤1000000)(ly:y.length≤1000000)(hk:cK<9223372036854775808):
  kV k (ro,x,sx,y,sy,cA,cK,ar,false,op)=some (false,(ro,x,sx,y,sy,cA,cK,ar,false,zA (op+1)))∨
  (ar=true∧∃a c:Nat,sx≤(a:Int)∧a≤x.length∧sy≤(c:Int)∧c≤y.length∧kV k (ro,x,sx,y,sy,cA,cK,ar,false,op)=some (true,(ro,x.take a,(a:Int),y.take c,(c:Int),cA,cK,ar,true,op))):=by
 cases ar with
 |false=>exact .inl rfl
 |true=>
 by_cases h:op<cA
 ·left;unfold kV;dsimp only;rw[aB,an,aa h];rfl
 ·right;refine⟨rfl,?_⟩;obtain⟨a,ha⟩:∃a:Nat,sx+min (max cK 0) ((x.length:Int)-sx)=(a:Int):=⟨(sx+min (max cK 0) ((x.length:Int)-sx)).toNat,by omega⟩;obtain⟨c,hc⟩:∃c:Nat,sy+min (max cK 0-min (max cK 0) ((x.length:Int)-sx)) ((y.length:Int)-sy)=(c:Int):=⟨(sy+min (max cK 0-min (max cK 0) ((x.length:Int)-sx)) ((y.length:Int)-sy)).toNat,by omega⟩;refine⟨a,c,by omega,by omega,by omega,by omega,?_⟩;have w1:zA ((x.length:Int)-sx)=(x.length:Int)-sx:=zO (by omega) (by omega);have w2:zA ((y.length:Int)-sy)=(y.length:Int)-sy:=zO (by omega) (by omega);have w3:zA (max cK 0-min (max cK 0) ((x.length:Int)-sx))=max cK 0-min (max cK 0) ((x.length:Int)-sx):=zO (by omega) (by omega);have w4:zA (sx+min (max cK 0) ((x.length:Int)-sx))=(a:Int):=by rw[ha];exact zO (by omega) (by omega)
  have w5:zA (sy+min (max cK 0-min (max cK 0) ((x.length:Int)-sx)) ((y.length:Int)-sy))=(c:Int):=by rw[hc];exact zO (by omega) (by omega)
  unfold kV;dsimp only;simp only[vJ7,vOd,w1,w2,w3,w4,w5];rw[aB,an,ab h,an,aa (show(0:Int)≤(a:Int) by omega),aa (show(a:Int)≤(x.length:Int) by omega),aa (show(0:Int)≤(c:Int) by omega),aa (show(c:Int)≤(y.length:Int) by omega)];simp only[Bool.and_self,ak,au,Nat.sub_zero]
end
structure sZ (D:wE):Prop where
 x:D.2.2.1=(D.2.1.length:Int)
 y:D.2.2.2.2.1=(D.2.2.2.1.length:Int)
 room:0≤D.1∧D.1≤200000
 lx:(D.2.1.length:Int)≤D.1
 ly:(D.2.2.2.1.length:Int)≤D.1
 ck:D.2.2.2.2.2.2.1<9223372036854775808
def kW (D:wE):Bool:=D.2.2.2.2.2.2.2.2.1
def wI (D:wE):Bool:=D.2.2.2.2.2.2.2.1
structure nh (D D':wE) (i:Int) (c:AC) (dn:Bool):Prop where
 clean:sZ D'
 room:D'.1=D.1
 it:vI D' i=c
 oth:vI D' (1-i)=vI D (1-i)
 dn:kW D'=dn
 ar:wI D'=wI D
theorem vB0 {k:Nat}{D:wE}(h:sZ D)(hu:kW D=false){i:Int}(hi:i=0∨i=1){b:AC}(hb:b.length≤100000):
  ((b.length:Int)>D.1-((vI D i).length:Int)∧yj k D i b=some (3,D))∨
  (wI D=true∧∃D',yj k D i b=some (11,D')∧nh D D' i (vI D i) true)∨
  ((b.length:Int)≤D.1-((vI D i).length:Int)∧∃D1,yj k D i b=some (0,D1)∧((∃D2,u9 k D1=some (0,D2)∧nh D D2 i (vI D i++b) false)∨(wI D=true∧∃(D2:wE) (j:Nat),u9 k D1=some (11,D2)∧j≤b.length∧nh D D2 i (vI D i++b.take j) true))):=by
 obtain⟨ro,x,sx,y,sy,cA,cK,ar,dn,op⟩:=D;obtain⟨h1,h2,h3,h4,h5,h6⟩:=h;dsimp only at h1 h2 h3 h4 h5 h6;have hu:dn=false:=hu;subst h1 h2 hu;rcases hi with rfl|rfl
 ·have hw:zA (ro-(x.length:Int))=ro-(x.length:Int):=zO (by omega) (by omega);by_cases hf:(b.length:Int)>ro-(x.length:Int)
  ·refine .inl ⟨hf,?_⟩;show(bif decide ((b.length:Int)>zA (ro-(x.length:Int))) then _ else _)=_;rw[hw,aa hf];rfl
  ·right;have eA:yj k (ro,x,(x.length:Int),y,(y.length:Int),cA,cK,ar,false,op) 0 b=(kV k (ro,x,(x.length:Int),y,(y.length:Int),cA,cK,ar,false,op)).bind fun x2=>bif x2.1 then some (11,x2.2) else bif zQ (x2.2.2.1.length+b.length) 1 then some (0,x2.2.1,(x2.2.2.1++b),x2.2.2.2) else none:=by
    show(bif decide ((b.length:Int)>zA (ro-(x.length:Int))) then _ else _)=_;rw[hw,ab hf];rfl
   rcases Lh (k:=k) (ro:=ro) (sx:=x.length) (sy:=y.length) (cA:=cA) (cK:=cK) (op:=op) (x:=x) (y:=y) (ar:=ar) ⟨by omega,by omega⟩ ⟨by omega,by omega⟩ (by omega) (by omega) h6 with g|⟨ha,a,c,a1,a2,c1,c2,g⟩
   ·right;refine⟨by show(b.length:Int)≤ro-(x.length:Int);omega,(ro,x++b,(x.length:Int),y,(y.length:Int),cA,cK,ar,false,zA (op+1)),?_,?_⟩
    ·rw[eA,g,ae];dsimp only;rw[an,qK (by omega) (by omega)];rfl
    ·have eS:u9 k (ro,x++b,(x.length:Int),y,(y.length:Int),cA,cK,ar,false,zA (op+1))=(kV k (ro,x++b,(x.length:Int),y,(y.length:Int),cA,cK,ar,false,zA (op+1))).bind fun x1=>bif x1.1 then some (11,x1.2) else some (0,x1.2.1,x1.2.2.1,(x1.2.2.1.length:Int),x1.2.2.2.2.1,(x1.2.2.2.2.1.length:Int),x1.2.2.2.2.2.2):=rfl
     have hl:(x++b).length=x.length+b.length:=List.length_append;rcases Lh (k:=k) (ro:=ro) (sx:=x.length) (sy:=y.length) (cA:=cA) (cK:=cK) (op:=zA (op+1)) (x:=x++b) (y:=y) (ar:=ar) ⟨by omega,by omega⟩ ⟨by omega,by omega⟩ (by omega) (by omega) h6 with g'|⟨ha,a,c,a1,a2,c1,c2,g'⟩
     ·refine .inl ⟨(ro,x++b,((x++b).length:Int),y,(y.length:Int),cA,cK,ar,false,zA (zA (op+1)+1)),by rw[eS,g'];rfl,⟨rfl,rfl,h3,?_,h5,h6⟩,rfl,rfl,rfl,rfl,rfl⟩;show((x++b).length:Int)≤ro;omega
     ·have ec:c=y.length:=by omega
      subst ec;have e1:(x++b).take a=x++b.take (a-x.length):=by rw[List.take_append,List.take_of_length_le (show x.length≤a by omega)]
      refine .inr ⟨ha,(ro,x++b.take (a-x.length),(a:Int),y,(y.length:Int),cA,cK,ar,true,zA (op+1)),a-x.length,by rw[eS,g',e1,List.take_length];rfl,by omega,⟨?_,rfl,h3,?_,h5,h6⟩,rfl,rfl,rfl,rfl,rfl⟩
      ·show(a:Int)=((x++b.take (a-x.length)).length:Int);rw[List.length_append,List.length_take];omega
      ·show((x++b.take (a-x.length)).length:Int)≤ro;rw[List.length_append,List.length_take];omega
   ·left;have ea:a=x.length:=by omega
    have ec:c=y.length:=by omega
    subst ea ec;rw[List.take_length,List.take_length] at g;exact⟨ha,(ro,x,(x.length:Int),y,(y.length:Int),cA,cK,ar,true,op),by rw[eA,g];rfl,⟨rfl,rfl,h3,h4,h5,h6⟩,rfl,rfl,rfl,rfl,rfl⟩
 ·have hw:zA (ro-(y.length:Int))=ro-(y.length:Int):=zO (by omega) (by omega);by_cases hf:(b.length:Int)>ro-(y.length:Int)
  ·refine .inl ⟨hf,?_⟩;show(bif decide ((b.length:Int)>zA (ro-(y.length:Int))) then _ else _)=_;rw[hw,aa hf];rfl
  ·right;have eA:yj k (ro,x,(x.length:Int),y,(y.length:Int),cA,cK,ar,false,op) 1 b=(kV k (ro,x,(x.length:Int),y,(y.length:Int),cA,cK,ar,false,op)).bind fun x3=>bif x3.1 then some (11,x3.2) else bif zQ (x3.2.2.2.2.1.length+b.length) 1 then some (0,x3.2.1,x3.2.2.1,x3.2.2.2.1,(x3.2.2.2.2.1++b),x3.2.2.2.2.2) else none:=by
    show(bif decide ((b.length:Int)>zA (ro-(y.length:Int))) then _ else _)=_;rw[hw,ab hf];rfl
   rcases Lh (k:=k) (ro:=ro) (sx:=x.length) (sy:=y.length) (cA:=cA) (cK:=cK) (op:=op) (x:=x) (y:=y) (ar:=ar) ⟨by omega,by omega⟩ ⟨by omega,by omega⟩ (by omega) (by omega) h6 with g|⟨ha,a,c,a1,a2,c1,c2,g⟩
   ·right;refine⟨by show(b.length:Int)≤ro-(y.length:Int);omega,(ro,x,(x.length:Int),y++b,(y.length:Int),cA,cK,ar,false,zA (op+1)),?_,?_⟩
    ·rw[eA,g,ae];dsimp only;rw[an,qK (by omega) (by omega)];rfl
    ·have eS:u9 k (ro,x,(x.length:Int),y++b,(y.length:Int),cA,cK,ar,false,zA (op+1))=(kV k (ro,x,(x.length:Int),y++b,(y.length:Int),cA,cK,ar,false,zA (op+1))).bind fun x1=>bif x1.1 then some (11,x1.2) else some (0,x1.2.1,x1.2.2.1,(x1.2.2.1.length:Int),x1.2.2.2.2.1,(x1.2.2.2.2.1.length:Int),x1.2.2.2.2.2.2):=rfl
     have hl:(y++b).length=y.length+b.length:=List.length_append;rcases Lh (k:=k) (ro:=ro) (sx:=x.length) (sy:=y.length) (cA:=cA) (cK:=cK) (op:=zA (op+1)) (x:=x) (y:=y++b) (ar:=ar) ⟨by omega,by omega⟩ ⟨by omega,by omega⟩ (by omega) (by omega) h6 with g'|⟨ha,a,c,a1,a2,c1,c2,g'⟩
     ·refine .inl ⟨(ro,x,(x.length:Int),y++b,((y++b).length:Int),cA,cK,ar,false,zA (zA (op+1)+1)),by rw[eS,g'];rfl,⟨rfl,rfl,h3,h4,?_,h6⟩,rfl,rfl,rfl,rfl,rfl⟩;show((y++b).length:Int)≤ro;omega
     ·have ea:a=x.length:=by omega
      subst ea;have e1:(y++b).take c=y++b.take (c-y.length):=by rw[List.take_append,List.take_of_length_le (show y.length≤c by omega)]
      refine .inr ⟨ha,(ro,x,(x.length:Int),y++b.take (c-y.length),(c:Int),cA,cK,ar,true,zA (op+1)),c-y.length,by rw[eS,g',e1,List.take_length];rfl,by omega,⟨rfl,?_,h3,h4,?_,h6⟩,rfl,rfl,rfl,rfl,rfl⟩
      ·show(c:Int)=((y++b.take (c-y.length)).length:Int);rw[List.length_append,List.length_take];omega
      ·show((y++b.take (c-y.length)).length:Int)≤ro;rw[List.length_append,List.length_take];omega
   ·left;have ea:a=x.length:=by omega
    have ec:c=y.length:=by omega
    subst ea ec;rw[List.take_length,List.take_length] at g;exact⟨ha,(ro,x,(x.length:Int),y,(y.length:Int),cA,cK,ar,true,op),by rw[eA,g];rfl,⟨rfl,rfl,h3,h4,h5,h6⟩,rfl,rfl,rfl,rfl,rfl⟩
theorem vXx {k:Nat}{D:wE}(h:sZ D)(hu:kW D=false){i:Int}(hi:i=0∨i=1):
  (∃D',P1 k D i=some (0,D')∧nh D D' i [] false)∨(wI D=true∧∃D',P1 k D i=some (11,D')∧nh D D' i (vI D i) true):=by
 obtain⟨ro,x,sx,y,sy,cA,cK,ar,dn,op⟩:=D;obtain⟨h1,h2,h3,h4,h5,h6⟩:=h;dsimp only at h1 h2 h3 h4 h5 h6;have hu:dn=false:=hu;subst h1 h2 hu;rcases Lh (k:=k) (ro:=ro) (sx:=x.length) (sy:=y.length) (cA:=cA) (cK:=cK) (op:=op) (x:=x) (y:=y) (ar:=ar) ⟨by omega,by omega⟩ ⟨by omega,by omega⟩ (by omega) (by omega) h6 with g|⟨ha,a,c,a1,a2,c1,c2,g⟩
 ·left;rcases hi with rfl|rfl
  ·refine⟨(ro,[],0,y,(y.length:Int),cA,cK,ar,false,zA (op+1)),?_,⟨rfl,rfl,h3,by show(0:Int)≤ro;omega,h5,h6⟩,rfl,rfl,rfl,rfl,rfl⟩;show(kV k (ro,x,(x.length:Int),y,(y.length:Int),cA,cK,ar,false,op)).bind _=_;rw[g];rfl
  ·refine⟨(ro,x,(x.length:Int),[],0,cA,cK,ar,false,zA (op+1)),?_,⟨rfl,rfl,h3,h4,by show(0:Int)≤ro;omega,h6⟩,rfl,rfl,rfl,rfl,rfl⟩;show(kV k (ro,x,(x.length:Int),y,(y.length:Int),cA,cK,ar,false,op)).bind _=_;rw[g];rfl
 ·right;have ea:a=x.length:=by omega
  have ec:c=y.length:=by omega
  subst ea ec;rw[List.take_length,List.take_length] at g;refine⟨ha,(ro,x,(x.length:Int),y,(y.length:Int),cA,cK,ar,true,op),?_,⟨rfl,rfl,h3,h4,h5,h6⟩,rfl,?_,?_,rfl,rfl⟩
  ·rcases hi with rfl|rfl
   ·show(kV k (ro,x,(x.length:Int),y,(y.length:Int),cA,cK,ar,false,op)).bind _=_;rw[g];rfl
   ·show(kV k (ro,x,(x.length:Int),y,(y.length:Int),cA,cK,ar,false,op)).bind _=_;rw[g];rfl
  ·rcases hi with rfl|rfl<;>rfl
  ·rcases hi with rfl|rfl<;>rfl
theorem nh.trans {D D1 D2 i c d p q}(h:nh D D1 i c p)(g:nh D1 D2 i d q):nh D D2 i d q:=
 ⟨g.clean,g.room.trans h.room,g.it,g.oth.trans h.oth,g.dn,g.ar.trans h.ar⟩
inductive B7 (D:wE) (i:Int) (R:AC):Int→wE→Prop
 |full (h:(R.length:Int)>D.1):B7 D i R 10 D
 |ok {D':wE} (h:nh D D' i R false):B7 D i R 0 D'
 |none {D':wE} (ha:wI D=true) (h:nh D D' i (vI D i) true):B7 D i R 11 D'
 |torn {D':wE} {j:Nat} (ha:wI D=true) (hj:j≤R.length) (h:nh D D' i (R.take j) true):B7 D i R 11 D'
theorem vD5 {k:Nat}(hk:9≤k){D:wE}(h:sZ D)(hu:kW D=false){i:Int}(hi:i=0∨i=1){g:Int}(hg:1≤g∧g≤4611686018427387904){b:AC}(hb:b.length≤50000):
  ∃e D',Lj k D i g b=some (e,D')∧B7 D i (wD (yC g++b)) e D':=by
 have hlen:(wD (yC g++b)).length=b.length+10:=by rw[uq,List.length_append];show 8+b.length+2=_;omega
 have ug:=h.room;unfold Lj;rw[I2 hk [g] (by simp) (by simp;omega),ae,show yF [g]=yC g by simp[yF]];rw[qK (by show(8+b.length)*1≤_;omega) (by show 8+b.length≤_;omega),ak,yP9,if_pos (by rw[List.length_append];show 8+b.length≤_;omega),ae];dsimp only;rw[aB,an,ab (by omega),an];rw[show Xu k D=some D.1 from rfl,ae];by_cases hf:((wD (yC g++b)).length:Int)>D.1
 ·rw[aa hf];exact⟨10,D,rfl,.full hf⟩
 rw[ab hf,an];rcases vXx (k:=k) h hu hi with⟨D1,w1,w2⟩|⟨ha,D1,w1,w2⟩
 ·rw[w1,ae];dsimp only;rw[aa rfl,aB,an];have hr:=w2.room;rcases vB0 (k:=k) w2.clean w2.dn hi (b:=wD (yC g++b)) (by omega) with⟨p1,_⟩|⟨ha,D2,p1,p2⟩|⟨_,D2,p1,⟨D3,p2,p3⟩|⟨ha,D3,j,p2,p3,p4⟩⟩
  ·rw[w2.it,hr] at p1;have:(([]:AC).length:Int)=0:=rfl;omega
  ·rw[p1,ae];dsimp only;rw[ab (by decide)];rw[w2.it] at p2;exact⟨11,D2,rfl,.torn (j:=0) (w2.ar.symm.trans ha) (by omega) (by rw[List.take_zero];exact w2.trans p2)⟩
  ·rw[p1,ae];dsimp only;rw[aa rfl,aB,an,p2,ae];rw[w2.it,List.nil_append] at p3;exact⟨0,D3,rfl,.ok (w2.trans p3)⟩
  ·rw[p1,ae];dsimp only;rw[aa rfl,aB,an,p2,ae];rw[w2.it,List.nil_append] at p4;exact⟨11,D3,rfl,.torn (w2.ar.symm.trans ha) p3 (w2.trans p4)⟩
 ·rw[w1,ae];dsimp only;rw[ab (by decide)];exact⟨11,D1,rfl,.none ha w2⟩
inductive Lk (L:gv) (D:wE) (R:AC):Int→gv→wE→Prop
 |full (h:(R.length:Int)>D.1-((vI D L.1).length:Int)):Lk L D R 10 L D
 |ok {D':wE} (h:nh D D' L.1 (vI D L.1++R) false):Lk L D R 0 (L.1,L.2.1,zA (L.2.2.1+1),L.2.2.2) D'
 |torn {D':wE} {j:Nat} (ha:wI D=true) (hj:j≤R.length) (h:nh D D' L.1 (vI D L.1++R.take j) true):Lk L D R 11 L D'
theorem yE7 {k:Nat}{D:wE}(h:sZ D)(hu:kW D=false){L:gv}(hs:L.1=0∨L.1=1)(dY:L.2.2.2=false){b:AC}(hb:b.length≤60000):
  ∃e L' D',Ll k L D b=some (e,L',D')∧Lk L D (wD b) e L' D':=by
 have hlen:=uq b;unfold Ll;rw[yP9,if_pos hb,ae,dY];dsimp only;rw[aB,an,an];rcases vB0 (k:=k) h hu hs (b:=wD b) (by omega) with⟨p1,p2⟩|⟨ha,D2,p1,p2⟩|⟨_,D2,p1,⟨D3,p2,p3⟩|⟨ha,D3,j,p2,p3,p4⟩⟩
 ·rw[p2];exact⟨10,L,D,rfl,.full p1⟩
 ·rw[p1];exact⟨11,L,D2,rfl,.torn (j:=0) ha (by omega) (by rw[List.take_zero,List.append_nil];exact p2)⟩
 ·rw[p1];refine⟨0,(L.1,L.2.1,zA (L.2.2.1+1),L.2.2.2),D3,?_,.ok p3⟩;show(u9 k D2).bind _=_;rw[p2,dY];rfl
 ·rw[p1];refine⟨11,L,D3,?_,.torn ha p3 p4⟩;show(u9 k D2).bind _=_;rw[p2];rfl
theorem Xv {k:Nat}(hk:9≤k){D:wE}(h:sZ D)(hu:kW D=false){L:gv}(hs:L.1=0∨L.1=1)(hg:1≤L.2.1∧L.2.1<4611686018427387904){b:AC}(hb:b.length≤50000):
  ∃e D',vd k L D b=some (e,(if e=0 then(1-L.1,L.2.1+1,0,false) else L),D')∧B7 D (1-L.1) (wD (yC (L.2.1+1)++b)) e D':=by
 have e1:zA (L.2.1+1)=L.2.1+1:=zO (by omega) (by omega);have e2:zA (1-L.1)=1-L.1:=zO (by omega) (by omega);obtain⟨e,D',h1,h2⟩:=vD5 (k:=k) hk h hu (i:=1-L.1) (by omega) (g:=L.2.1+1) (by omega) hb;refine⟨e,D',?_,h2⟩;unfold vd;rw[e1,e2,h1,ae];dsimp only;by_cases he:e=0
 ·subst he;rfl
 ·rw[ab he,if_neg he];rfl
structure B8 (b:AC) (g:Int) (S:AC) (rows:EQ):Prop where
 is:∃t,b=jN ((yC g++S)::rows)++t∧Cut t
 gen:1≤g∧g≤4611686018427387904
 len:S.length≤50000
 rl:∀x∈rows,x.length≤60000
 rn:rows.length≤900
theorem yBk {k:Nat}{D:wE}{i:Int}(hi:i=0∨i=1)(hl:(vI D i).length≤1000000):Xw k D i=some (vI D i):=by
 rcases hi with rfl|rfl
 ·have hl:D.2.1.length≤1000000:=hl;show(B9 k D.2.1).bind (fun x1=>some x1)=some D.2.1;unfold B9;rw[qK (by omega) (by omega)];rfl
 ·have hl:D.2.2.2.1.length≤1000000:=hl;show(B9 k D.2.2.2.1).bind (fun x1=>some x1)=some D.2.2.2.1;unfold B9;rw[qK (by omega) (by omega)];rfl
theorem Lm {k:Nat}(hk:1000≤k){D:wE}{i:Int}(hi:i=0∨i=1)(hl:(vI D i).length≤1000000){g:Int}{S:AC}{rows:EQ}(h:B8 (vI D i) g S rows):yk k D i=some (g,S,rows):=by
 obtain⟨⟨t,e,hc⟩,hg,hS,hr,hn⟩:=h;unfold yk;rw[yBk hi hl,ae];have pT:(yC g++S).length=8+S.length:=by rw[List.length_append];rfl
 rw[e,List.length_append] at hl;rw [e, yRq (l := (yC g ++ S) :: rows) hc (by omega) (fun x hx=>by
  rcases List.mem_cons.1 hx with rfl|hx
  ·omega
  ·exact hr x hx) (by simp;omega) (by simp;omega) (by omega)]
 simp only[ae];have hb:zB 0 ((yC g++S)::rows).length=true:=jS (by omega) (by simp);have ht:List.take 8 (yC g++S)=yC g:=rfl;have hd:List.drop 8 (yC g++S)=S:=rfl;have hs:qS ((yC g++S)::rows) 1 (((yC g++S)::rows).length-1)=rows:=by
  unfold qS;show List.take _ rows=rows;exact List.take_of_length_le (by simp)
 rw[ab (by simp;omega),hb];simp only[an,ak,List.getD_cons_zero];rw[ab (show¬((yC g++S).length:Int)<8 by omega),aa (show(8:Int)≤((yC g++S).length:Int) by omega),ht,UG (by omega) (by omega),aa (show(1:Int)≤(((yC g++S)::rows).length:Int) by simp;omega),hd,hs];simp only[an,ak,ae,List.getD_cons_zero];have fi:zB 0 [g].length=true:=rfl;rw[fi,ab (show¬g<1 by omega),ab (show¬g>4611686018427387904 by omega)];rfl
theorem yFn {k}(hk:1000≤k){D i}(hi:i=0∨i=1)(hl:(vI D i).length≤1000000)(h:Cut (vI D i)):yk k D i=some (0,[],[]):=by
 unfold yk;rw[yBk hi hl,ae];have:=yRq (k:=k) h hl (l:=[]) (by simp) (by grind) (by simp) (by simp[jN]);rw[show jN []++vI D i=vI D i from rfl] at this;simp_all
structure Has (D:wE) (m g:Int) (S:AC) (rows:EQ):Prop where
 side:m=0∨m=1
 main:B8 (vI D m) g S rows
 other:Cut (vI D (1-m))∨∃g' S' hY,g'<g∧B8 (vI D (1-m)) g' S' hY
 x:(vI D 0).length≤1000000
 y:(vI D 1).length≤1000000
theorem yR7 {k:Nat}(hk:1000≤k){D:wE}{m g:Int}{S:AC}{rows:EQ}(h:Has D m g S rows):Ln k D=some (g,m,S,rows,true):=by
 have hx:=h.x;have hy:=h.y;have hg:=h.main.gen;unfold Ln;rcases h.side with rfl|rfl
 ·rw[Lm hk (.inl rfl) hx h.main,ae];simp only[];rw[aa (show g>0 by omega),ak];rcases h.other with hc|⟨g',S',hY,bj,ho⟩
  ·rw[yFn hk (.inr rfl) hy hc,ae];simp only[];rw[ab (by omega)];rfl
  ·rw[Lm hk (.inr rfl) hy ho,ae];simp only[];rw[ab (by omega)];rfl
 ·rcases h.other with hc|⟨g',S',hY,bj,ho⟩
  ·rw[yFn hk (.inl rfl) hx hc,ae];simp only[];rw[ab (by omega),an,Lm hk (.inr rfl) hy h.main,ae];simp only[];rw[aa (show g>0 by omega)];rfl
  ·have hg':=ho.gen;rw[Lm hk (.inl rfl) hx ho,ae];simp only[];rw[aa (show g'>0 by omega),ak,Lm hk (.inr rfl) hy h.main,ae];simp only[];rw[aa (show g>g' by omega)];rfl
theorem vO1 {k}(hk:1000≤k){D m g S rows}(h:Has D m g S rows) f:P2 k D f=some (.inl (S,rows,0,D,m,g,(rows.length:Int),true)):=by
 unfold P2;rw[yR7 hk h];rfl
structure qo (r:qF) (s:zT):Prop where
 inv:qW r s
 ids:∀x∈s.ids,x<9223372036854775808
theorem P3 {α:Type}{d x}{l:List α}(h:x∈l):∃i,i<l.length∧l.getD i d=x:=by
 obtain⟨i,hi,e⟩:=List.mem_iff_getElem.1 h;exact⟨i,hi,by simp_all⟩
theorem vTb {k:Nat}(hk:1000≤k){r:qF}(hr:vT r){s:zT}(h:qo r s):∀x∈gj s.st,kG k x:=by
 have hi:=h.inv;have n6:=hi.bk.n6;have n1:=hi.bk.n1;have hm:=hi.waits.len;have h3:=hr.n3;have hb:wS s.B.1 s.B.2.1 s.B.2.2.1 s.B.2.2.2:=hi.bk;have hL:=hi.laid 0 (by omega);have hol:=hi.hol;have htk:=hi.tk;have C8:=hr.cl;have KR:=hi.tot;have hn:=hi.n;have ao:=hi.waits.idl;have b1:=hb.bl;have b2:=hb.pl;have b3:=hb.ml;have few:∀{x:AC},x.length≤200→iH x→kG k x:=fun h1 h2=>⟨by omega,by omega,h2⟩
 have row:∀{l:EQ} {n:Nat} {x:AC},x∈l→l.length=n→(∀i,i<n→(l.getD i []).length≤200)→(∀i,i<n→∀j,j<(l.getD i []).length→-9223372036854775808≤(l.getD i []).getD j 0∧(l.getD i []).getD j 0<9223372036854775808)→kG k x:=by
  intro l n x hx hl h1 h2;obtain⟨i,hi,e⟩:=P3 (d:=[]) hx;have g1:=h1 i (by omega);have g2:=h2 i (by omega);rw[e] at g1 g2;refine few g1 fun y hy=>?_
  obtain⟨j,hj,e⟩:=P3 (d:=0) hy;rw[←e];exact g2 j hj
 have one:∀{x:AC},x.length≤200→(∀j,j<x.length→-9223372036854775808≤x.getD j 0∧x.getD j 0<9223372036854775808)→kG k x:=fun h1 h2=>few h1 fun y hy=>by
  obtain⟨j,hj,e⟩:=P3 (d:=0) hy;rw[←e];exact h2 j hj
 intro x hx;simp only[gj,List.mem_append,List.mem_singleton,List.mem_map] at hx;rcases hx with((((((((rfl|⟨a,ha,rfl⟩)|hx)|rfl)|hx)|rfl)|hx)|⟨p,hp,rfl⟩)|rfl)
 ·refine few (by simp) fun y hy=>?_
  simp only[List.mem_cons,List.not_mem_nil,or_false] at hy;have q0:s.st.1=s.t:=rfl;have q1:s.st.2.2.2.2.2.2.2.2.2.1=s.to:=rfl;have q2:s.st.2.1.length=s.B.1.length:=rfl;have q3:s.st.2.2.1.length=s.B.2.1.length:=rfl;have q4:s.st.2.2.2.1.length=s.B.2.2.1.length:=rfl;have q5:s.st.2.2.2.2.1.length=s.B.2.2.2.length:=rfl;have q6:s.st.2.2.2.2.2.2.1.length=s.ho.length:=rfl;have q7:s.st.2.2.2.2.2.2.2.1.length=s.m.length:=rfl;rcases hy with rfl|rfl|rfl|rfl|rfl|rfl|rfl|rfl|rfl
  ·omega
  ·omega
  ·cases s.st.2.2.2.2.2.2.2.2.2.2<;>decide
  all_goals omega
 ·obtain⟨i,bI,e⟩:=P3 (d:=ad) ha;have:=pj.1 (hb.acct i bI);have e:s.B.1.getD i ad=a:=e;have:=(pj (a:=a)).1 (by rw[←e];exact hb.acct i bI);refine few (by simp[j4]) fun y hy=>?_
  simp only[j4,List.mem_cons,List.not_mem_nil,or_false] at hy;rcases hy with rfl|rfl|rfl<;>omega
 ·refine row (n:=s.B.1.length) hx b1 (fun i hi=>?_) fun i hi j hj=>?_
  ·have:=hb.br i hi;show(s.B.2.1.getD i []).length≤200;omega
  ·have hj:j<(s.B.2.1.getD i []).length:=hj;have g:=hb.bil i hi j (by have:=hb.br i hi;omega);unfold wO at g;simp only[bb,aX] at g;have g:cell s.B.2.1 i j≥-1∧cell s.B.2.1 i j≤2305843009213693952:=g;show-9223372036854775808≤cell s.B.2.1 i j∧cell s.B.2.1 i j<9223372036854775808;omega
 ·refine one (x:=s.B.2.2.1) (by omega) fun j hj=>?_
  have g:=hb.mul j (by omega);unfold wO at g;simp only[bb,aX] at g;omega
 ·refine row (n:=s.B.1.length) hx b2 (fun i hi=>?_) fun i hi j hj=>?_
  ·have:=hb.pr i hi;show(s.B.2.2.2.getD i []).length≤200;omega
  ·have hj:j<(s.B.2.2.2.getD i []).length:=hj;have g:=hb.net i hi j (by have:=hb.pr i hi;omega);unfold gG at g;simp only[bb,aX] at g;have g:cell s.B.2.2.2 i j>-72057594037927936∧cell s.B.2.2.2 i j<72057594037927936:=g;show-9223372036854775808≤cell s.B.2.2.2 i j∧cell s.B.2.2.2 i j<9223372036854775808;omega
 ·refine one (x:=s.pr) (by rw[hL.pl];omega) fun j hj=>?_
  have:=hL.price j (by rw[←hL.pl];exact hj);omega
 ·refine row (n:=s.B.1.length) hx hol (fun i bI=>?_) fun i bI j hj=>?_
  ·have:=(hi.laid i bI).hl;show(s.ho.getD i []).length≤200;omega
  ·have hj:j<(s.ho.getD i []).length:=hj;have L:=hi.laid i bI;have:=L.hold j (by rw[←L.hl];exact hj);show-9223372036854775808≤(s.ho.getD i []).getD j 0∧(s.ho.getD i []).getD j 0<9223372036854775808;omega
 ·have m1:=hi.waits.may p hp;have m2:=hi.waits.time p hp;have m3:=hi.waits.were p hp;have m4:=hi.waits.pos _ m3;have m5:=h.ids _ m3;have f1:=m1.f0;have f2:=m1.f1;have f3:=m1.t0;have f4:=m1.t1;have f5:=m1.a1;have f6:=m1.a2;have f7:=m1.c1;have f8:=m1.c3;refine few (by simp[gi]) fun y hy=>?_
  simp only[gi,List.mem_cons,List.not_mem_nil,or_false] at hy;rcases hy with rfl|rfl|rfl|rfl|rfl|rfl|rfl<;>omega
 ·exact few (x:=s.ids) (by omega) fun y hy=>⟨by have:=hi.waits.pos y hy;omega,h.ids y hy⟩
inductive fE (k:Nat) (r:qF):zT→EQ→zT→Prop
 |nil (s:zT):fE k r s [] s
 |cons {s t u:zT} {b:AC} {rows:EQ} {c:fJ} {o:List qT} {e:Int} (h1:sU k b=some (c,0)) (h2:im k r s.st c=some (t.st,o,e)) (g:fE k r t rows u):fE k r s (b::rows) u
 |skip {s u:zT} {b:AC} {rows:EQ} {c:fJ} {e:Int} (h1:sU k b=some (c,e)) (he:e≠0) (g:fE k r s rows u):fE k r s (b::rows) u
theorem fE.app {k:Nat}{r:qF}{s t u:zT}{a b:EQ}(g:fE k r s a t)(h:fE k r t b u):fE k r s (a++b) u:=by
 induction g with
 |nil s=>exact h
 |cons a b _ ih=>exact .cons a b (ih h)
 |skip a b _ ih=>exact .skip a b (ih h)
theorem fE.snocE {k:Nat}{r:qF}{s t u:zT}{b:AC}{rows:EQ}{c:fJ}{o:List qT}{e:Int}(g:fE k r s rows t)(h1:sU k b=some (c,0))(h2:im k r t.st c=some (u.st,o,e)):fE k r s (rows++[b]) u:=g.app (.cons h1 h2 (.nil _))
theorem fE.snoc {k:Nat}{r:qF}{s t u:zT}{b:AC}{rows:EQ}{c:fJ}{o:List qT}(g:fE k r s rows t)(h1:sU k b=some (c,0))(h2:im k r t.st c=some (u.st,o,0)):fE k r s (rows++[b]) u:=g.snocE h1 h2
theorem Xx {k:Nat}{r:qF}{ev:Int}{th:Bool}{rows:EQ}{b0}{x y:AC}{L:gv}{u:zT}:∀(m n i:Nat) (s:zT),i+m=rows.length→m<n→rows.length≤1000000→fE k r s (rows.drop i) u→
  yl k n ev th rows (rows.length:Int) (i:Int) b0 x y r L s.st=some (ev,th,b0,x,y,r,L,u.st)
 |0,n,i,s,h1,h2,_,g=>by
  obtain⟨n,rfl⟩:∃m,n=m+1:=⟨n-1,by omega⟩;rw[List.drop_of_length_le (by omega)] at g;cases g;show ym k _ ev th rows (rows.length:Int) (i:Int) b0 x y r L u.st=_;unfold ym;rw[ab (by omega)];rfl
 |m+1,n,i,s,h1,h2,h3,g=>by
  obtain⟨n,rfl⟩:∃m,n=m+1:=⟨n-1,by omega⟩;have hi:i<rows.length:=by omega
  have ed:rows.drop i=rows.getD i []::rows.drop (i+1):=by rw[List.drop_eq_getElem_cons hi,List.getD_eq_getElem?_getD,List.getElem?_eq_getElem hi];rfl
  rw[ed] at g;cases g with
  |@skip _ _ _ _ c e g1 he g3=>
   have ih:=Xx (ev:=ev) (th:=th) (b0:=b0) (x:=x) (y:=y) (L:=L) m n (i+1) s (by omega) (by omega) h3 g3;show ym k (yl k n) ev th rows (rows.length:Int) (i:Int) b0 x y r L s.st=_;unfold ym;rw[aa (show(i:Int)<rows.length by omega),jS (by omega) (by omega),au,g1];simp only[ak,ae];rw[ab he,qE hi (by omega)];exact ih
  |@cons _ t _ _ _ c o e g1 g2 g3=>
  have ih:=Xx (ev:=ev) (th:=th) (b0:=b0) (x:=x) (y:=y) (L:=L) m n (i+1) t (by omega) (by omega) h3 g3;show ym k (yl k n) ev th rows (rows.length:Int) (i:Int) b0 x y r L s.st=_;unfold ym;rw[aa (show(i:Int)<rows.length by omega),jS (by omega) (by omega),au,g1];simp only[ak,ae,decide_true];rw[g2];simp only[ae];rw[qE hi (by omega)];exact ih
theorem vE4 {k:Nat}(hk:1000≤k){r:qF}(hr:vT r)(iO:qp k r=some true)(dY:qW r (jT r))(kD:qn k r=some (jT r).st){ev:Int}(aQ:1≤ev∧ev≤1000)
  {D:wE} {m g:Int} {s0 s:zT} {rows:EQ} (h0:qo r s0) (hD:Has D m g (yA (gj s0.st)) rows) (hkp:fE k r s0 rows s):
  jO k r D ev=(mb k s.st).bind fun b=>(vd k (m,g,(rows.length:Int),true) D b).bind fun x=>bif !(decide (x.1=0)) then some (.inr (x.1,x.2.2)) else some (.inl (0,x.2.2,wX r s ev,x.2.1)):=by
 obtain⟨b0,Fo,_,_⟩:=Xr hk hr dY;obtain⟨b1,_,fi,pT⟩:=Xr hk hr h0.inv;obtain⟨l,el,l1,l2⟩:=vBm hr h0.inv;have abC:=h0.inv.waits.idl;have hrn:=hD.main.rn;have hf:eL (gj s0.st):=by
  rw[el];refine⟨by rw[List.length_append];simp;omega,fun x hx=>?_⟩;rcases List.mem_append.1 hx with hx|hx
  ·have:=l2 x hx;omega
  ·rw[List.mem_singleton.1 hx];omega
 have ky:=vVh hk hf (vTb hk hr h0) (by rw[fi] at pT;omega);have his:=vI6 hk hr h0.inv;unfold jO;rw[iO];simp only[ae,aB,an];rw[ab (show¬ev<1 by omega),ab (show¬ev>1000 by omega)];simp only[an];rw[yR7 hk hD];simp only[ae];rw[kD];simp only[ae];rw[Fo];simp only[ae];rw[vO1 hk hD];simp only[ae,decide_true,aB,an];rw[ky];simp only[ae,aB,an];rw[his];simp only[ae,aB,an];have ql:=Xx (k:=k) (r:=r) (ev:=ev) (th:=true) (rows:=rows) (b0:=(D.1,D.2.2.1,D.2.2.2.2)) (x:=D.2.1) (y:=D.2.2.2.1) (L:=(m,g,(rows.length:Int),true)) rows.length k 0 s0 (by omega) (by omega) (by omega) (by simpa using hkp);refine(congrArg (fun z=>Option.bind z _) ql).trans ?_;rfl
def jU (s:zT):AC:=yA (gj s.st)
theorem G8 {k}(hk:1000≤k){r}(hr:vT r){s}(h:qW r s):mb k s.st=some (jU s)∧(jU s).length≤7000:=by
 obtain⟨b,h1,h2,h3⟩:=Xr hk hr h;subst h2;exact⟨h1,h3⟩
structure ta (k:Nat) (r:qF) (N:Nat) (s s0:zT) (rows:EQ) (g:Int):Prop where
 i0:qo r s0
 i:qo r s
 kept:fE k r s0 rows s
 gen:1≤g∧g≤2305843009213693953+(N:Int)
 rl:∀x∈rows,x.length≤57
 rn:rows.length≤N
def Old (b:AC)(g:Int):Prop:=Cut b∨∃g' S' hY,g'<g∧B8 b g' S' hY
def kX (k:Nat)(r:qF)(N:Nat)(s:zT)(D:wE):Prop:=
 sZ D∧∃(m g:Int) (s0:zT) (rows:EQ) (t:AC),(m=0∨m=1)∧ta k r N s s0 rows g∧vI D m=jN ((yC g++jU s0)::rows)++t∧Cut t∧Old (vI D (1-m)) g
structure gp (k:Nat) (r:qF) (N:Nat) (s:zT) (L:gv) (D:wE):Prop where
 clean:sZ D
 up:kW D=false
 side:L.1=0∨L.1=1
 stale:L.2.2.2=false
 rows:0≤L.2.2.1∧L.2.2.1≤(N:Int)
 main:∃(s0:zT) (rows:EQ),ta k r N s s0 rows L.2.1∧vI D L.1=jN ((yC L.2.1++jU s0)::rows)
 old:Old (vI D (1-L.1)) L.2.1
theorem ta.more {k r N M s s0 rows g}(h:ta k r N s s0 rows g)(hM:N≤M):ta k r M s s0 rows g:=
 ⟨h.i0,h.i,h.kept,by have:=h.gen;omega,h.rl,by have:=h.rn;omega⟩
theorem gp.more {k r N M s L D}(h:gp k r N s L D)(hM:N≤M):gp k r M s L D:=
 ⟨h.clean,h.up,h.side,h.stale,by have:=h.rows;omega,by obtain⟨s0,rows,a,b⟩:=h.main;exact⟨s0,rows,a.more hM,b⟩,h.old⟩
theorem kX.more {k r N M s D}(h:kX k r N s D)(hM:N≤M):kX k r M s D:=by
 obtain⟨a,m,g,s0,rows,t,b,c,d⟩:=h;exact⟨a,m,g,s0,rows,t,b,c.more hM,d⟩
theorem gp.stored {k:Nat}{r:qF}{N:Nat}{s:zT}{L:gv}{D:wE}(h:gp k r N s L D):kX k r N s D:=by
 obtain⟨s0,rows,a,b⟩:=h.main;exact⟨h.clean,L.1,L.2.1,s0,rows,[],h.side,a,by rw[List.append_nil];exact b,DX,h.old⟩
theorem vNd {D}(h:sZ D):(vI D 0).length≤200000∧(vI D 1).length≤200000:=by
 have h1:=h.lx;have h2:=h.ly;have h3:=h.room;exact⟨by show D.2.1.length≤_;omega,by show D.2.2.2.1.length≤_;omega⟩
theorem ta.holds {k}(hk:1000≤k){r}(hr:vT r){N}(hN:N≤900){s s0 rows g}(h:ta k r N s s0 rows g){b t}(hb:b=jN ((yC g++jU s0)::rows)++t)(ht:Cut t):B8 b g (jU s0) rows:=
 ⟨by grind,by have:=h.gen;omega,by have:=(G8 hk hr h.i0.inv).2;omega,fun x hx=>by have:=h.rl x hx;omega,by have:=h.rn;omega⟩
theorem Xy {k:Nat}(hk:1000≤k){r:qF}(hr:vT r){N:Nat}(hN:N≤890){s s0:zT}{rows:EQ}{m g:Int}{t:AC}{D:wE}(hc:sZ D)(hm:m=0∨m=1)(ha:ta k r N s s0 rows g)(hb:vI D m=jN ((yC g++jU s0)::rows)++t)(ht:Cut t)(ho:Old (vI D (1-m)) g)
  {e:Int} {D':wE} (h:B7 D (1-m) (wD (yC (g+1)++jU s)) e D'):
  (e=10∧D'=D∧D.1<100000)∨(e=0∧wI D'=wI D∧D'.1=D.1∧gp k r (N+1) s (1-m,g+1,0,false) D')∨(e=11∧wI D=true∧D'.1=D.1∧kW D'=true∧kX k r (N+1) s D'):=by
 have lW:1-(1-m)=m:=by omega
 have Ca:=ha.gen;have hlen:=(G8 hk hr ha.i.inv).2;have new:ta k r (N+1) s s [] (g+1):=⟨ha.i,ha.i,.nil s,by omega,fun x hx=>absurd hx List.not_mem_nil,Nat.zero_le _⟩;have eR:wD (yC (g+1)++jU s)=jN ((yC (g+1)++jU s)::[]):=by simp[jN]
 have hold:B8 (vI D m) g (jU s0) rows:=ha.holds hk hr (by omega) hb ht;cases h with
 |full hf=>exact .inl ⟨rfl,rfl,by rw[uq,List.length_append] at hf;have:(yC (g+1)).length=8:=rfl;omega⟩
 |ok w=>
  have w4:=w.oth;rw[lW] at w4;refine .inr (.inl ⟨rfl,w.ar,w.room,w.clean,w.dn,by show 1-m=0∨1-m=1;omega,rfl,⟨Int.le_refl _,by show(0:Int)≤_;omega⟩,⟨s,[],new,by show vI D' (1-m)=_;rw[w.it,eR]⟩,.inr ⟨g,jU s0,rows,by show g<g+1;omega,?_⟩⟩);show B8 (vI D' (1-(1-m))) g (jU s0) rows;rw[lW,w4];exact hold
 |none fL w=>
  have w4:=w.oth;rw[lW] at w4;refine .inr (.inr ⟨rfl,fL,w.room,w.dn,w.clean,m,g,s0,rows,t,hm,ha.more (by omega),by rw[w4];exact hb,ht,?_⟩);rw[w.it];exact ho
 |@torn _ j fL hj w=>
  have w4:=w.oth;rw[lW] at w4;refine .inr (.inr ⟨rfl,fL,w.room,w.dn,w.clean,?_⟩);have tM:=uq (yC (g+1)++jU s);by_cases pO:j=(wD (yC (g+1)++jU s)).length
  ·refine⟨1-m,g+1,s,[],[],by omega,new,by rw[w.it,pO,List.take_length,eR,List.append_nil],DX,.inr ⟨g,jU s0,rows,by omega,?_⟩⟩;rw[lW,w4];exact hold
  ·refine⟨m,g,s0,rows,t,hm,ha.more (by omega),by rw[w4];exact hb,ht,.inl ?_⟩;rw[w.it];exact yWr (by rw[List.length_append];show 8+(jU s).length≤60000;omega) (by omega)
theorem vJm {l}(h:∀x∈l,x.length≤57):(jN l).length≤59*l.length:=by
 induction l with
 |nil=>simp[jN]
 |cons x l ih=>
  have h1:=ih (by grind);have h2:=h x (by simp);have e:jN (x::l)=wD x++jN l:=by rfl
  rw[e,List.length_append,uq,List.length_cons];omega
theorem yIr {k:Nat}(hk:1000≤k){r:qF}(hr:vT r){N:Nat}(hN:N≤890){s u:zT}{L:gv}{D:wE}(h:gp k r N s L D){b:AC}(hb:b.length≤57){c:fJ}{o:List qT}(h1:sU k b=some (c,0))(h2:im k r s.st c=some (u.st,o,0))(hu:qo r u)
  {e:Int} {L':gv} {D':wE} (ha:Lk L D (wD b) e L' D'):
  (e=10∧L'=L∧D'=D∧D.1<100000)∨(e=0∧wI D'=wI D∧D'.1=D.1∧gp k r (N+1) u L' D')∨(e=11∧wI D=true∧D'.1=D.1∧kW D'=true∧L'=L∧(kX k r (N+1) s D'∨kX k r (N+1) u D')):=by
 obtain⟨s0,rows,hm,hs⟩:=h.main;have aW:=h.rows;have new:ta k r (N+1) u s0 (rows++[b]) L.2.1:=⟨hm.i0,hu,hm.kept.snoc h1 h2,by have:=hm.gen;omega,fun x hx=>by
  rcases List.mem_append.1 hx with hx|hx
  ·exact hm.rl x hx
  ·rw[List.mem_singleton.1 hx];exact hb,by have:=hm.rn;rw[List.length_append];simp;omega⟩
 have eR:jN ((yC L.2.1++jU s0)::rows)++wD b=jN ((yC L.2.1++jU s0)::(rows++[b])):=by simp[jN]
 have pT:=uq b;cases ha with
 |full hf=>
  have h3:=vJm hm.rl;have h4:=(G8 hk hr hm.i0.inv).2;have h5:=hm.rn;have e:jN ((yC L.2.1++jU s0)::rows)=wD (yC L.2.1++jU s0)++jN rows:=by simp[jN]
  have h6:(yC L.2.1).length=8:=rfl;have h7:=uq (yC L.2.1++jU s0);rw[List.length_append] at h7;rw[hs,e,List.length_append] at hf;exact .inl ⟨rfl,rfl,rfl,by omega⟩
 |ok w=>
  have Xz:zA (L.2.2.1+1)=L.2.2.1+1:=zO (by omega) (by omega);refine .inr (.inl ⟨rfl,w.ar,w.room,w.clean,w.dn,h.side,h.stale,?_,⟨s0,rows++[b],new,?_⟩,?_⟩)
  ·show 0≤zA (L.2.2.1+1)∧zA (L.2.2.1+1)≤_;rw[Xz];omega
  ·show vI D' L.1=_;rw[w.it,hs,eR]
  ·show Old (vI D' (1-L.1)) L.2.1;rw[w.oth];exact h.old
 |@torn _ j fL hj w=>
  refine .inr (.inr ⟨rfl,fL,w.room,w.dn,rfl,?_⟩);have old:Old (vI D' (1-L.1)) L.2.1:=by rw[w.oth];exact h.old
  by_cases pO:j=(wD b).length
  ·right;exact⟨w.clean,L.1,L.2.1,s0,rows++[b],[],h.side,new,by rw[w.it,hs,pO,List.take_length,eR,List.append_nil],DX,old⟩
  ·left;exact⟨w.clean,L.1,L.2.1,s0,rows,(wD b).take j,h.side,hm.more (by omega),by rw[w.it,hs],yWr (by omega) (by omega),old⟩
theorem vHw {k:Nat}(hk:1000≤k){r:qF}(hr:vT r){ev:Int}{N:Nat}(hN:N≤880){s u:zT}{L:gv}{D:wE}(h:gp k r N s L D){b:AC}(hb:b.length≤57){c:fJ}{o:List qT}(h1:sU k b=some (c,0))(h2:im k r s.st c=some (u.st,o,0))(hu:qo r u):
  ∃e L' D',P4 k (wX r s ev) L D b=some (e,wX r s ev,L',D')∧D'.1=D.1∧
   ((e=10∧D.1<100000∧wI D'=wI D∧gp k r (N+3) s L' D')∨(e=0∧wI D'=wI D∧gp k r (N+3) u L' D')∨(e=11∧wI D=true∧kW D'=true∧(kX k r (N+3) s D'∨kX k r (N+3) u D'))):=by
 obtain⟨e1,L1,D1,a1,a2⟩:=yE7 (k:=k) h.clean h.up h.side h.stale (b:=b) (by omega);unfold P4;rw[a1,ae];dsimp only;rcases yIr hk hr (by omega) h hb h1 h2 hu a2 with⟨rfl,rfl,rfl,zy⟩|⟨rfl,q1,q2,q3⟩|⟨rfl,q1,q2,q3,rfl,q4⟩
 ·rw[aa rfl,aB,an];obtain⟨s0,rows,hm,hs⟩:=h.main;have Ca:=hm.gen;have xB:=G8 hk hr hm.i.inv;rw[show mb k (qq (wX r s ev))=some (jU s) from xB.1,ae];obtain⟨e2,D2,b1,b2⟩:=Xv (k:=k) (by omega) h.clean h.up h.side (by omega) (b:=jU s) (by omega);rw[b1,ae];dsimp only;rcases Xy hk hr (by omega) h.clean h.side hm (by rw[List.append_nil];exact hs) DX h.old b2 with⟨rfl,rfl,_⟩|⟨rfl,q1,q2,q3⟩|⟨rfl,q1,q2,q3,q4⟩
  ·rw[ab (by decide)];exact⟨10,_,_,rfl,rfl,.inl ⟨rfl,zy,rfl,h.more (by omega)⟩⟩
  ·rw[aa rfl,if_pos rfl];simp only[aB,an];obtain⟨e3,L3,D3,c1,c2⟩:=yE7 (k:=k) q3.clean q3.up q3.side q3.stale (b:=b) (by omega);rw[c1,ae];rcases yIr hk hr (by omega) q3 hb h1 h2 hu c2 with⟨rfl,rfl,rfl,_⟩|⟨rfl,p1,p2,p3⟩|⟨rfl,p1,p2,p3,rfl,p4⟩
   ·exact⟨10,_,_,rfl,q2,.inl ⟨rfl,zy,q1,q3.more (by omega)⟩⟩
   ·exact⟨0,_,_,rfl,p2.trans q2,.inr (.inl ⟨rfl,p1.trans q1,p3.more (by omega)⟩)⟩
   ·refine⟨11,_,_,rfl,p2.trans q2,.inr (.inr ⟨rfl,q1.symm.trans p1,p3,?_⟩)⟩;rcases p4 with p|p
    ·exact .inl (p.more (by omega))
    ·exact .inr (p.more (by omega))
  ·rw[ab (by decide)];exact⟨11,_,_,rfl,q2,.inr (.inr ⟨rfl,q1,q3,.inl (q4.more (by omega))⟩)⟩
 ·exact⟨0,L1,D1,rfl,q2,.inr (.inl ⟨rfl,q1,q3.more (by omega)⟩)⟩
 ·refine⟨11,_,D1,rfl,q2,.inr (.inr ⟨rfl,q1,q3,?_⟩)⟩;rcases q4 with p|p
  ·exact .inl (p.more (by omega))
  ·exact .inr (p.more (by omega))
def Lp (r:qF)(s:zT)(ev:Int):sG:=(r.1,r.2.1,r.2.2.1,r.2.2.2.1,r.2.2.2.2,s.t,s.B.1,s.B.2.1,s.B.2.2.1,s.B.2.2.2,s.pr,s.ho,s.m,s.ids,s.to,s.ov,ev,true)
def Lq (x:Int):Prop:= -9223372036854775808≤x∧x<9223372036854775808
def yCz (k:Nat)(r:qF):Prop:=∀s,qo r s→∀c:fJ,kb k c.2=some true→iH (yB c.2)→∃t o e,im k r (zT.st s) c=some (zT.st t,o,e)∧qo r t∧(e≠0→t=s)
inductive G9 (k:Nat) (r:qF) (ev:Int) (N:Nat) (s:zT) (L:gv) (D:wE) (a:Int) (m:zC×Int):List qP→sG→gv→wE→Prop
 |none {o:List qP} (ha:Xt k r s a m s o):G9 k r ev N s L D a m o (wX r s ev) L D
 |disk {L':gv} {D':wE} (hf:D.1<100000) (hr:gp k r (N+4) s L' D') (fL:wI D'=wI D):G9 k r ev N s L D a m [(a,16,10,0,0,0,0,0)] (wX r s ev) L' D'
 |done {t:zT} {o:List qP} {L':gv} {D':wE} (hm:m.2=0) (ha:im k r s.st (a,m.1)=some (t.st,o,0)) (hr:gp k r (N+4) t L' D') (fL:wI D'=wI D):G9 k r ev N s L D a m o (wX r t ev) L' D'
 |lost {t:zT} {o:List qP} {L':gv} {D':wE} (hm:m.2=0) (ha:im k r s.st (a,m.1)=some (t.st,o,0)) (fL:wI D=true) (hd:kW D'=true) (hs:kX k r (N+4) s D'∨kX k r (N+4) t D'):G9 k r ev N s L D a m [] (Lp r s ev) L' D'
 |late {t:zT} {o:List qP} {L':gv} {D':wE} (hm:m.2=0) (ha:im k r s.st (a,m.1)=some (t.st,o,0)) (fL:wI D=true) (hd:kW D'=true) (hs:kX k r (N+4) t D'):G9 k r ev N s L D a m o (Lp r t ev) L' D'
theorem yJi {k:Nat}(hk:1000≤k){r:qF}(hr:vT r)(hd:yCz k r)(hq:∀s c u o e,im k r (zT.st s) c=some (u,o,e)→c.2.1=9→u=s.st){ev:Int}{N:Nat}(hN:N≤870){s:zT}{L:gv}{D:wE}(h:gp k r N s L D)
  {a:Int} (haw:Lq a) {b:AC} (hb:b.length≤8*k) (bH:b.length≤140737488355328):
  ∃o G' L' D',nY k (wX r s ev) L D a b=some (o,G',L',D')∧D'.1=D.1∧G9 k r ev N s L D a (lv b) o G' L' D':=by
 have hm:A4 k b=some (lv b):=yYb (by omega) hb bH;have yn:=fun h=>vQ6 (k:=k) (by omega) (b:=b) h
 generalize lv b=m at hm yn;have hi:qo r s:=by obtain⟨s0,rows,hM,_⟩:=h.main;exact hM.i
 unfold nY;rw[show qs k (wX r s ev) L D=some (false,wX r s ev,L,D) from rfl];simp only[ae,an];rw[hm];simp only[ae];by_cases h0:m.2=0
 case neg=>
  rw[ab h0];exact⟨_,_,L,D,rfl,rfl,.none (.inl ⟨h0,rfl,rfl⟩)⟩
 obtain⟨f1,f2⟩:=yn h0;rw[aa h0];simp only[aB,an];obtain⟨t,o,e,h1,h2,h3⟩:=hd s hi (a,m.1) f1 f2;have e1:yV (wX r s ev)=r:=rfl;have e2:qq (wX r s ev)=s.st:=rfl;rw[e1,e2,h1];simp only[ae];by_cases he:e=0
 case neg=>
  rw[ab he];exact⟨_,_,L,D,rfl,rfl,.none (.inr ⟨h0,_,_,_,h1,.inl ⟨he,rfl,rfl⟩⟩)⟩
 subst he;rw[show decide ((0:Int)=0)=true from rfl];simp only[aB,an];by_cases h9:m.1.1=9
 ·rw[aa h9];have eq:=hq _ _ _ _ _ h1 h9;exact⟨o,_,L,D,rfl,rfl,.none (.inr ⟨h0,_,_,_,h1,.inr ⟨rfl,eq,rfl⟩⟩)⟩
 rw[ab h9];simp only[an];obtain⟨c,nN,cN,dH⟩:=Wm hk (w:=a) f1 haw f2;rw[nN];simp only[ae];obtain⟨e',L1,D1,k1,k2,k3⟩:=vHw hk hr (ev:=ev) (by omega) h dH cN h1 h2;rw[k1];simp only[ae];rcases k3 with⟨rfl,qf,q1,q2⟩|⟨rfl,q1,q2⟩|⟨rfl,q1,q2,q3⟩
 ·rw[show decide ((10:Int)=0)=false from rfl,show decide ((10:Int)=10)=true from rfl];exact⟨_,_,L1,D1,rfl,k2,.disk qf (q2.more (by omega)) q1⟩
 ·simp only[decide_true,ak];show∃o G' L' D',(P5 k L1 D1).bind _=_∧_;rw[show P5 k L1 D1=some (L1.2.2.1,L1,D1) from rfl];simp only[ae];cases decide (L1.2.2.1≥(wX r s ev).2.2.2.2.2.2.2.2.2.2.2.2.2.2.2.2.1) with
  |false=>exact⟨o,wX r t ev,L1,D1,rfl,k2,.done h0 h1 (q2.more (by omega)) q1⟩
  |true=>
   obtain⟨s0,rows,hM,hs⟩:=q2.main;have Ca:=hM.gen;have xB:=G8 hk hr h2.inv;simp only[ak];rw[xB.1];simp only[ae];obtain⟨e3,D2,b1,b2⟩:=Xv (k:=k) (by omega) q2.clean q2.up q2.side (by omega) (b:=jU t) (by omega);rw[b1];simp only[ae];rcases Xy hk hr (by omega) q2.clean q2.side hM (by rw[List.append_nil];exact hs) DX q2.old b2 with⟨rfl,rfl,pf⟩|⟨rfl,p1,p2,p3⟩|⟨rfl,p1,p2,p3,p4⟩
   ·exact⟨o,wX r t ev,L1,_,rfl,k2,.done h0 h1 (q2.more (by omega)) q1⟩
   ·exact⟨o,wX r t ev,_,D2,rfl,p2.trans k2,.done h0 h1 (p3.more (by omega)) (p1.trans q1)⟩
   ·exact⟨o,Lp r t ev,_,D2,rfl,p2.trans k2,.late h0 h1 (q1.symm.trans p1) p3 (p4.more (by omega))⟩
 ·rw[show decide ((11:Int)=0)=false from rfl,show decide ((11:Int)=10)=false from rfl];exact ⟨[], Lp r s ev, L1, D1, rfl, k2, .lost h0 h1 q1 q2 (by
   rcases q3 with p|p
   ·exact .inl (p.more (by omega))
   ·exact .inr (p.more (by omega)))⟩
inductive P6 (k:Nat) (r:qF) (ev:Int) (N:Nat) (s:zT) (D:wE):((Int×wE×sG×gv)⊕(Int×wE))→Prop
 |up {L':gv} {D':wE} (hr:gp k r (N+1) s L' D') (fL:wI D'=wI D) (aO:D'.1=D.1):P6 k r ev N s D (.inl (0,D',wX r s ev,L'))
 |disk (hf:D.1<100000):P6 k r ev N s D (.inr (10,D))
 |lost {D':wE} (fL:wI D=true) (hd:kW D'=true) (hs:kX k r (N+1) s D') (aO:D'.1=D.1):P6 k r ev N s D (.inr (11,D'))
theorem vG8 {k:Nat}(hk:1000≤k){r:qF}(hr:vT r)(iO:qp k r=some true)(dY:qW r (jT r))(kD:qn k r=some (jT r).st){ev:Int}(aQ:1≤ev∧ev≤1000){N:Nat}(hN:N≤880){s:zT}{D:wE}(hu:kW D=false)(h:kX k r N s D):
  ∃x,jO k r D ev=some x∧P6 k r ev N s D x:=by
 obtain⟨hc,m,g,s0,rows,t,hm,ha,hb,ht,ho⟩:=h;have hl:=vNd hc;have hh:Has D m g (yA (gj s0.st)) rows:=⟨hm,ha.holds hk hr (by omega) hb ht,ho,by omega,by omega⟩;have Ca:=ha.gen;have xB:=G8 hk hr ha.i.inv;rw[vE4 hk hr iO dY kD aQ ha.i0 hh ha.kept,xB.1,ae];obtain⟨e,D',b1,b2⟩:=Xv (k:=k) (by omega) hc hu (L:=(m,g,(rows.length:Int),true)) hm (by show 1≤g∧g<_;omega) (b:=jU s) (by omega);rw[b1,ae];dsimp only;rcases Xy hk hr (by omega) hc hm ha hb ht ho b2 with⟨rfl,rfl,pf⟩|⟨rfl,p1,p2,p3⟩|⟨rfl,p1,p2,p3,p4⟩
 ·rw[ab (by decide)];exact⟨_,rfl,.disk pf⟩
 ·rw[aa rfl];exact⟨_,rfl,.up p3 p1 p2⟩
 ·rw[ab (by decide)];exact⟨_,rfl,.lost p1 p3 p4 p2⟩
end Go.Ab.Gi
namespace Go.Ab.Gi
open Go.Ab Go.RowKit
def P7:wE:=(200000,[],0,[],0,0,0,false,false,0)
def iP (k:Nat)(r:qF):wE:=match jO k r P7 1 with
 |some (.inl x)=>x.2.1
 |_=>P7
structure vK5 (k:Nat) (r:qF):Prop where
 new:P8 k 200000=some P7
 is:∀ev,1≤ev→ev≤1000→jO k r P7 ev=some (.inl (0,iP k r,wX r (jT r) ev,(0,1,0,false)))
 calm:(!(iP k r).2.2.2.2.2.2.2.1&& !(iP k r).2.2.2.2.2.2.2.2.1&&decide ((iP k r).1=200000)&&decide ((iP k r).2.1.length≤20000)&&decide ((iP k r).2.2.2.1.length≤20000))=true
inductive PS (k:Nat) (r:qF) (ev:Int) (N:Nat):zT→sG→gv→wE→Bool→Prop
 |up {s:zT} {L:gv} {D:wE} (h:gp k r N s L D):PS k r ev N s (wX r s ev) L D true
 |down {s s':zT} {L:gv} {D:wE} (hd:kW D=true) (h:kX k r N s D):PS k r ev N s (Lp r s' ev) L D false
theorem PS.more {k:Nat}{r:qF}{ev:Int}{N M:Nat}{s:zT}{G:sG}{L:gv}{D:wE}{u:Bool}(h:PS k r ev N s G L D u)(hM:N≤M):PS k r ev M s G L D u:=by
 cases h with
 |up h=>exact .up (h.more hM)
 |down hd h=>exact .down hd (h.more hM)
theorem PS.stored {k:Nat}{r:qF}{ev:Int}{N:Nat}{s:zT}{G:sG}{L:gv}{D:wE}{u:Bool}(h:PS k r ev N s G L D u):kX k r N s D:=by
 cases h with
 |up h=>exact h.stored
 |down hd h=>exact h
structure abD (k:Nat) (a:A6):Prop where
 who:Lq a.2.1
 len:a.2.2.1.length≤8*k∧a.2.2.1.length≤140737488355328
 keep:a.2.2.2.2<9223372036854775808
end Go.Ab.Gi
namespace Go.Ab.Gi
open Go.Ab Go.RowKit
theorem yOc {k}{r:qF}{s u:qh}{c:fJ}{o:List qT}{e}(h:im k r s c=some (u,o,e))(h9:c.2.1=9):u=s:=by
 unfold im at h;cases hm:uO k r s c with
 |none=>simp_all
 |some x=>
  cases hx:decide (x=0) with
  |false=>
   simp_all
  |true=>
   cases hq:BZ k s c.1 with
   |none=>simp_all
   |some y=>
    simp_all
theorem vAu {s t:zT}(h:s.st=t.st):s=t:=by
 obtain⟨a,⟨b1,b2,b3,b4⟩,c,d,e,f,g,i⟩:=s;unfold zT.st at h;simp_all
theorem yYw {k:Nat}(hk:1000≤k){r:qF}(hr:vT r):yCz k r:=fun s hs c hc hf=>by
 obtain⟨t,o,e,h1,h2⟩:=vFw hk hr hs.inv c;refine⟨t,o,e,h1,⟨h2.inv,fun x hx=>?_⟩,fun h=>(h2.bad h).1⟩;rcases h2.ids x hx with h|h
 ·exact hs.ids x h
 ·rw[h];exact(hf _ (List.mem_cons_self ..)).2
end Go.Ab.Gi
namespace Go.Ab.Gi
open Go.Ab Go.RowKit
def Ha (r:qF):Prop:=r=r0∨r=r1∨r=r2∨r=r3
theorem XA {r}(h:Ha r):P9 1000 r=some (jT r).st:=by
 rcases h with rfl|rfl|rfl|rfl<;>kernel_rfl
theorem XB {r}(h:Ha r):vK5 1000 r:=by
 rcases h with rfl|rfl|rfl|rfl
 ·exact⟨by kernel_rfl,fun ev h1 h2=>by
   unfold jO;rw[show qp 1000 r0=some true by kernel_rfl,ae,aB,an,ab (show¬ev<1 by omega),an,ab (show¬ev>1000 by omega),an]
   kernel_rfl,by kernel_rfl⟩
 ·exact⟨by kernel_rfl,fun ev h1 h2=>by
   unfold jO;rw[show qp 1000 r1=some true by kernel_rfl,ae,aB,an,ab (show¬ev<1 by omega),an,ab (show¬ev>1000 by omega),an]
   kernel_rfl,by kernel_rfl⟩
 ·exact⟨by kernel_rfl,fun ev h1 h2=>by
   unfold jO;rw[show qp 1000 r2=some true by kernel_rfl,ae,aB,an,ab (show¬ev<1 by omega),an,ab (show¬ev>1000 by omega),an]
   kernel_rfl,by kernel_rfl⟩
 ·exact⟨by kernel_rfl,fun ev h1 h2=>by
   unfold jO;rw[show qp 1000 r3=some true by kernel_rfl,ae,aB,an,ab (show¬ev<1 by omega),an,ab (show¬ev>1000 by omega),an]
   kernel_rfl,by kernel_rfl⟩
def yVh (r:qF):Bool:=decide ((iP 1000 r).2.2.1=((iP 1000 r).2.1.length:Int))&&decide ((iP 1000 r).2.2.2.2.1=0)&&decide ((iP 1000 r).2.2.2.1.length=0)&&decide ((iP 1000 r).2.2.2.2.2.2.1<9223372036854775808)&& !kW (iP 1000 r)&&decide ((iP 1000 r).2.1=jN [yC 1++jU (jT r)])&&decide ((jT r).to=0)&&(jT r).ids.all (fun x=>decide (x<9223372036854775808))
theorem vDk {r:qF}(h:Ha r):yVh r=true:=by
 rcases h with rfl|rfl|rfl|rfl<;>kernel_rfl
theorem fresh {r:qF}(h:Ha r)(w:uZ r):qo r (jT r)∧(jT r).to=0∧gp 1000 r 0 (jT r) (0,1,0,false) (iP 1000 r)∧(iP 1000 r).1=200000∧wI (iP 1000 r)=false:=by
 have c:=(XB h).calm;have f:=vDk h;simp only[yVh,bb,Bool.not_eq_true',aX,List.all_eq_true] at c f;obtain⟨⟨⟨⟨c1,c2⟩,c3⟩,c4⟩,c5⟩:=c;obtain⟨⟨⟨⟨⟨⟨⟨f1,f2⟩,f3⟩,f4⟩,f5⟩,f6⟩,f7⟩,f8⟩:=f;have i6:qo r (jT r):=⟨w.inv,f8⟩;refine⟨i6,f7,⟨⟨f1,by rw[f3];exact f2,by omega,by omega,by omega,f4⟩,f5,.inl rfl,rfl,by decide,⟨jT r,[],⟨i6,i6,.nil _,by decide,fun x hx=>absurd hx List.not_mem_nil,Nat.le_refl 0⟩,f6⟩,.inl ?_⟩,c3,c1⟩;have e:vI (iP 1000 r) (1-0)=(iP 1000 r).2.2.2.1:=rfl;show Cut (vI (iP 1000 r) (1-0));rw[e,List.eq_nil_of_length_eq_zero f3];exact DX
theorem vE2 {k:Nat}(hk:1000≤k){r:qF}(hr:vT r)(iO:qp k r=some true)(dY:qW r (jT r))(kD:qn k r=some (jT r).st){ev:Int}(aQ:1≤ev∧ev≤1000){N:Nat}(hN:N≤880){s:zT}{D:wE}(hu:kW D=false)(fL:wI D=false)(h:kX k r N s D):
  (∃D' L',jO k r D ev=some (.inl (0,D',wX r s ev,L'))∧gp k r (N+1) s L' D'∧wI D'=false∧D'.1=D.1)∨(jO k r D ev=some (.inr (10,D))∧D.1<100000):=by
 obtain⟨x,p1,p2⟩:=vG8 hk hr iO dY kD aQ hN hu h;cases p2 with
 |up q1 q2 q3=>exact .inl ⟨_,_,p1,q1,q2.trans fL,q3⟩
 |disk hf=>exact .inr ⟨p1,hf⟩
 |lost q1=>rw[fL] at q1;cases q1
end Go.Ab.Gi
namespace Go.Ab.Gi
open Go.Ab Go.RowKit
inductive Hb (r:qF):zT→List A6→zT→List (List qT)→Prop
 |nil (s:zT):Hb r s [] s []
 |cons {s t u:zT} {a:A6} {A:List A6} {o:List qT} {os:List (List qT)} (h:Xt 1000 r s a.2.1 (lv a.2.2.1) t o) (hi:qW r s) (g:Hb r t A u os):Hb r s (a::A) u (o::os)
theorem Hb.snoc {r:qF}{s t u:zT}{a:A6}{A:List A6}{o:List qT}{os:List (List qT)}(g:Hb r s A t os)(ht:qW r t)(h:Xt 1000 r t a.2.1 (lv a.2.2.1) u o):Hb r s (A++[a]) u (os++[o]):=by
 induction g with
 |nil s=>exact .cons h ht (.nil _)
 |cons h' hi _ ih=>exact .cons h' hi (ih ht h)
theorem XE (o:List qT)(h:o.length≤300):pc 1000 o o=some true:=by
 rw[vEt (by omega) (by omega),aa rfl]
end Go.Ab.Gi
namespace Go.Ab.Gi
open Go.Ab Go.RowKit
theorem XF (r s ev L D):ni 1000 (wX r s ev) L D=some (s.st,wX r s ev,L,D):=rfl
theorem XG {r:qF}(w:uZ r){ev:Int}(l:List fJ)(ag:List Bool)(e:Int){i:Nat}(hi:i<l.length)(hl:l.length≤60)(Qa:Lq (l.getD i (0,0,0,0,0,0,0,0)).1)(sr:iH (yB (l.getD i (0,0,0,0,0,0,0,0)).2)){N:Nat}(hN:N≤860){s:zT}{L:gv}{D:wE}(h:gp 1000 r N s L D)(fL:wI D=false)(ug:D.1=200000)(rec:Lr):
    ∃ s' L' D', ((sY 1000 (l.getD i (0,0,0,0,0,0,0,0)).2).bind fun Hc=>
    match Hc with
    | .inl XH => bif zB (i : Int) l.length then ((nY 1000 (wX r s ev) L D (l.getD i (0,0,0,0,0,0,0,0)).1 []).bind fun cP=>
      bif !(decide ((cP.1.length:Int)=1)) then some (.inr (.inr false))
      else bif zB 0 cP.1.length then ((wU 1000 16 [2]).bind fun gq=>
       bif !((decide ((cP.1.getD 0 (0,0,0,0,0,0,0,0)).2.1=gq.1))&&((decide ((cP.1.getD 0 (0,0,0,0,0,0,0,0)).2.2.1=gq.2.1))&&((decide ((cP.1.getD 0 (0,0,0,0,0,0,0,0)).2.2.2.1=gq.2.2.1))&&((decide ((cP.1.getD 0 (0,0,0,0,0,0,0,0)).2.2.2.2.1=gq.2.2.2.1))&&((decide ((cP.1.getD 0 (0,0,0,0,0,0,0,0)).2.2.2.2.2.1=gq.2.2.2.2.1))&&((decide ((cP.1.getD 0 (0,0,0,0,0,0,0,0)).2.2.2.2.2.2.1=gq.2.2.2.2.2.1))&&(decide ((cP.1.getD 0 (0,0,0,0,0,0,0,0)).2.2.2.2.2.2.2=gq.2.2.2.2.2.2)))))))) then some (.inr (.inr false))
       else rec (.inl (ev,l,ag,e,(zA ((i:Int)+1)),(r.1,r.2.2),r.2.1,(cP.2.2.2.1,cP.2.2.2.2.2.1,cP.2.2.2.2.2.2.2),cP.2.2.2.2.1,cP.2.2.2.2.2.2.1,cP.2.1,cP.2.2.1,s.st)))
      else none)
     else none
    | .inr Cb => bif zB (i : Int) l.length then ((nY 1000 (wX r s ev) L D (l.getD i (0,0,0,0,0,0,0,0)).1 Cb).bind fun iQ=>
      bif Nat.blt 0 Cb.length then (bif zB (i : Int) l.length then ((yh 1000 r s.st (l.getD i (0,0,0,0,0,0,0,0))).bind fun kf=>
        bif !(decide (kf.2.2 = 0)) then (bif zB (i : Int) l.length then ((wU 1000 16 [kf.2.2]).bind fun Ls=>
          (pc 1000 iQ.1 [((l.getD i (0,0,0,0,0,0,0,0)).1,Ls)]).bind fun Hd=>
          bif !Hd then some (.inr (.inr false))
          else(ni 1000 iQ.2.1 iQ.2.2.1 iQ.2.2.2).bind fun iR=>
          (qm 1000 iR.1 kf.1).bind fun nj=>
          bif !nj then some (.inr (.inr false))
          else rec (.inl (ev,l,ag,e,(zA ((i:Int)+1)),(r.1,r.2.2),r.2.1,(iR.2.2.2.1,iR.2.2.2.2.2.1,iR.2.2.2.2.2.2.2),iR.2.2.2.2.1,iR.2.2.2.2.2.2.1,iR.2.1,iR.2.2.1,kf.1)))
         else none)
        else(pc 1000 iQ.1 kf.2.1).bind fun Lt=>
        bif !Lt then some (.inr (.inr false))
        else(ni 1000 iQ.2.1 iQ.2.2.1 iQ.2.2.2).bind fun iS=>
        (qm 1000 iS.1 kf.1).bind fun Qb=>
        bif !Qb then some (.inr (.inr false))
        else rec (.inl (ev,l,ag,e,(zA ((i:Int)+1)),(r.1,r.2.2),r.2.1,(iS.2.2.2.1,iS.2.2.2.2.2.1,iS.2.2.2.2.2.2.2),iS.2.2.2.2.1,iS.2.2.2.2.2.2.1,iS.2.1,iS.2.2.1,kf.1)))
       else none)
      else none)
     else none)=rec (.inl (ev,l,ag,e,((i+1:Nat):Int),(r.1,r.2.2),r.2.1,(D'.1,D'.2.2.1,D'.2.2.2.2),D'.2.1,D'.2.2.2.1,wX r s' ev,L',s'.st))∧gp 1000 r (N+4) s' L' D'∧wI D'=false∧D'.1=200000:=by
  have hs:qW r s:=by
    obtain⟨_,_,hM,_⟩:=h.main;exact hM.i.inv
  obtain⟨⟨a,f⟩,hx⟩:∃x,l.getD i (0,0,0,0,0,0,0,0)=x:=⟨_,rfl⟩;rw[hx] at Qa sr⊢;dsimp only at Qa sr⊢;have bd:zB (i:Int) l.length=true:=jS (by omega) (by omega);have w1:zA ((i:Int)+1)=((i+1:Nat):Int):=qE hi (by omega);rw[bd,w1];obtain⟨t',o',e',q1,q2,q3⟩:=vMg w.ok hs (a,f);rcases vH5 sr with hb|⟨b,hb,fi,hb2,Lu⟩
  · obtain⟨o,G',L',D',d1,d2,d3⟩:=yJi (k:=1000) (Nat.le_refl _) w.ok (yYw (Nat.le_refl _) w.ok) (fun s c u o e h h9=>yOc h h9) (ev:=ev) (by omega) h Qa (b:=[]) (by simp) (by simp);cases d3 with
    |none hA=>
      refine⟨s,L,D,?_,h.more (by omega),fL,ug⟩;rw[hb];simp only[ae,ak];rw[d1];simp only[ae];rcases hA with⟨_,_,rfl⟩|⟨h0,_⟩
      · rw[GO];rfl
      · cases h0
    |disk hf p q=>omega
    |done hm hA hR fL=>cases hm
    |lost hm hA iT hd oK=>cases hm
    |late hm hA iT hd oK=>cases hm
  · obtain⟨o,G',L',D',d1,d2,d3⟩:=yJi (k:=1000) (Nat.le_refl _) w.ok (yYw (Nat.le_refl _) w.ok) (fun s c u o e h h9=>yOc h h9) (ev:=ev) (by omega) h Qa (b:=b) (by omega) (by omega);rw[Lu] at d3;have XI:D'.1=200000:=d2.trans ug;have blt:Nat.blt 0 b.length=true:=by rw[Nat.blt_eq];exact fi
    have abE:=q3.few;rw[hb];simp only[ae,ak];rw[d1];simp only[ae];rw[blt];simp only[ak];rw[q2];simp only[ae];cases d3 with
    |none hA=>
      refine⟨s,L,D,?_,h.more (by omega),fL,ug⟩;rcases hA with⟨h0,_⟩|⟨_,x,p,e0,p1,⟨he,_,rfl⟩|⟨he,nE,rfl⟩⟩
      · exact absurd rfl h0
      · have:=q1.symm.trans p1;simp only[Option.some.injEq,Prod.mk.injEq] at this;obtain⟨_,_,rfl⟩:=this;have et:=(q3.bad he).1;rw[ab he,GO,et];simp only[bZ,ak,ae];rw[XE _ (by simp)];simp only[ae,aB,an];rw[XF];simp only[ae];rw[Xn w.ok hs];rfl
      · have:=q1.symm.trans p1;simp only[Option.some.injEq,Prod.mk.injEq] at this;obtain⟨hu,rfl,rfl⟩:=this;have et:t'=s:=vAu (hu.trans nE);rw[aa he,et];simp only[aB,an];rw[XE _ (by omega)];simp only[ae,aB,an];rw[XF];simp only[ae];rw[Xn w.ok hs];rfl
    |disk hf p q=>omega
    |@done t _ _ _ hm hA hR iT=>
      have:=q1.symm.trans hA;simp only[Option.some.injEq,Prod.mk.injEq] at this;obtain⟨hu,rfl,rfl⟩:=this;have et:t'=t:=vAu hu;subst et;refine⟨t',L',D',?_,hR,iT.trans fL,XI⟩;simp only[decide_true,aB,an];rw[XE _ (by omega)];simp only[ae,aB,an];rw[XF];simp only[ae];rw[Xn w.ok q3.inv];rfl
    |lost hm hA iT hd oK=>rw[fL] at iT;cases iT
    |late hm hA iT hd oK=>rw[fL] at iT;cases iT
def zK (ev:Int)(l:List fJ)(ag:List Bool)(i:Int)(r:qF)(s:zT)(L:gv)(D:wE):Lr→Option He:=
 fun rec=>rec (.inl (ev,l,ag,0,i,(r.1,r.2.2),r.2.1,(D.1,D.2.2.1,D.2.2.2.2),D.2.1,D.2.2.2.1,wX r s ev,L,s.st))
theorem vO7 {r:qF}(w:uZ r)(iO:qp 1000 r=some true){ev:Int}(aQ:1≤ev∧ev≤1000)(l:List fJ)(ag:List Bool)(hl:l.length≤60)(hag:ag.length≤60)(hw:∀c∈l,Lq c.1∧iH (yB c.2)){s0:zT}{L0:gv}{D0:wE}(h0:gp 1000 r 0 s0 L0 D0)(fL:wI D0=false)(ug:D0.1=200000):
  ∃(G:sG) (L:gv) (D:wE),zK ev l ag 0 r s0 L0 D0 (pn 1000 1000)=some (.inr (.inl (0,G,L,(D.1,D.2.2.1,D.2.2.2.2),D.2.1,D.2.2.2.1))):=by
 obtain⟨x,h1,h2⟩:=vK (L:=fun n i (x:zT×gv×wE)=>zK ev l ag i r x.1 x.2.1 x.2.2 (pn 1000 n)) (N:=l.length)
  (fun x => (.inr (.inl (0, wX r x.1 ev, x.2.1, (x.2.2.1, x.2.2.2.2.1, x.2.2.2.2.2.2), x.2.2.2.1, x.2.2.2.2.2.1)) : He)) (fun i x => gp 1000 r (5 * i) x.1 x.2.1 x.2.2 ∧ wI x.2.2 = false ∧ x.2.2.1 = 200000) (fun n x _=>by
  show tc 1000 _ (.inl (ev,l,ag,0,(l.length:Int),(r.1,r.2.2),r.2.1,(x.2.2.1,x.2.2.2.2.1,x.2.2.2.2.2.2),x.2.2.2.1,x.2.2.2.2.2.1,wX r x.1 ev,x.2.1,x.1.st))=_;unfold tc;dsimp only;rw[ab (Int.lt_irrefl _)];rfl) (fun n i x hi hx=>by
  obtain⟨s,L,D⟩:=x;obtain⟨x1,x2,x3⟩:=hx;dsimp only at x1 x2 x3;have bD:=hw _ (gh (d:=((0,0,0,0,0,0,0,0):fJ)) hi);have bd:zB (i:Int) l.length=true:=jS (by omega) (by omega);by_cases ha:i<ag.length
  ·cases Lv:ag.getD i false with
   |true=>
    rcases vE2 (k:=1000) (Nat.le_refl _) w.ok iO w.inv w.new (ev:=ev) aQ (N:=5*i) (by omega) x1.up x2 x1.stored with⟨D2,L2,c1,c2,c3,c4⟩|⟨_,c2⟩
    ·obtain⟨s',L',D',g1,g2,g3,g4⟩:=XG w (ev:=ev) l ag 0 hi hl bD.1 bD.2 (N:=5*i+1) (by omega) c2 c3 (c4.trans x3) (pn 1000 n);refine⟨(s',L',D'),?_,g2,g3,g4⟩;show tc 1000 (pn 1000 n) (.inl (ev,l,ag,0,(i:Int),(r.1,r.2.2),r.2.1,(D.1,D.2.2.1,D.2.2.2.2),D.2.1,D.2.2.2.1,wX r s ev,L,s.st))=_;unfold tc;dsimp only;rw[aa (show(i:Int)<(l.length:Int) by omega),aa (show(i:Int)<(ag.length:Int) by omega),jS (n:=ag.length) (by omega) (by omega),au,Lv];simp only[ak];refine(congrArg (fun z=>Option.bind z _) c1).trans ?_;simp only[ae];rw[bd];simp only[ak];rw[bd] at g1;exact g1
    ·omega
   |false=>
    obtain⟨s',L',D',g1,g2,g3,g4⟩:=XG w (ev:=ev) l ag 0 hi hl bD.1 bD.2 (N:=5*i) (by omega) x1 x2 x3 (pn 1000 n);refine⟨(s',L',D'),?_,g2.more (by omega),g3,g4⟩;show tc 1000 (pn 1000 n) (.inl (ev,l,ag,0,(i:Int),(r.1,r.2.2),r.2.1,(D.1,D.2.2.1,D.2.2.2.2),D.2.1,D.2.2.2.1,wX r s ev,L,s.st))=_;unfold tc;dsimp only;rw[aa (show(i:Int)<(l.length:Int) by omega),aa (show(i:Int)<(ag.length:Int) by omega),jS (n:=ag.length) (by omega) (by omega),au,Lv,bd];simp only[ak,an];rw[bd] at g1;exact g1
  ·obtain⟨s',L',D',g1,g2,g3,g4⟩:=XG w (ev:=ev) l ag 0 hi hl bD.1 bD.2 (N:=5*i) (by omega) x1 x2 x3 (pn 1000 n);refine⟨(s',L',D'),?_,g2.more (by omega),g3,g4⟩;show tc 1000 (pn 1000 n) (.inl (ev,l,ag,0,(i:Int),(r.1,r.2.2),r.2.1,(D.1,D.2.2.1,D.2.2.2.2),D.2.1,D.2.2.2.1,wX r s ev,L,s.st))=_;unfold tc;dsimp only;rw[aa (show(i:Int)<(l.length:Int) by omega),ab (show¬(i:Int)<(ag.length:Int) by omega),bd,au];simp only[ak,an];rw[bd] at g1;exact g1) (n:=1000) (s:=(s0,L0,D0)) (by omega) ⟨h0,fL,ug⟩
 exact⟨_,_,_,h1⟩
theorem XJ {a ev:Int}{r:qF}(hr:kg 1000 a=some r)(w:uZ r)(hf:Ha r)(l:List fJ)(ag:List Bool)(hw:∀c∈l,Lq c.1∧iH (yB c.2)):Qc 1000 a ev l ag=some true:=by
 unfold Qc;by_cases q1:(l.length:Int)>60
 ·rw[aa q1];rfl
 rw[ab q1];by_cases q2:(ag.length:Int)>60
 ·rw[aa q2];rfl
 rw[ab q2];by_cases h1:ev<1
 ·rw[aa h1];rfl
 rw[ab h1];by_cases h2:ev>100
 ·rw[aa h2];rfl
 rw[ab h2];simp only[an];rw[hr];simp only[ae];obtain⟨i6,KR,hR,aO,XK⟩:=fresh hf w;have iO:qp 1000 r=some true:=by rcases hf with rfl|rfl|rfl|rfl<;>kernel_rfl
 rw[(XB hf).new];simp only[ae];refine(congrArg (fun z=>Option.bind z _) ((XB hf).is ev (by omega) (by omega))).trans ?_;simp only[ae];refine(congrArg (fun z=>Option.bind z _) (XA hf)).trans ?_;simp only[ae];obtain⟨G,L,D,e1⟩:=vO7 w iO (ev:=ev) (by omega) l ag (by omega) (by omega) hw hR XK aO;refine(congrArg (fun z=>Option.bind z _) e1).trans ?_;have hk:Qd 1000=some true:=by kernel_rfl
 simp only[ae,decide_true,ak];rw[hk];rfl
end Go.Ab.Gi
namespace Go.Ab.Gi
open Go.Ab Go.RowKit
theorem vH2 (a:Int):∃r,kg 1000 a=some r∧uZ r∧Ha r:=by
 unfold kg;cases decide (yL .i64 a 3=1) with
 |true=>exact⟨r1,rfl,Xp,.inr (.inl rfl)⟩
 |false=>
  cases decide (yL .i64 a 3=2) with
  |true=>exact⟨r2,rfl,vC0,.inr (.inr (.inl rfl))⟩
  |false=>
   cases decide (yL .i64 a 3=3) with
   |true=>exact⟨r3,rfl,vLw,.inr (.inr (.inr rfl))⟩
   |false=>exact⟨r0,rfl,vIv,.inl rfl⟩
theorem XM {l:List fJ}(h:l.length≤reachBytes∧∀i (hi:i<l.length),Wf (.pair (.int .i64) (.pair (.int .i64) (.pair (.int .i64) (.pair (.int .i64) (.pair (.int .i64) (.pair (.int .i64) (.pair (.int .i64) (.int .i64)))))))) l[i]):∀c∈l,(-9223372036854775808≤c.1∧c.1<9223372036854775808)∧iH (yB c.2):=fun a ha=>by
 obtain⟨i,hi,rfl⟩:=List.mem_iff_getElem.1 ha;have t:=h.2 i hi;refine⟨A2 t.1,fun x hx=>?_⟩;simp only[yB,List.mem_cons,List.not_mem_nil,or_false] at hx;rcases hx with rfl|rfl|rfl|rfl|rfl|rfl
 ·exact A2 t.2.2.1
 ·exact A2 t.2.2.2.1
 ·exact A2 t.2.2.2.2.1
 ·exact A2 t.2.2.2.2.2.1
 ·exact A2 t.2.2.2.2.2.2.1
 ·exact A2 t.2.2.2.2.2.2.2
end Go.Ab.Gi
