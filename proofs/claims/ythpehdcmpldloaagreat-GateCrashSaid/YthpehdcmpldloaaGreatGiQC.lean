/- Plain proofs, part 2. -/
import Derived.Test.YthpehdcmpldloaaGreatGiQB
import Derived.Test.YthpehdcmpldloaaGreatGiQA
set_option linter.unusedVariables false
set_option linter.unusedSimpArgs false
set_option maxRecDepth 100000
namespace Go.Ab.Gi
open Go.Ab
def vA (s t:zR):Prop:=∀i,i<s.B.1.length→(t.B.1.getD i ad).1<(s.B.1.getD i ad).1→0≤(t.B.1.getD i ad).1+(t.B.1.getD i ad).2.1
theorem vA.same {s t}(h:∀i,i<s.B.1.length→(t.B.1.getD i ad).1=(s.B.1.getD i ad).1):vA s t:=fun i hi bh=>by simp_all
theorem vA.refl s:vA s s:=vA.same (by simp)
theorem vA.book {s t}(h:t.B=s.B):vA s t:=vA.same (by grind)
theorem vA.set {s t:zR}{j:Nat}{a:qX}(h:t.B.1=s.B.1.set j a)(ha:a.1<(s.B.1.getD j ad).1→0≤a.1+a.2.1):vA s t:=fun i hi=>by
 rw[h,fm];split
 ·next h=>rw[←h.1];exact ha
 ·omega
theorem vHb (r:qD)(s:zR)(who:Int)(f:wI):vA s (iL r s who f).2:=by
 unfold iL;cases decide (f.1=5) with
 |true=>
  cases !((decide (f.2.1≥0)&&decide (f.2.1≤r.1-1))&& !decide (f.2.1=who))<;>cases !(decide (f.2.2.1≥-1)&&decide (f.2.2.1≤1152921504606846976))<;>exact vA.same fun _ _=>rfl
 |false=>
  cases decide (f.1=6) with
  |true=>cases !(decide (f.2.1≥-1)&&decide (f.2.1≤1152921504606846976))<;>exact vA.same fun _ _=>rfl
  |false=>
   cases !(decide (f.2.1≥0)&&decide (f.2.1≤1152921504606846976))
   ·exact vA.set (j:=who.toNat) rfl fun h=>absurd h (Int.lt_irrefl _)
   ·exact vA.refl s
theorem WT (r:qD)(s:zR)(who a n:Int):vA s (iM r s who a n).2:=by
 unfold iM;cases !(decide (a≥0)&&decide (a≤(r.2.1.length:Int)-1)) with
 |true=>exact vA.refl s
 |false=>
 cases !(decide (n≥0)&&decide (n≤1099511627776)) with
 |true=>exact vA.refl s
 |false=>
 simp only[ak];unfold Bk;generalize (s.ho.getD who.toNat []).set a.toNat n=h;cases decide (lW r.2.1 s.pr h>1152921504606846976) with
 |true=>exact vA.refl s
 |false=>
  cases decide (lW r.2.1 s.pr h<(s.B.1.getD who.toNat ad).2.1)&&decide ((s.B.1.getD who.toNat ad).1+lW r.2.1 s.pr h<0)
  ·exact vA.set (j:=who.toNat) rfl fun h=>absurd h (Int.lt_irrefl _)
  ·exact vA.refl s
theorem vQx (r:qD)(s:zR)(a p:Int):vA s (iN r s a p).2:=by
 unfold iN;cases !(decide (a≥0)&&decide (a≤(r.2.1.length:Int)-1)) with
 |true=>exact vA.refl s
 |false=>
 cases !(decide (p≥0)&&decide (p≤1048576)) with
 |true=>exact vA.refl s
 |false=>
 simp only[ak];unfold Br;cases qF (fun j=> !decide (fK r.2.1 (s.pr.set a.toNat p) s.ho j>1152921504606846976)) s.B.1.length 0
 ·exact vA.refl s
 ·exact vA.same fun i hi=>by show((sC r.2.1 (s.pr.set a.toNat p) s.ho s.B.1).getD i ad).1=_;rw[O7 _ _ _ _ hi]
theorem vHc {r:qD}{s:zR}(h:qV r s)(kd:Int){to n:Int}(h0:(iq r s kd to n).1=0):vA s (iq r s kd to n).2:=by
 have hn:=h.n;unfold iq at h0⊢;cases hc:decide (to≥0)&&decide (to≤r.1-1) with
 |false=>rw[hc] at h0;cases h0
 |true=>
 cases cL:decide (n≥1)&&decide (n≤1099511627776) with
 |false=>rw[hc,cL] at h0;cases h0
 |true=>
 rw[hc,cL] at h0;simp only[aA,ak] at h0⊢;simp only[ba,aX] at hc cL;have ha:=oW.1 (h.bk.acct to.toNat (by omega));have hr:0≤(s.B.1.getD to.toNat ad).2.2:=ha.2.2.1;cases hk:decide (kd=11) with
 |true=>
  rw[hk] at h0;simp only[aj] at h0⊢;unfold F5 at h0⊢;cases h1:decide ((s.B.1.getD to.toNat ad).1+(s.B.1.getD to.toNat ad).2.1-(s.B.1.getD to.toNat ad).2.2<n) with
  |true=>exact vA.refl s
  |false=>
  cases decide (s.to-n<0) with
  |true=>exact vA.refl s
  |false=>
  cases decide ((wT (s.B.1.getD to.toNat ad) (-n)).2=0) with
  |false=>exact vA.refl s
  |true=>
  cases decide (s.to-n>1152921504606846976) with
  |true=>exact vA.refl s
  |false=>
   simp only[decide_eq_false_iff_not] at h1;refine vA.set (j:=to.toNat) (a:=(wT (s.B.1.getD to.toNat ad) (-n)).1) rfl ?_;unfold wT;cases jY ((s.B.1.getD to.toNat ad).1+-n,(s.B.1.getD to.toNat ad).2.1,(s.B.1.getD to.toNat ad).2.2)
   ·exact fun h=>absurd h (Int.lt_irrefl _)
   ·show(s.B.1.getD to.toNat ad).1+-n<_→0≤(s.B.1.getD to.toNat ad).1+-n+(s.B.1.getD to.toNat ad).2.1;omega
 |false=>
  simp only[ak];unfold F6;cases decide ((wT (s.B.1.getD to.toNat ad) n).2=0) with
  |false=>exact vA.refl s
  |true=>
  cases decide (s.to+n>1152921504606846976) with
  |true=>exact vA.refl s
  |false=>
   refine vA.set (j:=to.toNat) (a:=(wT (s.B.1.getD to.toNat ad) n).1) rfl ?_;unfold wT;cases jY ((s.B.1.getD to.toNat ad).1+n,(s.B.1.getD to.toNat ad).2.1,(s.B.1.getD to.toNat ad).2.2)
   ·exact fun h=>absurd h (Int.lt_irrefl _)
   ·show(s.B.1.getD to.toNat ad).1+n<_→_;omega
structure GI (r:qD) (s:zR) (f:wI) (t:zR) (l:List qZ):Prop where
 inv:qV r t
 tk:t.t=s.t
 ov:t.ov=s.ov
 few:l.length≤2
 to:t.to=s.to+(if f.1=10 then f.2.2.1 else if f.1=11 then-f.2.2.1 else 0)
 fell:vA s t
 kd:Kd l
 ids:∀x∈t.ids,x∈s.ids∨x=f.2.1
theorem vSm {k:Nat}(hk:1000≤k){r:qD}(hr:vO r){s:zR}(h:qV r s)(ho:s.ov=false){who:Int}(hw:0≤who∧who<r.1){f:wI}(hf:1≤f.1∧f.1≤8){x:qZ}(kn:Kd [x]):
  ∃e d,GD k (dk r s who [x]) f=some (e,d)∧(e=0→∃t l,d=dk r t who l∧GI r s f t l):=by
 unfold GD;have I1:¬f.1=10:=by omega
 have Uw:¬f.1=11:=by omega
 have h0:s.to=s.to+(if f.1=10 then f.2.2.1 else if f.1=11 then-f.2.2.1 else 0):=by rw[if_neg I1,if_neg Uw];omega
 by_cases h1:f.1=1
 ·rw[aa h1];obtain⟨d,e1,e2⟩:=yYe hk hr h.waits who [x] f;simp only[aj];rw[e1];refine⟨_,d,rfl,fun e=>⟨_,_,e2 e,h.queue ho (yEh hr h e),rfl,rfl,by simp,h0,vA.book rfl,kn,vBl e⟩⟩
 rw[ab h1];by_cases hq:f.1=2∨f.1=3∨f.1=4
 ·obtain⟨d,e1,e2⟩:=yLk hk h.waits who (l:=[x]) (by simp) f;have g:∃e d,(xA k (dk r s who [x]) f).bind (fun x=>some (x.1,x.2))=some (e,d)∧(e=0→∃t l,d=dk r t who l∧GI r s f t l):=by
   rw[e1];refine⟨_,d,rfl,fun e=>⟨_,_,e2 e,h.queue ho (yCt h e),rfl,rfl,?_,h0,vA.book rfl,kn.append yXl,fun _ h=>.inl h⟩⟩;have:=yNp (r:=r) (s:=s) (who:=who) (f:=f);rw[List.length_append];simp;omega
  rcases hq with e|e|e
  ·rw[aa e];exact g
  ·rw[ab (show¬f.1=2 by omega),aa e];exact g
  ·rw[ab (show¬f.1=2 by omega),ab (show¬f.1=3 by omega),aa e];exact g
 rw[ab (show¬f.1=2 by omega),ab (show¬f.1=3 by omega),ab (show¬f.1=4 by omega)];by_cases hq:f.1=5∨f.1=6∨f.1=7
 ·obtain⟨d,e1,e2⟩:=yGv hk hr h.bk h.n hw [x] f;have g:∃e d,(xB k (dk r s who [x]) f).bind (fun x=>some (x.1,x.2))=some (e,d)∧(e=0→∃t l,d=dk r t who l∧GI r s f t l):=by
   rw[e1];have bb:=yMy r s who f;refine⟨_,d,rfl,fun e=>⟨_,_,e2 e,yZk h hw e,bb.1,bb.2.1,by simp,bb.2.2.trans h0,vHb r s who f,kn,by rw[yLw];exact fun _ h=>.inl h⟩⟩
  rcases hq with e|e|e
  ·rw[aa e];exact g
  ·rw[ab (show¬f.1=5 by omega),aa e];exact g
  ·rw[ab (show¬f.1=5 by omega),ab (show¬f.1=6 by omega),aa e];exact g
 rw[ab (show¬f.1=5 by omega),ab (show¬f.1=6 by omega),ab (show¬f.1=7 by omega),aa (show f.1=8 by omega)];obtain⟨d,e1,e2⟩:=yRr hk hr h hw [x] f.2.1 f.2.2.1;simp only[aj,ak];rw[e1];have bb:=yZj r s who f.2.1 f.2.2.1;exact⟨_,d,rfl,fun e=>⟨_,_,e2 e,yCd hr h hw e,bb.1,bb.2.1,by simp,bb.2.2.trans h0,WT r s who _ _,kn,by rw[yTj];exact fun _ h=>.inl h⟩⟩
theorem vUt {k:Nat}(hk:1000≤k){r:qD}(hr:vO r){s:zR}(h:qV r s)(who:Int){f:wI}(hf:10≤f.1∧f.1≤14):
  ∃e d,xS k (eQ r s who) f=some (e,d)∧(e=0→∃t l,d=dk r t who l∧GI r s f t l):=by
 unfold xS;rw[ab (show¬f.1=1 by omega),ab (show¬f.1=2 by omega),ab (show¬f.1=3 by omega),ab (show¬f.1=4 by omega),ab (show¬f.1=5 by omega),ab (show¬f.1=6 by omega),ab (show¬f.1=7 by omega),ab (show¬f.1=8 by omega)];by_cases hq:f.1=10∨f.1=11
 ·obtain⟨d,e1,e2⟩:=vAo hk hr h who f.1 f.2.1 f.2.2.1;have g:∃e d,(Bq k (eQ r s who) f.1 f.2.1 f.2.2.1).bind (fun x=>some (x.1,x.2))=some (e,d)∧(e=0→∃t l,d=dk r t who l∧GI r s f t l):=by
   rw[e1];refine⟨_,d,rfl,fun e=>?_⟩;obtain⟨g1,g2,g3,g4,g5⟩:=yQs h e;refine⟨_,_,e2 e,g1,g5,yTn,by simp,?_,vHc h _ e,mW,by rw[g4];exact fun _ h=>.inl h⟩;rw[g2];rcases hq with e|e
   ·rw[if_neg (by omega),if_pos e]
   ·rw[if_pos e,if_neg (by omega),if_pos e]
  rcases hq with e|e
  ·rw[aa e];exact g
  ·rw[ab (show¬f.1=10 by omega),aa e];exact g
 have h0:s.to=s.to+(if f.1=10 then f.2.2.1 else if f.1=11 then-f.2.2.1 else 0):=by rw[if_neg (by omega),if_neg (by omega)];omega
 rw[ab (show¬f.1=10 by omega),ab (show¬f.1=11 by omega)];by_cases hp:f.1=12
 ·rw[aa hp];obtain⟨d,e1,e2⟩:=vAk hk hr h who f.2.1 f.2.2.1;simp only[aj,ak];rw[e1];have bb:=yMo r s f.2.1 f.2.2.1;exact⟨_,d,rfl,fun e=>⟨_,_,e2 e,yH0 h e,bb.1,bb.2.1,by simp,bb.2.2.trans h0,vQx r s _ _,mW,by rw[yC6];exact fun _ h=>.inl h⟩⟩
 ·rw[ab hp];exact⟨_,_,rfl,fun _=>⟨s,[],rfl,h,rfl,rfl,by simp,h0,vA.refl s,mW,fun _ h=>.inl h⟩⟩
theorem vSk {k}(hk:1000≤k){r s}(h:qV r s){who}(hw:0≤who∧who<r.1):∃o,BE k s.st who=some o∧kO o∧o.length≤100:=by
 have hm:=h.waits.len;have hn:=h.n;have hb:zB who s.B.1.length=true:=fl hw.1 (by omega);unfold BE;have e1:s.st.2.1=s.B.1:=rfl;have e2:s.st.2.2.2.2.2.2.2.1=s.m:=rfl;rw[e1,e2,hb,VH (by omega) (by unfold qO;omega)];exact⟨_,rfl,(GB (by simp)).ne,by simp⟩
structure WU (k:Nat) (r:qD) (s:zR) (c:gL) (t:zR) (o:List qZ) (e:Int):Prop where
 inv:qV r t
 bad:e≠0→t=s∧o=[]
 to:e=0→t.to=s.to+(if c.2.1=10 then c.2.2.2.1 else if c.2.1=11 then-c.2.2.2.1 else 0)
 still:t=s∨(t.ov=false→jP k t.B (vS t.m t.t)=none)
 fell:vA s t
 ne:kO o
 few:o.length≤100
 ids:∀x∈t.ids,x∈s.ids∨x=c.2.2.1
theorem vA.kept {s t u}(h:vA s t)(hl:t.B.1.length=s.B.1.length)(g:jM t.B u.B):vA s u:=fun i hi=>by
 have h1:=h i hi;have h2:=g.fell i (by omega);have h3:=g.cred i (by omega);omega
theorem vL0 {k}(hk:1000≤k){r}(hr:vO r){s}(h:qV r s)(ho:s.ov=false) c (hc:c.2.1=14):
  ∃t o,(uw k r.1 r.2.1 r.2.2.1 r.2.2.2.1 r.2.2.2.2 s.t s.B.1 s.B.2.1 s.B.2.2.1 s.B.2.2.2 s.pr s.ho s.m s.ids s.to s.ov).bind (fun x4=>some ((qQ x4),x4.2.2.2.2.2.2.2.2.2.2.2,(0:Int)))=some (t.st,o,(0:Int))∧WU k r s c t o 0:=by
 obtain⟨C,m',ov,o,e1,e2,e3,e4,e6,e5⟩:=yNo hk hr h ho;rw[e1];refine⟨{s with t:=s.t+1,B:=C,m:=m',ov:=ov},o,rfl,e2,by simp,fun _=>?_,.inr e4,e3.fell,?_,e6,by grind⟩
 rotate_left
 ·rcases e5 with⟨_,_,rfl,_⟩|⟨l,d,n,rfl,_,_,_⟩
  ·exact(Pp (.inr rfl) _).ne.append (yCr _ _)
  ·exact((Pp (.inl rfl) _).append (KG _)).ne
 simp_all
theorem yXj {k}(hk:1000≤k){r}(hr:vO r){t}(h:qV r t)(ho:t.ov=false) who {l}(hl:l.length≤2)(wu:Kd l)(f:wI):
    ∃ u o, ((oU k t.t t.B.1 t.B.2.1 t.B.2.2.1 t.B.2.2.2 t.pr t.ho t.m t.ids t.to t.ov (decide (f.1=13))).bind fun x5=>
      bif zP (l.length + x5.2.2.2.2.2.2.2.2.2.2.2.length) 64 then (let y0:List qZ:=(l++x5.2.2.2.2.2.2.2.2.2.2.2)
       bif decide (f.1 = 1) then ((nM k x5.2.2.2.2.2.2.2.1 f.2.1).bind fun x6=>
        bif decide (x6 ≥ 0) then ((uz k (GH ((0:Int),dk r t who l) y0) 19 [f.2.1]).bind fun x7=>
         some ((qQ x5),x7.2.2.2.2.2.2.2.2.2.2.2.2.2.2.2.2.2,(0:Int)))
        else some ((qQ x5),y0,0))
       else some ((qQ x5),y0,0))
      else none)=some (u.st,o,(0:Int))∧qV r u∧u.to=t.to∧jP k u.B (vS u.m u.t)=none∧jM t.B u.B∧kO o∧o.length≤100∧u.ids=t.ids:=by
  have hm:=h.waits.len;obtain⟨C,m',d,e1,e2,e3,e4,e5,e6,e7⟩:=vJ2 (k:=k) (by omega) h.bk h.waits.dist h.waits.may (by omega) t.t t.pr t.ho t.ids t.to t.ov (decide (f.1=13));rw[e1];have hd:d.length≤40:=by
    have:=e6.length_eq;grind
  have lO:=e5.length_le;have ph:=Bg d;simp;rw[qJ (n:=l.length+(yX d).length) (by omega) (by omega)];have hu:=h.settled ho e3 e4 e5;have fin:∀o:List qZ,Kd o→o.length≤100→∃u o',some (({t with B:=C,m:=m'}:zR).st,o,(0:Int))=some (u.st,o',(0:Int))∧qV r u∧u.to=t.to∧jP k u.B (vS u.m u.t)=none∧jM t.B u.B∧kO o'∧o'.length≤100∧u.ids=t.ids:=fun o ho hl=>⟨{t with B:=C,m:=m'},o,rfl,hu,rfl,e7,e4,ho.ne,hl,rfl⟩
  have k1:Kd (l++yX d):=wu.append (KG _);have b1:(l++yX d).length≤90:=by rw[List.length_append];omega
  cases decide (f.1=1) with
  |false=>exact fin _ k1 (by omega)
  |true=>
    rw[A4 (by omega) (by omega)];simp;cases decide (j0 m' f.2.1≥0) with
    |false=>exact fin _ k1 (by omega)
    |true=>
      have ej:GH ((0:Int),dk r t who l) (l++yX d)=dk r t who (l++yX d):=rfl;rw[ej,VU (by omega)];exact fin (l++yX d++[gK who 19 f.2.1]) (k1.append (GB ⟨by unfold gK;simp,by unfold gK;simp⟩)) (by grind)
theorem vTb {k}(hk:1000≤k){r}(hr:vO r){s}(h:qV r s)(c:gL):
  ∃t o e,gM k r s.st c=some (t.st,o,e)∧WU k r s c t o e:=by
 unfold gM;obtain⟨e,he,hm⟩:=yHh (k:=k) (by omega) r s c;rw[he];simp only[ae];by_cases h0:e=0
 ·obtain⟨hw,uK⟩:=hm h0;rw[aa h0];simp only[aA,ak];by_cases h9:c.2.1=9
  ·rw[aa h9];have oI:0≤c.1∧c.1<r.1:=by omega
   obtain⟨o,ho,bm,hol⟩:=vSk hk h oI;simp only[aj];rw[ho];refine⟨s,o,0,rfl,h,fun e=>absurd rfl e,fun _=>?_,.inl rfl,vA.refl s,bm,hol,fun _ h=>.inl h⟩;rw[if_neg (by omega),if_neg (by omega)];omega
  ·rw[ab h9];simp only[ak];have ho:s.ov=false:=by
    cases g:s.ov with
    |false=>rfl
    |true=>exact absurd (uK g) h9
   have fin:∀{t:zR} {l:List qZ},GI r s c.2 t l→∀{x:Option (pS×List qZ×Int)},(∃u o,x=some (u.st,o,(0:Int))∧qV r u∧u.to=t.to∧jP k u.B (vS u.m u.t)=none∧jM t.B u.B∧kO o∧o.length≤100∧u.ids=t.ids)→∃t o e,x=some (t.st,o,e)∧WU k r s c t o e:=by
    intro t l hd x ⟨u,o,g1,g2,g3,g4,g5,g6,g7,g8⟩;exact⟨u,o,0,g1,g2,fun e=>absurd rfl e,fun _=>g3.trans hd.to,.inr fun _=>g4,hd.fell.kept (by have:=hd.inv.n;have:=h.n;omega) g5,g6,g7,by rw[g8];exact hd.ids⟩
   by_cases hp:c.1= -1
   ·rw[aa hp];have hf:10≤c.2.1∧c.2.1≤14:=by omega
    obtain⟨e,d,g1,g2⟩:=vUt hk hr h c.1 (f:=c.2) hf;have ed:jE r (wP s.st c.1)=eQ r s c.1:=rfl;simp only[aA,ak];rw[ed,g1];simp only[ae];by_cases hz:e=0
    ·obtain⟨t,l,rfl,hd⟩:=g2 hz;rw[aa hz];by_cases BF:c.2.1=14
     ·rw[aa BF];simp only[aj];obtain⟨t,o,q1,q2⟩:=vL0 hk hr h ho c BF;exact⟨t,o,0,q1,q2⟩
     ·rw[ab BF];simp only[ak];exact fin hd (yXj hk hr hd.inv (hd.ov.trans ho) c.1 hd.few hd.kd c.2)
    ·rw[ab hz];exact⟨s,[],e,rfl,h,fun _=>⟨rfl,rfl⟩,fun e'=>absurd e' hz,.inl rfl,vA.refl s,mW.ne,Nat.zero_le _,fun _ h=>.inl h⟩
   ·rw[ab hp];have hf:1≤c.2.1∧c.2.1≤8:=by omega
    have oI:0≤c.1∧c.1<r.1:=by omega
    have ed:KH k (jE r (wP s.st c.1)) 15 []=some (dk r s c.1 [gK c.1 15 0]):=rfl;obtain⟨e,d,g1,g2⟩:=vSm hk hr h ho oI (f:=c.2) hf (x:=gK c.1 15 0) (GB ⟨by unfold gK;simp,by unfold gK;simp⟩);simp only[bQ,aj];rw[ed];simp only[ae];rw[g1];simp only[ae];by_cases hz:e=0
    ·obtain⟨t,l,rfl,hd⟩:=g2 hz;rw[aa hz,ab (show¬c.2.1=14 by omega)];simp only[aA,ak];exact fin hd (yXj hk hr hd.inv (hd.ov.trans ho) c.1 hd.few hd.kd c.2)
    ·rw[ab hz];exact⟨s,[],e,rfl,h,fun _=>⟨rfl,rfl⟩,fun e'=>absurd e' hz,.inl rfl,vA.refl s,mW.ne,Nat.zero_le _,fun _ h=>.inl h⟩
 ·rw[ab h0];exact⟨s,[],e,rfl,h,fun _=>⟨rfl,rfl⟩,fun e'=>absurd e' h0,.inl rfl,vA.refl s,mW.ne,Nat.zero_le _,fun _ h=>.inl h⟩
theorem vS6 {k:Nat}(hk:1000≤k){n:Nat}{m:List zH}{ids:AC}(h:j4 n m ids):KI k m=some true:=by
 have hm:=h.len;have e1 : BH k k m m (m.length : Int) 0 = some (.inl m) := Kk (L := fun n i => BH k n m m (m.length : Int) i) (fun n=>by
  show GJ k _ m m (m.length:Int) (m.length:Int)=_;unfold GJ;rw[ab (Int.lt_irrefl _)];rfl) (fun n i hi=>by
  show GJ k (BH k n) m m (m.length:Int) (i:Int)=_;unfold GJ;have e:m.getD i (0,0,0,0,0,0,0)=m.getD i pd:=rfl;rw[aa (show(i:Int)<m.length by omega),qB,aa hi,aq,e,A4 (by omega) (by omega),yQ9 h.dist hi,qE hi (by omega)];simp only[aj,ae,decide_true,aA,ak]) (by omega)
 have e2:Pt k m=some true:=by
  have down:∀(i n:Nat),i<n→i<m.length∨i=0→KJ k n m (i:Int)=some (.inl ()):=by
   intro i
   induction i with
   |zero=>
    intro n hn _;obtain⟨n,rfl⟩:∃x,n=x+1:=⟨n-1,by omega⟩;rfl
   |succ i ih=>
    intro n hn hi;obtain⟨n,rfl⟩:∃x,n=x+1:=⟨n-1,by omega⟩;have bH:i+1<m.length:=by omega
    show Pu k (KJ k n) m ((i+1:Nat):Int)=_;unfold Pu;have w:zA (((i+1:Nat):Int)-1)=(i:Int):=by rw[zN (by omega) (by omega)];omega
    rw[aa (show((i+1:Nat):Int)>0 by omega),w,qB,qB,aa bH,aa (show i<m.length by omega),aq,aq];simp only[aj];obtain⟨x,x1,x2,x3⟩:=Ve (k:=k) (by omega) (m.getD (i+1) pd) (m.getD i pd);have hs:=List.pairwise_iff_getElem.1 h.sort i (i+1) (by omega) bH (by omega);rw[←FX (d:=pd) m (by omega),←FX (d:=pd) m bH] at hs;have nx:¬x<0:=fun q=>by
     have:j3 (m.getD (i+1) pd) (m.getD i pd)=true:=by rw[←x3];exact aa q
     rw[Ws] at this;rw[Ks] at hs;omega
    refine(congrArg (fun z=>Option.bind z _) x1).trans ?_;simp only[ae];rw[ab nx];exact ih n (by omega) (.inl (by omega))
  unfold Pt;by_cases hz:m.length=0
  ·have:m=[]:=List.eq_nil_of_length_eq_zero hz;subst this;have w:zA (((([]:List zH).length:Nat):Int)-1)= -1:=by rw[zN (by decide) (by decide)];rfl
   rw[w];obtain⟨j,rfl⟩:∃x,k=x+1:=⟨k-1,by omega⟩;rfl
  ·have w:zA ((m.length:Int)-1)=((m.length-1:Nat):Int):=by rw[zN (by omega) (by omega)];omega
   rw[w,down (m.length-1) k (by omega) (.inl (by omega))];rfl
 unfold KI;rw[e1];simp only[ae];rw[aa (show(m.length:Int)≤40 by omega),e2];rfl
theorem vIj {k:Nat}(hk:1000≤k){n:Nat}{m:List zH}{ids:AC}(h:j4 n m ids):KK k ids=some true:=by
 have hl:=h.idl;obtain ⟨s, e1, _⟩ := vJ (L := fun n i (p : Int) => KL k n ids p ids (ids.length : Int) i) (N := ids.length) (fun _ => (.inl ids : AC ⊕ Bool)) (fun i p => p = if i = 0 then 0 else ids.getD (i - 1) 0) (fun n p _=>by
  show GK k _ ids p ids (ids.length:Int) (ids.length:Int)=_;unfold GK;rw[ab (Int.lt_irrefl _)];rfl) (fun n i p hi hp=>by
  refine⟨ids.getD i 0,?_,by rw[if_neg (by omega)];rfl⟩;show GK k (KL k n) ids p ids (ids.length:Int) (i:Int)=_;unfold GK;have bh:¬ids.getD i 0≤p:=by
   rw[hp];by_cases z:i=0
   ·rw[if_pos z];have:=h.pos _ (gh (d:=0) hi);omega
   ·rw[if_neg z];have:=List.pairwise_iff_getElem.1 h.asc (i-1) i (by omega) hi (by omega);rw[←FX (d:=0) ids (by omega),←FX (d:=0) ids hi] at this;omega
  rw[aa (show(i:Int)<ids.length by omega),qB,aa hi,aq,ab bh,qE hi (by omega)];rfl) (n:=k) (s:=0) (by omega) rfl
 unfold KK;rw[e1];simp only[ae];rw[aa (show(ids.length:Int)≤200 by omega)]
theorem WV {k}(hk:1000≤k){r s}(h:qV r s):KM k s.st=some true:=by
 have hw:=h.waits;have hm:=hw.len;have e1:KM k s.st=(KI k s.m).bind fun x0=>bif x0 then((KK k s.ids).bind fun x1=>bif x1 then((Pv k s.m s.t s.B.1 s.B.2.1 s.B.2.2.1 s.B.2.2.2 s.pr s.ho s.m s.ids s.to s.ov).bind fun x2=>some (!x2)) else some false) else some false:=rfl
 rw[e1,vS6 hk hw,vIj hk hw];have e2 : BI k k s.m (s.m.length : Int) 0 s.t s.B.1 s.B.2.1 s.B.2.2.1 s.B.2.2.2 s.pr s.ho s.m s.ids s.to s.ov = some (.inl ()) := Kk (L := fun n i => BI k n s.m (s.m.length : Int) i s.t s.B.1 s.B.2.1 s.B.2.2.1 s.B.2.2.2 s.pr s.ho s.m s.ids s.to s.ov) (fun n=>by
  show GL k _ s.m (s.m.length:Int) (s.m.length:Int) s.t s.B.1 s.B.2.1 s.B.2.2.1 s.B.2.2.2 s.pr s.ho s.m s.ids s.to s.ov=_;unfold GL;simp) (fun n i hi=>by
  show GL k (BI k n) s.m (s.m.length:Int) (i:Int) s.t s.B.1 s.B.2.1 s.B.2.2.1 s.B.2.2.2 s.pr s.ho s.m s.ids s.to s.ov=_;unfold GL;have bL:s.m.getD i pd∈s.m:=gh hi;have ht:=hw.time _ bL;have an:=hw.were _ bL;have f1:Pw k (s.m.getD i pd) (s.t,s.B.1,s.B.2.1,s.B.2.2.1,s.B.2.2.2,s.pr,s.ho,s.m,s.ids,s.to,s.ov)=some false:=by
   unfold Pw;rw[Nw];have bR:pJ s.B.1.length (s.m.getD i pd)=true:=Uy.2 (hw.may _ bL);have KN:pJ s.B.1.length ((s.m.getD i pd).1,(s.m.getD i pd).2.1,(s.m.getD i pd).2.2.1,(s.m.getD i pd).2.2.2.1,(s.m.getD i pd).2.2.2.2.1,(s.m.getD i pd).2.2.2.2.2.1,(s.m.getD i pd).2.2.2.2.2.2)=true:=bR;rw[KN];rw[ab (by grind),mU,aa (by grind),aa (by grind)];have hI:=hw.idl;rw[vG7 (by omega) (by omega) hw.asc,aa an];rfl
  have e:s.m.getD i (0,0,0,0,0,0,0)=s.m.getD i pd:=rfl;rw[aa (by grind),qB,aa hi,aq,e,f1,qE hi (by omega)];rfl) (by omega)
 unfold Pv WW;simp_all
theorem vXl {k}(hk:1000≤k){r}(hr:vO r){s}(h:qV r s):KO k s.pr=some false:=by
 have lL:=h.bk.n1;have L:=h.laid 0 (by omega);have h3:=L.n3;have hp:=L.pl;have e2 : BJ k k s.pr (s.pr.length : Int) 0 = some (.inl ()) := Kk (L := fun n i => BJ k n s.pr (s.pr.length : Int) i) (fun n=>by
  show GM k _ s.pr (s.pr.length:Int) (s.pr.length:Int)=_;unfold GM;simp) (fun n i hi=>by
  show GM k (BJ k n) s.pr (s.pr.length:Int) (i:Int)=_;unfold GM WX;have hv:=L.price i (by omega);rw[aa (by grind),qB,aa hi,aq,mU,aa (by grind),aa (by grind),qE hi (by omega)];rfl) (by omega)
 unfold KO WY;simp_all
theorem vOy {k}(hk:1000≤k){sa pr h}(L:kJ sa pr h):Px k h=some false:=by
 have h3:=L.n3;have hp:=L.hl;have e2 : BK k k h (h.length : Int) 0 = some (.inl ()) := Kk (L := fun n i => BK k n h (h.length : Int) i) (fun n=>by
  show GN k _ h (h.length:Int) (h.length:Int)=_;unfold GN;simp) (fun n i hi=>by
  show GN k (BK k n) h (h.length:Int) (i:Int)=_;unfold GN WZ;have hv:=L.hold i (by omega);rw[aa (by grind),qB,aa hi,aq,ab (by grind),qE hi (by omega)];rfl) (by omega)
 unfold Px W0;simp_all
theorem vJ3 {k}(hk:1000≤k){r}(hr:vO r){s}(h:qV r s):KP k r s.st=some true:=by
 have lL:=h.bk.n1;have gl:=h.bk.n6;have hn:=h.n;have hol:=h.hol;have L:=h.laid 0 (by omega);have e0:KP k r s.st=bif !(decide ((s.pr.length:Int)=(r.2.1.length:Int))) then some false
  else bif !(decide ((s.ho.length:Int)=r.1)) then some false
  else(KO k s.pr).bind fun x0=>
  bif x0 then some false
  else(xT k k s.ho (s.ho.length:Int) 0 r s.st).bind fun z=>
  match z with
  |.inl z1=>some true
  |.inr z2=>some z2:=rfl
 have e2 : xT k k s.ho (s.ho.length : Int) 0 r s.st = some (.inl ()) := Kk (L := fun n i => xT k n s.ho (s.ho.length : Int) i r s.st) (fun n=>by
  show GO k (xT k n) s.ho (s.ho.length:Int) (s.ho.length:Int) r s.st=_;unfold GO;simp) (fun n i hi=>by
  show GO k (xT k n) s.ho (s.ho.length:Int) (i:Int) r s.st=_;unfold GO;have bH:i<s.B.1.length:=by omega
  have Li:=h.laid i bH;have hc:(s.B.1.getD i ad).2.1=_:=h.cred i bH;have hm:(s.B.1.getD i ad).2.1≤_:=h.most i bH;have ep:s.st.2.2.2.2.2.1=s.pr:=rfl;have ea:s.st.2.1=s.B.1:=rfl;have ed:s.B.1.getD i (0,0,0)=s.B.1.getD i ad:=rfl;rw[aa (by grind),qB,aa hi,aq,ep,Vt Li (by omega),ea,qB,aa bH,ed,vOy hk Li,qE hi (by omega)];grind) (by omega)
 rw[e0,aa (show(s.pr.length:Int)=(r.2.1.length:Int) by rw[L.pl]),aa (by grind),vXl hk hr h,e2];rfl
theorem vXi (s:zR):iI ((List.range s.B.1.length).map fun j=>(s.B.1.getD j ad).1)=qG (fun j=>(s.B.1.getD j ad).1) s.B.1.length:=Vs _ _
theorem W1 {k}(hk:1000≤k){r}(hr:vO r){s}(h:qV r s):KQ k r s.st=some true:=by
  have gl:=h.bk.n6;have ht:=h.tk;have Ku:=h.tot;have W2:AP k s.B.1 s.B.2.1 s.B.2.2.1 s.B.2.2.2=some true:=by rw[yB9 (by omega),Nt.2 h.bk]
  obtain ⟨x, h1, h2⟩ := vJ (L := fun n j (x : AC) => GP k n s.B.1 (s.B.1.length : Int) j r s.st x) (N := s.B.1.length) (fun x => (r, s.st, x)) (fun j x => x = (List.range j).map fun j => (s.B.1.getD j ad).1) (fun n x _=>by
    show GQ k _ s.B.1 (s.B.1.length:Int) (s.B.1.length:Int) r s.st x=_;unfold GQ;simp) (fun n j x hj hx=>by
    refine⟨x++[(s.B.1.getD j ad).1],?_,?_⟩
    · show GQ k (GP k n) s.B.1 (s.B.1.length:Int) (j:Int) r s.st x=_;unfold GQ;have hl:x.length=j:=by simp_all
      rw[aa (by grind),qB,aa hj,qJ (by omega) (by omega),aq,qE hj (by omega)];rfl
    · rw[hx,List.range_succ,List.map_append];rfl) (n:=k) (s:=[]) (by omega) rfl
  have hb:∀i,i<x.length→-9223372036854775808≤x.getD i 0∧x.getD i 0<9223372036854775808:=by
    intro i hi;have hm:x.getD i 0∈x:=gh hi;rw[h2] at hm;obtain⟨j,hj,e⟩:=List.mem_map.1 hm;have:=oW.1 (h.bk.acct j (List.mem_range.1 hj));grind
  have hlen:x.length=s.B.1.length:=by simp_all
  have KR:iI x=s.to:=by rw[h2,vXi];exact h.sum
  have fh:xl (iI x)=true:=by rw[KR];unfold xl;grind
  have eU:KQ k r s.st=(vH k s.t 0 r.2.2.2.1).bind fun x0=>
     bif !x0 then some false
     else(AP k s.B.1 s.B.2.1 s.B.2.2.1 s.B.2.2.2).bind fun x1=>
     bif !x1 then some false
     else bif !(decide ((s.B.1.length:Int)=r.1)) then some false
     else(KP k r s.st).bind fun x2=>
     bif !x2 then some false
     else(KM k s.st).bind fun x3=>
     bif !x3 then some false
     else(GP k k s.B.1 (s.B.1.length:Int) 0 r s.st []).bind fun z=>
     (E4 k z.2.2).bind fun x4=>
     bif !x4.2 then some false
     else bif !(decide (x4.1=z.2.1.2.2.2.2.2.2.2.2.2.1)) then some false
     else(vH k x4.1 0 1152921504606846976).bind fun x5=>
     bif !x5 then some false
     else(Bi k z.1.1 z.1.2.1 z.1.2.2.1 z.1.2.2.2.1 z.1.2.2.2.2 z.2.1.1).bind fun x6=>
     bif mq z.2.1.2.2.2.2.2.2.2.2.2.2 x6 then (bif !z.2.1.2.2.2.2.2.2.2.2.2.2 then some true
      else some (decide ((z.2.1.2.2.2.2.2.2.2.1.length:Int)=0)))
     else some false:=rfl
  have ec:∀b:Bool,mq b b=true:=fun b=>by cases b<;>rfl
  have eo:s.st.2.2.2.2.2.2.2.2.2.2=s.ov:=rfl;have em:s.st.2.2.2.2.2.2.2.1=s.m:=rfl;have et:s.st.2.2.2.2.2.2.2.2.2.1=s.to:=rfl;have e1:s.st.1=s.t:=rfl;have ecl:Bi k r.1 r.2.1 r.2.2.1 r.2.2.2.1 r.2.2.2.2 s.t=some (decide (s.t=r.2.2.2.1)):=rfl;rw[eU,mU,aa (by grind),aa (by grind),W2,aa h.n,vJ3 hk hr h,WV hk h,h1];simp;rw[yM2 (by omega) (by omega) hb,fh,KR];simp;rw[et,aa (by simp),mU,aa (by grind),aa (by grind)];rw[e1,ecl,eo,em,←h.over];simp only[ae];rw[ec];cases ho:s.ov with
  |false=>rfl
  |true=>rw[h.none ho];rfl
instance BL:DecidableEq zH:=fun a b=>inferInstanceAs (Decidable (a=b))
theorem yXa {k}{a b:List zH}(hk:a.length<k)(hl:a.length<9223372036854775808):BM k a b=some (decide (a=b)):=by
 unfold BM;by_cases hlen:a.length=b.length
 case neg=>
  have e:decide (((a.length:Nat):Int)=((b.length:Nat):Int))=false:=by grind
  have:a≠b:=by grind
  simp_all
 have e:decide (((a.length:Nat):Int)=((b.length:Nat):Int))=true:=by grind
 have := lT (L := fun n i => KS k n a b i) (N := a.length) (fun i => decide (a.getD i pd = b.getD i pd)) (.inl ()) (.inr false) (fun n=>by
  show GR k _ a b a.length=_;unfold GR;simp) (fun n i hi=>by
  show GR k _ a b i=_;unfold GR;have e7:=eq7 (a.getD i pd) (b.getD i pd);simp only[qB,qE hi hl];simp_all) hk
 rw[this,Nu pd hlen];grind
theorem yQc {r s}(hr:vO r)(h:qV r s):BN 1000 s.st s.st=some true:=by
 have hb:wK s.B.1 s.B.2.1 s.B.2.2.1 s.B.2.2.2:=h.bk;have gl:=h.bk.n6;have lL:=h.bk.n1;have hm:=h.waits.len;have hi:=h.waits.idl;have h3:=hr.n3;have hL:=h.laid 0 (by omega);have e1:D6 1000 s.B.1 s.B.2.1 s.B.2.2.1 s.B.2.2.2 s.B.1 s.B.2.1 s.B.2.2.1 s.B.2.2.2=some true:=by
  rw[yEf (by decide) hb.toSized];simp
 have e2:nI 1000 s.pr s.pr=some true:=by rw[DZ (by rw[hL.pl];omega) (by rw[hL.pl];omega),aa rfl]
 have e3:ua 1000 s.ho s.ho=some true:=by
  have hol:=h.hol;rw [Nv (by omega) (by omega) (fun i hi=>by
   have:=(h.laid i (by omega)).hl;omega),aa rfl]
 have e4:BM 1000 s.m s.m=some true:=by rw[yXa (by omega) (by omega),aa rfl]
 have e5:nI 1000 s.ids s.ids=some true:=by rw[DZ (by omega) (by omega),aa rfl]
 unfold BN;have f0:s.st.1=s.t:=rfl;have f9:s.st.2.2.2.2.2.2.2.2.2.1=s.to:=rfl;have f10:s.st.2.2.2.2.2.2.2.2.2.2=s.ov:=rfl;have q:mq s.ov s.ov=true:=by cases s.ov<;>rfl
 rw[f0,f9,f10,aa rfl,aa rfl,q];refine(congrArg (fun z=>Option.bind z _) e1).trans ?_;refine(congrArg (fun z=>Option.bind z _) e2).trans ?_;refine(congrArg (fun z=>Option.bind z _) e3).trans ?_;refine(congrArg (fun z=>Option.bind z _) e4).trans ?_;refine(congrArg (fun z=>Option.bind z _) e5).trans ?_;rfl
def jB (r:qD):zR where
 t:=0
 B:=(List.replicate r.1.toNat (0,0,0),List.replicate r.1.toNat (List.replicate r.1.toNat (-1)),List.replicate r.1.toNat (-1),List.replicate r.1.toNat (List.replicate r.1.toNat 0))
 pr:=r.2.1.map Prod.fst
 ho:=List.replicate r.1.toNat (List.replicate r.2.1.length 0)
 m:=[]
 ids:=[]
 to:=0
 ov:=false
structure uL (r:qD):Prop where
 ok:vO r
 inv:qV r (jB r)
 new:pV 1000 r=some (jB r).st
 cl:r.2.2.2.1≤20
 aa9:pV 20000 r=some (jB r).st
theorem Py n:j4 n [] [] where
 dist:=List.Pairwise.nil
 len:=by decide
 sort:=List.Pairwise.nil
 may:=by simp
 time:=by simp
 were:=by simp
 asc:=List.Pairwise.nil
 pos:=by simp
 idl:=by decide
def r0:qD:=(3,[(100,1000),(7,0)],12,20,4)
def r1:qD:=(4,[(100,1000),(7,0)],12,20,100)
def r2:qD:=(3,[],20,20,4)
def r3:qD:=(3,[(100,1000),(7,0)],0,6,1)
theorem W3 {pr h}(h1:pr=[100,7])(h2:h=[0,0]):kJ [(100,1000),(7,0)] pr h:=by
 subst h1;subst h2;exact⟨by decide,rfl,rfl,by decide,by decide,by decide⟩
theorem Pz {B}(h:mP B.1 B.2.1 B.2.2.1 B.2.2.2=true):qN B:=Nt.1 h
theorem vXo:uL r0:=⟨⟨by decide,by decide,by decide,by decide,by decide,by decide,by decide⟩,
  { tk:=by decide,bk:=Pz (by rfl),n:=rfl,hol:=rfl,
    laid:=fun i hi=>by
      have e:∀i,i<(jB r0).B.1.length→(jB r0).ho.getD i []=[0,0]:=by decide
      exact W3 rfl (e i hi)
    cred:=by decide,most:=by decide,waits:=Py _,sum:=by decide,tot:=by decide,over:=by decide,none:=nofun},by rfl,by decide,by rfl⟩
theorem W4:uL r1:=⟨⟨by decide,by decide,by decide,by decide,by decide,by decide,by decide⟩,
  { tk:=by decide,bk:=Pz (by rfl),n:=rfl,hol:=rfl,
    laid:=fun i hi=>by
      have e:∀i,i<(jB r1).B.1.length→(jB r1).ho.getD i []=[0,0]:=by decide
      exact W3 rfl (e i hi)
    cred:=by decide,most:=by decide,waits:=Py _,sum:=by decide,tot:=by decide,over:=by decide,none:=nofun},by rfl,by decide,by rfl⟩
theorem vYs:uL r2:=⟨⟨by decide,by decide,by decide,by decide,by decide,by decide,by decide⟩,
  { tk:=by decide,bk:=Pz (by rfl),n:=rfl,hol:=rfl,
    laid:=fun i hi=>by
      have e:∀i,i<(jB r2).B.1.length→(jB r2).ho.getD i []=[]:=by decide
      rw[e i hi];exact⟨by decide,rfl,rfl,by decide,by decide,by decide⟩
    cred:=by decide,most:=by decide,waits:=Py _,sum:=by decide,tot:=by decide,over:=by decide,none:=nofun},by rfl,by decide,by rfl⟩
theorem W5:uL r3:=⟨⟨by decide,by decide,by decide,by decide,by decide,by decide,by decide⟩,
  { tk:=by decide,bk:=Pz (by rfl),n:=rfl,hol:=rfl,
    laid:=fun i hi=>by
      have e:∀i,i<(jB r3).B.1.length→(jB r3).ho.getD i []=[0,0]:=by decide
      exact W3 rfl (e i hi)
    cred:=by decide,most:=by decide,waits:=Py _,sum:=by decide,tot:=by decide,over:=by decide,none:=nofun},by rfl,by decide,by rfl⟩
structure Tk (L:gT) (N:Nat):Prop where
 side:L.1=0∨L.1=1
 gen:1≤L.2.1∧L.2.1≤(N:Int)+1
 rows:0≤L.2.2.1∧L.2.2.1≤(N:Int)
 stale:L.2.2.2=false
theorem Tk.more {L N M}(h:Tk L N)(hN:N≤M):Tk L M:=⟨h.side,⟨h.gen.1,by have:=h.gen.2;omega⟩,⟨h.rows.1,by have:=h.rows.2;omega⟩,h.stale⟩
structure abn (k:Nat) (s:Nc) (b:AC):Prop where
 is:lV k s=some b
 len:b.length≤50000
theorem vPy {c:Nat}{l:EQ}(h:∀x∈l,x.length≤c):(qY l).length≤8*(c+1)*l.length:=by
 induction l with
 |nil=>simp[qY]
 |cons x l ih=>
  have h1:=ih fun y hy=>h y (List.mem_cons_of_mem _ hy)
  have h2:=h x (List.mem_cons_self ..);have h3:8*(c+1)*(l.length+1)=8*(c+1)*l.length+8*(c+1):=Nat.mul_succ _ _;simp only[qY,List.flatMap_cons,List.length_append,mN,List.length_cons] at h1⊢;rw[h3];omega
theorem W6 {l:EQ}{n:Nat}(h:∀i,i<l.length→(l.getD i []).length=n){x:AC}(hx:x∈l):x.length=n:=by
 obtain⟨i,hi,e⟩:=List.mem_iff_getElem.1 hx;have:=h i hi;rw[List.getD_eq_getElem?_getD,List.getElem?_eq_getElem hi] at this;rw[←e];exact this
theorem yXn {r:qD}(hr:vO r){s:zR}(h:qV r s):∃l,gj s.st=l++[s.ids]∧l.length≤67∧∀x∈l,x.length≤9:=by
 have n6:=h.bk.n6;have n1:=h.bk.n1;have hm:=h.waits.len;have h3:=hr.n3;have hb:wK s.B.1 s.B.2.1 s.B.2.2.1 s.B.2.2.2:=h.bk;have hL:=h.laid 0 (by omega);have hol:=h.hol;refine⟨_,rfl,?_,fun x hx=>?_⟩
 ·simp only[List.length_append,List.length_cons,List.length_nil,List.length_map];show 0+1+s.B.1.length+s.B.2.1.length+(0+1)+s.B.2.2.2.length+(0+1)+s.ho.length+s.m.length≤67;have:=hb.bl;have:=hb.pl;omega
 ·simp only[List.mem_append,List.mem_singleton,List.mem_map] at hx;rcases hx with(((((((rfl|⟨a,_,rfl⟩)|hx)|rfl)|hx)|rfl)|hx)|⟨a,_,rfl⟩)
  ·simp
  ·simp[jw]
  ·have:=W6 (l:=s.B.2.1) (fun i hi=>hb.br i (by have:=hb.bl;omega)) hx;omega
  ·show s.B.2.2.1.length≤9;have:=hb.ml;omega
  ·have:=W6 (l:=s.B.2.2.2) (fun i hi=>hb.pr i (by have:=hb.pl;omega)) hx;omega
  ·show s.pr.length≤9;rw[hL.pl];omega
  ·have:=W6 (l:=s.ho) (fun i hi=>(h.laid i (by omega)).hl) hx;omega
  ·simp[gi]
theorem W7 {k:Nat}(hk:1000≤k){r:qD}(hr:vO r){s:zR}(h:qV r s):∃b,lV k s.st=some b∧b=qY (gj s.st)∧b.length≤7000:=by
 obtain⟨l,e,h1,h2⟩:=yXn hr h;have hi:=h.waits.idl;have hf:jZ (gj s.st):=by
  rw[e];refine⟨by rw[List.length_append];simp;omega,fun x hx=>?_⟩;rcases List.mem_append.1 hx with hx|hx
  ·have:=h2 x hx;omega
  ·rw[List.mem_singleton.1 hx];omega
 refine⟨_,vA7 hk hf,rfl,?_⟩;rw[e];have:=vPy h2;have e2:qY (l++[s.ids])=qY l++wL s.ids:=by simp[qY]
 rw[e2,List.length_append,mN];omega
def wW (r:qD)(s:zR)(ev:Int):si:=(r.1,r.2.1,r.2.2.1,r.2.2.2.1,r.2.2.2.2,s.t,s.B.1,s.B.2.1,s.B.2.2.1,s.B.2.2.2,s.pr,s.ho,s.m,s.ids,s.to,s.ov,ev,false)
structure W8 (r:qD) (ev:Int) (N:Nat) (s:zR) (G:si) (L:gT) (D:vQ):Prop where
 g:G=wW r s ev
 inv:qV r s
 calm:Uf D
 room:D.1=200000
 x:(yU D 0).length≤20000+100*N
 y:(yU D 1).length≤20000+100*N
 tk:Tk L N
theorem W8.more {r:qD}{ev:Int}{N M:Nat}{s:zR}{G:si}{L:gT}{D:vQ}(h:W8 r ev N s G L D)(hM:N≤M):W8 r ev M s G L D:=
 ⟨h.g,h.inv,h.calm,h.room,by have:=h.x;omega,by have:=h.y;omega,h.tk.more hM⟩
def vSt (k:Nat)(r:qD)(s:zR)(a:Int)(m:zC×Int)(t:zR)(o:List qS):Prop:=
 (m.2≠0∧t=s∧o=[(a,16,m.2,0,0,0,0,0)])∨
 (m.2=0∧∃u p e,gM k r s.st (a,m.1)=some (u,p,e)∧((e≠0∧t=s∧o=[(a,16,e,0,0,0,0,0)])∨(e=0∧u=t.st∧o=p)))
theorem vTe (x y:Int):wC false x y=max x y:=by
 unfold wC;by_cases h:y>x
 ·rw[aa h];show y=_;omega
 ·rw[ab h];show x=_;omega
theorem vTg (x y:Int):wC true x y=min x y:=by
 unfold wC;by_cases h:y<x
 ·rw[aa h];show y=_;omega
 ·rw[ab h];show x=_;omega
section
variable {k:Nat} {ro sx sy cA cK op:Int} {x y b:AC} {ar:Bool}
theorem KT (hx:0≤sx∧sx≤(x.length:Int))(hy:0≤sy∧sy≤(y.length:Int))(lx:x.length≤1000000)(ly:y.length≤1000000)(hk:cK<9223372036854775808):
  kP k (ro,x,sx,y,sy,cA,cK,ar,false,op)=some (false,(ro,x,sx,y,sy,cA,cK,ar,false,zA (op+1)))∨
  (ar=true∧∃a c:Nat,sx≤(a:Int)∧a≤x.length∧sy≤(c:Int)∧c≤y.length∧kP k (ro,x,sx,y,sy,cA,cK,ar,false,op)=some (true,(ro,x.take a,(a:Int),y.take c,(c:Int),cA,cK,ar,true,op))):=by
 cases ar with
 |false=>exact .inl rfl
 |true=>
 by_cases h:op<cA
 ·left;unfold kP;dsimp only;rw[aA,ak,aa h];rfl
 ·right;refine⟨rfl,?_⟩;obtain⟨a,ha⟩:∃a:Nat,sx+min (max cK 0) ((x.length:Int)-sx)=(a:Int):=⟨(sx+min (max cK 0) ((x.length:Int)-sx)).toNat,by omega⟩;obtain⟨c,hc⟩:∃c:Nat,sy+min (max cK 0-min (max cK 0) ((x.length:Int)-sx)) ((y.length:Int)-sy)=(c:Int):=⟨(sy+min (max cK 0-min (max cK 0) ((x.length:Int)-sx)) ((y.length:Int)-sy)).toNat,by omega⟩;refine⟨a,c,by omega,by omega,by omega,by omega,?_⟩;have w1:zA ((x.length:Int)-sx)=(x.length:Int)-sx:=zN (by omega) (by omega);have w2:zA ((y.length:Int)-sy)=(y.length:Int)-sy:=zN (by omega) (by omega);have w3:zA (max cK 0-min (max cK 0) ((x.length:Int)-sx))=max cK 0-min (max cK 0) ((x.length:Int)-sx):=zN (by omega) (by omega);have w4:zA (sx+min (max cK 0) ((x.length:Int)-sx))=(a:Int):=by rw[ha];exact zN (by omega) (by omega)
  have w5:zA (sy+min (max cK 0-min (max cK 0) ((x.length:Int)-sx)) ((y.length:Int)-sy))=(c:Int):=by rw[hc];exact zN (by omega) (by omega)
  unfold kP;dsimp only;simp only[vTe,vTg,w1,w2,w3,w4,w5];rw[aA,ak,ab h,ak,aa (show(0:Int)≤(a:Int) by omega),aa (show(a:Int)≤(x.length:Int) by omega),aa (show(0:Int)≤(c:Int) by omega),aa (show(c:Int)≤(y.length:Int) by omega)];simp only[Bool.and_self,aj,aq,Nat.sub_zero]
end
structure oX (D:vQ):Prop where
 x:D.2.2.1=(D.2.1.length:Int)
 y:D.2.2.2.2.1=(D.2.2.2.1.length:Int)
 room:0≤D.1∧D.1≤200000
 lx:(D.2.1.length:Int)≤D.1
 ly:(D.2.2.2.1.length:Int)≤D.1
 ck:D.2.2.2.2.2.2.1<9223372036854775808
def kQ (D:vQ):Bool:=D.2.2.2.2.2.2.2.2.1
def wV (D:vQ):Bool:=D.2.2.2.2.2.2.2.1
structure mX (D D':vQ) (i:Int) (c:AC) (dn:Bool):Prop where
 clean:oX D'
 room:D'.1=D.1
 it:yU D' i=c
 oth:yU D' (1-i)=yU D (1-i)
 dn:kQ D'=dn
 ar:wV D'=wV D
theorem yW3 {k:Nat}{D:vQ}(h:oX D)(hu:kQ D=false){i:Int}(hi:i=0∨i=1){b:AC}(hb:b.length≤100000):
  ((b.length:Int)>D.1-((yU D i).length:Int)∧xU k D i b=some (3,D))∨
  (wV D=true∧∃D',xU k D i b=some (11,D')∧mX D D' i (yU D i) true)∨
  ((b.length:Int)≤D.1-((yU D i).length:Int)∧∃D1,xU k D i b=some (0,D1)∧((∃D2,uM k D1=some (0,D2)∧mX D D2 i (yU D i++b) false)∨(wV D=true∧∃(D2:vQ) (j:Nat),uM k D1=some (11,D2)∧j≤b.length∧mX D D2 i (yU D i++b.take j) true))):=by
 obtain⟨ro,x,sx,y,sy,cA,cK,ar,dn,op⟩:=D;obtain⟨h1,h2,h3,h4,h5,h6⟩:=h;dsimp only at h1 h2 h3 h4 h5 h6;have hu:dn=false:=hu;subst h1 h2 hu;rcases hi with rfl|rfl
 ·have hw:zA (ro-(x.length:Int))=ro-(x.length:Int):=zN (by omega) (by omega);by_cases hf:(b.length:Int)>ro-(x.length:Int)
  ·refine .inl ⟨hf,?_⟩;show(bif decide ((b.length:Int)>zA (ro-(x.length:Int))) then _ else _)=_;rw[hw,aa hf];rfl
  ·right;have eA:xU k (ro,x,(x.length:Int),y,(y.length:Int),cA,cK,ar,false,op) 0 b=(kP k (ro,x,(x.length:Int),y,(y.length:Int),cA,cK,ar,false,op)).bind fun x2=>bif x2.1 then some (11,x2.2) else bif zP (x2.2.2.1.length+b.length) 1 then some (0,x2.2.1,(x2.2.2.1++b),x2.2.2.2) else none:=by
    show(bif decide ((b.length:Int)>zA (ro-(x.length:Int))) then _ else _)=_;rw[hw,ab hf];rfl
   rcases KT (k:=k) (ro:=ro) (sx:=x.length) (sy:=y.length) (cA:=cA) (cK:=cK) (op:=op) (x:=x) (y:=y) (ar:=ar) ⟨by omega,by omega⟩ ⟨by omega,by omega⟩ (by omega) (by omega) h6 with g|⟨ha,a,c,a1,a2,c1,c2,g⟩
   ·right;refine⟨by show(b.length:Int)≤ro-(x.length:Int);omega,(ro,x++b,(x.length:Int),y,(y.length:Int),cA,cK,ar,false,zA (op+1)),?_,?_⟩
    ·rw[eA,g,ae];dsimp only;rw[ak,qJ (by omega) (by omega)];rfl
    ·have eS:uM k (ro,x++b,(x.length:Int),y,(y.length:Int),cA,cK,ar,false,zA (op+1))=(kP k (ro,x++b,(x.length:Int),y,(y.length:Int),cA,cK,ar,false,zA (op+1))).bind fun x1=>bif x1.1 then some (11,x1.2) else some (0,x1.2.1,x1.2.2.1,(x1.2.2.1.length:Int),x1.2.2.2.2.1,(x1.2.2.2.2.1.length:Int),x1.2.2.2.2.2.2):=rfl
     have hl:(x++b).length=x.length+b.length:=List.length_append;rcases KT (k:=k) (ro:=ro) (sx:=x.length) (sy:=y.length) (cA:=cA) (cK:=cK) (op:=zA (op+1)) (x:=x++b) (y:=y) (ar:=ar) ⟨by omega,by omega⟩ ⟨by omega,by omega⟩ (by omega) (by omega) h6 with g'|⟨ha,a,c,a1,a2,c1,c2,g'⟩
     ·refine .inl ⟨(ro,x++b,((x++b).length:Int),y,(y.length:Int),cA,cK,ar,false,zA (zA (op+1)+1)),by rw[eS,g'];rfl,⟨rfl,rfl,h3,?_,h5,h6⟩,rfl,rfl,rfl,rfl,rfl⟩;show((x++b).length:Int)≤ro;omega
     ·have ec:c=y.length:=by omega
      subst ec;have e1:(x++b).take a=x++b.take (a-x.length):=by rw[List.take_append,List.take_of_length_le (show x.length≤a by omega)]
      refine .inr ⟨ha,(ro,x++b.take (a-x.length),(a:Int),y,(y.length:Int),cA,cK,ar,true,zA (op+1)),a-x.length,by rw[eS,g',e1,List.take_length];rfl,by omega,⟨?_,rfl,h3,?_,h5,h6⟩,rfl,rfl,rfl,rfl,rfl⟩
      ·show(a:Int)=((x++b.take (a-x.length)).length:Int);rw[List.length_append,List.length_take];omega
      ·show((x++b.take (a-x.length)).length:Int)≤ro;rw[List.length_append,List.length_take];omega
   ·left;have ea:a=x.length:=by omega
    have ec:c=y.length:=by omega
    subst ea ec;rw[List.take_length,List.take_length] at g;exact⟨ha,(ro,x,(x.length:Int),y,(y.length:Int),cA,cK,ar,true,op),by rw[eA,g];rfl,⟨rfl,rfl,h3,h4,h5,h6⟩,rfl,rfl,rfl,rfl,rfl⟩
 ·have hw:zA (ro-(y.length:Int))=ro-(y.length:Int):=zN (by omega) (by omega);by_cases hf:(b.length:Int)>ro-(y.length:Int)
  ·refine .inl ⟨hf,?_⟩;show(bif decide ((b.length:Int)>zA (ro-(y.length:Int))) then _ else _)=_;rw[hw,aa hf];rfl
  ·right;have eA:xU k (ro,x,(x.length:Int),y,(y.length:Int),cA,cK,ar,false,op) 1 b=(kP k (ro,x,(x.length:Int),y,(y.length:Int),cA,cK,ar,false,op)).bind fun x3=>bif x3.1 then some (11,x3.2) else bif zP (x3.2.2.2.2.1.length+b.length) 1 then some (0,x3.2.1,x3.2.2.1,x3.2.2.2.1,(x3.2.2.2.2.1++b),x3.2.2.2.2.2) else none:=by
    show(bif decide ((b.length:Int)>zA (ro-(y.length:Int))) then _ else _)=_;rw[hw,ab hf];rfl
   rcases KT (k:=k) (ro:=ro) (sx:=x.length) (sy:=y.length) (cA:=cA) (cK:=cK) (op:=op) (x:=x) (y:=y) (ar:=ar) ⟨by omega,by omega⟩ ⟨by omega,by omega⟩ (by omega) (by omega) h6 with g|⟨ha,a,c,a1,a2,c1,c2,g⟩
   ·right;refine⟨by show(b.length:Int)≤ro-(y.length:Int);omega,(ro,x,(x.length:Int),y++b,(y.length:Int),cA,cK,ar,false,zA (op+1)),?_,?_⟩
    ·rw[eA,g,ae];dsimp only;rw[ak,qJ (by omega) (by omega)];rfl
    ·have eS:uM k (ro,x,(x.length:Int),y++b,(y.length:Int),cA,cK,ar,false,zA (op+1))=(kP k (ro,x,(x.length:Int),y++b,(y.length:Int),cA,cK,ar,false,zA (op+1))).bind fun x1=>bif x1.1 then some (11,x1.2) else some (0,x1.2.1,x1.2.2.1,(x1.2.2.1.length:Int),x1.2.2.2.2.1,(x1.2.2.2.2.1.length:Int),x1.2.2.2.2.2.2):=rfl
     have hl:(y++b).length=y.length+b.length:=List.length_append;rcases KT (k:=k) (ro:=ro) (sx:=x.length) (sy:=y.length) (cA:=cA) (cK:=cK) (op:=zA (op+1)) (x:=x) (y:=y++b) (ar:=ar) ⟨by omega,by omega⟩ ⟨by omega,by omega⟩ (by omega) (by omega) h6 with g'|⟨ha,a,c,a1,a2,c1,c2,g'⟩
     ·refine .inl ⟨(ro,x,(x.length:Int),y++b,((y++b).length:Int),cA,cK,ar,false,zA (zA (op+1)+1)),by rw[eS,g'];rfl,⟨rfl,rfl,h3,h4,?_,h6⟩,rfl,rfl,rfl,rfl,rfl⟩;show((y++b).length:Int)≤ro;omega
     ·have ea:a=x.length:=by omega
      subst ea;have e1:(y++b).take c=y++b.take (c-y.length):=by rw[List.take_append,List.take_of_length_le (show y.length≤c by omega)]
      refine .inr ⟨ha,(ro,x,(x.length:Int),y++b.take (c-y.length),(c:Int),cA,cK,ar,true,zA (op+1)),c-y.length,by rw[eS,g',e1,List.take_length];rfl,by omega,⟨rfl,?_,h3,h4,?_,h6⟩,rfl,rfl,rfl,rfl,rfl⟩
      ·show(c:Int)=((y++b.take (c-y.length)).length:Int);rw[List.length_append,List.length_take];omega
      ·show((y++b.take (c-y.length)).length:Int)≤ro;rw[List.length_append,List.length_take];omega
   ·left;have ea:a=x.length:=by omega
    have ec:c=y.length:=by omega
    subst ea ec;rw[List.take_length,List.take_length] at g;exact⟨ha,(ro,x,(x.length:Int),y,(y.length:Int),cA,cK,ar,true,op),by rw[eA,g];rfl,⟨rfl,rfl,h3,h4,h5,h6⟩,rfl,rfl,rfl,rfl,rfl⟩
theorem vYq {k:Nat}{D:vQ}(h:oX D)(hu:kQ D=false){i:Int}(hi:i=0∨i=1):
  (∃D',PA k D i=some (0,D')∧mX D D' i [] false)∨(wV D=true∧∃D',PA k D i=some (11,D')∧mX D D' i (yU D i) true):=by
 obtain⟨ro,x,sx,y,sy,cA,cK,ar,dn,op⟩:=D;obtain⟨h1,h2,h3,h4,h5,h6⟩:=h;dsimp only at h1 h2 h3 h4 h5 h6;have hu:dn=false:=hu;subst h1 h2 hu;rcases KT (k:=k) (ro:=ro) (sx:=x.length) (sy:=y.length) (cA:=cA) (cK:=cK) (op:=op) (x:=x) (y:=y) (ar:=ar) ⟨by omega,by omega⟩ ⟨by omega,by omega⟩ (by omega) (by omega) h6 with g|⟨ha,a,c,a1,a2,c1,c2,g⟩
 ·left;rcases hi with rfl|rfl
  ·refine⟨(ro,[],0,y,(y.length:Int),cA,cK,ar,false,zA (op+1)),?_,⟨rfl,rfl,h3,by show(0:Int)≤ro;omega,h5,h6⟩,rfl,rfl,rfl,rfl,rfl⟩;show(kP k (ro,x,(x.length:Int),y,(y.length:Int),cA,cK,ar,false,op)).bind _=_;rw[g];rfl
  ·refine⟨(ro,x,(x.length:Int),[],0,cA,cK,ar,false,zA (op+1)),?_,⟨rfl,rfl,h3,h4,by show(0:Int)≤ro;omega,h6⟩,rfl,rfl,rfl,rfl,rfl⟩;show(kP k (ro,x,(x.length:Int),y,(y.length:Int),cA,cK,ar,false,op)).bind _=_;rw[g];rfl
 ·right;have ea:a=x.length:=by omega
  have ec:c=y.length:=by omega
  subst ea ec;rw[List.take_length,List.take_length] at g;refine⟨ha,(ro,x,(x.length:Int),y,(y.length:Int),cA,cK,ar,true,op),?_,⟨rfl,rfl,h3,h4,h5,h6⟩,rfl,?_,?_,rfl,rfl⟩
  ·rcases hi with rfl|rfl
   ·show(kP k (ro,x,(x.length:Int),y,(y.length:Int),cA,cK,ar,false,op)).bind _=_;rw[g];rfl
   ·show(kP k (ro,x,(x.length:Int),y,(y.length:Int),cA,cK,ar,false,op)).bind _=_;rw[g];rfl
  ·rcases hi with rfl|rfl<;>rfl
  ·rcases hi with rfl|rfl<;>rfl
theorem mX.trans {D D1 D2 i c d p q}(h:mX D D1 i c p)(g:mX D1 D2 i d q):mX D D2 i d q:=
 ⟨g.clean,g.room.trans h.room,g.it,g.oth.trans h.oth,g.dn,g.ar.trans h.ar⟩
inductive BO (D:vQ) (i:Int) (R:AC):Int→vQ→Prop
 |full (h:(R.length:Int)>D.1):BO D i R 10 D
 |ok {D':vQ} (h:mX D D' i R false):BO D i R 0 D'
 |none {D':vQ} (ha:wV D=true) (h:mX D D' i (yU D i) true):BO D i R 11 D'
 |torn {D':vQ} {j:Nat} (ha:wV D=true) (hj:j≤R.length) (h:mX D D' i (R.take j) true):BO D i R 11 D'
theorem vMj {k:Nat}(hk:9≤k){D:vQ}(h:oX D)(hu:kQ D=false){i:Int}(hi:i=0∨i=1){g:Int}(hg:1≤g∧g≤4611686018427387904){b:AC}(hb:b.length≤50000):
  ∃e D',KU k D i g b=some (e,D')∧BO D i (wD (yA g++b)) e D':=by
 have hlen:(wD (yA g++b)).length=b.length+10:=by rw[tZ,List.length_append];show 8+b.length+2=_;omega
 have nE:=h.room;unfold KU;rw[IF hk [g] (by simp) (by simp;omega),ae,show yD [g]=yA g by simp[yD]];rw[qJ (by show(8+b.length)*1≤_;omega) (by show 8+b.length≤_;omega),aj,yPg,if_pos (by rw[List.length_append];show 8+b.length≤_;omega),ae];dsimp only;rw[aA,ak,ab (by omega),ak];rw[show W9 k D=some D.1 from rfl,ae];by_cases hf:((wD (yA g++b)).length:Int)>D.1
 ·rw[aa hf];exact⟨10,D,rfl,.full hf⟩
 rw[ab hf,ak];rcases vYq (k:=k) h hu hi with⟨D1,w1,w2⟩|⟨ha,D1,w1,w2⟩
 ·rw[w1,ae];dsimp only;rw[aa rfl,aA,ak];have hr:=w2.room;rcases yW3 (k:=k) w2.clean w2.dn hi (b:=wD (yA g++b)) (by omega) with⟨p1,_⟩|⟨ha,D2,p1,p2⟩|⟨_,D2,p1,⟨D3,p2,p3⟩|⟨ha,D3,j,p2,p3,p4⟩⟩
  ·rw[w2.it,hr] at p1;have:(([]:AC).length:Int)=0:=rfl;omega
  ·rw[p1,ae];dsimp only;rw[ab (by decide)];rw[w2.it] at p2;exact⟨11,D2,rfl,.torn (j:=0) (w2.ar.symm.trans ha) (by omega) (by rw[List.take_zero];exact w2.trans p2)⟩
  ·rw[p1,ae];dsimp only;rw[aa rfl,aA,ak,p2,ae];rw[w2.it,List.nil_append] at p3;exact⟨0,D3,rfl,.ok (w2.trans p3)⟩
  ·rw[p1,ae];dsimp only;rw[aa rfl,aA,ak,p2,ae];rw[w2.it,List.nil_append] at p4;exact⟨11,D3,rfl,.torn (w2.ar.symm.trans ha) p3 (w2.trans p4)⟩
 ·rw[w1,ae];dsimp only;rw[ab (by decide)];exact⟨11,D1,rfl,.none ha w2⟩
inductive KV (L:gT) (D:vQ) (R:AC):Int→gT→vQ→Prop
 |full (h:(R.length:Int)>D.1-((yU D L.1).length:Int)):KV L D R 10 L D
 |ok {D':vQ} (h:mX D D' L.1 (yU D L.1++R) false):KV L D R 0 (L.1,L.2.1,zA (L.2.2.1+1),L.2.2.2) D'
 |torn {D':vQ} {j:Nat} (ha:wV D=true) (hj:j≤R.length) (h:mX D D' L.1 (yU D L.1++R.take j) true):KV L D R 11 L D'
theorem yXh {k:Nat}{D:vQ}(h:oX D)(hu:kQ D=false){L:gT}(hs:L.1=0∨L.1=1)(dD:L.2.2.2=false){b:AC}(hb:b.length≤60000):
  ∃e L' D',KW k L D b=some (e,L',D')∧KV L D (wD b) e L' D':=by
 have hlen:=tZ b;unfold KW;rw[yPg,if_pos hb,ae,dD];dsimp only;rw[aA,ak,ak];rcases yW3 (k:=k) h hu hs (b:=wD b) (by omega) with⟨p1,p2⟩|⟨ha,D2,p1,p2⟩|⟨_,D2,p1,⟨D3,p2,p3⟩|⟨ha,D3,j,p2,p3,p4⟩⟩
 ·rw[p2];exact⟨10,L,D,rfl,.full p1⟩
 ·rw[p1];exact⟨11,L,D2,rfl,.torn (j:=0) ha (by omega) (by rw[List.take_zero,List.append_nil];exact p2)⟩
 ·rw[p1];refine⟨0,(L.1,L.2.1,zA (L.2.2.1+1),L.2.2.2),D3,?_,.ok p3⟩;show(uM k D2).bind _=_;rw[p2,dD];rfl
 ·rw[p1];refine⟨11,L,D3,?_,.torn ha p3 p4⟩;show(uM k D2).bind _=_;rw[p2];rfl
theorem Xa {k:Nat}(hk:9≤k){D:vQ}(h:oX D)(hu:kQ D=false){L:gT}(hs:L.1=0∨L.1=1)(hg:1≤L.2.1∧L.2.1<4611686018427387904){b:AC}(hb:b.length≤50000):
  ∃e D',uN k L D b=some (e,(if e=0 then(1-L.1,L.2.1+1,0,false) else L),D')∧BO D (1-L.1) (wD (yA (L.2.1+1)++b)) e D':=by
 have e1:zA (L.2.1+1)=L.2.1+1:=zN (by omega) (by omega);have e2:zA (1-L.1)=1-L.1:=zN (by omega) (by omega);obtain⟨e,D',h1,h2⟩:=vMj (k:=k) hk h hu (i:=1-L.1) (by omega) (g:=L.2.1+1) (by omega) hb;refine⟨e,D',?_,h2⟩;unfold uN;rw[e1,e2,h1,ae];dsimp only;by_cases he:e=0
 ·subst he;rfl
 ·rw[ab he,if_neg he];rfl
structure BP (b:AC) (g:Int) (S:AC) (rows:EQ):Prop where
 is:∃t,b=jG ((yA g++S)::rows)++t∧Cut t
 gen:1≤g∧g≤4611686018427387904
 len:S.length≤50000
 rl:∀x∈rows,x.length≤60000
 rn:rows.length≤900
theorem vBv {k:Nat}{D:vQ}{i:Int}(hi:i=0∨i=1)(hl:(yU D i).length≤1000000):Xb k D i=some (yU D i):=by
 rcases hi with rfl|rfl
 ·have hl:D.2.1.length≤1000000:=hl;show(BQ k D.2.1).bind (fun x1=>some x1)=some D.2.1;unfold BQ;rw[qJ (by omega) (by omega)];rfl
 ·have hl:D.2.2.2.1.length≤1000000:=hl;show(BQ k D.2.2.2.1).bind (fun x1=>some x1)=some D.2.2.2.1;unfold BQ;rw[qJ (by omega) (by omega)];rfl
theorem KX {k:Nat}(hk:1000≤k){D:vQ}{i:Int}(hi:i=0∨i=1)(hl:(yU D i).length≤1000000){g:Int}{S:AC}{rows:EQ}(h:BP (yU D i) g S rows):xV k D i=some (g,S,rows):=by
 obtain⟨⟨t,e,hc⟩,hg,hS,hr,hn⟩:=h;unfold xV;rw[vBv hi hl,ae];have pF:(yA g++S).length=8+S.length:=by rw[List.length_append];rfl
 rw[e,List.length_append] at hl;rw [e, yFo (l := (yA g ++ S) :: rows) hc (by omega) (fun x hx=>by
  rcases List.mem_cons.1 hx with rfl|hx
  ·omega
  ·exact hr x hx) (by simp;omega) (by simp;omega) (by omega)]
 simp only[ae];have hb:zB 0 ((yA g++S)::rows).length=true:=fl (by omega) (by simp);have ht:List.take 8 (yA g++S)=yA g:=rfl;have hd:List.drop 8 (yA g++S)=S:=rfl;have hs:qR ((yA g++S)::rows) 1 (((yA g++S)::rows).length-1)=rows:=by
  unfold qR;show List.take _ rows=rows;exact List.take_of_length_le (by simp)
 rw[ab (by simp;omega),hb];simp only[ak,aj,List.getD_cons_zero];rw[ab (show¬((yA g++S).length:Int)<8 by omega),aa (show(8:Int)≤((yA g++S).length:Int) by omega),ht,Uh (by omega) (by omega),aa (show(1:Int)≤(((yA g++S)::rows).length:Int) by simp;omega),hd,hs];simp only[ak,aj,ae,List.getD_cons_zero];have fg:zB 0 [g].length=true:=rfl;rw[fg,ab (show¬g<1 by omega),ab (show¬g>4611686018427387904 by omega)];rfl
theorem yH2 {k}(hk:1000≤k){D i}(hi:i=0∨i=1)(hl:(yU D i).length≤1000000)(h:Cut (yU D i)):xV k D i=some (0,[],[]):=by
 unfold xV;rw[vBv hi hl,ae];have:=yFo (k:=k) h hl (l:=[]) (by simp) (by grind) (by simp) (by simp[jG]);rw[show jG []++yU D i=yU D i from rfl] at this;simp_all
structure Has (D:vQ) (m g:Int) (S:AC) (rows:EQ):Prop where
 side:m=0∨m=1
 main:BP (yU D m) g S rows
 other:Cut (yU D (1-m))∨∃g' S' ic,g'<g∧BP (yU D (1-m)) g' S' ic
 x:(yU D 0).length≤1000000
 y:(yU D 1).length≤1000000
theorem yEr {k:Nat}(hk:1000≤k){D:vQ}{m g:Int}{S:AC}{rows:EQ}(h:Has D m g S rows):KY k D=some (g,m,S,rows,true):=by
 have hx:=h.x;have hy:=h.y;have hg:=h.main.gen;unfold KY;rcases h.side with rfl|rfl
 ·rw[KX hk (.inl rfl) hx h.main,ae];simp only[];rw[aa (show g>0 by omega),aj];rcases h.other with hc|⟨g',S',ic,bh,ho⟩
  ·rw[yH2 hk (.inr rfl) hy hc,ae];simp only[];rw[ab (by omega)];rfl
  ·rw[KX hk (.inr rfl) hy ho,ae];simp only[];rw[ab (by omega)];rfl
 ·rcases h.other with hc|⟨g',S',ic,bh,ho⟩
  ·rw[yH2 hk (.inl rfl) hx hc,ae];simp only[];rw[ab (by omega),ak,KX hk (.inr rfl) hy h.main,ae];simp only[];rw[aa (show g>0 by omega)];rfl
  ·have hg':=ho.gen;rw[KX hk (.inl rfl) hx ho,ae];simp only[];rw[aa (show g'>0 by omega),aj,KX hk (.inr rfl) hy h.main,ae];simp only[];rw[aa (show g>g' by omega)];rfl
theorem vD0 {k}(hk:1000≤k){D m g S rows}(h:Has D m g S rows) f:PB k D f=some (.inl (S,rows,0,D,m,g,(rows.length:Int),true)):=by
 unfold PB;rw[yEr hk h];rfl
structure nS (r:qD) (s:zR):Prop where
 inv:qV r s
 ids:∀x∈s.ids,x<9223372036854775808
theorem PD {α:Type}{d x}{l:List α}(h:x∈l):∃i,i<l.length∧l.getD i d=x:=by
 obtain⟨i,hi,e⟩:=List.mem_iff_getElem.1 h;exact⟨i,hi,by simp_all⟩
theorem vKb {k:Nat}(hk:1000≤k){r:qD}(hr:vO r){s:zR}(h:nS r s):∀x∈gj s.st,kA k x:=by
 have hi:=h.inv;have n6:=hi.bk.n6;have n1:=hi.bk.n1;have hm:=hi.waits.len;have h3:=hr.n3;have hb:wK s.B.1 s.B.2.1 s.B.2.2.1 s.B.2.2.2:=hi.bk;have hL:=hi.laid 0 (by omega);have hol:=hi.hol;have htk:=hi.tk;have CP:=hr.cl;have Ku:=hi.tot;have hn:=hi.n;have an:=hi.waits.idl;have b1:=hb.bl;have b2:=hb.pl;have b3:=hb.ml;have few:∀{x:AC},x.length≤200→jx x→kA k x:=fun h1 h2=>⟨by omega,by omega,h2⟩
 have row:∀{l:EQ} {n:Nat} {x:AC},x∈l→l.length=n→(∀i,i<n→(l.getD i []).length≤200)→(∀i,i<n→∀j,j<(l.getD i []).length→-9223372036854775808≤(l.getD i []).getD j 0∧(l.getD i []).getD j 0<9223372036854775808)→kA k x:=by
  intro l n x hx hl h1 h2;obtain⟨i,hi,e⟩:=PD (d:=[]) hx;have g1:=h1 i (by omega);have g2:=h2 i (by omega);rw[e] at g1 g2;refine few g1 fun y hy=>?_
  obtain⟨j,hj,e⟩:=PD (d:=0) hy;rw[←e];exact g2 j hj
 have one:∀{x:AC},x.length≤200→(∀j,j<x.length→-9223372036854775808≤x.getD j 0∧x.getD j 0<9223372036854775808)→kA k x:=fun h1 h2=>few h1 fun y hy=>by
  obtain⟨j,hj,e⟩:=PD (d:=0) hy;rw[←e];exact h2 j hj
 intro x hx;simp only[gj,List.mem_append,List.mem_singleton,List.mem_map] at hx;rcases hx with((((((((rfl|⟨a,ha,rfl⟩)|hx)|rfl)|hx)|rfl)|hx)|⟨p,hp,rfl⟩)|rfl)
 ·refine few (by simp) fun y hy=>?_
  simp only[List.mem_cons,List.not_mem_nil,or_false] at hy;have q0:s.st.1=s.t:=rfl;have q1:s.st.2.2.2.2.2.2.2.2.2.1=s.to:=rfl;have q2:s.st.2.1.length=s.B.1.length:=rfl;have q3:s.st.2.2.1.length=s.B.2.1.length:=rfl;have q4:s.st.2.2.2.1.length=s.B.2.2.1.length:=rfl;have q5:s.st.2.2.2.2.1.length=s.B.2.2.2.length:=rfl;have q6:s.st.2.2.2.2.2.2.1.length=s.ho.length:=rfl;have q7:s.st.2.2.2.2.2.2.2.1.length=s.m.length:=rfl;rcases hy with rfl|rfl|rfl|rfl|rfl|rfl|rfl|rfl|rfl
  ·omega
  ·omega
  ·cases s.st.2.2.2.2.2.2.2.2.2.2<;>decide
  all_goals omega
 ·obtain⟨i,bH,e⟩:=PD (d:=ad) ha;have:=oW.1 (hb.acct i bH);have e:s.B.1.getD i ad=a:=e;have:=(oW (a:=a)).1 (by rw[←e];exact hb.acct i bH);refine few (by simp[jw]) fun y hy=>?_
  simp only[jw,List.mem_cons,List.not_mem_nil,or_false] at hy;rcases hy with rfl|rfl|rfl<;>omega
 ·refine row (n:=s.B.1.length) hx b1 (fun i hi=>?_) fun i hi j hj=>?_
  ·have:=hb.br i hi;show(s.B.2.1.getD i []).length≤200;omega
  ·have hj:j<(s.B.2.1.getD i []).length:=hj;have g:=hb.bil i hi j (by have:=hb.br i hi;omega);unfold wN at g;simp only[ba,aX] at g;have g:cell s.B.2.1 i j≥-1∧cell s.B.2.1 i j≤2305843009213693952:=g;show-9223372036854775808≤cell s.B.2.1 i j∧cell s.B.2.1 i j<9223372036854775808;omega
 ·refine one (x:=s.B.2.2.1) (by omega) fun j hj=>?_
  have g:=hb.mul j (by omega);unfold wN at g;simp only[ba,aX] at g;omega
 ·refine row (n:=s.B.1.length) hx b2 (fun i hi=>?_) fun i hi j hj=>?_
  ·have:=hb.pr i hi;show(s.B.2.2.2.getD i []).length≤200;omega
  ·have hj:j<(s.B.2.2.2.getD i []).length:=hj;have g:=hb.net i hi j (by have:=hb.pr i hi;omega);unfold gF at g;simp only[ba,aX] at g;have g:cell s.B.2.2.2 i j>-72057594037927936∧cell s.B.2.2.2 i j<72057594037927936:=g;show-9223372036854775808≤cell s.B.2.2.2 i j∧cell s.B.2.2.2 i j<9223372036854775808;omega
 ·refine one (x:=s.pr) (by rw[hL.pl];omega) fun j hj=>?_
  have:=hL.price j (by rw[←hL.pl];exact hj);omega
 ·refine row (n:=s.B.1.length) hx hol (fun i bH=>?_) fun i bH j hj=>?_
  ·have:=(hi.laid i bH).hl;show(s.ho.getD i []).length≤200;omega
  ·have hj:j<(s.ho.getD i []).length:=hj;have L:=hi.laid i bH;have:=L.hold j (by rw[←L.hl];exact hj);show-9223372036854775808≤(s.ho.getD i []).getD j 0∧(s.ho.getD i []).getD j 0<9223372036854775808;omega
 ·have m1:=hi.waits.may p hp;have m2:=hi.waits.time p hp;have m3:=hi.waits.were p hp;have m4:=hi.waits.pos _ m3;have m5:=h.ids _ m3;have f1:=m1.f0;have f2:=m1.f1;have f3:=m1.t0;have f4:=m1.t1;have f5:=m1.a1;have f6:=m1.a2;have f7:=m1.c1;have f8:=m1.c3;refine few (by simp[gi]) fun y hy=>?_
  simp only[gi,List.mem_cons,List.not_mem_nil,or_false] at hy;rcases hy with rfl|rfl|rfl|rfl|rfl|rfl|rfl<;>omega
 ·exact few (x:=s.ids) (by omega) fun y hy=>⟨by have:=hi.waits.pos y hy;omega,h.ids y hy⟩
inductive fF (k:Nat) (r:qD):zR→EQ→zR→Prop
 |nil (s:zR):fF k r s [] s
 |cons {s t u:zR} {b:AC} {rows:EQ} {c:gL} {o:List qZ} {e:Int} (h1:sw k b=some (c,0)) (h2:gM k r s.st c=some (t.st,o,e)) (g:fF k r t rows u):fF k r s (b::rows) u
 |skip {s u:zR} {b:AC} {rows:EQ} {c:gL} {e:Int} (h1:sw k b=some (c,e)) (he:e≠0) (g:fF k r s rows u):fF k r s (b::rows) u
theorem fF.app {k:Nat}{r:qD}{s t u:zR}{a b:EQ}(g:fF k r s a t)(h:fF k r t b u):fF k r s (a++b) u:=by
 induction g with
 |nil s=>exact h
 |cons a b _ ih=>exact .cons a b (ih h)
 |skip a b _ ih=>exact .skip a b (ih h)
theorem fF.snocE {k:Nat}{r:qD}{s t u:zR}{b:AC}{rows:EQ}{c:gL}{o:List qZ}{e:Int}(g:fF k r s rows t)(h1:sw k b=some (c,0))(h2:gM k r t.st c=some (u.st,o,e)):fF k r s (rows++[b]) u:=g.app (.cons h1 h2 (.nil _))
theorem fF.snoc {k:Nat}{r:qD}{s t u:zR}{b:AC}{rows:EQ}{c:gL}{o:List qZ}(g:fF k r s rows t)(h1:sw k b=some (c,0))(h2:gM k r t.st c=some (u.st,o,0)):fF k r s (rows++[b]) u:=g.snocE h1 h2
theorem Xc {k:Nat}{r:qD}{ev:Int}{th:Bool}{rows:EQ}{b0}{x y:AC}{L:gT}{u:zR}:∀(m n i:Nat) (s:zR),i+m=rows.length→m<n→rows.length≤1000000→fF k r s (rows.drop i) u→
  xW k n ev th rows (rows.length:Int) (i:Int) b0 x y r L s.st=some (ev,th,b0,x,y,r,L,u.st)
 |0,n,i,s,h1,h2,_,g=>by
  obtain⟨n,rfl⟩:∃m,n=m+1:=⟨n-1,by omega⟩;rw[List.drop_of_length_le (by omega)] at g;cases g;show xX k _ ev th rows (rows.length:Int) (i:Int) b0 x y r L u.st=_;unfold xX;rw[ab (by omega)];rfl
 |m+1,n,i,s,h1,h2,h3,g=>by
  obtain⟨n,rfl⟩:∃m,n=m+1:=⟨n-1,by omega⟩;have hi:i<rows.length:=by omega
  have ed:rows.drop i=rows.getD i []::rows.drop (i+1):=by rw[List.drop_eq_getElem_cons hi,List.getD_eq_getElem?_getD,List.getElem?_eq_getElem hi];rfl
  rw[ed] at g;cases g with
  |@skip _ _ _ _ c e g1 he g3=>
   have ih:=Xc (ev:=ev) (th:=th) (b0:=b0) (x:=x) (y:=y) (L:=L) m n (i+1) s (by omega) (by omega) h3 g3;show xX k (xW k n) ev th rows (rows.length:Int) (i:Int) b0 x y r L s.st=_;unfold xX;rw[aa (show(i:Int)<rows.length by omega),fl (by omega) (by omega),aq,g1];simp only[aj,ae];rw[ab he,qE hi (by omega)];exact ih
  |@cons _ t _ _ _ c o e g1 g2 g3=>
  have ih:=Xc (ev:=ev) (th:=th) (b0:=b0) (x:=x) (y:=y) (L:=L) m n (i+1) t (by omega) (by omega) h3 g3;show xX k (xW k n) ev th rows (rows.length:Int) (i:Int) b0 x y r L s.st=_;unfold xX;rw[aa (show(i:Int)<rows.length by omega),fl (by omega) (by omega),aq,g1];simp only[aj,ae,decide_true];rw[g2];simp only[ae];rw[qE hi (by omega)];exact ih
theorem vRh {k:Nat}(hk:1000≤k){r:qD}(hr:vO r)(iO:pW k r=some true)(dD:qV r (jB r))(kx:pV k r=some (jB r).st){ev:Int}(aQ:1≤ev∧ev≤1000)
  {D:vQ} {m g:Int} {s0 s:zR} {rows:EQ} (h0:nS r s0) (hD:Has D m g (qY (gj s0.st)) rows) (hkp:fF k r s0 rows s):
  jJ k r D ev=(lV k s.st).bind fun b=>(uN k (m,g,(rows.length:Int),true) D b).bind fun x=>bif !(decide (x.1=0)) then some (.inr (x.1,x.2.2)) else some (.inl (0,x.2.2,wW r s ev,x.2.1)):=by
 obtain⟨b0,E7,_,_⟩:=W7 hk hr dD;obtain⟨b1,_,fg,pF⟩:=W7 hk hr h0.inv;obtain⟨l,el,l1,l2⟩:=yXn hr h0.inv;have abo:=h0.inv.waits.idl;have hrn:=hD.main.rn;have hf:jZ (gj s0.st):=by
  rw[el];refine⟨by rw[List.length_append];simp;omega,fun x hx=>?_⟩;rcases List.mem_append.1 hx with hx|hx
  ·have:=l2 x hx;omega
  ·rw[List.mem_singleton.1 hx];omega
 have ko:=vWc hk hf (vKb hk hr h0) (by rw[fg] at pF;omega);have his:=W1 hk hr h0.inv;unfold jJ;rw[iO];simp only[ae,aA,ak];rw[ab (show¬ev<1 by omega),ab (show¬ev>1000 by omega)];simp only[ak];rw[yEr hk hD];simp only[ae];rw[kx];simp only[ae];rw[E7];simp only[ae];rw[vD0 hk hD];simp only[ae,decide_true,aA,ak];rw[ko];simp only[ae,aA,ak];rw[his];simp only[ae,aA,ak];have pU:=Xc (k:=k) (r:=r) (ev:=ev) (th:=true) (rows:=rows) (b0:=(D.1,D.2.2.1,D.2.2.2.2)) (x:=D.2.1) (y:=D.2.2.2.1) (L:=(m,g,(rows.length:Int),true)) rows.length k 0 s0 (by omega) (by omega) (by omega) (by simpa using hkp);refine(congrArg (fun z=>Option.bind z _) pU).trans ?_;rfl
def jR (s:zR):AC:=qY (gj s.st)
theorem GS {k}(hk:1000≤k){r}(hr:vO r){s}(h:qV r s):lV k s.st=some (jR s)∧(jR s).length≤7000:=by
 obtain⟨b,h1,h2,h3⟩:=W7 hk hr h;subst h2;exact⟨h1,h3⟩
structure sD (k:Nat) (r:qD) (N:Nat) (s s0:zR) (rows:EQ) (g:Int):Prop where
 i0:nS r s0
 i:nS r s
 kept:fF k r s0 rows s
 gen:1≤g∧g≤2305843009213693953+(N:Int)
 rl:∀x∈rows,x.length≤57
 rn:rows.length≤N
def Old (b:AC)(g:Int):Prop:=Cut b∨∃g' S' ic,g'<g∧BP b g' S' ic
def ft (k:Nat)(r:qD)(N:Nat)(s:zR)(D:vQ):Prop:=
 oX D∧∃(m g:Int) (s0:zR) (rows:EQ) (t:AC),(m=0∨m=1)∧sD k r N s s0 rows g∧yU D m=jG ((yA g++jR s0)::rows)++t∧Cut t∧Old (yU D (1-m)) g
structure gp (k:Nat) (r:qD) (N:Nat) (s:zR) (L:gT) (D:vQ):Prop where
 clean:oX D
 up:kQ D=false
 side:L.1=0∨L.1=1
 stale:L.2.2.2=false
 rows:0≤L.2.2.1∧L.2.2.1≤(N:Int)
 main:∃(s0:zR) (rows:EQ),sD k r N s s0 rows L.2.1∧yU D L.1=jG ((yA L.2.1++jR s0)::rows)
 old:Old (yU D (1-L.1)) L.2.1
theorem sD.more {k r N M s s0 rows g}(h:sD k r N s s0 rows g)(hM:N≤M):sD k r M s s0 rows g:=
 ⟨h.i0,h.i,h.kept,by have:=h.gen;omega,h.rl,by have:=h.rn;omega⟩
theorem gp.more {k r N M s L D}(h:gp k r N s L D)(hM:N≤M):gp k r M s L D:=
 ⟨h.clean,h.up,h.side,h.stale,by have:=h.rows;omega,by obtain⟨s0,rows,a,b⟩:=h.main;exact⟨s0,rows,a.more hM,b⟩,h.old⟩
theorem ft.more {k r N M s D}(h:ft k r N s D)(hM:N≤M):ft k r M s D:=by
 obtain⟨a,m,g,s0,rows,t,b,c,d⟩:=h;exact⟨a,m,g,s0,rows,t,b,c.more hM,d⟩
theorem gp.stored {k:Nat}{r:qD}{N:Nat}{s:zR}{L:gT}{D:vQ}(h:gp k r N s L D):ft k r N s D:=by
 obtain⟨s0,rows,a,b⟩:=h.main;exact⟨h.clean,L.1,L.2.1,s0,rows,[],h.side,a,by rw[List.append_nil];exact b,DH,h.old⟩
theorem vX6 {D}(h:oX D):(yU D 0).length≤200000∧(yU D 1).length≤200000:=by
 have h1:=h.lx;have h2:=h.ly;have h3:=h.room;exact⟨by show D.2.1.length≤_;omega,by show D.2.2.2.1.length≤_;omega⟩
theorem sD.holds {k}(hk:1000≤k){r}(hr:vO r){N}(hN:N≤900){s s0 rows g}(h:sD k r N s s0 rows g){b t}(hb:b=jG ((yA g++jR s0)::rows)++t)(ht:Cut t):BP b g (jR s0) rows:=
 ⟨by grind,by have:=h.gen;omega,by have:=(GS hk hr h.i0.inv).2;omega,fun x hx=>by have:=h.rl x hx;omega,by have:=h.rn;omega⟩
theorem Xd {k:Nat}(hk:1000≤k){r:qD}(hr:vO r){N:Nat}(hN:N≤890){s s0:zR}{rows:EQ}{m g:Int}{t:AC}{D:vQ}(hc:oX D)(hm:m=0∨m=1)(ha:sD k r N s s0 rows g)(hb:yU D m=jG ((yA g++jR s0)::rows)++t)(ht:Cut t)(ho:Old (yU D (1-m)) g)
  {e:Int} {D':vQ} (h:BO D (1-m) (wD (yA (g+1)++jR s)) e D'):
  (e=10∧D'=D∧D.1<100000)∨(e=0∧wV D'=wV D∧D'.1=D.1∧gp k r (N+1) s (1-m,g+1,0,false) D')∨(e=11∧wV D=true∧D'.1=D.1∧kQ D'=true∧ft k r (N+1) s D'):=by
 have lO:1-(1-m)=m:=by omega
 have BR:=ha.gen;have hlen:=(GS hk hr ha.i.inv).2;have new:sD k r (N+1) s s [] (g+1):=⟨ha.i,ha.i,.nil s,by omega,fun x hx=>absurd hx List.not_mem_nil,Nat.zero_le _⟩;have eR:wD (yA (g+1)++jR s)=jG ((yA (g+1)++jR s)::[]):=by simp[jG]
 have hold:BP (yU D m) g (jR s0) rows:=ha.holds hk hr (by omega) hb ht;cases h with
 |full hf=>exact .inl ⟨rfl,rfl,by rw[tZ,List.length_append] at hf;have:(yA (g+1)).length=8:=rfl;omega⟩
 |ok w=>
  have w4:=w.oth;rw[lO] at w4;refine .inr (.inl ⟨rfl,w.ar,w.room,w.clean,w.dn,by show 1-m=0∨1-m=1;omega,rfl,⟨Int.le_refl _,by show(0:Int)≤_;omega⟩,⟨s,[],new,by show yU D' (1-m)=_;rw[w.it,eR]⟩,.inr ⟨g,jR s0,rows,by show g<g+1;omega,?_⟩⟩);show BP (yU D' (1-(1-m))) g (jR s0) rows;rw[lO,w4];exact hold
 |none ir w=>
  have w4:=w.oth;rw[lO] at w4;refine .inr (.inr ⟨rfl,ir,w.room,w.dn,w.clean,m,g,s0,rows,t,hm,ha.more (by omega),by rw[w4];exact hb,ht,?_⟩);rw[w.it];exact ho
 |@torn _ j ir hj w=>
  have w4:=w.oth;rw[lO] at w4;refine .inr (.inr ⟨rfl,ir,w.room,w.dn,w.clean,?_⟩);have tx:=tZ (yA (g+1)++jR s);by_cases pA:j=(wD (yA (g+1)++jR s)).length
  ·refine⟨1-m,g+1,s,[],[],by omega,new,by rw[w.it,pA,List.take_length,eR,List.append_nil],DH,.inr ⟨g,jR s0,rows,by omega,?_⟩⟩;rw[lO,w4];exact hold
  ·refine⟨m,g,s0,rows,t,hm,ha.more (by omega),by rw[w4];exact hb,ht,.inl ?_⟩;rw[w.it];exact yFv (by rw[List.length_append];show 8+(jR s).length≤60000;omega) (by omega)
theorem vZm {l}(h:∀x∈l,x.length≤57):(jG l).length≤59*l.length:=by
 induction l with
 |nil=>simp[jG]
 |cons x l ih=>
  have h1:=ih (by grind);have h2:=h x (by simp);have e:jG (x::l)=wD x++jG l:=by rfl
  rw[e,List.length_append,tZ,List.length_cons];omega
theorem yU4 {k:Nat}(hk:1000≤k){r:qD}(hr:vO r){N:Nat}(hN:N≤890){s u:zR}{L:gT}{D:vQ}(h:gp k r N s L D){b:AC}(hb:b.length≤57){c:gL}{o:List qZ}(h1:sw k b=some (c,0))(h2:gM k r s.st c=some (u.st,o,0))(hu:nS r u)
  {e:Int} {L':gT} {D':vQ} (ha:KV L D (wD b) e L' D'):
  (e=10∧L'=L∧D'=D∧D.1<100000)∨(e=0∧wV D'=wV D∧D'.1=D.1∧gp k r (N+1) u L' D')∨(e=11∧wV D=true∧D'.1=D.1∧kQ D'=true∧L'=L∧(ft k r (N+1) s D'∨ft k r (N+1) u D')):=by
 obtain⟨s0,rows,hm,hs⟩:=h.main;have aW:=h.rows;have new:sD k r (N+1) u s0 (rows++[b]) L.2.1:=⟨hm.i0,hu,hm.kept.snoc h1 h2,by have:=hm.gen;omega,fun x hx=>by
  rcases List.mem_append.1 hx with hx|hx
  ·exact hm.rl x hx
  ·rw[List.mem_singleton.1 hx];exact hb,by have:=hm.rn;rw[List.length_append];simp;omega⟩
 have eR:jG ((yA L.2.1++jR s0)::rows)++wD b=jG ((yA L.2.1++jR s0)::(rows++[b])):=by simp[jG]
 have pF:=tZ b;cases ha with
 |full hf=>
  have h3:=vZm hm.rl;have h4:=(GS hk hr hm.i0.inv).2;have h5:=hm.rn;have e:jG ((yA L.2.1++jR s0)::rows)=wD (yA L.2.1++jR s0)++jG rows:=by simp[jG]
  have h6:(yA L.2.1).length=8:=rfl;have h7:=tZ (yA L.2.1++jR s0);rw[List.length_append] at h7;rw[hs,e,List.length_append] at hf;exact .inl ⟨rfl,rfl,rfl,by omega⟩
 |ok w=>
  have Xe:zA (L.2.2.1+1)=L.2.2.1+1:=zN (by omega) (by omega);refine .inr (.inl ⟨rfl,w.ar,w.room,w.clean,w.dn,h.side,h.stale,?_,⟨s0,rows++[b],new,?_⟩,?_⟩)
  ·show 0≤zA (L.2.2.1+1)∧zA (L.2.2.1+1)≤_;rw[Xe];omega
  ·show yU D' L.1=_;rw[w.it,hs,eR]
  ·show Old (yU D' (1-L.1)) L.2.1;rw[w.oth];exact h.old
 |@torn _ j ir hj w=>
  refine .inr (.inr ⟨rfl,ir,w.room,w.dn,rfl,?_⟩);have old:Old (yU D' (1-L.1)) L.2.1:=by rw[w.oth];exact h.old
  by_cases pA:j=(wD b).length
  ·right;exact⟨w.clean,L.1,L.2.1,s0,rows++[b],[],h.side,new,by rw[w.it,hs,pA,List.take_length,eR,List.append_nil],DH,old⟩
  ·left;exact⟨w.clean,L.1,L.2.1,s0,rows,(wD b).take j,h.side,hm.more (by omega),by rw[w.it,hs],yFv (by omega) (by omega),old⟩
theorem vYp {k:Nat}(hk:1000≤k){r:qD}(hr:vO r){ev:Int}{N:Nat}(hN:N≤880){s u:zR}{L:gT}{D:vQ}(h:gp k r N s L D){b:AC}(hb:b.length≤57){c:gL}{o:List qZ}(h1:sw k b=some (c,0))(h2:gM k r s.st c=some (u.st,o,0))(hu:nS r u):
  ∃e L' D',PE k (wW r s ev) L D b=some (e,wW r s ev,L',D')∧D'.1=D.1∧
   ((e=10∧D.1<100000∧wV D'=wV D∧gp k r (N+3) s L' D')∨(e=0∧wV D'=wV D∧gp k r (N+3) u L' D')∨(e=11∧wV D=true∧kQ D'=true∧(ft k r (N+3) s D'∨ft k r (N+3) u D'))):=by
 obtain⟨e1,L1,D1,a1,a2⟩:=yXh (k:=k) h.clean h.up h.side h.stale (b:=b) (by omega);unfold PE;rw[a1,ae];dsimp only;rcases yU4 hk hr (by omega) h hb h1 h2 hu a2 with⟨rfl,rfl,rfl,zh⟩|⟨rfl,q1,q2,q3⟩|⟨rfl,q1,q2,q3,rfl,q4⟩
 ·rw[aa rfl,aA,ak];obtain⟨s0,rows,hm,hs⟩:=h.main;have BR:=hm.gen;have xm:=GS hk hr hm.i.inv;rw[show lV k (pX (wW r s ev))=some (jR s) from xm.1,ae];obtain⟨e2,D2,b1,b2⟩:=Xa (k:=k) (by omega) h.clean h.up h.side (by omega) (b:=jR s) (by omega);rw[b1,ae];dsimp only;rcases Xd hk hr (by omega) h.clean h.side hm (by rw[List.append_nil];exact hs) DH h.old b2 with⟨rfl,rfl,_⟩|⟨rfl,q1,q2,q3⟩|⟨rfl,q1,q2,q3,q4⟩
  ·rw[ab (by decide)];exact⟨10,_,_,rfl,rfl,.inl ⟨rfl,zh,rfl,h.more (by omega)⟩⟩
  ·rw[aa rfl,if_pos rfl];simp only[aA,ak];obtain⟨e3,L3,D3,c1,c2⟩:=yXh (k:=k) q3.clean q3.up q3.side q3.stale (b:=b) (by omega);rw[c1,ae];rcases yU4 hk hr (by omega) q3 hb h1 h2 hu c2 with⟨rfl,rfl,rfl,_⟩|⟨rfl,p1,p2,p3⟩|⟨rfl,p1,p2,p3,rfl,p4⟩
   ·exact⟨10,_,_,rfl,q2,.inl ⟨rfl,zh,q1,q3.more (by omega)⟩⟩
   ·exact⟨0,_,_,rfl,p2.trans q2,.inr (.inl ⟨rfl,p1.trans q1,p3.more (by omega)⟩)⟩
   ·refine⟨11,_,_,rfl,p2.trans q2,.inr (.inr ⟨rfl,q1.symm.trans p1,p3,?_⟩)⟩;rcases p4 with p|p
    ·exact .inl (p.more (by omega))
    ·exact .inr (p.more (by omega))
  ·rw[ab (by decide)];exact⟨11,_,_,rfl,q2,.inr (.inr ⟨rfl,q1,q3,.inl (q4.more (by omega))⟩)⟩
 ·exact⟨0,L1,D1,rfl,q2,.inr (.inl ⟨rfl,q1,q3.more (by omega)⟩)⟩
 ·refine⟨11,_,D1,rfl,q2,.inr (.inr ⟨rfl,q1,q3,?_⟩)⟩;rcases q4 with p|p
  ·exact .inl (p.more (by omega))
  ·exact .inr (p.more (by omega))
def sE (r:qD)(s:zR)(ev:Int):si:=(r.1,r.2.1,r.2.2.1,r.2.2.2.1,r.2.2.2.2,s.t,s.B.1,s.B.2.1,s.B.2.2.1,s.B.2.2.2,s.pr,s.ho,s.m,s.ids,s.to,s.ov,ev,true)
def PF (x:Int):Prop:= -9223372036854775808≤x∧x<9223372036854775808
def yMl (k:Nat)(r:qD):Prop:=∀s,nS r s→∀c:gL,j5 k c.2=some true→jx (yB c.2)→∃t o e,gM k r (zR.st s) c=some (zR.st t,o,e)∧nS r t∧(e≠0→t=s)
inductive GU (k:Nat) (r:qD) (ev:Int) (N:Nat) (s:zR) (L:gT) (D:vQ) (a:Int) (m:zC×Int):List qS→si→gT→vQ→Prop
 |none {o:List qS} (ha:vSt k r s a m s o):GU k r ev N s L D a m o (wW r s ev) L D
 |disk {L':gT} {D':vQ} (hf:D.1<100000) (hr:gp k r (N+4) s L' D') (ir:wV D'=wV D):GU k r ev N s L D a m [(a,16,10,0,0,0,0,0)] (wW r s ev) L' D'
 |done {t:zR} {o:List qS} {L':gT} {D':vQ} (hm:m.2=0) (ha:gM k r s.st (a,m.1)=some (t.st,o,0)) (hr:gp k r (N+4) t L' D') (ir:wV D'=wV D):GU k r ev N s L D a m o (wW r t ev) L' D'
 |lost {t:zR} {o:List qS} {L':gT} {D':vQ} (hm:m.2=0) (ha:gM k r s.st (a,m.1)=some (t.st,o,0)) (ir:wV D=true) (hd:kQ D'=true) (hs:ft k r (N+4) s D'∨ft k r (N+4) t D'):GU k r ev N s L D a m [] (sE r s ev) L' D'
 |late {t:zR} {o:List qS} {L':gT} {D':vQ} (hm:m.2=0) (ha:gM k r s.st (a,m.1)=some (t.st,o,0)) (ir:wV D=true) (hd:kQ D'=true) (hs:ft k r (N+4) t D'):GU k r ev N s L D a m o (sE r t ev) L' D'
theorem yS2 {k:Nat}(hk:1000≤k){r:qD}(hr:vO r)(hd:yMl k r)(hq:∀s c u o e,gM k r (zR.st s) c=some (u,o,e)→c.2.1=9→u=s.st){ev:Int}{N:Nat}(hN:N≤870){s:zR}{L:gT}{D:vQ}(h:gp k r N s L D)
  {a:Int} (haw:PF a) {b:AC} (hb:b.length≤8*k) (bF:b.length≤140737488355328):
  ∃o G' L' D',BS k (wW r s ev) L D a b=some (o,G',L',D')∧D'.1=D.1∧GU k r ev N s L D a (mL b) o G' L' D':=by
 have hm:AJ k b=some (mL b):=yN3 (by omega) hb bF;have xY:=fun h=>vJm (k:=k) (by omega) (b:=b) h
 generalize mL b=m at hm xY;have hi:nS r s:=by obtain⟨s0,rows,hM,_⟩:=h.main;exact hM.i
 unfold BS;rw[show j7 k (wW r s ev) L D=some (false,wW r s ev,L,D) from rfl];simp only[ae,ak];rw[hm];simp only[ae];by_cases h0:m.2=0
 case neg=>
  rw[ab h0];exact⟨_,_,L,D,rfl,rfl,.none (.inl ⟨h0,rfl,rfl⟩)⟩
 obtain⟨f1,f2⟩:=xY h0;rw[aa h0];simp only[aA,ak];obtain⟨t,o,e,h1,h2,h3⟩:=hd s hi (a,m.1) f1 f2;have e1:yZ (wW r s ev)=r:=rfl;have e2:pX (wW r s ev)=s.st:=rfl;rw[e1,e2,h1];simp only[ae];by_cases he:e=0
 case neg=>
  rw[ab he];exact⟨_,_,L,D,rfl,rfl,.none (.inr ⟨h0,_,_,_,h1,.inl ⟨he,rfl,rfl⟩⟩)⟩
 subst he;rw[show decide ((0:Int)=0)=true from rfl];simp only[aA,ak];by_cases h9:m.1.1=9
 ·rw[aa h9];have eq:=hq _ _ _ _ _ h1 h9;exact⟨o,_,L,D,rfl,rfl,.none (.inr ⟨h0,_,_,_,h1,.inr ⟨rfl,eq,rfl⟩⟩)⟩
 rw[ab h9];simp only[ak];obtain⟨c,nF,cL,dH⟩:=vF8 hk (w:=a) f1 haw f2;rw[nF];simp only[ae];obtain⟨e',L1,D1,k1,k2,k3⟩:=vYp hk hr (ev:=ev) (by omega) h dH cL h1 h2;rw[k1];simp only[ae];rcases k3 with⟨rfl,qf,q1,q2⟩|⟨rfl,q1,q2⟩|⟨rfl,q1,q2,q3⟩
 ·rw[show decide ((10:Int)=0)=false from rfl,show decide ((10:Int)=10)=true from rfl];exact⟨_,_,L1,D1,rfl,k2,.disk qf (q2.more (by omega)) q1⟩
 ·simp only[decide_true,aj];show∃o G' L' D',(PG k L1 D1).bind _=_∧_;rw[show PG k L1 D1=some (L1.2.2.1,L1,D1) from rfl];simp only[ae];cases decide (L1.2.2.1≥(wW r s ev).2.2.2.2.2.2.2.2.2.2.2.2.2.2.2.2.1) with
  |false=>exact⟨o,wW r t ev,L1,D1,rfl,k2,.done h0 h1 (q2.more (by omega)) q1⟩
  |true=>
   obtain⟨s0,rows,hM,hs⟩:=q2.main;have BR:=hM.gen;have xm:=GS hk hr h2.inv;simp only[aj];rw[xm.1];simp only[ae];obtain⟨e3,D2,b1,b2⟩:=Xa (k:=k) (by omega) q2.clean q2.up q2.side (by omega) (b:=jR t) (by omega);rw[b1];simp only[ae];rcases Xd hk hr (by omega) q2.clean q2.side hM (by rw[List.append_nil];exact hs) DH q2.old b2 with⟨rfl,rfl,pf⟩|⟨rfl,p1,p2,p3⟩|⟨rfl,p1,p2,p3,p4⟩
   ·exact⟨o,wW r t ev,L1,_,rfl,k2,.done h0 h1 (q2.more (by omega)) q1⟩
   ·exact⟨o,wW r t ev,_,D2,rfl,p2.trans k2,.done h0 h1 (p3.more (by omega)) (p1.trans q1)⟩
   ·exact⟨o,sE r t ev,_,D2,rfl,p2.trans k2,.late h0 h1 (q1.symm.trans p1) p3 (p4.more (by omega))⟩
 ·rw[show decide ((11:Int)=0)=false from rfl,show decide ((11:Int)=10)=false from rfl];exact ⟨[], sE r s ev, L1, D1, rfl, k2, .lost h0 h1 q1 q2 (by
   rcases q3 with p|p
   ·exact .inl (p.more (by omega))
   ·exact .inr (p.more (by omega)))⟩
inductive PH (k:Nat) (r:qD) (ev:Int) (N:Nat) (s:zR) (D:vQ):((Int×vQ×si×gT)⊕(Int×vQ))→Prop
 |up {L':gT} {D':vQ} (hr:gp k r (N+1) s L' D') (ir:wV D'=wV D) (aO:D'.1=D.1):PH k r ev N s D (.inl (0,D',wW r s ev,L'))
 |disk (hf:D.1<100000):PH k r ev N s D (.inr (10,D))
 |lost {D':vQ} (ir:wV D=true) (hd:kQ D'=true) (hs:ft k r (N+1) s D') (aO:D'.1=D.1):PH k r ev N s D (.inr (11,D'))
theorem vRl {k:Nat}(hk:1000≤k){r:qD}(hr:vO r)(iO:pW k r=some true)(dD:qV r (jB r))(kx:pV k r=some (jB r).st){ev:Int}(aQ:1≤ev∧ev≤1000){N:Nat}(hN:N≤880){s:zR}{D:vQ}(hu:kQ D=false)(h:ft k r N s D):
  ∃x,jJ k r D ev=some x∧PH k r ev N s D x:=by
 obtain⟨hc,m,g,s0,rows,t,hm,ha,hb,ht,ho⟩:=h;have hl:=vX6 hc;have hh:Has D m g (qY (gj s0.st)) rows:=⟨hm,ha.holds hk hr (by omega) hb ht,ho,by omega,by omega⟩;have BR:=ha.gen;have xm:=GS hk hr ha.i.inv;rw[vRh hk hr iO dD kx aQ ha.i0 hh ha.kept,xm.1,ae];obtain⟨e,D',b1,b2⟩:=Xa (k:=k) (by omega) hc hu (L:=(m,g,(rows.length:Int),true)) hm (by show 1≤g∧g<_;omega) (b:=jR s) (by omega);rw[b1,ae];dsimp only;rcases Xd hk hr (by omega) hc hm ha hb ht ho b2 with⟨rfl,rfl,pf⟩|⟨rfl,p1,p2,p3⟩|⟨rfl,p1,p2,p3,p4⟩
 ·rw[ab (by decide)];exact⟨_,rfl,.disk pf⟩
 ·rw[aa rfl];exact⟨_,rfl,.up p3 p1 p2⟩
 ·rw[ab (by decide)];exact⟨_,rfl,.lost p1 p3 p4 p2⟩
end Go.Ab.Gi
namespace Go.Ab.Gi
open Go.Ab Go.RowKit
def PI:vQ:=(200000,[],0,[],0,0,0,false,false,0)
def gq (k:Nat)(r:qD):vQ:=match jJ k r PI 1 with
 |some (.inl x)=>x.2.1
 |_=>PI
structure vMc (k:Nat) (r:qD):Prop where
 new:PJ k 200000=some PI
 is:∀ev,1≤ev→ev≤1000→jJ k r PI ev=some (.inl (0,gq k r,wW r (jB r) ev,(0,1,0,false)))
 calm:(!(gq k r).2.2.2.2.2.2.2.1&& !(gq k r).2.2.2.2.2.2.2.2.1&&decide ((gq k r).1=200000)&&decide ((gq k r).2.1.length≤20000)&&decide ((gq k r).2.2.2.1.length≤20000))=true
inductive PS (k:Nat) (r:qD) (ev:Int) (N:Nat):zR→si→gT→vQ→Bool→Prop
 |up {s:zR} {L:gT} {D:vQ} (h:gp k r N s L D):PS k r ev N s (wW r s ev) L D true
 |down {s s':zR} {L:gT} {D:vQ} (hd:kQ D=true) (h:ft k r N s D):PS k r ev N s (sE r s' ev) L D false
theorem PS.more {k:Nat}{r:qD}{ev:Int}{N M:Nat}{s:zR}{G:si}{L:gT}{D:vQ}{u:Bool}(h:PS k r ev N s G L D u)(hM:N≤M):PS k r ev M s G L D u:=by
 cases h with
 |up h=>exact .up (h.more hM)
 |down hd h=>exact .down hd (h.more hM)
theorem PS.stored {k:Nat}{r:qD}{ev:Int}{N:Nat}{s:zR}{G:si}{L:gT}{D:vQ}{u:Bool}(h:PS k r ev N s G L D u):ft k r N s D:=by
 cases h with
 |up h=>exact h.stored
 |down hd h=>exact h
theorem ft.deck {k:Nat}{r:qD}{N:Nat}{s:zR}{D D':vQ}(h:ft k r N s D)(hc:oX D')(h0:D'.2.1=D.2.1)(h1:D'.2.2.2.1=D.2.2.2.1):ft k r N s D':=by
 obtain⟨_,m,g,s0,rows,t,hm,ha,hb,ht,ho⟩:=h;have e:∀i,yU D' i=yU D i:=fun i=>by unfold yU;rw[h0,h1]
 exact⟨hc,m,g,s0,rows,t,hm,ha,by rw[e];exact hb,ht,by rw[e];exact ho⟩
theorem vQp {k:Nat}{D:vQ}(h:oX D):KZ k D=some (D.1,D.2.1,D.2.2.1,D.2.2.2.1,D.2.2.2.2.1,D.2.2.2.2.2.1,D.2.2.2.2.2.2.1,false,false,0):=by
 unfold KZ;have h1:=h.x;have h2:=h.y;rw[h1,h2,aa (show(0:Int)≤(D.2.1.length:Int) by omega),aa (show(D.2.1.length:Int)≤(D.2.1.length:Int) by omega),aa (show(0:Int)≤(D.2.2.2.1.length:Int) by omega),aa (show(D.2.2.2.1.length:Int)≤(D.2.2.2.1.length:Int) by omega)];simp only[Bool.and_self,aj,aq,Nat.sub_zero,List.take_length]
structure abp (k:Nat) (a:vB1):Prop where
 who:PF a.2.1
 len:a.2.2.1.length≤8*k∧a.2.2.1.length≤140737488355328
 keep:a.2.2.2.2<9223372036854775808
def yFi (D:vQ)(c1 c2:Int):vQ:=(D.1,D.2.1,D.2.2.1,D.2.2.2.1,D.2.2.2.2.1,c1,c2,true,D.2.2.2.2.2.2.2.2)
theorem vHx {k:Nat}(hk:1000≤k){r:qD}(hr:vO r)(iO:pW k r=some true)(dD:qV r (jB r))(kx:pV k r=some (jB r).st){ev:Int}(aQ:1≤ev∧ev≤1000){N:Nat}(hN:N≤880){s:zR}{D:vQ}(hu:kQ D=false)(ir:wV D=false)(h:ft k r N s D):
  (∃D' L',jJ k r D ev=some (.inl (0,D',wW r s ev,L'))∧gp k r (N+1) s L' D'∧wV D'=false∧D'.1=D.1)∨(jJ k r D ev=some (.inr (10,D))∧D.1<100000):=by
 obtain⟨x,p1,p2⟩:=vRl hk hr iO dD kx aQ hN hu h;cases p2 with
 |up q1 q2 q3=>exact .inl ⟨_,_,p1,q1,q2.trans ir,q3⟩
 |disk hf=>exact .inr ⟨p1,hf⟩
 |lost q1=>rw[ir] at q1;cases q1
theorem vZx {r}(hr:vO r){s}(h:qV r s)(t:zR):∃b,BN 1000 s.st t.st=some b:=by
  have hb:wK s.B.1 s.B.2.1 s.B.2.2.1 s.B.2.2.2:=h.bk;have gl:=h.bk.n6;have lL:=h.bk.n1;have hm:=h.waits.len;have hi:=h.waits.idl;have h3:=hr.n3;have hL:=h.laid 0 (by omega);have e1:=yEf (k:=1000) (by decide) hb.toSized t.B.1 t.B.2.1 t.B.2.2.1 t.B.2.2.2;have e2:nI 1000 s.pr t.pr=some (decide (s.pr=t.pr)):=DZ (by rw[hL.pl];omega) (by rw[hL.pl];omega);have e3:ua 1000 s.ho t.ho=some (decide (s.ho=t.ho)):=by
    have hol:=h.hol;exact Nv (by omega) (by omega) (fun i hi=>by
      have:=(h.laid i (by omega)).hl;omega)
  have e4:BM 1000 s.m t.m=some (decide (s.m=t.m)):=yXa (by omega) (by omega);have e5:nI 1000 s.ids t.ids=some (decide (s.ids=t.ids)):=DZ (by omega) (by omega);have eU : BN 1000 s.st t.st = bif decide (s.t = t.t) then (bif decide (s.to = t.to) then (bif mq s.ov t.ov then ((D6 1000 s.B.1 s.B.2.1 s.B.2.2.1 s.B.2.2.2 t.B.1 t.B.2.1 t.B.2.2.1 t.B.2.2.2).bind fun x0=>
    bif x0 then ((nI 1000 s.pr t.pr).bind fun x1=>
     bif x1 then ((ua 1000 s.ho t.ho).bind fun x2=>
      bif x2 then ((BM 1000 s.m t.m).bind fun x3=>
       bif x3 then ((nI 1000 s.ids t.ids).bind fun x4=>
        some x4)
       else some false)
      else some false)
     else some false)
    else some false)
   else some false)
  else some false)
 else some false:=rfl
  grind
theorem vMy {r:qD}(w:uL r)(iO:pW 1000 r=some true){ev:Int}(aQ:1≤ev∧ev≤1000){N:Nat}(hN:N≤870){s:zR}{D:vQ}(h:ft 1000 r N s D)(nE:D.1=200000):
  ∃D1 D2 L2,KZ 1000 D=some D1∧jJ 1000 r D1 ev=some (.inl (0,D2,wW r s ev,L2))∧gp 1000 r (N+1) s L2 D2∧wV D2=false∧D2.1=200000:=by
 have hD:=h.1;have h1:ft 1000 r N s (D.1,D.2.1,D.2.2.1,D.2.2.2.1,D.2.2.2.2.1,D.2.2.2.2.2.1,D.2.2.2.2.2.2.1,false,false,0):=h.deck ⟨hD.x,hD.y,hD.room,hD.lx,hD.ly,hD.ck⟩ rfl rfl;rcases vHx (k:=1000) (Nat.le_refl _) w.ok iO w.inv w.new aQ (by omega) (s:=s) rfl rfl h1 with⟨D2,L2,c1,c2,c3,c4⟩|⟨_,c2⟩
 ·exact⟨_,D2,L2,vQp hD,c1,c2,c3,c4.trans nE⟩
 ·have c2:D.1<100000:=c2;omega
end Go.Ab.Gi
namespace Go.Ab.Gi
open Go.Ab Go.RowKit
theorem yHr {k}{r:qD}{s u:pS}{c:gL}{o:List qZ}{e}(h:gM k r s c=some (u,o,e))(h9:c.2.1=9):u=s:=by
 unfold gM at h;cases hm:uA k r s c with
 |none=>simp_all
 |some x=>
  cases hx:decide (x=0) with
  |false=>
   simp_all
  |true=>
   cases hq:BE k s c.1 with
   |none=>simp_all
   |some y=>
    simp_all
theorem vAs {s t:zR}(h:s.st=t.st):s=t:=by
 obtain⟨a,⟨b1,b2,b3,b4⟩,c,d,e,f,g,i⟩:=s;unfold zR.st at h;simp_all
theorem yXg {k:Nat}(hk:1000≤k){r:qD}(hr:vO r):yMl k r:=fun s hs c hc hf=>by
 obtain⟨t,o,e,h1,h2⟩:=vTb hk hr hs.inv c;refine⟨t,o,e,h1,⟨h2.inv,fun x hx=>?_⟩,fun h=>(h2.bad h).1⟩;rcases h2.ids x hx with h|h
 ·exact hs.ids x h
 ·rw[h];exact(hf _ (List.mem_cons_self ..)).2
end Go.Ab.Gi
namespace Go.Ab.Gi
open Go.Ab Go.RowKit
def GV (r:qD):Prop:=r=r0∨r=r1∨r=r2∨r=r3
theorem vFs {r}(h:GV r):Xf 1000 r=some (jB r).st:=by
 rcases h with rfl|rfl|rfl|rfl<;>kernel_rfl
theorem Xg {r}(h:GV r):vMc 1000 r:=by
 rcases h with rfl|rfl|rfl|rfl
 ·exact⟨by kernel_rfl,fun ev h1 h2=>by
   unfold jJ;rw[show pW 1000 r0=some true by kernel_rfl,ae,aA,ak,ab (show¬ev<1 by omega),ak,ab (show¬ev>1000 by omega),ak]
   kernel_rfl,by kernel_rfl⟩
 ·exact⟨by kernel_rfl,fun ev h1 h2=>by
   unfold jJ;rw[show pW 1000 r1=some true by kernel_rfl,ae,aA,ak,ab (show¬ev<1 by omega),ak,ab (show¬ev>1000 by omega),ak]
   kernel_rfl,by kernel_rfl⟩
 ·exact⟨by kernel_rfl,fun ev h1 h2=>by
   unfold jJ;rw[show pW 1000 r2=some true by kernel_rfl,ae,aA,ak,ab (show¬ev<1 by omega),ak,ab (show¬ev>1000 by omega),ak]
   kernel_rfl,by kernel_rfl⟩
 ·exact⟨by kernel_rfl,fun ev h1 h2=>by
   unfold jJ;rw[show pW 1000 r3=some true by kernel_rfl,ae,aA,ak,ab (show¬ev<1 by omega),ak,ab (show¬ev>1000 by omega),ak]
   kernel_rfl,by kernel_rfl⟩
def yDw (r:qD):Bool:=decide ((gq 1000 r).2.2.1=((gq 1000 r).2.1.length:Int))&&decide ((gq 1000 r).2.2.2.2.1=0)&&decide ((gq 1000 r).2.2.2.1.length=0)&&decide ((gq 1000 r).2.2.2.2.2.2.1<9223372036854775808)&& !kQ (gq 1000 r)&&decide ((gq 1000 r).2.1=jG [yA 1++jR (jB r)])&&decide ((jB r).to=0)&&(jB r).ids.all (fun x=>decide (x<9223372036854775808))
theorem vHe {r:qD}(h:GV r):yDw r=true:=by
 rcases h with rfl|rfl|rfl|rfl<;>kernel_rfl
theorem fresh {r:qD}(h:GV r)(w:uL r):nS r (jB r)∧(jB r).to=0∧gp 1000 r 0 (jB r) (0,1,0,false) (gq 1000 r)∧(gq 1000 r).1=200000∧wV (gq 1000 r)=false:=by
 have c:=(Xg h).calm;have f:=vHe h;simp only[yDw,ba,Bool.not_eq_true',aX,List.all_eq_true] at c f;obtain⟨⟨⟨⟨c1,c2⟩,c3⟩,c4⟩,c5⟩:=c;obtain⟨⟨⟨⟨⟨⟨⟨f1,f2⟩,f3⟩,f4⟩,f5⟩,f6⟩,f7⟩,f8⟩:=f;have i6:nS r (jB r):=⟨w.inv,f8⟩;refine⟨i6,f7,⟨⟨f1,by rw[f3];exact f2,by omega,by omega,by omega,f4⟩,f5,.inl rfl,rfl,by decide,⟨jB r,[],⟨i6,i6,.nil _,by decide,fun x hx=>absurd hx List.not_mem_nil,Nat.le_refl 0⟩,f6⟩,.inl ?_⟩,c3,c1⟩;have e:yU (gq 1000 r) (1-0)=(gq 1000 r).2.2.2.1:=rfl;show Cut (yU (gq 1000 r) (1-0));rw[e,List.eq_nil_of_length_eq_zero f3];exact DH
end Go.Ab.Gi
namespace Go.Ab.Gi
open Go.Ab Go.RowKit
theorem K0 (r s ev L D):j7 1000 (wW r s ev) L D=some (false,wW r s ev,L,D):=rfl
theorem Xh (r s ev L D):j7 1000 (sE r s ev) L D=some (true,sE r s ev,L,D):=rfl
theorem yUs (r s ev L D):xZ 1000 (wW r s ev) L D=some (s.st,wW r s ev,L,D):=rfl
def K1 (r:qD)(N:Nat)(s M:zR)(D:vQ):Prop:=∃u,ft 1000 r N u D∧(u=s∨u=M)∧D.1=200000
theorem Xi {r:qD}{ev:Int}(l:List gL)(i n:Nat)(v s M:zR)(L:gT)(D:vQ):
  sF 1000 (n+1) ev l (i:Int) (r.1,r.2.2) r.2.1 (D.1,D.2.2.1,D.2.2.2.2) D.2.1 D.2.2.2.1 (sE r v ev) L s.st M.st=some (ev,(r.1,r.2.2),r.2.1,(D.1,D.2.2.1,D.2.2.2.2),D.2.1,D.2.2.2.1,s.st,M.st):=by
 show uO 1000 _ ev l (i:Int) (r.1,r.2.2) r.2.1 (D.1,D.2.2.1,D.2.2.2.2) D.2.1 D.2.2.2.1 (sE r v ev) L s.st M.st=_;unfold uO;by_cases h:(i:Int)<(l.length:Int)
 ·rw[aa h];rfl
 ·rw[ab h];rfl
theorem vXz {r:qD}(w:uL r){ev:Int}(l:List gL)(hl:l.length≤40)(hw:∀c∈l,PF c.1∧jx (yB c.2)):
  ∀(c i n:Nat) (s M:zR) (L:gT) (D:vQ),i+c=l.length→c<n→gp 1000 r (5*i) s L D→D.1=200000→
   ∃s' M' D',sF 1000 n ev l (i:Int) (r.1,r.2.2) r.2.1 (D.1,D.2.2.1,D.2.2.2.2) D.2.1 D.2.2.2.1 (wW r s ev) L s.st M.st=some (ev,(r.1,r.2.2),r.2.1,(D'.1,D'.2.2.1,D'.2.2.2.2),D'.2.1,D'.2.2.2.1,zR.st s',zR.st M')∧K1 r (5*l.length+5) s' M' D':=by
 intro c
 induction c with
 |zero=>
  intro i n s M L D h1 h2 h nE;obtain⟨n,rfl⟩:∃m,n=m+1:=⟨n-1,by omega⟩;refine⟨s,M,D,?_,s,h.stored.more (by omega),.inl rfl,nE⟩;show uO 1000 _ ev l (i:Int) (r.1,r.2.2) r.2.1 (D.1,D.2.2.1,D.2.2.2.2) D.2.1 D.2.2.2.1 (wW r s ev) L s.st M.st=_;unfold uO;rw[ab (show¬(i:Int)<(l.length:Int) by omega)];rfl
 |succ c ih=>
  intro i n s M L D h1 h2 h nE;obtain⟨n,rfl⟩:∃m,n=m+1:=⟨n-1,by omega⟩;have hi:i<l.length:=by omega
  have hs6:nS r s:=by
   obtain⟨_,_,hM,_⟩:=h.main;exact hM.i
  have hs:=hs6.inv;obtain⟨⟨a,f⟩,hx⟩:∃x,l.getD i (0,0,0,0,0,0,0,0)=x:=⟨_,rfl⟩;have bL:(a,f)∈l:=by rw[←hx];exact gh hi
  obtain⟨Xj,tP⟩:=hw _ bL;dsimp only at Xj tP;have lt:decide ((i:Int)<(l.length:Int))=true:=aa (by omega);have bd:zB (i:Int) l.length=true:=fl (by omega) (by omega);have w1:zA ((i:Int)+1)=((i+1:Nat):Int):=qE hi (by omega);have dD:∀y,uO 1000 (sF 1000 n) ev l (i:Int) (r.1,r.2.2) r.2.1 (D.1,D.2.2.1,D.2.2.2.2) D.2.1 D.2.2.2.1 (wW r s ev) L s.st M.st=y→sF 1000 (n+1) ev l (i:Int) (r.1,r.2.2) r.2.1 (D.1,D.2.2.1,D.2.2.2.2) D.2.1 D.2.2.2.1 (wW r s ev) L s.st M.st=y:=fun _ e=>e
  obtain⟨t',o',e',q1,q2,q3⟩:=vS0 w.ok hs (a,f);have go:∀(u v:zR) (G':si) (L':gT) (D':vQ),((G'=wW r u ev∧gp 1000 r (5*(i+1)) u L' D')∨∃x,G'=sE r x ev∧K1 r (5*l.length+5) u v D')→D'.1=200000→
    ∃s' M' D2,sF 1000 n ev l ((i+1:Nat):Int) (r.1,r.2.2) r.2.1 (D'.1,D'.2.2.1,D'.2.2.2.2) D'.2.1 D'.2.2.2.1 G' L' u.st v.st=some (ev,(r.1,r.2.2),r.2.1,(D2.1,D2.2.2.1,D2.2.2.2.2),D2.2.1,D2.2.2.2.1,zR.st s',zR.st M')∧K1 r (5*l.length+5) s' M' D2:=fun u v G' L' D' hG ot=>by
   rcases hG with⟨rfl,hR⟩|⟨x,rfl,hLf⟩
   ·exact ih (i+1) n u v L' D' (by omega) (by omega) hR ot
   ·obtain⟨n,rfl⟩:∃m,n=m+1:=⟨n-1,by omega⟩;exact⟨u,v,D',Xi l (i+1) n x u v L' D',hLf⟩
  rcases WS tP with hb|⟨b,hb,fg,hb2,K2⟩
  ·obtain⟨o,G',L',D',d1,d2,d3⟩:=yS2 (k:=1000) (Nat.le_refl _) w.ok (yXg (Nat.le_refl _) w.ok) (fun s c u o e h h9=>yHr h h9) (ev:=ev) (by omega) h Xj (b:=[]) (by simp) (by simp);cases d3 with
   |none hA=>
    obtain⟨s',M',D2,g1,g2⟩:=go s s _ L D (.inl ⟨rfl,h.more (by omega)⟩) nE;refine⟨s',M',D2,dD _ ?_,g2⟩;unfold uO;rw[lt,bd,aq,hx,w1];simp only[aj];refine(congrArg (fun z=>Option.bind z _) (K0 r s ev L D)).trans ?_;simp only[ae,bQ,aj];rw[hb];simp only[ae];refine(congrArg (fun z=>Option.bind z _) d1).trans ?_;simp only[ae];refine(congrArg (fun z=>Option.bind z _) q2).trans ?_;simp only[ae];cases decide ((o.length:Int)>0) with
    |true=>exact g1
    |false=>
     simp only[ak];refine(congrArg (fun z=>Option.bind z _) (K0 r s ev L D)).trans ?_;exact g1
   |disk hf p q=>omega
   |done hm hA hR ir=>cases hm
   |lost hm hA ir hd rK=>cases hm
   |late hm hA ir hd rK=>cases hm
  ·obtain⟨o,G',L',D',d1,d2,d3⟩:=yS2 (k:=1000) (Nat.le_refl _) w.ok (yXg (Nat.le_refl _) w.ok) (fun s c u o e h h9=>yHr h h9) (ev:=ev) (by omega) h Xj (b:=b) (by omega) (by omega);rw[K2] at d3;have mb:D'.1=200000:=d2.trans nE;have blt:Nat.blt 0 b.length=true:=by rw[Nat.blt_eq];exact fg
   have mk:∀{u v:zR},(∃s' M' D2,sF 1000 n ev l ((i+1:Nat):Int) (r.1,r.2.2) r.2.1 (D'.1,D'.2.2.1,D'.2.2.2.2) D'.2.1 D'.2.2.2.1 G' L' u.st v.st=some (ev,(r.1,r.2.2),r.2.1,(D2.1,D2.2.2.1,D2.2.2.2.2),D2.2.1,D2.2.2.2.1,zR.st s',zR.st M')∧K1 r (5*l.length+5) s' M' D2)→
     (∀dn,j7 1000 G' L' D'=some (dn,G',L',D')→
      (e'≠0→u=s∧v=s)→(e'=0→v=t'∧((o.length:Int)>0→u=t')∧(¬(o.length:Int)>0→dn=false→u=t')∧(¬(o.length:Int)>0→dn=true→u=s))→
      ∃s' M' D2,sF 1000 (n+1) ev l (i:Int) (r.1,r.2.2) r.2.1 (D.1,D.2.2.1,D.2.2.2.2) D.2.1 D.2.2.2.1 (wW r s ev) L s.st M.st=some (ev,(r.1,r.2.2),r.2.1,(D2.1,D2.2.2.1,D2.2.2.2.2),D2.2.1,D2.2.2.2.1,zR.st s',zR.st M')∧K1 r (5*l.length+5) s' M' D2):=fun{u v} hgo dn MA he0 he1=>by
    obtain⟨s',M',D2,g1,g2⟩:=hgo;refine⟨s',M',D2,dD _ ?_,g2⟩;unfold uO;rw[lt,bd,aq,hx,w1];simp only[aj];refine(congrArg (fun z=>Option.bind z _) (K0 r s ev L D)).trans ?_;simp only[ae,bQ,aj];rw[hb];simp only[ae];rw[blt];simp only[aj];refine(congrArg (fun z=>Option.bind z _) d1).trans ?_;simp only[ae];refine(congrArg (fun z=>Option.bind z _) q2).trans ?_;simp only[ae];by_cases he:e'=0
    ·obtain⟨hv,tv,tw,hu3⟩:=he1 he;rw[aa he];simp only[aA,ak];by_cases ho:(o.length:Int)>0
     ·rw[aa ho];rw[hv,tv ho] at g1;exact g1
     ·rw[ab ho];simp only[ak];refine(congrArg (fun z=>Option.bind z _) MA).trans ?_;simp only[ae];cases dn with
      |false=>
       rw[hv,tw ho rfl] at g1;exact g1
      |true=>
       rw[hv,hu3 ho rfl] at g1;exact g1
    ·obtain⟨hu,hv⟩:=he0 he;rw[hu,hv] at g1;rw[ab he];simp only[bQ,aj];by_cases ho:(o.length:Int)>0
     ·rw[aa ho];exact g1
     ·rw[ab ho];simp only[ak];refine(congrArg (fun z=>Option.bind z _) MA).trans ?_;simp only[ae];cases dn<;>exact g1
   have pY:∀(u:zR) (p:List qZ) (e:Int),gM 1000 r s.st (a,f)=some (u.st,p,e)→t'=u∧e'=e:=fun u p e hu=>by
    have:=q1.symm.trans hu;simp only[Option.some.injEq,Prod.mk.injEq] at this;exact⟨vAs this.1,this.2.2⟩
   cases d3 with
   |none hA=>
    have et:t'=s:=by
     rcases hA with⟨h0,_⟩|⟨_,x,p,e,p1,⟨he,_,_⟩|⟨he,nr,_⟩⟩
     ·exact absurd rfl h0
     ·have:=q1.symm.trans p1;simp only[Option.some.injEq,Prod.mk.injEq] at this;exact(q3.bad (by rw[this.2.2];exact he)).1
     ·have:=q1.symm.trans p1;simp only[Option.some.injEq,Prod.mk.injEq] at this;exact vAs (this.1.trans nr)
    subst et;exact mk (go t' t' _ L D (.inl ⟨rfl,h.more (by omega)⟩) nE) false (K0 r t' ev L D) (fun _=>⟨rfl,rfl⟩) (fun _=>⟨rfl,fun _=>rfl,fun _ _=>rfl,fun _ _=>rfl⟩)
   |disk hf p q=>omega
   |@done t _ _ _ hm hA hR ir=>
    obtain⟨et,ee⟩:=pY t _ _ hA;subst et;exact mk (go t' t' _ L' D' (.inl ⟨rfl,hR.more (by omega)⟩) mb) false (K0 r t' ev L' D') (fun e=>absurd ee e) (fun _=>⟨rfl,fun _=>rfl,fun _ _=>rfl,fun _ h=>by cases h⟩)
   |@lost t _ _ _ hm hA ir hd uP=>
    obtain⟨et,ee⟩:=pY t _ _ hA;subst et;obtain⟨u,hu,Xk⟩:∃u,ft 1000 r (5*i+4) u D'∧(u=s∨u=t'):=by
     rcases uP with p|p
     ·exact⟨_,p,.inl rfl⟩
     ·exact⟨_,p,.inr rfl⟩
    exact mk (go s t' _ L' D' (.inr ⟨s,rfl,u,hu.more (by omega),Xk,mb⟩) mb) true (Xh r s ev L' D') (fun e=>absurd ee e) (fun _=>⟨rfl,fun ho=>(by simp at ho),fun _ h=>(by cases h),fun _ _=>rfl⟩)
   |@late t _ _ _ hm hA ir hd uP=>
    obtain⟨et,ee⟩:=pY t _ _ hA;subst et;by_cases ho:(o.length:Int)>0
    ·exact mk (go t' t' _ L' D' (.inr ⟨t',rfl,t',uP.more (by omega),.inl rfl,mb⟩) mb) true (Xh r t' ev L' D') (fun e=>absurd ee e) (fun _=>⟨rfl,fun _=>rfl,fun h=>absurd ho h,fun h=>absurd ho h⟩)
    ·exact mk (go s t' _ L' D' (.inr ⟨t',rfl,t',uP.more (by omega),.inr rfl,mb⟩) mb) true (Xh r t' ev L' D') (fun e=>absurd ee e) (fun _=>⟨rfl,fun h=>absurd h ho,fun _ h=>(by cases h),fun _ _=>rfl⟩)
theorem vQi {a ev:Int}{r:qD}(hr:j8 1000 a=some r)(w:uL r)(hf:GV r)(l:List gL)(c1 c2:Int)(hw:∀c∈l,PF c.1∧jx (yB c.2))(hc:c2<9223372036854775808):PK 1000 a ev l (c1,c2)=some true:=by
 unfold PK;by_cases q1:(l.length:Int)>40
 ·rw[aa q1];rfl
 rw[ab q1];by_cases h1:ev<1
 ·rw[aa h1];rfl
 rw[ab h1];by_cases h2:ev>50
 ·rw[aa h2];rfl
 rw[ab h2];simp only[ak];rw[hr];simp only[ae];obtain⟨i6,Ku,hR,aO,abq⟩:=fresh hf w;have iO:pW 1000 r=some true:=by rcases hf with rfl|rfl|rfl|rfl<;>kernel_rfl
 rw[(Xg hf).new];simp only[ae];refine(congrArg (fun z=>Option.bind z _) ((Xg hf).is ev (by omega) (by omega))).trans ?_;simp only[ae];refine(congrArg (fun z=>Option.bind z _) (show Xl 1000 (gq 1000 r) (c1,c2)=some (yFi (gq 1000 r) c1 c2) from rfl)).trans ?_;simp only[ae];refine(congrArg (fun z=>Option.bind z _) (vFs hf)).trans ?_;simp only[ae];have hD:=hR.clean;have hA:gp 1000 r (5*0) (jB r) (0,1,0,false) (yFi (gq 1000 r) c1 c2):=by
  obtain⟨q1,q2,q3,q4,q5,q6,q7⟩:=hR;exact⟨⟨hD.x,hD.y,hD.room,hD.lx,hD.ly,hc⟩,q2,q3,q4,q5,q6,q7⟩
 obtain⟨s,M,D,e1,u,hu,Xk,nE⟩:=vXz w l (by omega) hw l.length 0 1000 (jB r) (jB r) _ _ (by omega) (by omega) hA aO;refine(congrArg (fun z=>Option.bind z _) e1).trans ?_;obtain⟨D1,D2,L2,a1,a2,a3,_,a5⟩:=vMy w iO (ev:=ev) (by omega) (by omega) hu nE;have h6:nS r u:=by
  obtain⟨_,_,hM,_⟩:=a3.main;exact hM.i
 have hk:PM 1000=some true:=by kernel_rfl
 simp only[ae];refine(congrArg (fun z=>Option.bind z _) a1).trans ?_;simp only[ae];refine(congrArg (fun z=>Option.bind z _) a2).trans ?_;simp only[ae,decide_true,aj];refine(congrArg (fun z=>Option.bind z _) (yUs r u ev L2 D2)).trans ?_;simp only[ae];obtain⟨b,hb⟩:=vZx w.ok h6.inv s;refine(congrArg (fun z=>Option.bind z _) hb).trans ?_;cases b with
 |true=>
  simp only[ae,aj];rw[hk];rfl
 |false=>
  have huM:u=M:=by
   rcases Xk with e|e
   ·rw[←e,yQc w.ok h6.inv] at hb;cases hb
   ·exact e
  simp only[ae,ak];refine(congrArg (fun z=>Option.bind z _) (yUs r u ev L2 D2)).trans ?_;simp only[ae];rw[←huM];refine(congrArg (fun z=>Option.bind z _) (yQc w.ok h6.inv)).trans ?_;simp only[ae,aj];rw[hk];rfl
end Go.Ab.Gi
namespace Go.Ab.Gi
open Go.Ab Go.RowKit
theorem Xm (a:Int):∃r,j8 1000 a=some r∧uL r∧GV r:=by
 unfold j8;cases decide (yJ .i64 a 3=1) with
 |true=>exact⟨r1,rfl,W4,.inr (.inl rfl)⟩
 |false=>
  cases decide (yJ .i64 a 3=2) with
  |true=>exact⟨r2,rfl,vYs,.inr (.inr (.inl rfl))⟩
  |false=>
   cases decide (yJ .i64 a 3=3) with
   |true=>exact⟨r3,rfl,W5,.inr (.inr (.inr rfl))⟩
   |false=>exact⟨r0,rfl,vXo,.inl rfl⟩
theorem vWa {l:List gL}(h:l.length≤reachBytes∧∀i (hi:i<l.length),Wf (.pair (.int .i64) (.pair (.int .i64) (.pair (.int .i64) (.pair (.int .i64) (.pair (.int .i64) (.pair (.int .i64) (.pair (.int .i64) (.int .i64)))))))) l[i]):∀c∈l,(-9223372036854775808≤c.1∧c.1<9223372036854775808)∧jx (yB c.2):=fun a ha=>by
 obtain⟨i,hi,rfl⟩:=List.mem_iff_getElem.1 ha;have t:=h.2 i hi;refine⟨wx t.1,fun x hx=>?_⟩;simp only[yB,List.mem_cons,List.not_mem_nil,or_false] at hx;rcases hx with rfl|rfl|rfl|rfl|rfl|rfl
 ·exact wx t.2.2.1
 ·exact wx t.2.2.2.1
 ·exact wx t.2.2.2.2.1
 ·exact wx t.2.2.2.2.2.1
 ·exact wx t.2.2.2.2.2.2.1
 ·exact wx t.2.2.2.2.2.2.2
end Go.Ab.Gi
