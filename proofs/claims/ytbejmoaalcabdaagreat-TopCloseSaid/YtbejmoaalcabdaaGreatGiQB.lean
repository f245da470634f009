/- Plain proofs, part 1. -/
import Derived.Test.YtbejmoaalcabdaaGreatGiQA
import Derived.Test.YtbejmoaalcabdaaGreatGiXS
set_option linter.unusedVariables false
set_option linter.unusedSimpArgs false
set_option maxRecDepth 100000
namespace Go.Ab.Gi
open Go.Ab
structure e9 (B C:BT):Prop where
 len:C.1.length=B.1.length
 sum:qO (fun i=>(C.1.getD i ad).1) B.1.length=qO (fun i=>(B.1.getD i ad).1) B.1.length
 cred:∀i,i<B.1.length→(C.1.getD i ad).2.1=(B.1.getD i ad).2.1
 bil:C.2.1=B.2.1
 mul:C.2.2.1=B.2.2.1
 fell:∀i,i<B.1.length→(C.1.getD i ad).1<(B.1.getD i ad).1→0≤(C.1.getD i ad).1+(C.1.getD i ad).2.1
theorem e9.refl (B:BT):e9 B B:=⟨rfl,rfl,fun _ _=>rfl,rfl,rfl,fun _ _ h=>absurd h (Int.lt_irrefl _)⟩
theorem e9.trans {B C D:BT}(h:e9 B C)(g:e9 C D):e9 B D:=
 ⟨g.len.trans h.len,by have:=g.sum;rw[h.len] at this;exact this.trans h.sum,fun i hi=>(g.cred i (by rw[h.len];exact hi)).trans (h.cred i hi),g.bil.trans h.bil,g.mul.trans h.mul,fun i hi=>by
  have h1:=h.fell i hi
  have h2:=g.fell i (by rw[h.len];exact hi)
  have h3:=g.cred i (by rw[h.len];exact hi)
  omega⟩
theorem qZ5 (i:Nat):∀{l:List zC},(∀p∈l,0≤p.2.2.2.1)→0≤zT (gB i) l+(zT (gN i) l+zT (gR i) l)
 |[],_=>Int.le_refl _
 |p::l,h=>by
  have h1:=qZ5 i fun q hq=>h q (List.mem_cons_of_mem _ hq)
  have h2:=h p (List.mem_cons_self ..)
  have h3:0≤gB i p+(gN i p+gR i p):=by
   unfold gB gN gR
   repeat' split
   all_goals omega
  show 0≤gB i p+zT (gB i) l+(gN i p+zT (gN i) l+(gR i p+zT (gR i) l))
  omega
theorem vFt {a a':List qM}{b p p':List (List Int)}{m:List Int}{l:List zC}(x:qu a.length a p l a' p')(hf:zz a b m p l=true)(hl:∀q∈l,yS a.length q){i:Nat}(hi:i<a.length):
  (a'.getD i ad).1<(a.getD i ad).1→0≤(a'.getD i ad).1+(a'.getD i ad).2.1:=by
 have h1:=qZ5 i (l:=l) fun q hq=>by have:=(hl q hq).a1;omega
 unfold zz at hf
 rw[bU] at hf
 have h2:=gY.1 hf.2 i hi
 unfold hY at h2
 simp only[Bool.not_eq_true',Bool.and_eq_false_iff,Bool.or_eq_false_iff,Bool.not_eq_false',bN,decide_eq_false_iff_not] at h2
 rw[x.acct i hi]
 show(a.getD i ad).1+zT (gB i) l<_→0≤(a.getD i ad).1+zT (gB i) l+(a.getD i ad).2.1
 omega
theorem yLp {B:BT}(h:yM B){l:List zC}(hf:rf B l=true){r:List qM×List (List Int)×List Int×List (List Int)×Int}(hp:oO B.1 B.2.1 B.2.2.1 B.2.2.2 l r):e9 B (r.1,r.2.1,r.2.2.1,r.2.2.2.1):=by
 have hs:=(EG h hp).1
 by_cases c:wF B.1.length l
 ·obtain⟨a',p',x,e⟩:=hp.1 c
  cases hi:kT a' B.2.1 B.2.2.1 p' with
  |false=>rw[hi] at e;subst e;exact e9.refl B
  |true=>
   rw[hi] at e;subst e
   exact⟨x.al,hs,fun i bS=>by show(a'.getD i ad).2.1=_;rw[x.acct i bS],rfl,rfl,fun i bS=>vFt x hf c.1 bS⟩
 ·rw[hp.2 c];exact e9.refl B
theorem yQ1 {k:Nat}(hk:100<k){B C:BT}(h:yM B){l:List zC}(hl:l.length≤80)(hg:iJ k B l=some C):e9 B C:=by
 obtain⟨r,h1,h3⟩:=Io hk h hl
 unfold iJ at hg
 rw[h1] at hg
 simp only at hg
 cases hc:decide (r.2.2.2.2=0)&&rf B l with
 |false=>rw[hc] at hg;cases hg
 |true=>
  rw[hc] at hg
  simp only[aq,Option.some.injEq] at hg
  subst hg
  rw[bU] at hc
  exact yLp h hc.2 h3
theorem iK.keptC {k:Nat}(hk:100<k){t:Int}{B C:BT}{l done m:List zC}(h:iK k t B l done C m)(hb:yM B):e9 B C:=by
 induction h with
 |stop _=>exact e9.refl _
 |@step B C D l m done p h h' ih=>
  have hg:=(Fa h).2
  exact(yQ1 hk hb (by simp) hg).trans (ih (Bd hk hb (by simp) hg).1)
theorem jS.keptC {k:Nat}(hk:100<k){t:Int}{B C:BT}{l done m:List zC}(h:jS k t B l done C m)(hb:yM B):e9 B C:=by
 induction h with
 |stop _=>exact e9.refl _
 |@step B C D l m done p q h h' ih=>
  have hg:=(I1 h).2.2.2
  exact(yQ1 hk hb (by simp) hg).trans (ih (Bd hk hb (by simp) hg).1)
theorem iK.bk {k:Nat}(hk:100<k){t:Int}{B C:BT}{l done m:List zC}(h:iK k t B l done C m)(hb:yM B):yM C:=by
 induction h with
 |stop _=>exact hb
 |step h h' ih=>exact ih (Bd hk hb (by simp) (Fa h).2).1
theorem jS.bk {k:Nat}(hk:100<k){t:Int}{B C:BT}{l done m:List zC}(h:jS k t B l done C m)(hb:yM B):yM C:=by
 induction h with
 |stop _=>exact hb
 |step h h' ih=>exact ih (Bd hk hb (by simp) (I1 h).2.2.2).1
theorem lT.keptC {k:Nat}(hk:100<k){t:Int}{B C:BT}{l done m:List zC}(h:lT k t B l done C m)(hb:yM B):e9 B C:=by
 induction h with
 |stop h1 _=>exact h1.keptC hk hb
 |step h1 h2 ne h' ih=>
  have b1:=h1.bk hk hb
  exact((h1.keptC hk hb).trans (h2.keptC hk b1)).trans (ih (h2.bk hk b1))
theorem vLt {k:Nat}(hk:200≤k){B:BT}(hb:yM B){l:List zC}(hl:∀q∈l,yS B.1.length q)(dB:l.length≤64)(t:Int){C:BT}{m done:List zC}(hr:Bw k B.1 B.2.1 B.2.2.1 B.2.2.2 l t=some (C.1,C.2.1,C.2.2.1,C.2.2.2,m,done)):e9 B C:=by
 obtain⟨f,n,h,hn⟩:=yGk hb hl dB t
 have Qu:=Fi l t
 have cO:=Bk (wD l t) f
 have hhl:=cO.length_le
 obtain⟨r,h1,h3⟩:=Io (k:=k) (by omega) hb (l:=vW (wD l t) f) (by omega)
 have g1:=qXs (k:=k) (by omega) hb hl dB t (by omega) h h1
 unfold I8 at g1
 rw[g1] at hr
 cases c:decide (r.2.2.2.2=0) with
 |false=>
  rw[c] at hr
  simp only[eC,aq,Option.some.injEq,Prod.mk.injEq] at hr
  obtain⟨e1,e2,e3,e4,_⟩:=hr
  have:B=C:=Prod.ext e1 (Prod.ext e2 (Prod.ext e3 e4))
  rw[←this]
  exact e9.refl B
 |true=>
  rw[c] at hr
  simp only[bd,ao,Option.some.injEq,Prod.mk.injEq] at hr
  obtain⟨e1,e2,e3,e4,_⟩:=hr
  have:(r.1,r.2.1,r.2.2.1,r.2.2.2.1)=C:=Prod.ext e1 (Prod.ext e2 (Prod.ext e3 e4))
  rw[←this]
  refine yLp hb ?_ h3
  have hw:=Qm (I7 (t:=t) hl) (by omega) f
  have hs:=yY8.1 h.final
  unfold rf zz
  rw[zn.2 hw.1,ai hw.2]
  simp only[Bool.and_self,Bool.true_and]
  rw[gY]
  intro j hj
  have:=hs j hj
  unfold oS at this
  rw[this]
  rfl
theorem Qx {C D:BT}{m n d e:List zC}(h:(C.1,C.2.1,C.2.2.1,C.2.2.2,m,d)=(D.1,D.2.1,D.2.2.1,D.2.2.2,n,e)):C=D∧m=n∧d=e:=by
 simp only[Prod.mk.injEq] at h
 obtain⟨e1,e2,e3,e4,e5,e6⟩:=h
 exact⟨Prod.ext e1 (Prod.ext e2 (Prod.ext e3 e4)),e5,e6⟩
theorem yH0 {k:Nat}(hk:200≤k){B:BT}(hb:yM B){l:List zC}(hd:qT l)(hl:∀q∈l,yS B.1.length q)(dB:l.length≤64)(t:Int)(all:Bool){X:BT}{mx dx:List zC}
  (hr:wi k B.1 B.2.1 B.2.2.1 B.2.2.2 l t all=some (X.1,X.2.1,X.2.2.1,X.2.2.2,mx,dx)):e9 B X:=by
 obtain⟨C,m,d,f1,f2,f3,f4,f5⟩:=Jc hk hb hd (by omega) t
 have q1:=f2.keptC (by omega) hb
 have p1:=f2.perm hd
 have l1:=p1.length_eq
 rw[List.length_append] at l1
 unfold wi at hr
 rw[f1] at hr
 simp only[an] at hr
 cases all with
 |false=>
  simp only[eC,aq,Option.some.injEq] at hr
  rw[←(Qx hr).1];exact q1
 |true=>
  simp only[bd,ao] at hr
  have hm:qT m:=List.Pairwise.sublist f5 hd
  have Hc:∀q∈m,yS C.1.length q:=fun q hq=>by rw[f4];exact hl q (f5.subset hq)
  obtain⟨D,n,x,g1,g2,g3,g4,g5,g6⟩:=yIo hk f3 hm Hc (by omega) t
  have q2:=vLt hk f3 Hc (by omega) t g1
  have l2:=g5.length_eq
  rw[List.length_append] at l2
  rw[g1] at hr
  simp only[an] at hr
  cases x with
  |nil=>
   obtain⟨rfl,rfl⟩:=g6 rfl
   have lE:some (D.1,D.2.1,D.2.2.1,D.2.2.2,n,d)=some (X.1,X.2.1,X.2.2.1,X.2.2.2,mx,dx):=hr
   rw[←(Qx (Option.some.inj lE)).1];exact q1
  |cons p x=>
   have e1:decide ((((p::x).length:Nat):Int)=0)=false:=aj (by simp;omega)
   rw[e1] at hr
   simp only[ao] at hr
   have hn:qT n:=List.Pairwise.sublist g4 hm
   obtain⟨E,o,y,k1,k2,k3,k4,k5⟩:=Jc hk g2 hn (by omega) t
   have q3:=k2.keptC (by omega) g2
   have p3:=k2.perm hn
   have l3:=p3.length_eq
   rw[List.length_append] at l3
   have r1:zX (d.length+(p::x).length) 56=true:=yF (by simp at l2⊢;omega) (by simp at l2⊢;omega)
   have r2:zX ((d++(p::x)).length+y.length) 56=true:=yF (by simp at l2⊢;omega) (by simp at l2⊢;omega)
   rw[k1] at hr
   simp only[an,r1,r2,aq] at hr
   have lE:some (E.1,E.2.1,E.2.2.1,E.2.2.2,o,d++(p::x)++y)=some (X.1,X.2.1,X.2.2.1,X.2.2.2,mx,dx):=hr
   rw[←(Qx (Option.some.inj lE)).1]
   exact(q1.trans q2).trans q3
theorem vAq {k:Nat}(hk:200≤k){B:BT}(hb:yM B){m:List zC}(hd:qT m)(hm:∀q∈m,yS B.1.length q)(dB:m.length≤64)(t:Int)(pr:List Int)(ho:List (List Int))(ids:List Int)(to:Int)(ov all:Bool):
  ∃(C:BT) (m' d:List zC),rp k t B.1 B.2.1 B.2.2.1 B.2.2.2 pr ho m ids to ov all=some (t,C.1,C.2.1,C.2.2.1,C.2.2.2,pr,ho,m',ids,to,ov,vX d)∧
   wi k B.1 B.2.1 B.2.2.1 B.2.2.2 m t all=some (C.1,C.2.1,C.2.2.1,C.2.2.2,m',d)∧yM C∧e9 B C∧List.Sublist m' m∧List.Perm (d++m') m∧jW k C (wS m' t)=none:=by
 obtain⟨C,m',d,f1,f2,f3,f4,f5,f6,f7⟩:=yA8 hk hb hd hm dB t all
 have hlen:=f5.length_eq
 rw[List.length_append] at hlen
 refine⟨C,m',d,?_,f1,f2,yH0 hk hb hd hm dB t all f1,f4,f5,f6⟩
 unfold rp
 rw[f1]
 simp only[an]
 rw[qVe (by omega) (by omega)]
 rfl
theorem yXo {k:Nat}(hk:200≤k){B:BT}(hb:yM B){m:List zC}(hd:qT m)(hm:∀q∈m,yS B.1.length q)(dB:m.length≤64)(pa:Int)(sa:List (Int×Int))(cu cl pe t:Int)(ht:0≤t∧t<1099511627776)(hpe:pe≠0)(pr:List Int)(ho:List (List Int))(ids:List Int)(to:Int):
  ∃(C:BT) (m':List zC) (ov:Bool) (o:List qU),BG k pa sa cu cl pe t B.1 B.2.1 B.2.2.1 B.2.2.2 pr ho m ids to false=some (t+1,C.1,C.2.1,C.2.2.1,C.2.2.2,pr,ho,m',ids,to,ov,o)∧vCo t cl B C m m' ov o∧e9 B C∧(ov=false→jW k C (wS m' (t+1))=none)∧
   ((ov=true∧m'=[]∧o=m.map (vZ 22)++gp B B.1.length∧C=B)∨∃l d n,o=l.map (vZ 21)++vX d∧List.Perm (l++n) m∧List.Perm (d++m') n∧ov=false):=by
 have oV:=hb.n6
 have w:zA (t+1)=t+1:=yA (by omega) (by omega)
 unfold BG Ji
 simp only[w,ao,an]
 cases hc:decide (t+1=cl) with
 |true=>
  simp only[aq]
  rw[yUv oV hk (by omega)]
  simp only[an]
  refine⟨B,[],true,_,rfl,⟨hb,rfl,List.nil_sublist m,hc.symm,fun _=>rfl,(fun e=>by cases e),(fun p hp=>by cases hp),fun p hp _=>?_,fun q hq=>?_,?_⟩,e9.refl B,(fun e=>by cases e),.inl ⟨rfl,rfl,rfl,rfl⟩⟩
  ·rw[wk,(Bz (.inr rfl) hd).1 hp,yCy]
  ·rw[wk,(Bz (.inr rfl) hd).2 hq,yCy]
  ·rw[List.length_append,List.length_map]
   unfold gp
   rw[List.length_map,List.length_range]
   simp
   omega
 |false=>
  simp only[ao]
  rw[yTi hk (by omega)]
  simp only[an]
  have hs:∃x,Jj k pa sa cu cl pe (t+1)=some x:=by
   unfold Jj
   cases decide (t+1>0) with
   |false=>exact⟨_,rfl⟩
   |true=>
    cases decide (t+1<cl) with
    |false=>exact⟨_,rfl⟩
    |true=>
     have:decide (pe=0)=false:=aj hpe
     rw[this]
     exact⟨_,rfl⟩
  obtain⟨x,hx⟩:=hs
  rw[hx]
  simp only[an]
  have cO:List.Sublist (m.filter (fun p=> !wQ (t+1) p)) m:=List.filter_sublist
  have iz:=cO.length_le
  have Fs:qT (m.filter (fun p=> !wQ (t+1) p)):=List.Pairwise.sublist cO hd
  obtain⟨C,m',d,f1,f2,f3,f4,f5,f6,f7⟩:=yA8 hk hb Fs (fun q hq=>hm q (cO.subset hq)) (by omega) (t+1) x
  have hlen:=f5.length_eq
  rw[List.length_append] at hlen
  have hSt:rp k (t+1) B.1 B.2.1 B.2.2.1 B.2.2.2 pr ho (m.filter (fun p=> !wQ (t+1) p)) ids to false x=some (t+1,C.1,C.2.1,C.2.2.1,C.2.2.2,pr,ho,m',ids,to,false,vX d):=by
   unfold rp
   rw[f1]
   simp only[an]
   rw[qVe (by omega) (by omega)]
   rfl
  rw[hSt]
  have hla:(m.filter (wQ (t+1))).length≤m.length:=List.length_filter_le _ _
  have aab:(m.filter (wQ (t+1))).length+(m.filter (fun p=> !wQ (t+1) p)).length=m.length:=by
   rw[←List.countP_eq_length_filter,←List.countP_eq_length_filter]
   have:=List.length_eq_countP_add_countP (wQ (t+1)) (l:=m)
   simp only[Bool.not_eq_true,Bool.decide_eq_false] at this
   exact this.symm
  have Dp:=Jd d
  have hr:zX (((m.filter (wQ (t+1))).map (vZ 21)).length+(vX d).length) 64=true:=yF (by rw[List.length_map];omega) (by rw[List.length_map];omega)
  simp only[an,hr,aq]
  have oW:qT (d++m'):=Fs.perm f5
  have rq:qT d:=(List.pairwise_append.1 oW).1
  have Qy:∀p∈d,p∈m.filter (fun p=> !wQ (t+1) p):=fun p hp=>f5.subset (List.mem_append_left _ hp)
  have kX:∀p∈d,yS B.1.length p:=fun p hp=>hm p (cO.subset (Qy p hp))
  have rr:qT (m.filter (wQ (t+1))):=hd.filter _
  have tx:∀p∈m,wQ (t+1) p=false→∀q∈m.filter (wQ (t+1)),q.1≠p.1:=by
   intro p hp hl q hq e
   have h1:=List.mem_filter.1 hq
   have:=hd.eq_of h1.1 hp e
   subst this
   rw[hl] at h1
   exact absurd h1.2 (by simp)
  refine⟨C,m',false,_,rfl,⟨f2,f3,f4.trans cO,hc.symm,(fun e=>by cases e),fun _ p hp=>?_,fun p hp=>?_,fun p hp hn=>?_,fun q hq=>?_,?_⟩,yH0 hk hb Fs (fun q hq=>hm q (cO.subset hq)) (by omega) (t+1) x f1,(fun _=>f6),.inr ⟨m.filter (wQ (t+1)),d,m.filter (fun p=> !wQ (t+1) p),rfl,List.filter_append_perm _ _,f5,rfl⟩⟩
  ·have:=(List.mem_filter.1 (f4.subset hp)).2
   simpa using this
  ·have h1:=List.mem_filter.1 (f4.subset hp)
   have hl:wQ (t+1) p=false:=by simpa using h1.2
   rw[wk,(Bz (.inl rfl) rr).2 (tx p h1.1 hl),(Jg rq kX).2 (oW.not_in (l:=d) hp)]
  ·cases hl:wQ (t+1) p with
   |true=>
    have h1:p∈m.filter (wQ (t+1)):=List.mem_filter.2 ⟨hp,hl⟩
    have h2:∀q∈d,q.1≠p.1:=by
     intro q hq e
     have h3:=List.mem_filter.1 (Qy q hq)
     have:=hd.eq_of h3.1 hp e
     subst this
     have h4:=h3.2
     rw[hl] at h4
     cases h4
    rw[wk,(Bz (.inl rfl) rr).1 h1,(Jg rq kX).2 h2]
   |false=>
    have h1:p∈m.filter (fun p=> !wQ (t+1) p):=List.mem_filter.2 ⟨hp,by rw[hl];rfl⟩
    have h2:p∈d:=by
     rcases List.mem_append.1 (f5.symm.subset h1) with h|h
     ·exact h
     ·exact absurd h hn
    rw[wk,(Bz (.inl rfl) rr).2 (tx p hp hl),(Jg rq kX).1 h2]
  ·rw[wk,(Bz (.inl rfl) rr).2 (fun p hp=>hq p (List.mem_filter.1 hp).1),(Jg rq kX).2 (fun p hp=>hq p (cO.subset (Qy p hp)))]
  ·rw[List.length_append,List.length_map]
   simp
   omega
abbrev jY:=List (List Int)
abbrev qN:=Int×List iI×Int×Int×Int
abbrev jP:=Int×Int×Int×Int×Int×Int×Int
abbrev yZh:=Int×List iI×Int×Int×Int×Int×List qM×jY×List Int×jY×List Int×jY×List zC×List Int×Int×Bool×Int×List qU
structure qF where
 t:Int
 B:BT
 pr:List Int
 ho:jY
 m:List zC
 ids:List Int
 to:Int
 ov:Bool
abbrev Jk:=Int×List qM×jY×List Int×jY×List Int×jY×List zC×List Int×Int×Bool
def qF.st (s:qF):Jk:=(s.t,s.B.1,s.B.2.1,s.B.2.2.1,s.B.2.2.2,s.pr,s.ho,s.m,s.ids,s.to,s.ov)
def dk (r:qN)(s:qF)(who:Int)(l:List qU):yZh:=(r.1,r.2.1,r.2.2.1,r.2.2.2.1,r.2.2.2.2,s.t,s.B.1,s.B.2.1,s.B.2.2.1,s.B.2.2.2,s.pr,s.ho,s.m,s.ids,s.to,s.ov,who,l)
structure fm (r:qN):Prop where
 pa:1≤r.1∧r.1≤6
 n3:r.2.1.length≤3
 price:∀i,i<r.2.1.length→0≤(r.2.1.getD i wb).1∧(r.2.1.getD i wb).1≤1048576
 cut:∀i,i<r.2.1.length→0≤(r.2.1.getD i wb).2∧(r.2.1.getD i wb).2≤10000
 cu:0≤r.2.2.1∧r.2.2.1≤r.2.2.2.1
 cl:1≤r.2.2.2.1∧r.2.2.2.1≤1048576
 pe:1≤r.2.2.2.2∧r.2.2.2.2≤1048576
def mB (m:List zC):Prop:=List.Pairwise (fun p q=>fl p q=true) m
structure fP (n:Nat) (m:List zC) (ids:List Int):Prop where
 dist:qT m
 len:m.length≤40
 sort:mB m
 may:∀p∈m,yS n p
 time:∀p∈m,0≤p.2.2.2.2.2.1∧p.2.2.2.2.2.1≤p.2.2.2.2.2.2∧p.2.2.2.2.2.2≤1048576
 were:∀p∈m,p.1∈ids
 asc:tm ids
 pos:∀x∈ids,1≤x
 idl:ids.length≤200
structure yN (r:qN) (s:qF):Prop where
 tk:0≤s.t∧s.t≤r.2.2.2.1
 bk:yM s.B
 n:(s.B.1.length:Int)=r.1
 hol:s.ho.length=s.B.1.length
 laid:∀i,i<s.B.1.length→kr r.2.1 s.pr (s.ho.getD i [])
 cred:∀i,i<s.B.1.length→(s.B.1.getD i ad).2.1=kq r.2.1 s.pr (s.ho.getD i [])
 most:∀i,i<s.B.1.length→(s.B.1.getD i ad).2.1≤1152921504606846976
 waits:fP s.B.1.length s.m s.ids
 sum:qO (fun i=>(s.B.1.getD i ad).1) s.B.1.length=s.to
 tot:0≤s.to∧s.to≤1152921504606846976
 over:s.ov=decide (s.t=r.2.2.2.1)
 none:s.ov=true→s.m=[]
theorem oX (k:Nat)(a b c:Int):yY k a b c=some (decide (a≥b)&&decide (a≤c)):=by
 unfold yY
 cases decide (a≥b)<;>rfl
theorem lH {α:Type}(c:Bool)(a b:α):(bif c then some a else some b)=some (bif c then a else b):=by cases c<;>rfl
theorem vGb (c a:Bool):(bif c then a else false)=(c&&a):=by cases c<;>rfl
theorem vLj {α:Type}(c:Bool)(a:α):(bif c then a else a)=a:=by cases c<;>rfl
def wm (pa t:Int)(p:zC):Bool:=
 decide (p.2.1≥0)&&decide (p.2.1<pa)&&(decide (p.2.2.1≥0)&&decide (p.2.2.1<pa)&&(decide (p.1≥1)&&(decide (p.2.2.2.1≥1)&&(decide (p.2.2.2.1≤1099511627776)&&(decide (p.2.2.2.2.1≥1)&&(!decide (p.2.1=p.2.2.1)&&(decide (p.2.2.2.2.1≤3)&&(decide (p.2.2.2.2.2.1≥0)&&(decide (p.2.2.2.2.2.1≤p.2.2.2.2.2.2)&&(decide (p.2.2.2.2.2.2≥t)&&decide (p.2.2.2.2.2.2≤1048576)))))))))))
theorem vF9 (k:Nat)(r:qN)(w:Int):Ft k r w=some (decide (w≥0)&&decide (w<r.1)):=by
 unfold Ft
 cases decide (w≥0)<;>rfl
theorem vEe (k:Nat)(r:qN)(t:Int)(p:zC):Jl k r t p=some (wm r.1 t p):=by
 unfold Jl wm
 simp only[vF9,an,vLj,lH,vGb]
def oY (cu cl t c:Int):Int:=bif decide (t≥cl) then 7 else bif decide (c=3)&&decide (t≥cu) then 7 else 0
theorem qZw (k:Nat)(r:qN)(t c:Int):wo k r t c=some (oY r.2.2.1 r.2.2.2.1 t c):=by
 unfold wo oY
 cases decide (t≥r.2.2.2.1)<;>cases decide (c=3)<;>cases decide (t≥r.2.2.1)<;>rfl
def tz (r:qN)(t:Int)(p:zC):Int:=bif !wm r.1 t p then 1 else oY r.2.2.1 r.2.2.2.1 t p.2.2.2.2.1
theorem vMk (k:Nat)(r:qN)(t:Int)(p:zC):BH k r t p=some (tz r t p):=by
 unfold BH tz
 rw[vEe]
 simp only[an,qZw]
 cases wm r.1 t p<;>rfl
def iN (who:Int)(f:jP):zC:=(f.2.1,who,f.2.2)
def lU (r:qN)(s:qF)(who:Int)(f:jP):Int×List zC×List Int:=
 bif !(decide (f.2.2.1≥0)&&decide (f.2.2.1≤r.1-1)) then(1,s.m,s.ids)
 else bif !(decide (f.2.2.2.2.1≥1)&&decide (f.2.2.2.2.1≤3)) then(1,s.m,s.ids)
 else bif !decide (tz r s.t (iN who f)=0) then(tz r s.t (iN who f),s.m,s.ids)
 else bif decide (f.2.1∈s.ids) then(6,s.m,s.ids)
 else bif decide (200≤s.ids.length) then(3,s.m,s.ids)
 else bif (wL s.m f.2.1).isSome then(6,s.m,s.ids)
 else bif decide (40≤s.m.length) then(3,s.m,s.ids)
 else(0,nz s.m (iN who f),tn s.ids f.2.1)
theorem vG5 {k:Nat}(hk:1000≤k){r:qN}(hr:fm r){s:qF}(h:fP s.B.1.length s.m s.ids)(who:Int)(l:List qU)(f:jP):
  ∃d,Jm k (dk r s who l) f.2=some ((lU r s who f).1,d)∧((lU r s who f).1=0→d=dk r {s with m:=(lU r s who f).2.1,ids:=(lU r s who f).2.2} who l):=by
 have hp:=hr.pa
 have hi:=h.idl
 have hm:=h.len
 have w1:zA (r.1-1)=r.1-1:=yA (by omega) (by omega)
 have eD:Jm k (dk r s who l) f.2=(yY k f.2.2.1 0 (zA (r.1-1))).bind fun x0=>
  bif !x0 then some (1,dk r s who l)
  else(yY k f.2.2.2.2.1 1 3).bind fun x1=>
  bif !x1 then some (1,dk r s who l)
  else(BH k r s.t (iN who f)).bind fun x2=>
  bif !(decide (x2=0)) then some (x2,dk r s who l)
  else(A5 k s.ids f.2.1).bind fun x3=>
  bif !(decide (x3.2=0)) then some (x3.2,dk r s who l)
  else(tl k s.m (iN who f)).bind fun x4=>
  bif !(decide (x4.2=0)) then some (x4.2,dk r s who l)
  else some (0,dk r {s with m:=x4.1,ids:=x3.1} who l):=rfl
 rw[eD,oX,oX,vMk,w1,vEh (by omega) (by omega) h.asc,P5 (by omega) (by omega) (by unfold vB;omega)]
 simp only[an]
 unfold lU
 cases decide (f.2.2.1≥0)&&decide (f.2.2.1≤r.1-1) with
 |false=>exact⟨_,rfl,fun e=>by cases e⟩
 |true=>
 cases decide (f.2.2.2.2.1≥1)&&decide (f.2.2.2.2.1≤3) with
 |false=>exact⟨_,rfl,fun e=>by cases e⟩
 |true=>
 simp only[bd,ao]
 by_cases hc:tz r s.t (iN who f)=0
 ·rw[ai hc]
  simp only[bd,ao]
  by_cases h1:f.2.1∈s.ids
  ·rw[ai h1];exact⟨_,rfl,fun e=>by cases e⟩
  ·rw[aj h1]
   by_cases h2:200≤s.ids.length
   ·rw[ai h2];exact⟨_,rfl,fun e=>by cases e⟩
   ·rw[aj h2]
    have e1:(iN who f).1=f.2.1:=rfl
    have e0:decide ((0:Int)=0)=true:=ai rfl
    rw[e1]
    cases(wL s.m f.2.1).isSome with
    |true=>exact⟨_,rfl,fun e=>by cases e⟩
    |false=>
     by_cases h3:40≤s.m.length
     ·rw[ai h3];exact⟨_,rfl,fun e=>by cases e⟩
     ·rw[aj h3];exact⟨_,rfl,fun _=>rfl⟩
 ·rw[aj hc]
  exact⟨_,rfl,fun e=>absurd e hc⟩
def wM (who kd a:Int):qU:=(who,kd,a,0,0,0,0,0)
theorem yMk {k:Nat}{l:List qU}(hl:l.length≤1000)(r:qN)(s:qF)(who kd a:Int):tA k (dk r s who l) kd [a]=some (dk r s who (l++[wM who kd a])):=by
 have e:tA k (dk r s who l) kd [a]=bif zX (l.length+1) 64 then some (dk r s who (l++[wM who kd a])) else none:=rfl
 rw[e,yF (by omega) (by omega)]
 rfl
def jh (r:qN)(s:qF)(who:Int)(f:jP):Int×List zC×List qU:=match wL s.m f.2.1 with
 |none=>(4,s.m,[])
 |some x=>
  bif !decide ((s.m.getD x pd).2.1=who) then(4,s.m,[])
  else bif decide (f.1=2) then(0,yU s.m x,[wM who 20 f.2.1])
  else bif decide (f.1 = 4) then (bif !(decide (f.2.2.1≥1)&&decide (f.2.2.1≤3)) then(1,s.m,[])
   else bif !decide (oY r.2.2.1 r.2.2.2.1 s.t f.2.2.1=0) then(oY r.2.2.1 r.2.2.2.1 s.t f.2.2.1,s.m,[])
   else(0,nz (yU s.m x) ((s.m.getD x pd).1,(s.m.getD x pd).2.1,(s.m.getD x pd).2.2.1,(s.m.getD x pd).2.2.2.1,f.2.2.1,(s.m.getD x pd).2.2.2.2.2.1,(s.m.getD x pd).2.2.2.2.2.2),[]))
  else bif decide (f.2.2.1=0) then(0,IJ (yU s.m x) (s.m.getD x pd),[])
  else bif decide (f.2.2.1=1) then(0,nz (yU s.m x) (s.m.getD x pd),[])
  else(1,s.m,[])
theorem vJe {k:Nat}(hk:1000≤k){r:qN}{s:qF}(h:fP s.B.1.length s.m s.ids)(who:Int){l:List qU}(hl:l.length≤1000)(f:jP):
  ∃d,wq k (dk r s who l) f=some ((jh r s who f).1,d)∧((jh r s who f).1=0→d=dk r {s with m:=(jh r s who f).2.1} who (l++(jh r s who f).2.2)):=by
 have hm:=h.len
 have uE:vB s.m:=by unfold vB;omega
 have eD : wq k (dk r s who l) f = ((my k s.m f.2.1).bind fun x0=>
   bif decide (x0<0) then some (((0,0,0,0,0,0,0):zC),(4:Int))
   else bif zE x0 s.m.length then (bif !(decide ((s.m.getD x0.toNat (0,0,0,0,0,0,0)).2.1=who)) then some ((0,0,0,0,0,0,0),4)
    else bif zE x0 s.m.length then some ((s.m.getD x0.toNat (0,0,0,0,0,0,0)),0)
    else none)
   else none).bind fun x0=>
  bif !(decide (x0.2=0)) then some (x0.2,dk r s who l)
  else bif decide (f.1 = 2) then ((ny k s.m f.2.1).bind fun x1=>
   (tA k (dk r {s with m:=x1.1} who l) 20 [f.2.1]).bind fun x2=>
   some (x1.2.2.2.2.2.2.2.2,x2))
  else bif decide (f.1 = 4) then ((yY k f.2.2.1 1 3).bind fun x3=>
   bif !x3 then some (1,dk r s who l)
   else(wo k r s.t f.2.2.1).bind fun x4=>
   bif !(decide (x4=0)) then some (x4,dk r s who l)
   else(AY k s.m f.2.1 f.2.2.1).bind fun x5=>
   some (x5.2,dk r {s with m:=x5.1} who l))
  else bif decide (f.2.2.1 = 0) then ((A3 k s.m f.2.1).bind fun x6=>
   some (x6.2,dk r {s with m:=x6.1} who l))
  else bif decide (f.2.2.1 = 1) then ((AZ k s.m f.2.1).bind fun x7=>
   some (x7.2,dk r {s with m:=x7.1} who l))
  else some (1,dk r s who l):=rfl
 rw[eD,EZ (by omega) (by omega)]
 unfold jh v7
 cases hx:wL s.m f.2.1 with
 |none=>exact⟨_,rfl,fun e=>by cases e⟩
 |some x=>
  have dD:=lR hx
  have e1:decide ((x:Int)<0)=false:=aj (by omega)
  simp only[an,e1,ao,qZ,ai dD.1,aq,aN]
  by_cases hw:(s.m.getD x (0,0,0,0,0,0,0)).2.1=who
  ·have Fu:(s.m.getD x pd).2.1=who:=hw
   rw[ai hw]
   simp only[bd,ao,an,decide_true]
   by_cases h2:f.1=2
   ·rw[ai h2]
    simp only[aq,v8 (show s.m.length<k by omega) uE,an,yMk hl]
    unfold nx
    rw[hx]
    exact⟨_,rfl,fun _=>rfl⟩
   ·rw[aj h2]
    simp only[ao]
    by_cases h4:f.1=4
    ·rw[ai h4]
     simp only[aq,oX,an,qZw,vI2 (show 3≤k by omega) (show s.m.length<k by omega) uE h.dist hm hx]
     cases decide (f.2.2.1≥1)&&decide (f.2.2.1≤3) with
     |false=>exact⟨_,rfl,fun e=>by cases e⟩
     |true=>
      simp only[bd,ao]
      by_cases hc:oY r.2.2.1 r.2.2.2.1 s.t f.2.2.1=0
      ·rw[ai hc]
       exact⟨_,rfl,fun _=>by show dk r _ who l=dk r _ who (l++[]);rw[List.append_nil];rfl⟩
      ·rw[aj hc]
       exact⟨_,rfl,fun e=>absurd e hc⟩
    ·rw[aj h4]
     simp only[ao]
     by_cases h0:f.2.2.1=0
     ·rw[ai h0]
      simp only[aq,yYo (show 3≤k by omega) (show s.m.length<k by omega) uE hx,an]
      exact⟨_,rfl,fun _=>by show dk r _ who l=dk r _ who (l++[]);rw[List.append_nil]⟩
     ·rw[aj h0]
      simp only[ao]
      by_cases h1:f.2.2.1=1
      ·rw[ai h1]
       simp only[aq,vJz (show 3≤k by omega) (show s.m.length<k by omega) uE h.dist hm hx,an]
       exact⟨_,rfl,fun _=>by show dk r _ who l=dk r _ who (l++[]);rw[List.append_nil]⟩
      ·rw[aj h1]
       exact⟨_,rfl,fun e=>by cases e⟩
  ·have Fu:¬(s.m.getD x pd).2.1=who:=hw
   rw[aj hw]
   exact⟨_,rfl,fun e=>by cases e⟩
def Qz (s:qF)(a:List qM)(b:jY)(m:List Int):qF:={s with B:=(a,b,m,s.B.2.2.2)}
def kY (r:qN)(s:qF)(who:Int)(f:jP):Int×qF:=
 bif decide (f.1 = 5) then (bif !((decide (f.2.1≥0)&&decide (f.2.1≤r.1-1))&& !decide (f.2.1=who)) then(1,s)
  else bif !(decide (f.2.2.1≥-1)&&decide (f.2.2.1≤1152921504606846976)) then(1,s)
  else(0,Qz s s.B.1 (s.B.2.1.set who.toNat ((s.B.2.1.getD who.toNat []).set f.2.1.toNat f.2.2.1)) s.B.2.2.1))
 else bif decide (f.1 = 6) then (bif !(decide (f.2.1≥-1)&&decide (f.2.1≤1152921504606846976)) then(1,s)
  else(0,Qz s s.B.1 s.B.2.1 (s.B.2.2.1.set who.toNat f.2.1)))
 else bif !(decide (f.2.1≥0)&&decide (f.2.1≤1152921504606846976)) then(1,s)
 else(0,Qz s (s.B.1.set who.toNat ((s.B.1.getD who.toNat ad).1,(s.B.1.getD who.toNat ad).2.1,f.2.1)) s.B.2.1 s.B.2.2.1)
theorem vDx {k:Nat}(hk:1000≤k){r:qN}(hr:fm r){s:qF}(hb:yM s.B)(hn:(s.B.1.length:Int)=r.1){who:Int}(hw:0≤who∧who<r.1)(l:List qU)(f:jP):
    ∃d,wu k (dk r s who l) f=some ((kY r s who f).1,d)∧((kY r s who f).1=0→d=dk r (kY r s who f).2 who l):=by
  have hp:=hr.pa
  have w1:zA (r.1-1)=r.1-1:=yA (by omega) (by omega)
  obtain⟨w,rfl⟩:=Int.eq_ofNat_of_zero_le hw.1
  have jk:w<s.B.1.length:=by omega
  have eD:wu k (dk r s w l) f=(jR k s.B.1 s.B.2.1 s.B.2.2.1 s.B.2.2.2).bind fun x0=>
    bif decide (f.1 = 5) then (((yY k f.2.1 0 (zA (r.1-1))).bind fun x0=>bif x0 then some (!(decide (f.2.1=(w:Int)))) else some false).bind fun x1=>
      bif !x1 then some (1,dk r s w l)
      else(yY k f.2.2.1 (-1) 1152921504606846976).bind fun x2=>
      bif !x2 then some (1,dk r s w l)
      else bif zE (w : Int) x0.2.1.length then (bif zE f.2.1 (x0.2.1.getD (w:Int).toNat []).length then
        some (0,dk r {s with B:=(x0.1,(x0.2.1.set (w:Int).toNat ((x0.2.1.getD (w:Int).toNat []).set f.2.1.toNat f.2.2.1)),x0.2.2.1,x0.2.2.2)} w l)
       else none)
      else none)
    else bif decide (f.1 = 6) then ((yY k f.2.1 (-1) 1152921504606846976).bind fun x3=>
      bif !x3 then some (1,dk r s w l)
      else bif zE (w:Int) x0.2.2.1.length then some (0,dk r {s with B:=(x0.1,x0.2.1,(x0.2.2.1.set (w:Int).toNat f.2.1),x0.2.2.2)} w l)
      else none)
    else(yY k f.2.1 0 1152921504606846976).bind fun x4=>
    bif !x4 then some (1,dk r s w l)
    else bif zE (w:Int) x0.1.length then some (0,dk r {s with B:=((x0.1.set (w:Int).toNat ((x0.1.getD (w:Int).toNat (0,0,0)).1,(x0.1.getD (w:Int).toNat (0,0,0)).2.1,f.2.1)),x0.2.1,x0.2.2.1,x0.2.2.2)} w l)
    else none:=rfl
  rw[eD,Eu (by omega) hb.toSized,w1]
  simp only[an,oX,qZ,aN]
  unfold kY
  rw[aN]
  by_cases h5:f.1=5
  · rw[ai h5]
    simp only[aq]
    cases hc:decide (f.2.1≥0)&&decide (f.2.1≤r.1-1) with
    |false=>exact⟨_,rfl,fun e=>by cases e⟩
    |true=>
      simp only[bU,bN] at hc
      cases decide (f.2.1=(w:Int)) with
      |true=>exact⟨_,rfl,fun e=>by cases e⟩
      |false=>
        cases decide (f.2.2.1≥-1)&&decide (f.2.2.1≤1152921504606846976) with
        |false=>exact⟨_,rfl,fun e=>by cases e⟩
        |true=>
          have b1:decide (w<s.B.2.1.length)=true:=ai (by rw[hb.bl];exact jk)
          have b2:zE f.2.1 (s.B.2.1.getD w []).length=true:=fK hc.1 (by rw[hb.br w jk];omega)
          simp only[aq,an,eC,bd,ao,b1,b2,Bool.and_self]
          exact⟨_,rfl,fun _=>rfl⟩
  · rw[aj h5]
    simp only[ao]
    by_cases h6:f.1=6
    · rw[ai h6]
      cases decide (f.2.1≥-1)&&decide (f.2.1≤1152921504606846976) with
      |false=>exact⟨_,rfl,fun e=>by cases e⟩
      |true=>
        have b1:decide (w<s.B.2.2.1.length)=true:=ai (by rw[hb.ml];exact jk)
        simp only[aq,bd,ao,b1]
        exact⟨_,rfl,fun _=>rfl⟩
    · rw[aj h6]
      cases decide (f.2.1≥0)&&decide (f.2.1≤1152921504606846976) with
      |false=>exact⟨_,rfl,fun e=>by cases e⟩
      |true=>
        have b1:decide (w<s.B.1.length)=true:=ai jk
        simp only[aq,bd,ao,b1]
        exact⟨_,rfl,fun _=>rfl⟩
def Fv (s:qF)(w:Nat)(h:List Int)(n:Int):Int×qF:=
 bif decide (n>1152921504606846976) then(8,s)
 else bif decide (n<(s.B.1.getD w ad).2.1)&&decide ((s.B.1.getD w ad).1+n<0) then(9,s)
 else(0,{s with B:=(s.B.1.set w ((s.B.1.getD w ad).1,n,(s.B.1.getD w ad).2.2),s.B.2.1,s.B.2.2.1,s.B.2.2.2),ho:=s.ho.set w h})
def kZ (r:qN)(s:qF)(who a many:Int):Int×qF:=
 bif !(decide (a≥0)&&decide (a≤(r.2.1.length:Int)-1)) then(1,s)
 else bif !(decide (many≥0)&&decide (many≤1099511627776)) then(1,s)
 else Fv s who.toNat ((s.ho.getD who.toNat []).set a.toNat many) (kq r.2.1 s.pr ((s.ho.getD who.toNat []).set a.toNat many))
theorem kr.set {sa:List iI}{pr h:List Int}(L:kr sa pr h){i:Nat}(hi:i<sa.length){v:Int}(hv:0≤v∧v≤1099511627776):kr sa pr (h.set i v):=
 ⟨L.n3,L.pl,by rw[List.length_set];exact L.hl,L.cut,L.price,fun j hj=>by
  rw[wJ]
  split
  ·exact hv
  ·exact L.hold j hj⟩
theorem kr.setP {sa:List iI}{pr h:List Int}(L:kr sa pr h){i:Nat}(hi:i<sa.length){v:Int}(hv:0≤v∧v≤1048576):kr sa (pr.set i v) h:=
 ⟨L.n3,by rw[List.length_set];exact L.pl,L.hl,L.cut,fun j hj=>by
  rw[wJ]
  split
  ·exact hv
  ·exact L.price j hj,L.hold⟩
theorem yVu {k:Nat}{l:jY}(hl:l.length≤1000):BI k l=some l:=by
 unfold BI
 rw[yF (by omega) (by omega)]
 rfl
theorem vA4 {k:Nat}(hk:1000≤k){r:qN}(hr:fm r){s:qF}(h:yN r s){who:Int}(hw:0≤who∧who<r.1)(l:List qU)(a many:Int):
    ∃d,Jn k (dk r s who l) a many=some ((kZ r s who a many).1,d)∧((kZ r s who a many).1=0→d=dk r (kZ r s who a many).2 who l):=by
  have hp:=hr.pa
  have h3:=hr.n3
  have hn:=h.n
  have oV:=h.bk.n6
  have hol:=h.hol
  have w1:zA ((r.2.1.length:Int)-1)=(r.2.1.length:Int)-1:=yA (by omega) (by omega)
  obtain⟨w,rfl⟩:=Int.eq_ofNat_of_zero_le hw.1
  have jk:w<s.B.1.length:=by omega
  have eD:Jn k (dk r s w l) a many=((yY k a 0 (zA ((r.2.1.length:Int)-1))).bind fun x0=>some x0).bind fun x0=>
    bif !x0 then some (1,dk r s w l)
    else(yY k many 0 1099511627776).bind fun x1=>
    bif !x1 then some (1,dk r s w l)
    else(BI k s.ho).bind fun x2=>
    bif zE (w : Int) x2.length then ((nC k (x2.getD (w:Int).toNat []) a many).bind fun x3=>
      bif zE (w:Int) x2.length then(
       bif zE (w : Int) (x2.set (w : Int).toNat x3).length then ((oP k r.2.1 s.pr ((x2.set (w:Int).toNat x3).getD (w:Int).toNat [])).bind fun x4=>
        bif zE (w : Int) s.B.1.length then (bif !x4.2 then some (8,dk r s w l)
         else bif decide (x4.1>1152921504606846976) then some (8,dk r s w l)
         else bif decide (x4.1 < (s.B.1.getD (w : Int).toNat (0, 0, 0)).2.1) then (bif decide ((zA ((s.B.1.getD (w:Int).toNat (0,0,0)).1+x4.1))<0) then some (9,dk r s w l)
          else(jR k s.B.1 s.B.2.1 s.B.2.2.1 s.B.2.2.2).bind fun x5=>
          bif zE (w:Int) x5.1.length then
           some (0,dk r {s with B:=((x5.1.set (w:Int).toNat ((x5.1.getD (w:Int).toNat (0,0,0)).1,x4.1,(x5.1.getD (w:Int).toNat (0,0,0)).2.2)),x5.2.1,x5.2.2.1,x5.2.2.2),ho:=x2.set (w:Int).toNat x3} w l)
          else none)
         else(jR k s.B.1 s.B.2.1 s.B.2.2.1 s.B.2.2.2).bind fun x6=>
         bif zE (w:Int) x6.1.length then
          some (0,dk r {s with B:=((x6.1.set (w:Int).toNat ((x6.1.getD (w:Int).toNat (0,0,0)).1,x4.1,(x6.1.getD (w:Int).toNat (0,0,0)).2.2)),x6.2.1,x6.2.2.1,x6.2.2.2),ho:=x2.set (w:Int).toNat x3} w l)
         else none)
        else none)
       else none)
      else none)
    else none:=rfl
  rw[eD,w1,oX,oX,Eu (by omega) h.bk.toSized,yVu (by omega)]
  simp only[an,qZ,aN]
  unfold kZ
  simp only[aN]
  cases hc:decide (a≥0)&&decide (a≤(r.2.1.length:Int)-1) with
  |false=>exact⟨_,rfl,fun e=>by cases e⟩
  |true=>
  simp only[bU,bN] at hc
  cases hm:decide (many≥0)&&decide (many≤1099511627776) with
  |false=>exact⟨_,rfl,fun e=>by cases e⟩
  |true=>
  simp only[bU,bN] at hm
  obtain⟨i,rfl⟩:=Int.eq_ofNat_of_zero_le hc.1
  have hi:i<r.2.1.length:=by omega
  have L:=h.laid w jk
  have L2:=L.set hi (v:=many) ⟨by omega,by omega⟩
  have b1:decide (w<s.ho.length)=true:=ai (by omega)
  have b2:decide (w<s.B.1.length)=true:=ai jk
  have wv:nC k (s.ho.getD w []) (i:Int) many=some ((s.ho.getD w []).set i many):=by
    have:=yI0 (k:=k) (l:=s.ho.getD w []) (by rw[L.hl];omega) (i:=(i:Int)) (by omega) (by rw[L.hl];omega) many
    rw[aN] at this
    exact this
  have Fw:(s.ho.set w ((s.ho.getD w []).set i many)).getD w []=(s.ho.getD w []).set i many:=by
    rw[wJ,if_pos ⟨rfl,by omega⟩]
  have hv:=yNx (k:=k) L2 (by omega)
  have hb:=h.bk.nums.bal w jk
  have Df:=IU L2
  simp only[bd,ao,b1,aq,wv,an,List.length_set,Fw,hv,b2,aN]
  clear hv L2 Fw eD
  generalize kq r.2.1 s.pr ((s.ho.getD w []).set i many)=n at Df⊢
  unfold Fv
  cases h8':decide (n>1152921504606846976) with
  |true=>exact⟨_,rfl,fun e=>by cases e⟩
  |false=>
    have h8:¬n>1152921504606846976:=iH h8'
    have w2:zA ((s.B.1.getD w (0,0,0)).1+n)=(s.B.1.getD w (0,0,0)).1+n:=yA (by have:=hb.1;simp only[ad] at this;omega) (by have:=hb.2;simp only[ad] at this;omega)
    simp only[w2,ao]
    cases decide (n<(s.B.1.getD w (0,0,0)).2.1) with
    |false=>exact⟨_,rfl,fun _=>rfl⟩
    |true=>
      cases decide ((s.B.1.getD w (0,0,0)).1+n<0) with
      |true=>exact⟨_,rfl,fun e=>by cases e⟩
      |false=>exact⟨_,rfl,fun _=>rfl⟩
def fQ (a:qM)(n:Int):qM×Int:=bif eY (a.1+n,a.2.1,a.2.2) then((a.1+n,a.2.1,a.2.2),0) else(a,8)
theorem yJn {k:Nat}{a:qM}(ha:-4611686018427387904<a.1∧a.1<4611686018427387904){n:Int}(hn:-1099511627776≤n∧n≤1099511627776):Fx k a n=some (fQ a n):=by
 have QA:Jo k a.1 n=some (a.1+n,true):=by
  unfold Jo
  have w1:n>0→zA (9223372036854775807-n)=9223372036854775807-n:=fun h=>yA (by omega) (by omega)
  have w2:n<0→zA (-9223372036854775808-n)= -9223372036854775808-n:=fun h=>yA (by omega) (by omega)
  have w3:zA (a.1+n)=a.1+n:=yA (by omega) (by omega)
  rw[w3]
  by_cases h1:n>0
  ·rw[ai h1,w1 h1,aj (show¬a.1>9223372036854775807-n by omega),aj (show¬n<0 by omega)];rfl
  ·rw[aj h1]
   by_cases h2:n<0
   ·rw[ai h2,w2 h2,aj (show¬a.1< -9223372036854775808-n by omega)];rfl
   ·rw[aj h2];rfl
 unfold Fx fQ
 rw[QA]
 simp only[an,bd,ao,ZN]
 cases eY (a.1+n,a.2.1,a.2.2)<;>rfl
abbrev yXc:=Int×List iI×Int×Int×Int×Int×List qM×jY×List Int×jY×List Int×jY×List zC×List Int×Int×Bool×Int
def fq (r:qN)(s:qF)(who:Int):yXc:=(r.1,r.2.1,r.2.2.1,r.2.2.2.1,r.2.2.2.2,s.t,s.B.1,s.B.2.1,s.B.2.2.1,s.B.2.2.2,s.pr,s.ho,s.m,s.ids,s.to,s.ov,who)
def Jp (s:qF)(i:Nat)(a:qM)(to:Int):qF:={s with B:=(s.B.1.set i a,s.B.2.1,s.B.2.2.1,s.B.2.2.2),to:=to}
def Jq (s:qF)(i:Nat)(n:Int):Int×qF:=
 bif decide ((s.B.1.getD i ad).1+(s.B.1.getD i ad).2.1-(s.B.1.getD i ad).2.2<n) then(9,s)
 else bif decide (s.to-n<0) then(9,s)
 else bif !decide ((fQ (s.B.1.getD i ad) (-n)).2=0) then((fQ (s.B.1.getD i ad) (-n)).2,s)
 else bif decide (s.to-n>1152921504606846976) then(8,s)
 else(0,Jp s i (fQ (s.B.1.getD i ad) (-n)).1 (s.to-n))
def Jr (s:qF)(i:Nat)(n:Int):Int×qF:=
 bif !decide ((fQ (s.B.1.getD i ad) n).2=0) then((fQ (s.B.1.getD i ad) n).2,s)
 else bif decide (s.to+n>1152921504606846976) then(8,s)
 else(0,Jp s i (fQ (s.B.1.getD i ad) n).1 (s.to+n))
def lV (r:qN)(s:qF)(kd to n:Int):Int×qF:=
 bif !(decide (to≥0)&&decide (to≤r.1-1)) then(1,s)
 else bif !(decide (n≥1)&&decide (n≤1099511627776)) then(1,s)
 else bif decide (kd=11) then Jq s to.toNat n else Jr s to.toNat n
theorem vBv {k:Nat}(hk:1000≤k){r:qN}(hr:fm r){s:qF}(h:yN r s)(who kd to n:Int):
    ∃d,BJ k (fq r s who) kd to n=some ((lV r s kd to n).1,d)∧((lV r s kd to n).1=0→d=dk r (lV r s kd to n).2 who []):=by
  have hp:=hr.pa
  have hn:=h.n
  have ht:=h.tot
  have w1:zA (r.1-1)=r.1-1:=yA (by omega) (by omega)
  have eD:BJ k (fq r s who) kd to n=(yY k to 0 (zA (r.1-1))).bind fun x0=>
    bif !x0 then some (1,dk r s who [])
    else(yY k n 1 1099511627776).bind fun x1=>
    bif !x1 then some (1,dk r s who [])
    else bif zE to s.B.1.length then ((BK k (s.B.1.getD to.toNat (0,0,0)) n).bind fun x2=>
      bif decide (kd = 11) then ((BL k (s.B.1.getD to.toNat (0,0,0)) n 3).bind fun x3=>
       (BM k (s.B.1.getD to.toNat (0,0,0)) 3).bind fun x4=>
       bif decide (x4<n) then some (9,dk r s who [])
       else bif decide ((zA (s.to-n))<0) then some (9,dk r s who [])
       else bif !(decide (x3.2=0)) then some (x3.2,dk r s who [])
       else bif decide ((zA (s.to-n))>1152921504606846976) then some (8,dk r s who [])
       else(jR k s.B.1 s.B.2.1 s.B.2.2.1 s.B.2.2.2).bind fun x5=>
       bif zE to x5.1.length then some (0,dk r {s with B:=(x5.1.set to.toNat x3.1,x5.2.1,x5.2.2.1,x5.2.2.2),to:=zA (s.to-n)} who [])
       else none)
      else bif !(decide (x2.2=0)) then some (x2.2,dk r s who [])
      else bif decide ((zA (s.to+n))>1152921504606846976) then some (8,dk r s who [])
      else(jR k s.B.1 s.B.2.1 s.B.2.2.1 s.B.2.2.2).bind fun x6=>
      bif zE to x6.1.length then some (0,dk r {s with B:=(x6.1.set to.toNat x2.1,x6.2.1,x6.2.2.1,x6.2.2.2),to:=zA (s.to+n)} who [])
      else none)
    else none:=rfl
  rw[eD,w1,oX,oX,Eu (by omega) h.bk.toSized]
  simp only[an]
  unfold lV
  cases hc:decide (to≥0)&&decide (to≤r.1-1) with
  |false=>exact⟨_,rfl,fun e=>by cases e⟩
  |true=>
  simp only[bU,bN] at hc
  cases hm:decide (n≥1)&&decide (n≤1099511627776) with
  |false=>exact⟨_,rfl,fun e=>by cases e⟩
  |true=>
  simp only[bU,bN] at hm
  obtain⟨i,rfl⟩:=Int.eq_ofNat_of_zero_le hc.1
  have hi:i<s.B.1.length:=by omega
  have hb:=h.bk.nums.bal i hi
  have j8:=h.bk.nums.res i hi
  have hcr:=h.most i hi
  have aak:0≤(s.B.1.getD i ad).2.1:=by rw[h.cred i hi];exact IU (h.laid i hi)
  have b0:zE (i:Int) s.B.1.length=true:=by rw[qZ,ai hi]
  have eIn:BK k (s.B.1.getD i (0,0,0)) n=some (fQ (s.B.1.getD i ad) n):=by
    unfold BK
    rw[yJn hb (by omega)]
    rfl
  have Fy:BL k (s.B.1.getD i (0,0,0)) n 3=some (fQ (s.B.1.getD i ad) (-n)):=by
    unfold BL
    rw[show zA (0-n)= -n by rw[yA (by omega) (by omega)];omega,yJn hb (by omega)]
    simp only[an]
    have d1:decide ((3:Int)=1)=false:=rfl
    have d2:decide ((3:Int)=2)=false:=rfl
    rw[d1,d2]
    cases decide ((fQ (s.B.1.getD i ad) (-n)).2=0)<;>rfl
  have tB:BM k (s.B.1.getD i (0,0,0)) 3=some ((s.B.1.getD i ad).1+(s.B.1.getD i ad).2.1-(s.B.1.getD i ad).2.2):=by
    unfold BM
    have d1:decide ((3:Int)=3)=true:=rfl
    rw[d1,aq]
    have q1:zA ((s.B.1.getD i (0,0,0)).1+(s.B.1.getD i (0,0,0)).2.1)=(s.B.1.getD i ad).1+(s.B.1.getD i ad).2.1:=yA (by simp only[ad] at*;omega) (by simp only[ad] at*;omega)
    rw[q1]
    exact congrArg some (yA (by simp only[ad] at*;omega) (by simp only[ad] at*;omega))
  have q2:zA (s.to-n)=s.to-n:=yA (by omega) (by omega)
  have q3:zA (s.to+n)=s.to+n:=yA (by omega) (by omega)
  simp only[bd,ao,b0,aq,aN,eIn,Fy,tB,an,q2,q3]
  clear eIn Fy tB eD
  cases decide (kd=11) with
  |true=>
    simp only[aq]
    unfold Jq
    cases decide ((s.B.1.getD i ad).1+(s.B.1.getD i ad).2.1-(s.B.1.getD i ad).2.2<n) with
    |true=>exact⟨_,rfl,fun e=>by cases e⟩
    |false=>
    cases decide (s.to-n<0) with
    |true=>exact⟨_,rfl,fun e=>by cases e⟩
    |false=>
    cases hz:decide ((fQ (s.B.1.getD i ad) (-n)).2=0) with
    |false=>exact⟨_,rfl,fun e=>absurd e (iH hz)⟩
    |true=>
    cases decide (s.to-n>1152921504606846976) with
    |true=>exact⟨_,rfl,fun e=>by cases e⟩
    |false=>exact⟨_,rfl,fun _=>rfl⟩
  |false=>
    simp only[ao]
    unfold Jr
    cases hz:decide ((fQ (s.B.1.getD i ad) n).2=0) with
    |false=>exact⟨_,rfl,fun e=>absurd e (iH hz)⟩
    |true=>
    cases decide (s.to+n>1152921504606846976) with
    |true=>exact⟨_,rfl,fun e=>by cases e⟩
    |false=>exact⟨_,rfl,fun _=>rfl⟩
def iO (sa:List iI)(pr:List Int)(ho:jY)(j:Nat):Int:=kq sa pr (ho.getD j [])
def iP (sa:List iI)(pr:List Int)(ho:jY)(a:List qM):List qM:=(List.range a.length).map fun j=>((a.getD j ad).1,iO sa pr ho j,(a.getD j ad).2.2)
def Fz (r:qN)(s:qF)(pr:List Int):Int×qF:=
 bif qK (fun j=> !decide (iO r.2.1 pr s.ho j>1152921504606846976)) s.B.1.length 0 then(0,{s with B:=(iP r.2.1 pr s.ho s.B.1,s.B.2.1,s.B.2.2.1,s.B.2.2.2),pr:=pr}) else(8,s)
def la (r:qN)(s:qF)(a p:Int):Int×qF:=
 bif !(decide (a≥0)&&decide (a≤(r.2.1.length:Int)-1)) then(1,s)
 else bif !(decide (p≥0)&&decide (p≤1048576)) then(1,s)
 else Fz r s (s.pr.set a.toNat p)
theorem yJv (sa:List iI)(pr:List Int)(ho:jY)(a:List qM):(iP sa pr ho a).length=a.length:=by simp[iP]
theorem yIm (sa:List iI)(pr:List Int)(ho:jY)(a:List qM){j:Nat}(hj:j<a.length):(iP sa pr ho a).getD j ad=((a.getD j ad).1,iO sa pr ho j,(a.getD j ad).2.2):=by
 unfold iP
 rw[List.getD_eq_getElem?_getD,List.getElem?_map,List.getElem?_range hj]
 rfl
theorem yZ4 {k:Nat}(hk:1000≤k){r:qN}{s:qF}(who:Int){pr:List Int}(hL:∀i,i<s.B.1.length→kr r.2.1 pr (s.ho.getD i []))(hol:s.ho.length=s.B.1.length)(oV:s.B.1.length≤6):
  (qK (fun j=> !decide (iO r.2.1 pr s.ho j>1152921504606846976)) s.B.1.length 0=true∧ru k k s.ho s.ho.length 0 (fq r s who) pr s.B.1 s.B.2.1 s.B.2.2.1 s.B.2.2.2=some (.inl (fq r s who,pr,iP r.2.1 pr s.ho s.B.1,s.B.2.1,s.B.2.2.1,s.B.2.2.2)))∨
  (qK (fun j=> !decide (iO r.2.1 pr s.ho j>1152921504606846976)) s.B.1.length 0=false∧ru k k s.ho s.ho.length 0 (fq r s who) pr s.B.1 s.B.2.1 s.B.2.2.1 s.B.2.2.2=some (.inr (8,fq r s who))):=by
 rw[hol]
 have:=Z8 (L:=fun n i (a:List qM)=>ru k n s.ho s.B.1.length i (fq r s who) pr a s.B.2.1 s.B.2.2.1 s.B.2.2.2) (N:=s.B.1.length) (fun j=> !decide (iO r.2.1 pr s.ho j>1152921504606846976))
  (fun a=>.inl (fq r s who,pr,a,s.B.2.1,s.B.2.2.1,s.B.2.2.2)) (.inr (8,fq r s who))
  (fun i a => a.length = s.B.1.length ∧ ∀ j, j < s.B.1.length → a.getD j ad = if j < i then ((s.B.1.getD j ad).1, iO r.2.1 pr s.ho j, (s.B.1.getD j ad).2.2) else s.B.1.getD j ad) (fun n a _=>by
   show BN k _ s.ho s.B.1.length s.B.1.length (fq r s who) pr a s.B.2.1 s.B.2.2.1 s.B.2.2.2=_
   unfold BN
   simp only [qC, aj (Nat.lt_irrefl _), ao]) (fun n i a hi ha=>by
   have hv:=yNx (k:=k) (hL i hi) (by omega)
   have aF:ru k (n+1) s.ho s.B.1.length i (fq r s who) pr a s.B.2.1 s.B.2.2.1 s.B.2.2.2=bif decide (iO r.2.1 pr s.ho i>1152921504606846976) then some (.inr (8,fq r s who)) else ru k n s.ho s.B.1.length ((i+1:Nat):Int) (fq r s who) pr (a.set i ((a.getD i ad).1,iO r.2.1 pr s.ho i,(a.getD i ad).2.2)) s.B.2.1 s.B.2.2.1 s.B.2.2.2:=by
    show BN k _ s.ho s.B.1.length i (fq r s who) pr a s.B.2.1 s.B.2.2.1 s.B.2.2.2=_
    unfold BN
    have pK:oP k (fq r s who).2.1 pr (s.ho.getD i [])=some (iO r.2.1 pr s.ho i,true):=hv
    simp only[qC,qZ,aN,ai hi,ai (show i<s.ho.length by omega),ai (show i<a.length by rw[ha.1];exact hi),aq,pK,an,bd,ao,qY hi (show s.B.1.length<9223372036854775808 by omega)]
    rfl
   refine⟨fun ho=>?_,fun ho=>?_⟩
   ·have h1:decide (iO r.2.1 pr s.ho i>1152921504606846976)=false:=by simpa using ho
    refine⟨_,by rw[aF,h1];rfl,by rw[List.length_set];exact ha.1,fun j hj=>?_⟩
    rw[wJ]
    by_cases e:i=j
    ·subst e
     rw[if_pos ⟨rfl,by rw[ha.1];exact hi⟩,if_pos (by omega),ha.2 i hi,if_neg (Nat.lt_irrefl _)]
    ·rw[if_neg (by omega),ha.2 j hj]
     by_cases h:j<i
     ·rw[if_pos h,if_pos (by omega)]
     ·rw[if_neg h,if_neg (by omega)]
   ·have h1:decide (iO r.2.1 pr s.ho i>1152921504606846976)=true:=by simpa using ho
    rw[aF,h1];rfl) s.B.1.length 0 k s.B.1 (by omega) (by omega) ⟨rfl,fun j _=>by rw[if_neg (Nat.not_lt_zero _)]⟩
 rcases this with⟨h1,a,h2,h3,h4⟩|⟨h1,h2⟩
 ·refine .inl ⟨h1,?_⟩
  have e:a=iP r.2.1 pr s.ho s.B.1:=HW ad (by rw[h3,yJv]) fun j hj=>by
   rw[h3] at hj
   rw[h4 j hj,if_pos hj,yIm _ _ _ _ hj]
  rw[←e]
  exact h2
 ·exact .inr ⟨h1,h2⟩
theorem yZ3 {k:Nat}(hk:1000≤k){r:qN}(hr:fm r){s:qF}(h:yN r s)(who a p:Int):
  ∃d,Js k (fq r s who) a p=some ((la r s a p).1,d)∧((la r s a p).1=0→d=dk r (la r s a p).2 who []):=by
 have h3:=hr.n3
 have oV:=h.bk.n6
 have mq:=h.bk.n1
 have w1:zA ((r.2.1.length:Int)-1)=(r.2.1.length:Int)-1:=yA (by omega) (by omega)
 have eD:Js k (fq r s who) a p=((yY k a 0 (zA ((r.2.1.length:Int)-1))).bind fun x0=>some x0).bind fun x0=>
  bif !x0 then some (1,dk r s who [])
  else(yY k p 0 1048576).bind fun x1=>
  bif !x1 then some (1,dk r s who [])
  else(nC k s.pr a p).bind fun x2=>
  (jR k s.B.1 s.B.2.1 s.B.2.2.1 s.B.2.2.2).bind fun x3=>
  (ru k k s.ho (s.ho.length:Int) 0 (fq r s who) x2 x3.1 x3.2.1 x3.2.2.1 x3.2.2.2).bind fun z=>
  match z with
  |.inl z1=>some (0,(gq z1.1 (qWw z1 (z1.2.1,(QB z1.1 [])))))
  |.inr z2=>some (wV z2 []):=rfl
 rw[eD,w1,oX,oX,Eu (by omega) h.bk.toSized]
 simp only[an]
 unfold la
 cases hc:decide (a≥0)&&decide (a≤(r.2.1.length:Int)-1) with
 |false=>exact⟨_,rfl,fun e=>by cases e⟩
 |true=>
 simp only[bU,bN] at hc
 cases hm:decide (p≥0)&&decide (p≤1048576) with
 |false=>exact⟨_,rfl,fun e=>by cases e⟩
 |true=>
 simp only[bU,bN] at hm
 obtain⟨i,rfl⟩:=Int.eq_ofNat_of_zero_le hc.1
 have hi:i<r.2.1.length:=by omega
 have L0:=h.laid 0 (by omega)
 have wv:nC k s.pr (i:Int) p=some (s.pr.set i p):=by
  have:=yI0 (k:=k) (l:=s.pr) (by rw[L0.pl];omega) (i:=(i:Int)) (by omega) (by rw[L0.pl];omega) p
  rw[aN] at this
  exact this
 simp only[bd,ao,wv,an,aN]
 unfold Fz
 rcases yZ4 (r:=r) (s:=s) hk who (pr:=s.pr.set i p) (fun j hj=>(h.laid j hj).setP hi ⟨by omega,by omega⟩) h.hol oV with⟨g1,g2⟩|⟨g1,g2⟩
 ·rw[g2,g1]
  exact⟨_,rfl,fun _=>rfl⟩
 ·rw[g2,g1]
  exact⟨_,rfl,fun e=>by cases e⟩
theorem Jt {q p:zC}:fl q p=true↔q.2.1<p.2.1∨(q.2.1=p.2.1∧q.2.2.2.2.1≤p.2.2.2.2.1):=by
 unfold fl;simp
theorem yO8 {q p:zC}:mz q p=true↔q.2.1<p.2.1∨(q.2.1=p.2.1∧q.2.2.2.2.1<p.2.2.2.2.1):=by
 unfold mz;simp
theorem vFc {a b c:zC}(h:fl a b=true)(g:fl b c=true):fl a c=true:=by
 rw[Jt] at*;omega
theorem vGh {a b:zC}(h:¬fl a b=true):fl b a=true:=by
 rw[Jt] at*;omega
theorem vEb {a b:zC}(h:mz a b=true):fl a b=true:=by
 rw[yO8] at h;rw[Jt];omega
theorem vK1 {a b:zC}(h:¬mz a b=true):fl b a=true:=by
 rw[yO8] at h;rw[Jt];omega
theorem yL9 (f:zC→Bool)(l:List zC)(p:zC):List.Perm (l.takeWhile f++(p::l.dropWhile f)) (p::l):=by
 have:=List.perm_middle (a:=p) (l₁:=l.takeWhile f) (l₂:=l.dropWhile f)
 rwa [List.takeWhile_append_dropWhile] at this
theorem qTf {l:List zC}(hs:mB l)(p:zC)(f:zC→Bool)(h1:∀q,f q=true→fl q p=true)(h2:∀q,¬f q=true→fl p q=true):mB (l.takeWhile f++(p::l.dropWhile f)):=by
 have uI:=hs
 unfold mB at hs uI⊢
 rw[←List.takeWhile_append_dropWhile (p:=f) (l:=l)] at hs
 obtain⟨a1,a2,a3⟩:=List.pairwise_append.1 hs
 have QC:∀q∈l.takeWhile f,f q=true:=fun q hq=>List.all_eq_true.1 (List.all_takeWhile (p:=f) (l:=l)) q hq
 have QD:∀q∈l.dropWhile f,fl p q=true:=by
  cases hd:l.dropWhile f with
  |nil=>intro q hq;cases hq
  |cons x m=>
   have hx:¬f x=true:=by
    have bc:l.dropWhile f≠[]:=by rw[hd];simp
    have:=List.head_dropWhile_not f bc
    have e:(l.dropWhile f).head bc=x:=by simp only[hd,List.head_cons]
    rw[e] at this
    simp[this]
   intro q hq
   rcases List.mem_cons.1 hq with rfl|hq
   ·exact h2 _ hx
   ·rw[hd] at a2
    exact vFc (h2 x hx) ((List.pairwise_cons.1 a2).1 q hq)
 refine List.pairwise_append.2 ⟨a1,List.pairwise_cons.2 ⟨QD,a2⟩,fun a ha b hb=>?_⟩
 rcases List.mem_cons.1 hb with rfl|hb
 ·exact h1 a (QC a ha)
 ·exact a3 a ha b hb
theorem QE {l:List zC}(hs:mB l)(p:zC):mB (nz l p):=qTf hs p _ (fun _ h=>h) (fun _ h=>vGh h)
theorem vGk {l:List zC}(hs:mB l)(p:zC):mB (IJ l p):=qTf hs p _ (fun _ h=>vEb h) (fun _ h=>vK1 h)
theorem BO (l:List zC)(p:zC):List.Perm (nz l p) (p::l):=yL9 _ l p
theorem qWy (l:List zC)(p:zC):List.Perm (IJ l p) (p::l):=yL9 _ l p
theorem mB.cut {l:List zC}(h:mB l)(x:Nat):mB (yU l x):=List.Pairwise.sublist (qz l x) h
theorem vBm {l:List Int}(ha:tm l){id:Int}(hn:id∉l):tm (tn l id):=by
 unfold tn
 have kL:=ha
 unfold tm at ha kL⊢
 rw[←List.takeWhile_append_dropWhile (p:=fun x=>decide (x<id)) (l:=l)] at ha
 obtain⟨a1,a2,a3⟩:=List.pairwise_append.1 ha
 have QC:∀q∈l.takeWhile (fun x=>decide (x<id)),q<id:=fun q hq=>by simpa using List.all_eq_true.1 (List.all_takeWhile (p:=fun x=>decide (x<id)) (l:=l)) q hq
 have QD:∀q∈l.dropWhile (fun x=>decide (x<id)),id<q:=by
  cases hd:l.dropWhile (fun x=>decide (x<id)) with
  |nil=>intro q hq;cases hq
  |cons x m=>
   have uH:x∈l:=(List.dropWhile_sublist _).subset (by rw[hd];exact List.mem_cons_self ..)
   have hx:¬x<id:=by
    have bc:l.dropWhile (fun x=>decide (x<id))≠[]:=by rw[hd];simp
    have:=List.head_dropWhile_not (fun x=>decide (x<id)) bc
    have e:(l.dropWhile (fun x=>decide (x<id))).head bc=x:=by simp only[hd,List.head_cons]
    rw[e] at this
    simpa using this
   have bc:x≠id:=fun e=>hn (e▸uH)
   intro q hq
   rcases List.mem_cons.1 hq with rfl|hq
   ·omega
   ·rw[hd] at a2
    have:=(List.pairwise_cons.1 a2).1 q hq
    omega
 refine List.pairwise_append.2 ⟨a1,List.pairwise_cons.2 ⟨QD,a2⟩,fun a ha b hb=>?_⟩
 rcases List.mem_cons.1 hb with rfl|hb
 ·exact QC a ha
 ·exact a3 a ha b hb
theorem yCu (l:List Int)(id:Int):List.Perm (tn l id) (id::l):=by
 have:=List.perm_middle (a:=id) (l₁:=l.takeWhile (fun x=>decide (x<id))) (l₂:=l.dropWhile (fun x=>decide (x<id)))
 rwa [List.takeWhile_append_dropWhile] at this
theorem fP.sub {n:Nat}{m m':List zC}{ids:List Int}(h:fP n m ids)(hs:List.Sublist m' m):fP n m' ids:=
 ⟨List.Pairwise.sublist hs h.dist,by have:=hs.length_le;have:=h.len;omega,List.Pairwise.sublist hs h.sort,fun p hp=>h.may p (hs.subset hp),fun p hp=>h.time p (hs.subset hp),fun p hp=>h.were p (hs.subset hp),h.asc,h.pos,h.idl⟩
theorem fP.turn {n:Nat}{m:List zC}{ids:List Int}(h:fP n m ids){x:Nat}(hx:x<m.length){p:zC}{m':List zC}(hp:List.Perm m' (p::yU m x))(hs:mB m')(h1:p.1=(m.getD x pd).1)
  (h2:yS n p) (h3:0≤p.2.2.2.2.2.1∧p.2.2.2.2.2.1≤p.2.2.2.2.2.2∧p.2.2.2.2.2.2≤1048576):fP n m' ids:=by
 have hc:=qz m x
 have hl:=nv hx
 have hd:qT (p::yU m x):=by
  refine List.pairwise_cons.2 ⟨fun q hq=>?_,h.dist.cut x⟩
  rw[h1]
  have hd:=h.dist
  unfold qT at hd
  rw[EX m x pd hx] at hd
  have E4:=List.pairwise_append.1 hd
  have P7:=List.pairwise_cons.1 E4.2.1
  unfold yU at hq
  rcases List.mem_append.1 hq with hq|hq
  ·exact fun e=>E4.2.2 _ hq _ (List.mem_cons_self ..) e.symm
  ·exact P7.1 _ hq
 have hlen:=hp.length_eq
 rw[List.length_cons] at hlen
 refine⟨hd.perm hp,by have:=h.len;omega,hs,fun q hq=>?_,fun q hq=>?_,fun q hq=>?_,h.asc,h.pos,h.idl⟩
 all_goals rcases List.mem_cons.1 (hp.subset hq) with rfl|mA
 ·exact h2
 ·exact h.may q (hc.subset mA)
 ·exact h3
 ·exact h.time q (hc.subset mA)
 ·rw[h1];exact h.were _ (wY hx)
 ·exact h.were q (hc.subset mA)
theorem vCc {r:qN}{s:qF}(hr:fm r)(h:yN r s){who:Int}{f:jP}(h0:(lU r s who f).1=0):fP s.B.1.length (lU r s who f).2.1 (lU r s who f).2.2:=by
 have hw:=h.waits
 have hn:=h.n
 have ht:=h.tk
 unfold lU at h0⊢
 cases hc:decide (f.2.2.1≥0)&&decide (f.2.2.1≤r.1-1) with
 |false=>rw[hc] at h0;cases h0
 |true=>
 cases bW:decide (f.2.2.2.2.1≥1)&&decide (f.2.2.2.2.1≤3) with
 |false=>rw[hc,bW] at h0;cases h0
 |true=>
 cases bT:decide (tz r s.t (iN who f)=0) with
 |false=>rw[hc,bW,bT] at h0;exact absurd h0 (iH bT)
 |true=>
 cases cN:decide (f.2.1∈s.ids) with
 |true=>rw[hc,bW,bT,cN] at h0;cases h0
 |false=>
 cases ek:decide (200≤s.ids.length) with
 |true=>rw[hc,bW,bT,cN,ek] at h0;cases h0
 |false=>
 cases vf:(wL s.m f.2.1).isSome with
 |true=>rw[hc,bW,bT,cN,ek,vf] at h0;cases h0
 |false=>
 cases yx:decide (40≤s.m.length) with
 |true=>rw[hc,bW,bT,cN,ek,vf,yx] at h0;cases h0
 |false=>
 show fP s.B.1.length (nz s.m (iN who f)) (tn s.ids f.2.1)
 have G9:f.2.1∉s.ids:=iH cN
 have hi:=iH ek
 have hm:=iH yx
 have wx:=vk bT
 have QF:wm r.1 s.t (iN who f)=true:=by
  unfold tz at wx
  cases hb:wm r.1 s.t (iN who f) with
  |true=>rfl
  |false=>rw[hb] at wx;cases wx
 unfold wm at QF
 simp only[bU,bN,Bool.not_eq_true',decide_eq_false_iff_not] at QF
 obtain⟨⟨p1,p2⟩,⟨p3,p4⟩,p5,p6,p7,p8,p9,ql,p11,p12,p13,p14⟩:=QF
 have FA:=BO s.m (iN who f)
 have Ju:=yCu s.ids f.2.1
 have hlen:=FA.length_eq
 have nj:=Ju.length_eq
 rw[List.length_cons] at hlen nj
 have cc:yS s.B.1.length (iN who f):=⟨p1,by omega,p3,by omega,p9,p6,p7,p8,ql⟩
 have ey:∀x,x∈s.ids→x∈tn s.ids f.2.1:=fun x hx=>Ju.symm.subset (List.mem_cons_of_mem _ hx)
 have FB:qT (iN who f::s.m):=List.pairwise_cons.2 ⟨fun q hq e=>G9 (by have:=hw.were q hq;rw[←e] at this;exact this),hw.dist⟩
 refine⟨FB.perm FA,by omega,QE hw.sort _,fun q hq=>?_,fun q hq=>?_,fun q hq=>?_,vBm hw.asc G9,fun x hx=>?_,by omega⟩
 ·rcases List.mem_cons.1 (FA.subset hq) with rfl|mA
  ·exact cc
  ·exact hw.may q mA
 ·rcases List.mem_cons.1 (FA.subset hq) with rfl|mA
  ·exact⟨p11,p12,p14⟩
  ·exact hw.time q mA
 ·rcases List.mem_cons.1 (FA.subset hq) with rfl|mA
  ·exact Ju.symm.subset (List.mem_cons_self ..)
  ·exact ey _ (hw.were q mA)
 ·rcases List.mem_cons.1 (Ju.subset hx) with rfl|mS
  ·exact p5
  ·exact hw.pos x mS
theorem yUs {r:qN}{s:qF}(h:yN r s){who:Int}{f:jP}(h0:(jh r s who f).1=0):fP s.B.1.length (jh r s who f).2.1 s.ids:=by
 have hw:=h.waits
 unfold jh at h0⊢
 cases hx:wL s.m f.2.1 with
 |none=>rw[hx] at h0;cases h0
 |some x=>
 rw[hx] at h0
 have dD:=(lR hx).1
 have dC:s.m.getD x pd∈s.m:=wY dD
 have hm:=hw.may _ dC
 have ht:=hw.time _ dC
 simp only at h0⊢
 cases hc:decide ((s.m.getD x pd).2.1=who) with
 |false=>rw[hc] at h0;cases h0
 |true=>
 rw[hc] at h0
 simp only[bd,ao] at h0⊢
 cases bW:decide (f.1=2) with
 |true=>exact hw.sub (qz _ _)
 |false=>
 rw[bW] at h0
 simp only[ao] at h0⊢
 cases bT:decide (f.1=4) with
 |true=>
  rw[bT] at h0
  simp only[aq] at h0⊢
  cases cN:decide (f.2.2.1≥1)&&decide (f.2.2.1≤3) with
  |false=>rw[cN] at h0;cases h0
  |true=>
  cases ek:decide (oY r.2.2.1 r.2.2.2.1 s.t f.2.2.1=0) with
  |false=>rw[cN,ek] at h0;exact absurd h0 (iH ek)
  |true=>
  simp only[bU,bN] at cN
  obtain⟨m1,m2,m3,m4,m5,m6,m7,m8,m9⟩:=hm
  exact hw.turn dD (BO _ _) (QE (hw.sort.cut x) _) rfl ⟨m1,m2,m3,m4,m5,m6,m7,cN.1,cN.2⟩ ht
 |false=>
  rw[bT] at h0
  simp only[ao] at h0⊢
  cases cN:decide (f.2.2.1=0) with
  |true=>exact hw.turn dD (qWy _ _) (vGk (hw.sort.cut x) _) rfl hm ht
  |false=>
   cases ek:decide (f.2.2.1=1) with
   |true=>exact hw.turn dD (BO _ _) (QE (hw.sort.cut x) _) rfl hm ht
   |false=>rw[cN,ek] at h0;cases h0
theorem yR5 {n:Int}(h:-1≤n∧n≤1152921504606846976):wA n=true:=by
 unfold wA;simp;omega
theorem BP {a:qM}:eY a=true↔(-4611686018427387904<a.1∧a.1<4611686018427387904)∧(0≤a.2.1∧a.2.1≤2305843009213693952)∧(0≤a.2.2∧a.2.2≤2305843009213693952):=by
 unfold eY;simp only[bU,bN];omega
theorem wU.setBil {a:List qM}{b:jY}{m:List Int}{p:jY}(h:wU a b m p){w i:Nat}(hw:w<a.length)(hi:i<a.length){n:Int}(hn:-1≤n∧n≤1152921504606846976):wU a (b.set w ((b.getD w []).set i n)) m p:=
  { h with
    bl:=by rw[List.length_set];exact h.bl
    br:=fun j hj=>by
      rw[wJ]
      split
      · rw[List.length_set];exact h.br w hw
      · exact h.br j hj
    bil:=fun j hj k hk=>by
      unfold cell
      rw[wJ]
      split
      · rename_i e
        rw[wJ]
        split
        · exact yR5 hn
        · exact h.bil w hw k hk
      · exact h.bil j hj k hk}
theorem wU.setMul {a:List qM}{b:jY}{m:List Int}{p:jY}(h:wU a b m p)(w:Nat){n:Int}(hn:-1≤n∧n≤1152921504606846976):wU a b (m.set w n) p:=
  { h with
    ml:=by rw[List.length_set];exact h.ml
    mul:=fun j hj=>by
      rw[wJ]
      split
      · exact yR5 hn
      · exact h.mul j hj}
theorem wU.setAcct {a:List qM}{b:jY}{m:List Int}{p:jY}(h:wU a b m p){a':List qM}(hl:a'.length=a.length)(ha:∀i,i<a.length→eY (a'.getD i ad)=true):wU a' b m p where
 n1:=by rw[hl];exact h.n1
 n6:=by rw[hl];exact h.n6
 bl:=by rw[hl];exact h.bl
 br:=by rw[hl];exact h.br
 ml:=by rw[hl];exact h.ml
 pl:=by rw[hl];exact h.pl
 pr:=by rw[hl];exact h.pr
 mul:=by rw[hl];exact h.mul
 bil:=by rw[hl];exact h.bil
 acct:=by rw[hl];exact ha
 net:=by rw[hl];exact h.net
 turn:=by rw[hl];exact h.turn
theorem vBg {n:Nat}{g:Nat→Int}{i:Nat}(hi:i<n)(d:Int):qO (fun j=>if j=i then g j+d else g j) n=qO g n+d:=by
 have e:qO (fun j=>if j=i then g j+d else g j) n=qO (fun j=>g j+(if j=i then d else 0)) n:=lN fun j _=>by
  by_cases h:j=i
  ·rw[if_pos h,if_pos h]
  ·rw[if_neg h,if_neg h];omega
 rw[e,zb,vm,if_pos hi]
theorem yN.books {r:qN}{s:qF}(h:yN r s){B:BT}(hb:yM B)(hl:B.1.length=s.B.1.length)(qy:∀i,i<s.B.1.length→(B.1.getD i ad).1=(s.B.1.getD i ad).1)(hc:∀i,i<s.B.1.length→(B.1.getD i ad).2.1=(s.B.1.getD i ad).2.1):yN r {s with B:=B} where
 tk:=h.tk
 bk:=hb
 n:=by show((B.1.length:Nat):Int)=r.1;rw[hl];exact h.n
 hol:=by show s.ho.length=B.1.length;rw[hl];exact h.hol
 laid:=by show∀i,i<B.1.length→_;rw[hl];exact h.laid
 cred:=by show∀i,i<B.1.length→_;rw[hl];intro i hi;show(B.1.getD i ad).2.1=_;rw[hc i hi];exact h.cred i hi
 most:=by show∀i,i<B.1.length→_;rw[hl];intro i hi;show(B.1.getD i ad).2.1≤_;rw[hc i hi];exact h.most i hi
 waits:=by show fP B.1.length s.m s.ids;rw[hl];exact h.waits
 sum:=by show qO (fun i=>(B.1.getD i ad).1) B.1.length=s.to;rw[hl,lN qy];exact h.sum
 tot:=h.tot
 over:=h.over
 none:=h.none
theorem yN.queue {r:qN}{s:qF}(h:yN r s)(ho:s.ov=false){m:List zC}{ids:List Int}(hw:fP s.B.1.length m ids):yN r {s with m:=m,ids:=ids} where
 tk:=h.tk
 bk:=h.bk
 n:=h.n
 hol:=h.hol
 laid:=h.laid
 cred:=h.cred
 most:=h.most
 waits:=hw
 sum:=h.sum
 tot:=h.tot
 over:=h.over
 none:=fun e=>by rw[show s.ov=true from e] at ho;cases ho
theorem QG {a:List qM}{w i:Nat}{x:qM}(hw:w<a.length):(a.set w x).getD i ad=if i=w then x else a.getD i ad:=by
 rw[wJ]
 by_cases e:i=w
 ·rw[if_pos e,if_pos ⟨e.symm,hw⟩]
 ·rw[if_neg e,if_neg (fun h=>e h.1.symm)]
theorem vLk {r:qN}{s:qF}(h:yN r s){who:Int}(hw:0≤who∧who<r.1){f:jP}(h0:(kY r s who f).1=0):yN r (kY r s who f).2:=by
 have hn:=h.n
 have hb:wU s.B.1 s.B.2.1 s.B.2.2.1 s.B.2.2.2:=h.bk
 obtain⟨w,rfl⟩:=Int.eq_ofNat_of_zero_le hw.1
 have jk:w<s.B.1.length:=by omega
 unfold kY at h0⊢
 simp only[aN] at h0⊢
 cases hc:decide (f.1=5) with
 |true=>
  rw[hc] at h0
  simp only[aq] at h0⊢
  cases bW:decide (f.2.1≥0)&&decide (f.2.1≤r.1-1) with
  |false=>rw[bW] at h0;cases h0
  |true=>
  cases bT:decide (f.2.1=(w:Int)) with
  |true=>rw[bW,bT] at h0;cases h0
  |false=>
  cases cN:decide (f.2.2.1≥-1)&&decide (f.2.2.1≤1152921504606846976) with
  |false=>rw[bW,bT,cN] at h0;cases h0
  |true=>
  simp only[bU,bN] at bW cN
  exact h.books (B:=(s.B.1,s.B.2.1.set w ((s.B.2.1.getD w []).set f.2.1.toNat f.2.2.1),s.B.2.2.1,s.B.2.2.2)) (hb.setBil jk (by omega) ⟨by omega,by omega⟩) rfl (fun _ _=>rfl) (fun _ _=>rfl)
 |false=>
  rw[hc] at h0
  simp only[ao] at h0⊢
  cases bW:decide (f.1=6) with
  |true=>
   rw[bW] at h0
   simp only[aq] at h0⊢
   cases bT:decide (f.2.1≥-1)&&decide (f.2.1≤1152921504606846976) with
   |false=>rw[bT] at h0;cases h0
   |true=>
   simp only[bU,bN] at bT
   exact h.books (B:=(s.B.1,s.B.2.1,s.B.2.2.1.set w f.2.1,s.B.2.2.2)) (hb.setMul w ⟨by omega,by omega⟩) rfl (fun _ _=>rfl) (fun _ _=>rfl)
  |false=>
   rw[bW] at h0
   simp only[ao] at h0⊢
   cases bT:decide (f.2.1≥0)&&decide (f.2.1≤1152921504606846976) with
   |false=>rw[bT] at h0;cases h0
   |true=>
   simp only[bU,bN] at bT
   have hg:∀i,(s.B.1.set w ((s.B.1.getD w ad).1,(s.B.1.getD w ad).2.1,f.2.1)).getD i ad=if i=w then((s.B.1.getD w ad).1,(s.B.1.getD w ad).2.1,f.2.1) else s.B.1.getD i ad:=fun i=>QG jk
   refine h.books (B:=(s.B.1.set w ((s.B.1.getD w ad).1,(s.B.1.getD w ad).2.1,f.2.1),s.B.2.1,s.B.2.2.1,s.B.2.2.2)) (hb.setAcct (by rw[List.length_set]) fun i hi=>?_) (by show(s.B.1.set _ _).length=_;rw[List.length_set]) (fun i hi=>?_) (fun i hi=>?_)
   ·rw[hg]
    split
    ·have:=BP.1 (hb.acct w jk)
     rw[BP]
     exact⟨this.1,this.2.1,by show 0≤f.2.1∧f.2.1≤2305843009213693952;omega⟩
    ·exact hb.acct i hi
   ·show((s.B.1.set w _).getD i ad).1=_
    rw[hg]
    split
    ·rename_i e;rw[e]
    ·rfl
   ·show((s.B.1.set w _).getD i ad).2.1=_
    rw[hg]
    split
    ·rename_i e;rw[e]
    ·rfl
theorem vDl {r:qN}(hr:fm r){s:qF}(h:yN r s){who:Int}(hw:0≤who∧who<r.1){a many:Int}(h0:(kZ r s who a many).1=0):yN r (kZ r s who a many).2:=by
  have hn:=h.n
  have hb:wU s.B.1 s.B.2.1 s.B.2.2.1 s.B.2.2.2:=h.bk
  obtain⟨w,rfl⟩:=Int.eq_ofNat_of_zero_le hw.1
  have jk:w<s.B.1.length:=by omega
  have hol:=h.hol
  unfold kZ at h0⊢
  simp only[aN] at h0⊢
  cases hc:decide (a≥0)&&decide (a≤(r.2.1.length:Int)-1) with
  |false=>rw[hc] at h0;cases h0
  |true=>
  cases bW:decide (many≥0)&&decide (many≤1099511627776) with
  |false=>rw[hc,bW] at h0;cases h0
  |true=>
  rw[hc,bW] at h0
  simp only[bd,ao] at h0⊢
  simp only[bU,bN] at hc bW
  have L2:=(h.laid w jk).set (i:=a.toNat) (by omega) (v:=many) ⟨by omega,by omega⟩
  have Df:=IU L2
  obtain⟨n,bc⟩:∃n,n=kq r.2.1 s.pr ((s.ho.getD w []).set a.toNat many):=⟨_,rfl⟩
  rw[←bc] at h0 Df⊢
  unfold Fv at h0⊢
  cases bT:decide (n>1152921504606846976) with
  |true=>rw[bT] at h0;cases h0
  |false=>
  cases cN:decide (n<(s.B.1.getD w ad).2.1)&&decide ((s.B.1.getD w ad).1+n<0) with
  |true=>rw[bT,cN] at h0;cases h0
  |false=>
  have bT:=iH bT
  have hg:∀i,(s.B.1.set w ((s.B.1.getD w ad).1,n,(s.B.1.getD w ad).2.2)).getD i ad=if i=w then((s.B.1.getD w ad).1,n,(s.B.1.getD w ad).2.2) else s.B.1.getD i ad:=fun i=>QG jk
  have hgh:∀i,(s.ho.set w ((s.ho.getD w []).set a.toNat many)).getD i []=if i=w then(s.ho.getD w []).set a.toNat many else s.ho.getD i []:=fun i=>by
    rw[wJ]
    by_cases e:i=w
    · rw[if_pos e,if_pos ⟨e.symm,by omega⟩]
    · rw[if_neg e,if_neg (fun h=>e h.1.symm)]
  simp only[ao]
  have ep:(s.B.1.set w ((s.B.1.getD w ad).1,n,(s.B.1.getD w ad).2.2)).length=s.B.1.length:=List.length_set ..
  exact{
    tk:=h.tk
    bk:=hb.setAcct ep fun i hi=>by
      rw[hg]
      split
      · have:=BP.1 (hb.acct w jk)
        rw[BP]
        exact⟨this.1,by show 0≤n∧n≤2305843009213693952;omega,this.2.2⟩
      · exact hb.acct i hi
    n:=by show(((s.B.1.set w _).length:Nat):Int)=r.1;rw[ep];exact h.n
    hol:=by show(s.ho.set w _).length=(s.B.1.set w _).length;rw[ep,List.length_set];exact hol
    laid:=by
      show∀i,i<(s.B.1.set w _).length→kr r.2.1 s.pr ((s.ho.set w _).getD i [])
      rw[ep]
      intro i hi
      rw[hgh]
      split
      · exact L2
      · exact h.laid i hi
    cred:=by
      show∀i,i<(s.B.1.set w _).length→((s.B.1.set w _).getD i ad).2.1=kq r.2.1 s.pr ((s.ho.set w _).getD i [])
      rw[ep]
      intro i hi
      rw[hg,hgh]
      split
      · exact bc
      · exact h.cred i hi
    most:=by
      show∀i,i<(s.B.1.set w _).length→((s.B.1.set w _).getD i ad).2.1≤_
      rw[ep]
      intro i hi
      rw[hg]
      split
      · show n≤_;omega
      · exact h.most i hi
    waits:=by show fP (s.B.1.set w _).length s.m s.ids;rw[ep];exact h.waits
    sum:=by
      show qO (fun i=>((s.B.1.set w _).getD i ad).1) (s.B.1.set w _).length=s.to
      rw[ep,lN (h:=fun i=>(s.B.1.getD i ad).1) fun i _=>by
        rw[hg]
        split
        · rename_i e;rw[e]
        · rfl]
      exact h.sum
    tot:=h.tot
    over:=h.over
    none:=h.none}
theorem yQb {r:qN}{s:qF}(h:yN r s){i:Nat}(hi:i<s.B.1.length){n:Int}(hz:(fQ (s.B.1.getD i ad) n).2=0)(ht:0≤s.to+n∧s.to+n≤1152921504606846976):
    yN r (Jp s i (fQ (s.B.1.getD i ad) n).1 (s.to+n)):=by
  have hb:wU s.B.1 s.B.2.1 s.B.2.2.1 s.B.2.2.2:=h.bk
  unfold fQ at hz⊢
  cases hc:eY ((s.B.1.getD i ad).1+n,(s.B.1.getD i ad).2.1,(s.B.1.getD i ad).2.2) with
  |false=>rw[hc] at hz;cases hz
  |true=>
  simp only[aq]
  have hg:∀j,(s.B.1.set i ((s.B.1.getD i ad).1+n,(s.B.1.getD i ad).2.1,(s.B.1.getD i ad).2.2)).getD j ad=if j=i then((s.B.1.getD i ad).1+n,(s.B.1.getD i ad).2.1,(s.B.1.getD i ad).2.2) else s.B.1.getD j ad:=fun j=>QG hi
  have ep:(s.B.1.set i ((s.B.1.getD i ad).1+n,(s.B.1.getD i ad).2.1,(s.B.1.getD i ad).2.2)).length=s.B.1.length:=List.length_set ..
  unfold Jp
  exact{
    tk:=h.tk
    bk:=hb.setAcct ep fun j hj=>by
      rw[hg]
      split
      · exact hc
      · exact hb.acct j hj
    n:=by show(((s.B.1.set i _).length:Nat):Int)=r.1;rw[ep];exact h.n
    hol:=by show s.ho.length=(s.B.1.set i _).length;rw[ep];exact h.hol
    laid:=by show∀j,j<(s.B.1.set i _).length→_;rw[ep];exact h.laid
    cred:=by
      show∀j,j<(s.B.1.set i _).length→((s.B.1.set i _).getD j ad).2.1=_
      rw[ep]
      intro j hj
      rw[hg]
      split
      · rename_i e;rw[e];exact h.cred i hi
      · exact h.cred j hj
    most:=by
      show∀j,j<(s.B.1.set i _).length→((s.B.1.set i _).getD j ad).2.1≤_
      rw[ep]
      intro j hj
      rw[hg]
      split
      · exact h.most i hi
      · exact h.most j hj
    waits:=by show fP (s.B.1.set i _).length s.m s.ids;rw[ep];exact h.waits
    sum:=by
      show qO (fun j=>((s.B.1.set i _).getD j ad).1) (s.B.1.set i _).length=s.to+n
      rw[ep,lN (h:=fun j=>if j=i then(s.B.1.getD j ad).1+n else(s.B.1.getD j ad).1) fun j _=>by
        rw[hg]
        by_cases e:j=i
        · rw[if_pos e,if_pos e,e]
        · rw[if_neg e,if_neg e],vBg hi,h.sum]
    tot:=ht
    over:=h.over
    none:=h.none}
theorem vHd {r:qN}{s:qF}(h:yN r s){kd to n:Int}(h0:(lV r s kd to n).1=0):yN r (lV r s kd to n).2∧(lV r s kd to n).2.to=s.to+(if kd=11 then-n else n)∧(lV r s kd to n).2.m=s.m∧(lV r s kd to n).2.ids=s.ids∧(lV r s kd to n).2.t=s.t:=by
 have hn:=h.n
 have ht:=h.tot
 unfold lV at h0⊢
 cases hc:decide (to≥0)&&decide (to≤r.1-1) with
 |false=>rw[hc] at h0;cases h0
 |true=>
 cases bW:decide (n≥1)&&decide (n≤1099511627776) with
 |false=>rw[hc,bW] at h0;cases h0
 |true=>
 rw[hc,bW] at h0
 simp only[bd,ao] at h0⊢
 simp only[bU,bN] at hc bW
 have hi:to.toNat<s.B.1.length:=by omega
 by_cases hk:kd=11
 ·rw[ai hk] at h0⊢
  simp only[aq] at h0⊢
  rw[if_pos hk]
  unfold Jq at h0⊢
  cases bT:decide ((s.B.1.getD to.toNat ad).1+(s.B.1.getD to.toNat ad).2.1-(s.B.1.getD to.toNat ad).2.2<n) with
  |true=>rw[bT] at h0;cases h0
  |false=>
  cases cN:decide (s.to-n<0) with
  |true=>rw[bT,cN] at h0;cases h0
  |false=>
  cases hz:decide ((fQ (s.B.1.getD to.toNat ad) (-n)).2=0) with
  |false=>rw[bT,cN,hz] at h0;exact absurd h0 (iH hz)
  |true=>
  cases ek:decide (s.to-n>1152921504606846976) with
  |true=>rw[bT,cN,hz,ek] at h0;cases h0
  |false=>
  have cN:=iH cN
  have:=yQb h hi (n:= -n) (vk hz) (by omega)
  exact⟨this,rfl,rfl,rfl,rfl⟩
 ·rw[aj hk] at h0⊢
  simp only[ao] at h0⊢
  rw[if_neg hk]
  unfold Jr at h0⊢
  cases hz:decide ((fQ (s.B.1.getD to.toNat ad) n).2=0) with
  |false=>rw[hz] at h0;exact absurd h0 (iH hz)
  |true=>
  cases ek:decide (s.to+n>1152921504606846976) with
  |true=>rw[hz,ek] at h0;cases h0
  |false=>
  have ek:=iH ek
  exact⟨yQb h hi (vk hz) (by omega),rfl,rfl,rfl,rfl⟩
theorem yU6 {r:qN}{s:qF}(h:yN r s){a p:Int}(h0:(la r s a p).1=0):yN r (la r s a p).2:=by
  have hb:wU s.B.1 s.B.2.1 s.B.2.2.1 s.B.2.2.2:=h.bk
  unfold la at h0⊢
  cases hc:decide (a≥0)&&decide (a≤(r.2.1.length:Int)-1) with
  |false=>rw[hc] at h0;cases h0
  |true=>
  cases bW:decide (p≥0)&&decide (p≤1048576) with
  |false=>rw[hc,bW] at h0;cases h0
  |true=>
  rw[hc,bW] at h0
  simp only[bd,ao] at h0⊢
  simp only[bU,bN] at hc bW
  have hL:∀i,i<s.B.1.length→kr r.2.1 (s.pr.set a.toNat p) (s.ho.getD i []):=fun i hi=>(h.laid i hi).setP (by omega) ⟨by omega,by omega⟩
  generalize s.pr.set a.toNat p=pr at*
  unfold Fz at h0⊢
  cases bT:qK (fun j=> !decide (iO r.2.1 pr s.ho j>1152921504606846976)) s.B.1.length 0 with
  |false=>rw[bT] at h0;cases h0
  |true=>
  simp only[aq]
  have hle:∀i,i<s.B.1.length→iO r.2.1 pr s.ho i≤1152921504606846976:=fun i hi=>by
    have:=gY.1 bT i hi
    simp only[Bool.not_eq_true',decide_eq_false_iff_not] at this
    omega
  have ep:=yJv r.2.1 pr s.ho s.B.1
  have hg:=fun(j:Nat) (hj:j<s.B.1.length)=>yIm r.2.1 pr s.ho s.B.1 hj
  exact{
    tk:=h.tk
    bk:=hb.setAcct ep fun i hi=>by
      rw[hg i hi]
      have:=BP.1 (hb.acct i hi)
      have h1:=IU (hL i hi)
      have h2:=hle i hi
      rw[BP]
      exact⟨this.1,⟨h1,by show iO r.2.1 pr s.ho i≤_;omega⟩,this.2.2⟩
    n:=by show(((iP r.2.1 pr s.ho s.B.1).length:Nat):Int)=r.1;rw[ep];exact h.n
    hol:=by show s.ho.length=(iP r.2.1 pr s.ho s.B.1).length;rw[ep];exact h.hol
    laid:=by show∀i,i<(iP r.2.1 pr s.ho s.B.1).length→_;rw[ep];exact hL
    cred:=by
      show∀i,i<(iP r.2.1 pr s.ho s.B.1).length→((iP r.2.1 pr s.ho s.B.1).getD i ad).2.1=kq r.2.1 pr (s.ho.getD i [])
      rw[ep]
      intro i hi
      rw[hg i hi];rfl
    most:=by
      show∀i,i<(iP r.2.1 pr s.ho s.B.1).length→((iP r.2.1 pr s.ho s.B.1).getD i ad).2.1≤_
      rw[ep]
      intro i hi
      rw[hg i hi];exact hle i hi
    waits:=by show fP (iP r.2.1 pr s.ho s.B.1).length s.m s.ids;rw[ep];exact h.waits
    sum:=by
      show qO (fun i=>((iP r.2.1 pr s.ho s.B.1).getD i ad).1) (iP r.2.1 pr s.ho s.B.1).length=s.to
      rw[ep,lN (h:=fun i=>(s.B.1.getD i ad).1) fun i hi=>by rw[hg i hi]]
      exact h.sum
    tot:=h.tot
    over:=h.over
    none:=h.none}
abbrev lW:Type:=Int×Int×Int×Int×Int×Int×Int×Int
def ow:lW:=(0,0,0,0,0,0,0,0)
def jC (id:Int)(o:lW):Bool:=decide (o.2.2.1=id)&&decide (o.2.1=18)
def jE (id:Int)(o:lW):Bool:=decide (o.2.2.1=id)&&(decide (o.2.1=20)||(decide (o.2.1=21)||decide (o.2.1=22)))
def nS (id:Int)(l:List lW):Nat:=l.countP (jC id)
def nE (id:Int)(l:List lW):Nat:=l.countP (jE id)
def jl (o:List lW)(id:Int):Bool:=(decide (nS id o=0)&&decide (nE id o=1))||(decide (nS id o=2)&&decide (nE id o=0))
theorem qU7 {α:Type}(l:List α)(i:Nat)(d:α)(h:i<l.length):l.take (i+1)=l.take i++[l.getD i d]:=by
 rw[List.take_add_one,List.getD_eq_getElem?_getD]
 rw[List.getElem?_eq_getElem h]
 rfl
theorem vAc (id:Int)(o:List lW)(i:Nat)(hi:i<o.length):nS id (o.take (i+1))=nS id (o.take i)+(if jC id (o.getD i ow)=true then 1 else 0):=by
 rw[qU7 o i ow hi]
 unfold nS
 rw[List.countP_append,List.countP_cons,List.countP_nil]
 omega
theorem vDk (id:Int)(o:List lW)(i:Nat)(hi:i<o.length):nE id (o.take (i+1))=nE id (o.take i)+(if jE id (o.getD i ow)=true then 1 else 0):=by
 rw[qU7 o i ow hi]
 unfold nE
 rw[List.countP_append,List.countP_cons,List.countP_nil]
 omega
theorem yWd {id:Int}{x:lW}:(x.2.2.1≠id∧jC id x=false∧jE id x=false)∨(x.2.2.1=id∧x.2.1=18∧jC id x=true∧jE id x=false)∨(x.2.2.1=id∧x.2.1=20∧jC id x=false∧jE id x=true)∨(x.2.2.1=id∧x.2.1=21∧jC id x=false∧jE id x=true)∨(x.2.2.1=id∧x.2.1=22∧jC id x=false∧jE id x=true)∨(x.2.2.1=id∧x.2.1≠18∧x.2.1≠20∧x.2.1≠21∧x.2.1≠22∧jC id x=false∧jE id x=false):=by
 unfold jC jE
 by_cases h:x.2.2.1=id
 ·by_cases h1:x.2.1=18
  ·exact .inr (.inl ⟨h,h1,by simp[h,h1],by simp[h,h1]⟩)
  ·by_cases h2:x.2.1=20
   ·exact .inr (.inr (.inl ⟨h,h2,by simp[h,h2],by simp[h,h2]⟩))
   ·by_cases h3:x.2.1=21
    ·exact .inr (.inr (.inr (.inl ⟨h,h3,by simp[h,h3],by simp[h,h3]⟩)))
    ·by_cases h4:x.2.1=22
     ·exact .inr (.inr (.inr (.inr (.inl ⟨h,h4,by simp[h,h4],by simp[h,h4]⟩))))
     ·exact .inr (.inr (.inr (.inr (.inr ⟨h,h1,h2,h3,h4,by simp[h,h1],by simp[h,h2,h3,h4]⟩))))
 ·exact .inl ⟨h,by simp[h],by simp[h]⟩
theorem yWn (id:Int)(o:List lW)(i:Nat):nS id (o.take i)≤o.length:=by
 unfold nS
 have:=List.countP_le_length (p:=jC id) (l:=o.take i)
 rw[List.length_take] at this
 omega
theorem vF8 (id:Int)(o:List lW)(i:Nat):nE id (o.take i)≤o.length:=by
 unfold nE
 have:=List.countP_le_length (p:=jE id) (l:=o.take i)
 rw[List.length_take] at this
 omega
theorem vD4 {k:Nat}{o:List lW}(hk:o.length<k)(ho:o.length≤1000000)(id:Int)(ids:List Int)(a b:Int):
  BQ k k o id 0 0 ids a b o (o.length:Int) 0=some (o,(nS id o:Int),(nE id o:Int),ids,a,b):=by
 obtain ⟨s', g1, g2⟩ := vY (L := fun n i (s : Int × Int) => BQ k n o id s.1 s.2 ids a b o (o.length : Int) i) (N := o.length) (fun s => (o, s.1, s.2, ids, a, b)) (fun i s => s = ((nS id (o.take i) : Int), (nE id (o.take i) : Int))) (fun n s _=>by
  show BR k _ o id s.1 s.2 ids a b o o.length o.length=_
  unfold BR
  simp only [qC, aj (Nat.lt_irrefl _), ao]) (fun n i s hi hs=>by
  show∃s',BR k _ o id s.1 s.2 ids a b o o.length i=_∧_
  have c1:=yWn id o i
  have c2:=vF8 id o i
  have e1:s.1=(nS id (o.take i):Int):=by rw[hs]
  have e2:s.2=(nE id (o.take i):Int):=by rw[hs]
  have w1:zA (s.1+1)=s.1+1:=by rw[e1];exact yA (by omega) (by omega)
  have w2:zA (s.2+1)=s.2+1:=by rw[e2];exact yA (by omega) (by omega)
  unfold BR
  simp only[qC,qZ,aN,ai hi,aq,w1,w2,qY hi (show o.length<9223372036854775808 by omega)]
  have n1:=vAc id o i hi
  have n2:=vDk id o i hi
  obtain⟨x,hx⟩:∃x,o.getD i ow=x:=⟨_,rfl⟩
  rw[hx] at n1 n2
  have mS:o.getD i (0,0,0,0,0,0,0,0)=x:=hx
  simp only[mS]
  have goal:∀(p q:Int) (u v:Nat),nS id (o.take (i+1))=nS id (o.take i)+u→nE id (o.take (i+1))=nE id (o.take i)+v→p=s.1+u→q=s.2+v→(p,q)=((nS id (o.take (i+1)):Int),(nE id (o.take (i+1)):Int)):=by
   intro p q u v h1 h2 hp hq
   rw[h1,h2,hp,hq,e1,e2,Int.natCast_add,Int.natCast_add]
  rcases yWd (id:=id) (x:=x) with⟨h,h1,h2⟩|⟨h,h0,h1,h2⟩|⟨h,h0,h1,h2⟩|⟨h,h0,h1,h2⟩|⟨h,h0,h1,h2⟩|⟨h,h3,h4,h5,h6,h1,h2⟩
  ·rw[aj h]
   exact⟨(s.1,s.2),rfl,goal _ _ _ _ n1 n2 (by rw[h1];simp) (by rw[h2];simp)⟩
  ·rw[ai h,ai h0]
   exact⟨(s.1+1,s.2),rfl,goal _ _ _ _ n1 n2 (by rw[h1];simp) (by rw[h2];simp)⟩
  ·rw[ai h,aj (show¬x.2.1=18 by omega),ai h0]
   exact⟨(s.1,s.2+1),rfl,goal _ _ _ _ n1 n2 (by rw[h1];simp) (by rw[h2];simp)⟩
  ·rw[ai h,aj (show¬x.2.1=18 by omega),aj (show¬x.2.1=20 by omega),ai h0]
   exact⟨(s.1,s.2+1),rfl,goal _ _ _ _ n1 n2 (by rw[h1];simp) (by rw[h2];simp)⟩
  ·rw[ai h,aj (show¬x.2.1=18 by omega),aj (show¬x.2.1=20 by omega),aj (show¬x.2.1=21 by omega),ai h0]
   exact⟨(s.1,s.2+1),rfl,goal _ _ _ _ n1 n2 (by rw[h1];simp) (by rw[h2];simp)⟩
  ·rw[ai h,aj h3,aj h4,aj h5,aj h6]
   exact⟨(s.1,s.2),rfl,goal _ _ _ _ n1 n2 (by rw[h1];simp) (by rw[h2];simp)⟩) (s:=(0,0)) hk rfl
 have:=g1.trans (by rw[g2,List.take_length])
 exact this
theorem Jv (a b:Nat):decide ((a:Int)=(b:Int))=decide (a=b):=by
 by_cases h:a=b
 ·subst h;simp
 ·rw[aj h,aj (by omega)]
theorem vLm {k:Nat}{o:List lW}{ids:List Int}(hk:o.length<k)(ho:o.length≤1000000)(mQ:ids.length<k)(hi:ids.length≤1000000):
  Jw k o ids=some (qK (fun j=>jl o (ids.getD j 0)) ids.length 0):=by
 have := oN (L := fun n i => FC k n o ids (ids.length : Int) i) (N := ids.length) (fun j => jl o (ids.getD j 0)) (.inl ()) (.inr false) (fun n=>by
  show BS k _ o ids ids.length ids.length=_
  unfold BS
  simp only [qC, aj (Nat.lt_irrefl _), ao]) (fun n i hi=>by
  show BS k _ o ids ids.length i=_
  unfold BS jl
  simp only[qC,qZ,aN,ai hi,aq]
  rw[vD4 hk ho]
  simp only[an,qY hi (show ids.length<9223372036854775808 by omega)]
  generalize nS (ids.getD i 0) o=s
  generalize nE (ids.getD i 0) o=e
  have q0:decide ((s:Int)=0)=decide (s=0):=Jv s 0
  have q2:decide ((s:Int)=2)=decide (s=2):=Jv s 2
  have r0:decide ((e:Int)=0)=decide (e=0):=Jv e 0
  have r1:decide ((e:Int)=1)=decide (e=1):=Jv e 1
  rw[q0,q2,r0,r1]
  by_cases a:s=0
  ·subst a
   by_cases b:e=1
   ·subst b;rfl
   ·rw[aj b];rfl
  ·rw[aj a]
   by_cases c:s=2
   ·subst c
    cases decide (e=0)<;>rfl
   ·rw[aj c];rfl) mQ
 unfold Jw
 rw[this]
 cases qK (fun j=>jl o (ids.getD j 0)) ids.length 0<;>rfl
def yP (m:List zC)(id:Int):Prop:=∃p∈m,p.1=id
def jG (o:List qU)(id:Int):Prop:=nS id o=0∧nE id o=0
theorem QH (id:Int)(a b:List qU):nS id (a++b)=nS id a+nS id b:=List.countP_append
theorem QI (id:Int)(a b:List qU):nE id (a++b)=nE id a+nE id b:=List.countP_append
theorem jG.append {a b:List qU}{id:Int}(h:jG a id)(g:jG b id):jG (a++b) id:=by
 unfold jG
 rw[QH,QI,h.1,h.2,g.1,g.2]
 exact⟨rfl,rfl⟩
theorem QJ {a b:List qU}{id:Int}(h:jl a id=true)(g:jG b id):jl (a++b) id=true:=by
 unfold jl
 rw[QH,QI,g.1,g.2]
 exact h
theorem yJg {a b:List qU}{id:Int}(h:jG a id)(g:jl b id=true):jl (a++b) id=true:=by
 unfold jl
 rw[QH,QI,h.1,h.2,Nat.zero_add,Nat.zero_add]
 exact g
theorem nI (id:Int):jG [] id:=⟨rfl,rfl⟩
theorem Jx {x:qU}(h:x.2.1≠18∧x.2.1≠20∧x.2.1≠21∧x.2.1≠22)(id:Int):jG [x] id:=by
 have a:jC id x=false:=by unfold jC;simp[h.1]
 have b:jE id x=false:=by unfold jE;simp[h.2.1,h.2.2.1,h.2.2.2]
 constructor
 ·show List.countP (jC id) [x]=0
  rw[List.countP_cons,a];rfl
 ·show List.countP (jE id) [x]=0
  rw[List.countP_cons,b];rfl
structure vS (a b:List zC) (o:List qU):Prop where
 sub:∀id,yP b id→yP a id
 keep:∀id,yP b id→jG o id
 gone:∀id,yP a id→¬yP b id→jl o id=true
 rest:∀id,¬yP a id→jG o id
theorem vS.refl (m:List zC){o:List qU}(h:∀id,jG o id):vS m m o:=⟨fun _ h=>h,fun id _=>h id,fun _ h g=>absurd h g,fun id _=>h id⟩
theorem vS.trans {a b c:List zC}{o p:List qU}(h:vS a b o)(g:vS b c p):vS a c (o++p) where
 sub:=fun id x=>h.sub id (g.sub id x)
 keep:=fun id x=>(h.keep id (g.sub id x)).append (g.keep id x)
 gone:=fun id x y=>by
  by_cases z:yP b id
  ·exact yJg (h.keep id z) (g.gone id z y)
  ·exact QJ (h.gone id x z) (g.rest id z)
 rest:=fun id x=>(h.rest id x).append (g.rest id (fun y=>x (h.sub id y)))
theorem vS.same {a b:List zC}{o:List qU}(h:∀id,yP b id↔yP a id)(z:∀id,jG o id):vS a b o:=
 ⟨fun id x=>(h id).1 x,fun id _=>z id,fun id x y=>absurd ((h id).2 x) y,fun id _=>z id⟩
theorem BU {a b:List zC}(h:List.Perm a b)(id:Int):yP a id↔yP b id:=
 ⟨fun⟨p,hp,e⟩=>⟨p,h.subset hp,e⟩,fun⟨p,hp,e⟩=>⟨p,h.symm.subset hp,e⟩⟩
theorem Jy (p:zC)(l:List zC)(id:Int):yP (p::l) id↔p.1=id∨yP l id:=by
 constructor
 ·rintro⟨q,hq,e⟩
  rcases List.mem_cons.1 hq with rfl|hq
  ·exact .inl e
  ·exact .inr ⟨q,hq,e⟩
 ·rintro(e|⟨q,hq,e⟩)
  ·exact⟨p,List.mem_cons_self ..,e⟩
  ·exact⟨q,List.mem_cons_of_mem _ hq,e⟩
theorem qXt (a b:List zC)(id:Int):yP (a++b) id↔yP a id∨yP b id:=by
 constructor
 ·rintro⟨q,hq,e⟩
  rcases List.mem_append.1 hq with hq|hq
  ·exact .inl ⟨q,hq,e⟩
  ·exact .inr ⟨q,hq,e⟩
 ·rintro(⟨q,hq,e⟩|⟨q,hq,e⟩)
  ·exact⟨q,List.mem_append_left _ hq,e⟩
  ·exact⟨q,List.mem_append_right _ hq,e⟩
def rz (id:Int)(p:zC):Bool:=decide (p.1=id)
theorem yLj {l:List zC}{id:Int}(h:¬yP l id):l.countP (rz id)=0:=by
 rw[List.countP_eq_zero]
 intro p hp e
 exact h ⟨p,hp,vk e⟩
theorem qWs {l:List zC}(hd:qT l){id:Int}(h:yP l id):l.countP (rz id)=1:=by
 obtain⟨q,hq,e⟩:=h
 exact Jf (f:=rz id) (q:=q) hd hq (ai e) (fun p _ hp=>(vk hp).trans e.symm)
theorem QK (id:Int):∀d:List zC,nS id (vX d)=2*d.countP (rz id)∧nE id (vX d)=0
 |[]=>⟨rfl,rfl⟩
 |p::d=>by
  obtain⟨h1,h2⟩:=QK id d
  have e:vX (p::d)=vU p.2.1 p::vU p.2.2.1 p::vX d:=rfl
  have s:∀w,jC id (vU w p)=rz id p:=fun w=>by unfold jC vU rz;simp
  have t:∀w,jE id (vU w p)=false:=fun w=>by unfold jE vU;simp
  unfold nS nE at*
  rw[e,List.countP_cons,List.countP_cons,List.countP_cons,List.countP_cons,List.countP_cons,h1,h2,s,s,t,t]
  refine⟨by omega,rfl⟩
theorem yG7 {kd:Int}(hk:kd=21∨kd=22)(id:Int)(ps:List zC):nS id (ps.map (vZ kd))=0∧nE id (ps.map (vZ kd))=ps.countP (rz id):=by
 unfold nS nE
 rw[List.countP_map,List.countP_map]
 constructor
 ·rw[List.countP_eq_zero]
  intro p _ e
  have e':jC id (vZ kd p)=true:=e
  unfold jC vZ at e'
  rcases hk with rfl|rfl<;>simp at e'
 ·refine congrArg (fun f=>List.countP f ps) (funext fun p=>?_)
  show jE id (vZ kd p)=rz id p
  unfold jE vZ rz
  rcases hk with rfl|rfl<;>simp
theorem vHe (B:BT)(n:Nat)(id:Int):jG (gp B n) id:=by
 unfold jG nS nE gp
 rw[List.countP_map,List.countP_map,List.countP_eq_zero,List.countP_eq_zero]
 constructor
 ·intro i _ e
  have e':jC id (nH B i)=true:=e
  unfold jC nH at e'
  simp at e'
 ·intro i _ e
  have e':jE id (nH B i)=true:=e
  unfold jE nH at e'
  simp at e'
def Kd (o:List qU):Prop:=∀x∈o,x.2.1≠16∧x.2.1≠23
theorem nJ:Kd []:=fun x h=>absurd h List.not_mem_nil
theorem Jz {x:qU}(h:x.2.1≠16∧x.2.1≠23):Kd [x]:=fun y hy=>by rw[List.mem_singleton.1 hy];exact h
theorem Kd.append {a b:List qU}(h:Kd a)(g:Kd b):Kd (a++b):=fun x hx=>(List.mem_append.1 hx).elim (h x) (g x)
theorem FD:∀d:List zC,Kd (vX d)
 |[]=>nJ
 | p :: d => (show Kd [vU p.2.1 p,vU p.2.2.1 p] from fun x hx=>by
   rcases List.mem_cons.1 hx with rfl|hx
   ·exact⟨by unfold vU;simp,by unfold vU;simp⟩
   ·rw[List.mem_singleton.1 hx];exact⟨by unfold vU;simp,by unfold vU;simp⟩).append (FD d)
theorem yL5 {kd:Int}(hk:kd=21∨kd=22)(l:List zC):Kd (l.map (vZ kd)):=fun x hx=>by
 obtain⟨p,_,rfl⟩:=List.mem_map.1 hx
 show kd≠16∧kd≠23
 omega
theorem yI7 {m d m':List zC}(hd:qT m)(hp:List.Perm (d++m') m):vS m m' (vX d):=by
 have oW:qT (d++m'):=hd.perm hp
 have Fm:qT d:=(List.pairwise_append.1 oW).1
 have hm:∀id,yP m id↔yP d id∨yP m' id:=fun id=>(BU hp id).symm.trans (qXt d m' id)
 have lI:∀id,yP m' id→¬yP d id:=by
  rintro id ⟨p,wy,e⟩ ⟨q,hq,e'⟩
  exact oW.not_in (l:=[]) wy q hq (e'.trans e.symm)
 have z:∀id,¬yP d id→jG (vX d) id:=fun id h=>by
  obtain⟨h1,h2⟩:=QK id d
  exact⟨by rw[h1,yLj h],h2⟩
 refine⟨fun id h=>(hm id).2 (.inr h),fun id h=>z id (lI id h),fun id h g=>?_,fun id h=>z id (fun x=>h ((hm id).2 (.inl x)))⟩
 obtain⟨h1,h2⟩:=QK id d
 rcases(hm id).1 h with h|h
 ·rw[qWs Fm h] at h1
  unfold jl
  rw[h1,h2]
  rfl
 ·exact absurd h g
theorem yLh {kd:Int}(hk:kd=21∨kd=22){m l m':List zC}(hd:qT m)(hp:List.Perm (l++m') m):vS m m' (l.map (vZ kd)):=by
 have oW:qT (l++m'):=hd.perm hp
 have Fm:qT l:=(List.pairwise_append.1 oW).1
 have hm:∀id,yP m id↔yP l id∨yP m' id:=fun id=>(BU hp id).symm.trans (qXt l m' id)
 have lI:∀id,yP m' id→¬yP l id:=by
  rintro id ⟨p,wy,e⟩ ⟨q,hq,e'⟩
  exact oW.not_in (l:=[]) wy q hq (e'.trans e.symm)
 have z:∀id,¬yP l id→jG (l.map (vZ kd)) id:=fun id h=>by
  obtain⟨h1,h2⟩:=yG7 hk id l
  exact⟨h1,by rw[h2,yLj h]⟩
 refine⟨fun id h=>(hm id).2 (.inr h),fun id h=>z id (lI id h),fun id h g=>?_,fun id h=>z id (fun x=>h ((hm id).2 (.inl x)))⟩
 obtain⟨h1,h2⟩:=yG7 hk id l
 rcases(hm id).1 h with h|h
 ·rw[qWs Fm h] at h2
  unfold jl
  rw[h1,h2]
  rfl
 ·exact absurd h g
theorem yX9 {m:List zC}(hd:qT m){x:Nat}(hx:x<m.length){id:Int}(aa:(m.getD x pd).1=id)(who:Int):vS m (yU m x) [wM who 20 id]:=by
 have hp:=Qv hx
 have hm:∀i,yP m i↔id=i∨yP (yU m x) i:=fun i=>by rw[←aa];exact(BU hp i).symm.trans (Jy _ _ i)
 have oW:qT (m.getD x pd::yU m x):=hd.perm hp
 have lI:∀i,yP (yU m x) i→i≠id:=by
  rintro i ⟨p,wy,e⟩ e'
  exact(List.pairwise_cons.1 oW).1 p wy (by rw[aa,e,e'])
 have z:∀i,i≠id→jG [wM who 20 id] i:=fun i h=>by
  have a:jC i (wM who 20 id)=false:=by unfold jC wM;simp
  have b:jE i (wM who 20 id)=false:=by unfold jE wM;simp[Ne.symm h]
  constructor
  ·show List.countP (jC i) [wM who 20 id]=0
   rw[List.countP_cons,a];rfl
  ·show List.countP (jE i) [wM who 20 id]=0
   rw[List.countP_cons,b];rfl
 refine⟨fun i h=>(hm i).2 (.inr h),fun i h=>z i (lI i h),fun i h g=>?_,fun i h=>z i (fun e=>h ((hm i).2 (.inl e.symm)))⟩
 rcases(hm i).1 h with rfl|h
 ·have a:jC id (wM who 20 id)=false:=by unfold jC wM;simp
  have b:jE id (wM who 20 id)=true:=by unfold jE wM;simp
  have c:nS id [wM who 20 id]=0:=by show List.countP (jC id) [wM who 20 id]=0;rw[List.countP_cons,a];rfl
  have d:nE id [wM who 20 id]=1:=by show List.countP (jE id) [wM who 20 id]=1;rw[List.countP_cons,b];rfl
  unfold jl
  rw[c,d]
  rfl
 ·exact absurd h g
theorem QL {m:List zC}{x:Nat}(hx:x<m.length){p:zC}{m':List zC}(hp:List.Perm m' (p::yU m x))(h1:p.1=(m.getD x pd).1)(id:Int):yP m' id↔yP m id:=by
 rw[BU hp,Jy,h1,←Jy,BU (Qv hx)]
theorem vEv {r:qN}{s:qF}(h:yN r s){who:Int}{f:jP}(h0:(jh r s who f).1=0):vS s.m (jh r s who f).2.1 (jh r s who f).2.2:=by
 have hw:=h.waits
 unfold jh at h0⊢
 cases hx:wL s.m f.2.1 with
 |none=>rw[hx] at h0;cases h0
 |some x=>
 rw[hx] at h0
 have dD:=(lR hx).1
 have G1:=(lR hx).2
 simp only at h0⊢
 cases hc:decide ((s.m.getD x pd).2.1=who) with
 |false=>rw[hc] at h0;cases h0
 |true=>
 rw[hc] at h0
 simp only[bd,ao] at h0⊢
 cases bW:decide (f.1=2) with
 |true=>exact yX9 hw.dist dD G1 who
 |false=>
 rw[bW] at h0
 simp only[ao] at h0⊢
 cases bT:decide (f.1=4) with
 |true=>
  rw[bT] at h0
  simp only[aq] at h0⊢
  cases cN:decide (f.2.2.1≥1)&&decide (f.2.2.1≤3) with
  |false=>rw[cN] at h0;cases h0
  |true=>
  cases ek:decide (oY r.2.2.1 r.2.2.2.1 s.t f.2.2.1=0) with
  |false=>rw[cN,ek] at h0;exact absurd h0 (iH ek)
  |true=>exact vS.same (QL dD (BO _ _) rfl) (fun id=>nI id)
 |false=>
  rw[bT] at h0
  simp only[ao] at h0⊢
  cases cN:decide (f.2.2.1=0) with
  |true=>exact vS.same (QL dD (qWy _ _) rfl) (fun id=>nI id)
  |false=>
   cases ek:decide (f.2.2.1=1) with
   |true=>exact vS.same (QL dD (BO _ _) rfl) (fun id=>nI id)
   |false=>rw[cN,ek] at h0;cases h0
structure iQ (s:qF) (m1:List zC) (ids:List Int):Prop where
 old:∀id,yP s.m id→yP m1 id
 new:∀id,yP m1 id→yP s.m id∨id∉s.ids
 ids:∀id,id∈ids↔id∈s.ids∨yP m1 id
theorem iQ.refl {r:qN}{s:qF}(h:yN r s):iQ s s.m s.ids:=
 ⟨fun _ h=>h,fun _ h=>.inl h,fun id=>⟨.inl,fun x=>x.elim pU (fun⟨p,hp,e⟩=>e▸h.waits.were p hp)⟩⟩
 where pU {a:Prop}:a→a:=fun h=>h
theorem yW3 {r:qN}{s:qF}(hr:fm r)(h:yN r s){who:Int}{f:jP}(h0:(lU r s who f).1=0):iQ s (lU r s who f).2.1 (lU r s who f).2.2:=by
 have hw:=h.waits
 unfold lU at h0⊢
 cases hc:decide (f.2.2.1≥0)&&decide (f.2.2.1≤r.1-1) with
 |false=>rw[hc] at h0;cases h0
 |true=>
 cases bW:decide (f.2.2.2.2.1≥1)&&decide (f.2.2.2.2.1≤3) with
 |false=>rw[hc,bW] at h0;cases h0
 |true=>
 cases bT:decide (tz r s.t (iN who f)=0) with
 |false=>rw[hc,bW,bT] at h0;exact absurd h0 (iH bT)
 |true=>
 cases cN:decide (f.2.1∈s.ids) with
 |true=>rw[hc,bW,bT,cN] at h0;cases h0
 |false=>
 cases ek:decide (200≤s.ids.length) with
 |true=>rw[hc,bW,bT,cN,ek] at h0;cases h0
 |false=>
 cases vf:(wL s.m f.2.1).isSome with
 |true=>rw[hc,bW,bT,cN,ek,vf] at h0;cases h0
 |false=>
 cases yx:decide (40≤s.m.length) with
 |true=>rw[hc,bW,bT,cN,ek,vf,yx] at h0;cases h0
 |false=>
 have hn:f.2.1∉s.ids:=iH cN
 have hm:∀id,yP (nz s.m (iN who f)) id↔f.2.1=id∨yP s.m id:=fun id=>(BU (BO _ _) id).trans (Jy _ _ id)
 show iQ s (nz s.m (iN who f)) (tn s.ids f.2.1)
 refine⟨fun id x=>(hm id).2 (.inr x),fun id x=>?_,fun id=>?_⟩
 ·rcases(hm id).1 x with rfl|x
  ·exact .inr hn
  ·exact .inl x
 ·have hp:=yCu s.ids f.2.1
  constructor
  ·intro x
   rcases List.mem_cons.1 (hp.subset x) with rfl|x
   ·exact .inr ((hm _).2 (.inl rfl))
   ·exact .inl x
  ·rintro(x|x)
   ·exact hp.symm.subset (List.mem_cons_of_mem _ x)
   ·rcases(hm id).1 x with rfl|⟨p,wy,e⟩
    ·exact hp.symm.subset (List.mem_cons_self ..)
    ·exact hp.symm.subset (List.mem_cons_of_mem _ (e▸hw.were p wy))
theorem vIw {r:qN}{s:qF}{who:Int}{f:jP}:Kd (jh r s who f).2.2:=by
 unfold jh
 cases wL s.m f.2.1 with
 |none=>exact nJ
 |some x=>
  simp only[]
  cases !decide ((s.m.getD x pd).2.1=who) with
  |true=>exact nJ
  |false=>
  cases decide (f.1=2) with
  |true=>exact Jz ⟨by unfold wM;simp,by unfold wM;simp⟩
  |false=>
  cases decide (f.1=4) with
  |true=>
   cases !(decide (f.2.2.1≥1)&&decide (f.2.2.1≤3))<;>cases !decide (oY r.2.2.1 r.2.2.2.1 s.t f.2.2.1=0)<;>exact nJ
  |false=>
  cases decide (f.2.2.1=0)<;>cases decide (f.2.2.1=1)<;>exact nJ
abbrev mC:=Int×jP
theorem yJb (k:Nat)(kd:Int):∃n,qx k kd=some n∧-1≤n∧n≤6:=by
 have c:∀(b:Bool) (x y:Option Int),(∃n,x=some n∧-1≤n∧n≤6)→(∃n,y=some n∧-1≤n∧n≤6)→∃n,(bif b then x else y)=some n∧-1≤n∧n≤6:=by
  intro b x y hx hy
  cases b
  ·exact hy
  ·exact hx
 unfold qx
 iterate 23 (refine c _ _ _ ⟨_,rfl,by decide,by decide⟩ ?_)
 exact⟨_,rfl,by decide,by decide⟩
theorem qY3 {k:Nat}{s:List Int}(hs:s.length≤6):∀(n i:Nat),s.length<i+n→i≤s.length→∃x,FE k n s (s.length:Int) (i:Int)=some x
 |0,i,h,g=>by omega
 |n+1,i,h,g=>by
  show∃x,JA k (FE k n) s (s.length:Int) (i:Int)=some x
  unfold JA
  by_cases hi:i<s.length
  ·simp only[qC,ai hi,aq,qZ,aN]
   cases decide (s.getD i 0=0) with
   |false=>exact⟨_,rfl⟩
   |true=>
    simp only[bd,ao]
    rw[qY hi (by omega)]
    exact qY3 hs n (i+1) (by omega) hi
  ·simp only[qC,aj hi,ao]
   exact⟨_,rfl⟩
theorem yFw {k:Nat}(hk:10≤k)(f:jP):∃b,nK k f=some b:=by
 unfold nK
 obtain⟨n,h1,h2,h3⟩:=yJb k f.1
 rw[h1]
 simp only[an]
 by_cases h0:n<0
 ·rw[ai h0];exact⟨_,rfl⟩
 ·rw[aj h0,ai (show(0:Int)≤n by omega),ai h3]
  simp only[ao,Bool.and_true,aq]
  have hl:(yB [f.2.1,f.2.2.1,f.2.2.2.1,f.2.2.2.2.1,f.2.2.2.2.2.1,f.2.2.2.2.2.2] n.toNat (6-n.toNat)).length≤6:=by
   unfold yB
   rw[List.length_take,List.length_drop]
   omega
  obtain⟨x,hx⟩:=qY3 (k:=k) hl k 0 (by omega) (Nat.zero_le _)
  rw[show((0:Nat):Int)=0 from rfl] at hx
  rw[hx]
  cases x<;>exact⟨_,rfl⟩
theorem yCo (k:Nat)(a:Int):JB k a=some (decide (a≥10)&&decide (a≤14)):=by
 unfold JB;cases decide (a≥10)<;>rfl
theorem yBp (k:Nat)(a:Int):FF k a=some (decide (a≥1)&&decide (a≤14)):=by
 unfold FF;cases decide (a≥1)<;>rfl
def yI8 (A B C D E F G b o:Bool):Int:=
 bif !(D&&C) then 5 else bif !b then 5 else bif B&&C then(bif !E then 5 else bif o&& !G then 7 else 0) else bif !(A&&F) then 5 else bif o&& !G then 7 else 0
theorem yU2:∀{A B C D E F G b o:Bool},yI8 A B C D E F G b o=0→(D&&C&&((B&&E)||(!B&&A&&F))&&(!o||G))=true:=by
 intro A B C D E F G b o h
 cases A<;>cases B<;>cases C<;>cases D<;>cases E<;>cases F<;>cases G<;>cases b<;>cases o<;>first|rfl|exact absurd h (by decide)
theorem yWq {k:Nat}(hk:10≤k)(r:qN)(s:qF)(c:mC):∃b,tC k r s.st c=some (yI8 (decide (c.1≥0)) (decide (c.2.1≥10)) (decide (c.2.1≤14)) (decide (c.2.1≥1)) (decide (c.1= -1)) (decide (c.1<r.1)) (decide (c.2.1=9)) b s.ov):=by
 unfold tC
 rw[yCo,yBp]
 simp only[an]
 obtain⟨b,hb⟩:=yFw hk c.2
 rw[hb]
 simp only[an]
 have eo:s.st.2.2.2.2.2.2.2.2.2.2=s.ov:=rfl
 rw[eo]
 refine⟨b,?_⟩
 generalize decide (c.1≥0)=A
 generalize decide (c.2.1≥10)=B
 generalize decide (c.2.1≤14)=C
 generalize decide (c.2.1≥1)=D
 generalize decide (c.1= -1)=E
 generalize decide (c.1<r.1)=F
 generalize decide (c.2.1=9)=G
 generalize s.ov=o
 cases A<;>cases B<;>cases C<;>cases D<;>cases E<;>cases F<;>cases G<;>cases b<;>cases o<;>rfl
theorem vIv {k:Nat}(hk:10≤k)(r:qN)(s:qF)(c:mC):∃e,tC k r s.st c=some e∧
  (e=0→((10≤c.2.1∧c.2.1≤14∧c.1= -1)∨(1≤c.2.1∧c.2.1≤9∧0≤c.1∧c.1<r.1))∧(s.ov=true→c.2.1=9)):=by
 obtain⟨b,hb⟩:=yWq hk r s c
 refine⟨_,hb,fun e=>?_⟩
 have:=yU2 e
 simp only[bU,Bool.or_eq_true,Bool.not_eq_true',bN,decide_eq_false_iff_not] at this
 refine⟨by omega,fun ho=>?_⟩
 rcases this.2 with g|g
 ·rw[ho] at g;cases g
 ·exact g
structure BV (r:qN) (s:qF) (f:jP) (t:qF) (l:List qU):Prop where
 inv:yN r t
 tk:t.t=s.t
 ov:t.ov=s.ov
 few:l.length≤2
 tel:∃m1,vS m1 t.m l∧iQ s m1 t.ids
 kd:Kd l
 to:t.to=s.to+(if f.1=10 then f.2.2.1 else if f.1=11 then-f.2.2.1 else 0)
theorem vGl (r:qN)(s:qF)(who:Int)(f:jP):(kY r s who f).2.t=s.t∧(kY r s who f).2.ov=s.ov∧(kY r s who f).2.to=s.to:=by
 unfold kY
 cases decide (f.1=5) with
 |true=>
  cases !((decide (f.2.1≥0)&&decide (f.2.1≤r.1-1))&& !decide (f.2.1=who))<;>cases !(decide (f.2.2.1≥-1)&&decide (f.2.2.1≤1152921504606846976))<;>exact⟨rfl,rfl,rfl⟩
 |false=>
  cases decide (f.1=6) with
  |true=>cases !(decide (f.2.1≥-1)&&decide (f.2.1≤1152921504606846976))<;>exact⟨rfl,rfl,rfl⟩
  |false=>cases !(decide (f.2.1≥0)&&decide (f.2.1≤1152921504606846976))<;>exact⟨rfl,rfl,rfl⟩
theorem qSs (r:qN)(s:qF)(who:Int)(f:jP):(kY r s who f).2.m=s.m∧(kY r s who f).2.ids=s.ids:=by
 unfold kY
 cases decide (f.1=5) with
 |true=>
  cases !((decide (f.2.1≥0)&&decide (f.2.1≤r.1-1))&& !decide (f.2.1=who))<;>cases !(decide (f.2.2.1≥-1)&&decide (f.2.2.1≤1152921504606846976))<;>exact⟨rfl,rfl⟩
 |false=>
  cases decide (f.1=6) with
  |true=>cases !(decide (f.2.1≥-1)&&decide (f.2.1≤1152921504606846976))<;>exact⟨rfl,rfl⟩
  |false=>cases !(decide (f.2.1≥0)&&decide (f.2.1≤1152921504606846976))<;>exact⟨rfl,rfl⟩
theorem ySr (r:qN)(s:qF)(who a n:Int):(kZ r s who a n).2.t=s.t∧(kZ r s who a n).2.ov=s.ov∧(kZ r s who a n).2.to=s.to:=by
 unfold kZ
 cases !(decide (a≥0)&&decide (a≤(r.2.1.length:Int)-1)) with
 |true=>exact⟨rfl,rfl,rfl⟩
 |false=>
 cases !(decide (n≥0)&&decide (n≤1099511627776)) with
 |true=>exact⟨rfl,rfl,rfl⟩
 |false=>
 simp only[ao]
 unfold Fv
 generalize (s.ho.getD who.toNat []).set a.toNat n=h
 cases decide (kq r.2.1 s.pr h>1152921504606846976) with
 |true=>exact⟨rfl,rfl,rfl⟩
 |false=>cases decide (kq r.2.1 s.pr h<(s.B.1.getD who.toNat ad).2.1)&&decide ((s.B.1.getD who.toNat ad).1+kq r.2.1 s.pr h<0)<;>exact⟨rfl,rfl,rfl⟩
theorem qWt (r:qN)(s:qF)(who a n:Int):(kZ r s who a n).2.m=s.m∧(kZ r s who a n).2.ids=s.ids:=by
 unfold kZ
 cases !(decide (a≥0)&&decide (a≤(r.2.1.length:Int)-1)) with
 |true=>exact⟨rfl,rfl⟩
 |false=>
 cases !(decide (n≥0)&&decide (n≤1099511627776)) with
 |true=>exact⟨rfl,rfl⟩
 |false=>
 simp only[ao]
 unfold Fv
 generalize (s.ho.getD who.toNat []).set a.toNat n=h
 cases decide (kq r.2.1 s.pr h>1152921504606846976) with
 |true=>exact⟨rfl,rfl⟩
 |false=>cases decide (kq r.2.1 s.pr h<(s.B.1.getD who.toNat ad).2.1)&&decide ((s.B.1.getD who.toNat ad).1+kq r.2.1 s.pr h<0)<;>exact⟨rfl,rfl⟩
theorem vG3 (r:qN)(s:qF)(a p:Int):(la r s a p).2.t=s.t∧(la r s a p).2.ov=s.ov∧(la r s a p).2.to=s.to:=by
 unfold la
 cases !(decide (a≥0)&&decide (a≤(r.2.1.length:Int)-1)) with
 |true=>exact⟨rfl,rfl,rfl⟩
 |false=>
 cases !(decide (p≥0)&&decide (p≤1048576)) with
 |true=>exact⟨rfl,rfl,rfl⟩
 |false=>
 simp only[ao]
 unfold Fz
 cases qK (fun j=> !decide (iO r.2.1 (s.pr.set a.toNat p) s.ho j>1152921504606846976)) s.B.1.length 0<;>exact⟨rfl,rfl,rfl⟩
theorem yLi (r:qN)(s:qF)(a p:Int):(la r s a p).2.m=s.m∧(la r s a p).2.ids=s.ids:=by
 unfold la
 cases !(decide (a≥0)&&decide (a≤(r.2.1.length:Int)-1)) with
 |true=>exact⟨rfl,rfl⟩
 |false=>
 cases !(decide (p≥0)&&decide (p≤1048576)) with
 |true=>exact⟨rfl,rfl⟩
 |false=>
 simp only[ao]
 unfold Fz
 cases qK (fun j=> !decide (iO r.2.1 (s.pr.set a.toNat p) s.ho j>1152921504606846976)) s.B.1.length 0<;>exact⟨rfl,rfl⟩
theorem vHw {r:qN}{s:qF}{kd to n:Int}:(lV r s kd to n).2.ov=s.ov:=by
 unfold lV
 cases !(decide (to≥0)&&decide (to≤r.1-1)) with
 |true=>rfl
 |false=>
 cases !(decide (n≥1)&&decide (n≤1099511627776)) with
 |true=>rfl
 |false=>
 simp only[ao]
 cases decide (kd=11) with
 |true=>
  simp only[aq]
  unfold Jq
  cases decide ((s.B.1.getD to.toNat ad).1+(s.B.1.getD to.toNat ad).2.1-(s.B.1.getD to.toNat ad).2.2<n)<;>cases decide (s.to-n<0)<;>cases decide ((fQ (s.B.1.getD to.toNat ad) (-n)).2=0)<;>cases decide (s.to-n>1152921504606846976)<;>rfl
 |false=>
  simp only[ao]
  unfold Jr
  cases decide ((fQ (s.B.1.getD to.toNat ad) n).2=0)<;>cases decide (s.to+n>1152921504606846976)<;>rfl
theorem vHx {r:qN}{s:qF}{who:Int}{f:jP}:(jh r s who f).2.2.length≤1:=by
 unfold jh
 cases wL s.m f.2.1 with
 |none=>exact Nat.zero_le _
 |some x=>
  simp only[]
  cases !decide ((s.m.getD x pd).2.1=who) with
  |true=>exact Nat.zero_le _
  |false=>
  cases decide (f.1=2) with
  |true=>exact Nat.le_refl _
  |false=>
  cases decide (f.1=4) with
  |true=>
   cases !(decide (f.2.2.1≥1)&&decide (f.2.2.1≤3))<;>cases !decide (oY r.2.2.1 r.2.2.2.1 s.t f.2.2.1=0)<;>exact Nat.zero_le _
  |false=>
  cases decide (f.2.2.1=0)<;>cases decide (f.2.2.1=1)<;>exact Nat.zero_le _
theorem ySw {k:Nat}(hk:1000≤k){r:qN}(hr:fm r){s:qF}(h:yN r s)(ho:s.ov=false){who:Int}(hw:0≤who∧who<r.1){f:jP}(hf:1≤f.1∧f.1≤8){x:qU}(hx:∀id,jG [x] id)(BW:Kd [x]):
  ∃e d,JC k (dk r s who [x]) f=some (e,d)∧(e=0→∃t l,d=dk r t who l∧BV r s f t l):=by
 unfold JC
 have Pj:¬f.1=10:=by omega
 have Pk:¬f.1=11:=by omega
 have h0:s.to=s.to+(if f.1=10 then f.2.2.1 else if f.1=11 then-f.2.2.1 else 0):=by rw[if_neg Pj,if_neg Pk];omega
 by_cases h1:f.1=1
 ·rw[ai h1]
  obtain⟨d,e1,e2⟩:=vG5 hk hr h.waits who [x] f
  simp only[aq]
  rw[e1]
  refine⟨_,d,rfl,fun e=>⟨_,_,e2 e,h.queue ho (vCc hr h e),rfl,rfl,by simp,⟨_,vS.refl _ hx,yW3 hr h e⟩,BW,h0⟩⟩
 rw[aj h1]
 by_cases hq:f.1=2∨f.1=3∨f.1=4
 ·obtain⟨d,e1,e2⟩:=vJe hk h.waits who (l:=[x]) (by simp) f
  have g:∃e d,(wq k (dk r s who [x]) f).bind (fun x=>some (x.1,x.2))=some (e,d)∧(e=0→∃t l,d=dk r t who l∧BV r s f t l):=by
   rw[e1]
   refine⟨_,d,rfl,fun e=>⟨_,_,e2 e,h.queue ho (yUs h e),rfl,rfl,?_,⟨_,(vS.refl _ hx).trans (vEv h e),iQ.refl h⟩,BW.append vIw,h0⟩⟩
   have:=vHx (r:=r) (s:=s) (who:=who) (f:=f)
   rw[List.length_append]
   simp
   omega
  rcases hq with e|e|e
  ·rw[ai e];exact g
  ·rw[aj (show¬f.1=2 by omega),ai e];exact g
  ·rw[aj (show¬f.1=2 by omega),aj (show¬f.1=3 by omega),ai e];exact g
 rw[aj (show¬f.1=2 by omega),aj (show¬f.1=3 by omega),aj (show¬f.1=4 by omega)]
 by_cases hq:f.1=5∨f.1=6∨f.1=7
 ·obtain⟨d,e1,e2⟩:=vDx hk hr h.bk h.n hw [x] f
  have g:∃e d,(wu k (dk r s who [x]) f).bind (fun x=>some (x.1,x.2))=some (e,d)∧(e=0→∃t l,d=dk r t who l∧BV r s f t l):=by
   rw[e1]
   have bu:=vGl r s who f
   refine⟨_,d,rfl,fun e=>⟨_,_,e2 e,vLk h hw e,bu.1,bu.2.1,by simp,⟨s.m,by rw[(qSs r s who f).1];exact vS.refl _ hx,by rw[(qSs r s who f).2];exact iQ.refl h⟩,BW,bu.2.2.trans h0⟩⟩
  rcases hq with e|e|e
  ·rw[ai e];exact g
  ·rw[aj (show¬f.1=5 by omega),ai e];exact g
  ·rw[aj (show¬f.1=5 by omega),aj (show¬f.1=6 by omega),ai e];exact g
 rw[aj (show¬f.1=5 by omega),aj (show¬f.1=6 by omega),aj (show¬f.1=7 by omega),ai (show f.1=8 by omega)]
 obtain⟨d,e1,e2⟩:=vA4 hk hr h hw [x] f.2.1 f.2.2.1
 simp only[aq,ao]
 rw[e1]
 have bu:=ySr r s who f.2.1 f.2.2.1
 exact⟨_,d,rfl,fun e=>⟨_,_,e2 e,vDl hr h hw e,bu.1,bu.2.1,by simp,⟨s.m,by rw[(qWt r s who f.2.1 f.2.2.1).1];exact vS.refl _ hx,by rw[(qWt r s who f.2.1 f.2.2.1).2];exact iQ.refl h⟩,BW,bu.2.2.trans h0⟩⟩
theorem vBy {k:Nat}(hk:1000≤k){r:qN}(hr:fm r){s:qF}(h:yN r s)(who:Int){f:jP}(hf:10≤f.1∧f.1≤14):
  ∃e d,JD k (fq r s who) f=some (e,d)∧(e=0→∃t l,d=dk r t who l∧BV r s f t l):=by
 unfold JD
 rw[aj (show¬f.1=1 by omega),aj (show¬f.1=2 by omega),aj (show¬f.1=3 by omega),aj (show¬f.1=4 by omega),aj (show¬f.1=5 by omega),aj (show¬f.1=6 by omega),aj (show¬f.1=7 by omega),aj (show¬f.1=8 by omega)]
 by_cases hq:f.1=10∨f.1=11
 ·obtain⟨d,e1,e2⟩:=vBv hk hr h who f.1 f.2.1 f.2.2.1
  have g:∃e d,(BJ k (fq r s who) f.1 f.2.1 f.2.2.1).bind (fun x=>some (x.1,x.2))=some (e,d)∧(e=0→∃t l,d=dk r t who l∧BV r s f t l):=by
   rw[e1]
   refine⟨_,d,rfl,fun e=>?_⟩
   obtain⟨g1,g2,g3,g4,g5⟩:=vHd h e
   refine⟨_,_,e2 e,g1,g5,vHw,by simp,⟨s.m,by rw[g3];exact vS.refl _ nI,by rw[g4];exact iQ.refl h⟩,nJ,?_⟩
   rw[g2]
   rcases hq with e|e
   ·rw[if_neg (by omega),if_pos e]
   ·rw[if_pos e,if_neg (by omega),if_pos e]
  rcases hq with e|e
  ·rw[ai e];exact g
  ·rw[aj (show¬f.1=10 by omega),ai e];exact g
 have h0:s.to=s.to+(if f.1=10 then f.2.2.1 else if f.1=11 then-f.2.2.1 else 0):=by rw[if_neg (by omega),if_neg (by omega)];omega
 rw[aj (show¬f.1=10 by omega),aj (show¬f.1=11 by omega)]
 by_cases hp:f.1=12
 ·rw[ai hp]
  obtain⟨d,e1,e2⟩:=yZ3 hk hr h who f.2.1 f.2.2.1
  simp only[aq,ao]
  rw[e1]
  have bu:=vG3 r s f.2.1 f.2.2.1
  exact⟨_,d,rfl,fun e=>⟨_,_,e2 e,yU6 h e,bu.1,bu.2.1,by simp,⟨s.m,by rw[(yLi r s f.2.1 f.2.2.1).1];exact vS.refl _ nI,by rw[(yLi r s f.2.1 f.2.2.1).2];exact iQ.refl h⟩,nJ,bu.2.2.trans h0⟩⟩
 ·rw[aj hp]
  exact⟨_,_,rfl,fun _=>⟨s,[],rfl,h,rfl,rfl,by simp,⟨s.m,vS.refl _ nI,iQ.refl h⟩,nJ,h0⟩⟩
theorem vG4 {k:Nat}(hk:1000≤k){r:qN}{s:qF}(h:yN r s){who:Int}(hw:0≤who∧who<r.1):∃o,FG k s.st who=some o∧(∀id,jG o id)∧o.length≤100∧Kd o:=by
 have hm:=h.waits.len
 have hn:=h.n
 have hb:zE who s.B.1.length=true:=fK hw.1 (by omega)
 unfold FG
 have e1:s.st.2.1=s.B.1:=rfl
 have e2:s.st.2.2.2.2.2.2.2.1=s.m:=rfl
 rw[e1,e2,hb,yH9 (by omega) (by unfold vB;omega)]
 exact⟨_,rfl,fun id=>Jx (by simp) id,by simp,Jz ⟨by simp,by simp⟩⟩
structure FH (k:Nat) (r:qN) (s:qF) (c:mC) (t:qF) (o:List qU) (e:Int):Prop where
 inv:yN r t
 tel:∃m1,vS m1 t.m o∧iQ s m1 t.ids
 few:o.length≤100
 kd:(Kd o∧t.ov=s.ov)∨(s.ov=false∧t.ov=true∧∃l,o=l++gp t.B t.B.1.length∧Kd l)
 done:s.ov=true→t=s
 bad:e≠0→t=s∧o=[]
 to:e=0→t.to=s.to+(if c.2.1=10 then c.2.2.2.1 else if c.2.1=11 then-c.2.2.2.1 else 0)
 still:t=s∨(t.ov=false→jW k t.B (wS t.m t.t)=none)
theorem yN.settled {r:qN}{s:qF}(h:yN r s)(ho:s.ov=false){C:BT}(hc:yM C)(kc:e9 s.B C){m:List zC}(hm:List.Sublist m s.m):yN r {s with B:=C,m:=m}:=by
  have hl:=kc.len
  exact{
    tk:=h.tk
    bk:=hc
    n:=by show((C.1.length:Nat):Int)=r.1;rw[hl];exact h.n
    hol:=by show s.ho.length=C.1.length;rw[hl];exact h.hol
    laid:=by show∀i,i<C.1.length→_;rw[hl];exact h.laid
    cred:=by show∀i,i<C.1.length→_;rw[hl];intro i hi;show(C.1.getD i ad).2.1=_;rw[kc.cred i hi];exact h.cred i hi
    most:=by show∀i,i<C.1.length→_;rw[hl];intro i hi;show(C.1.getD i ad).2.1≤_;rw[kc.cred i hi];exact h.most i hi
    waits:=by show fP C.1.length m s.ids;rw[hl];exact h.waits.sub hm
    sum:=by show qO (fun i=>(C.1.getD i ad).1) C.1.length=s.to;rw[hl,kc.sum];exact h.sum
    tot:=h.tot
    over:=h.over
    none:=fun e=>by rw[show s.ov=true from e] at ho;cases ho}
theorem qWc {k:Nat}(hk:1000≤k){r:qN}(hr:fm r){s:qF}(h:yN r s)(ho:s.ov=false)(c:mC)(hc:c.2.1=14):
    ∃t o,(BG k r.1 r.2.1 r.2.2.1 r.2.2.2.1 r.2.2.2.2 s.t s.B.1 s.B.2.1 s.B.2.2.1 s.B.2.2.2 s.pr s.ho s.m s.ids s.to s.ov).bind (fun x4=>some ((vT x4),x4.2.2.2.2.2.2.2.2.2.2.2,(0:Int)))=some (t.st,o,(0:Int))∧t.t=s.t+1∧FH k r s c t o 0:=by
  have ux:=hr.cl
  have hpe:=hr.pe
  have htk:=h.tk
  have hn:=h.n
  have aV:s.t≠r.2.2.2.1:=by
    have:=h.over
    rw[ho] at this
    exact iH this.symm
  have hbk:=h.bk
  have hm:=h.waits.len
  rw[ho]
  obtain⟨C,m',ov,o,e1,e2,e3,e4,e5⟩:=yXo (k:=k) (by omega) hbk h.waits.dist h.waits.may (by omega) r.1 r.2.1 r.2.2.1 r.2.2.2.1 r.2.2.2.2 s.t (by omega) (by omega) s.pr s.ho s.ids s.to
  rw[e1]
  simp only[an]
  have hl:=e3.len
  refine⟨{s with t:=s.t+1,B:=C,m:=m',ov:=ov},o,rfl,rfl,?_,⟨s.m,?_,iQ.refl h⟩,?_,?_,fun e=>absurd (ho.symm.trans e) (by decide),fun e=>absurd rfl e,fun _=>?_,.inr e4⟩
  · exact{
      tk:=by show 0≤s.t+1∧s.t+1≤_;omega
      bk:=e2.bk
      n:=by show((C.1.length:Nat):Int)=r.1;rw[hl];exact h.n
      hol:=by show s.ho.length=C.1.length;rw[hl];exact h.hol
      laid:=by show∀i,i<C.1.length→_;rw[hl];exact h.laid
      cred:=by show∀i,i<C.1.length→_;rw[hl];intro i hi;show(C.1.getD i ad).2.1=_;rw[e3.cred i hi];exact h.cred i hi
      most:=by show∀i,i<C.1.length→_;rw[hl];intro i hi;show(C.1.getD i ad).2.1≤_;rw[e3.cred i hi];exact h.most i hi
      waits:=by show fP C.1.length m' s.ids;rw[hl];exact h.waits.sub e2.sub
      sum:=by show qO (fun i=>(C.1.getD i ad).1) C.1.length=s.to;rw[hl,e3.sum];exact h.sum
      tot:=h.tot
      over:=e2.over
      none:=e2.none}
  · rcases e5 with⟨_,q,rfl,_⟩|⟨l,d,n,rfl,p1,p2,_⟩
    · subst q
      exact(yLh (.inr rfl) h.waits.dist (m':=[]) (by rw[List.append_nil])).trans (vS.refl _ (vHe _ _))
    · have hd:qT n:=(List.pairwise_append.1 (h.waits.dist.perm p1)).2.1
      exact(yLh (.inl rfl) h.waits.dist p1).trans (yI7 hd p2)
  · have:=e2.room
    split at this<;>omega
  · rcases e5 with⟨q,_,rfl,rfl⟩|⟨l,d,n,rfl,_,_,q⟩
    · exact .inr ⟨ho,q,_,rfl,yL5 (.inr rfl) _⟩
    · exact .inl ⟨(yL5 (.inl rfl) _).append (FD _),q.trans ho.symm⟩
  · show s.to=_
    rw[if_neg (by omega),if_neg (by omega)]
    omega
theorem yPu {k:Nat}(hk:1000≤k){r:qN}(hr:fm r){t:qF}(h:yN r t)(ho:t.ov=false)(who:Int){l:List qU}(hl:l.length≤2)(f:jP):
    ∃ u o, ((rp k t.t t.B.1 t.B.2.1 t.B.2.2.1 t.B.2.2.2 t.pr t.ho t.m t.ids t.to t.ov (decide (f.1=13))).bind fun x5=>
      bif zX (l.length + x5.2.2.2.2.2.2.2.2.2.2.2.length) 64 then (let y0:List qU:=(l++x5.2.2.2.2.2.2.2.2.2.2.2)
       bif decide (f.1 = 1) then ((my k x5.2.2.2.2.2.2.2.1 f.2.1).bind fun x6=>
        bif decide (x6 ≥ 0) then ((tA k (JE ((0:Int),dk r t who l) y0) 19 [f.2.1]).bind fun x7=>
         some ((vT x5),x7.2.2.2.2.2.2.2.2.2.2.2.2.2.2.2.2.2,(0:Int)))
        else some ((vT x5),y0,0))
       else some ((vT x5),y0,0))
      else none)=some (u.st,o,(0:Int))∧yN r u∧(∃w,o=l++w∧vS t.m u.m w∧w.length≤90∧Kd w∧u.ov=t.ov)∧u.ids=t.ids∧u.to=t.to∧jW k u.B (wS u.m u.t)=none:=by
  have hm:=h.waits.len
  obtain⟨C,m',d,e1,e2,e3,e4,e5,e6,e7⟩:=vAq (k:=k) (by omega) h.bk h.waits.dist h.waits.may (by omega) t.t t.pr t.ho t.ids t.to t.ov (decide (f.1=13))
  rw[e1]
  have hd:d.length≤40:=by
    have:=e6.length_eq
    rw[List.length_append] at this
    omega
  have vd:=e5.length_le
  have Dp:=Jd d
  simp only[an]
  rw[yF (n:=l.length+(vX d).length) (by omega) (by omega)]
  simp only[aq]
  have hu:=h.settled ho e3 e4 e5
  have hT:vS t.m m' (vX d):=yI7 h.waits.dist e6
  have fin:∀w:List qU,vS t.m m' w→w.length≤90→Kd w→∃u o',some (({t with B:=C,m:=m'}:qF).st,l++w,(0:Int))=some (u.st,o',(0:Int))∧yN r u∧(∃w,o'=l++w∧vS t.m u.m w∧w.length≤90∧Kd w∧u.ov=t.ov)∧u.ids=t.ids∧u.to=t.to∧jW k u.B (wS u.m u.t)=none:=fun w hw fj hkw=>⟨{t with B:=C,m:=m'},l++w,rfl,hu,⟨w,rfl,hw,fj,hkw,rfl⟩,rfl,rfl,e7⟩
  cases decide (f.1=1) with
  |false=>exact fin _ hT (by omega) (FD _)
  |true=>
    simp only[aq]
    rw[EZ (by omega) (by omega)]
    simp only[an]
    cases decide (v7 m' f.2.1≥0) with
    |false=>exact fin _ hT (by omega) (FD _)
    |true=>
      simp only[aq]
      have ej:JE ((0:Int),dk r t who l) (l++vX d)=dk r t who (l++vX d):=rfl
      rw[ej,yMk (by rw[List.length_append];omega)]
      have g:=fin (vX d++[wM who 19 f.2.1]) (hT.trans (vS.refl _ (Jx (by unfold wM;simp)))) (by rw[List.length_append];simp;omega) ((FD _).append (Jz ⟨by unfold wM;simp,by unfold wM;simp⟩))
      rw[←List.append_assoc] at g
      exact g
theorem JF {k:Nat}(hk:1000≤k){r:qN}(hr:fm r){s:qF}(h:yN r s)(c:mC):
  ∃t o e,jm k r s.st c=some (t.st,o,e)∧FH k r s c t o e:=by
 unfold jm
 obtain⟨e,he,hm⟩:=vIv (k:=k) (by omega) r s c
 rw[he]
 simp only[an]
 by_cases h0:e=0
 ·obtain⟨hw,rA⟩:=hm h0
  rw[ai h0]
  simp only[bd,ao]
  by_cases h9:c.2.1=9
  ·rw[ai h9]
   have Fu:0≤c.1∧c.1<r.1:=by omega
   obtain⟨o,ho,hz,hf,hkq⟩:=vG4 hk h Fu
   simp only[aq]
   rw[ho]
   refine⟨s,o,0,rfl,h,⟨s.m,vS.refl _ hz,iQ.refl h⟩,hf,.inl ⟨hkq,rfl⟩,fun _=>rfl,fun e=>absurd rfl e,fun _=>?_,.inl rfl⟩
   rw[if_neg (by omega),if_neg (by omega)]
   omega
  ·rw[aj h9]
   simp only[ao]
   have ho:s.ov=false:=by
    cases g:s.ov with
    |false=>rfl
    |true=>exact absurd (rA g) h9
   have fin:∀{t:qF} {l:List qU},BV r s c.2 t l→∀{x:Option (Jk×List qU×Int)},(∃u o,x=some (u.st,o,(0:Int))∧yN r u∧(∃w,o=l++w∧vS t.m u.m w∧w.length≤90∧Kd w∧u.ov=t.ov)∧u.ids=t.ids∧u.to=t.to∧jW k u.B (wS u.m u.t)=none)→∃t o e,x=some (t.st,o,e)∧FH k r s c t o e:=by
    intro t l hd x ⟨u,o,g1,g2,⟨w,g5,g6,g8,g9,g10⟩,g7,g3,g4⟩
    obtain⟨m1,d1,d2⟩:=hd.tel
    exact⟨u,o,0,g1,g2,⟨m1,by rw[g5];exact d1.trans g6,by rw[g7];exact d2⟩,by rw[g5,List.length_append];have:=hd.few;omega,.inl ⟨by rw[g5];exact hd.kd.append g9,g10.trans hd.ov⟩,fun e=>absurd (ho.symm.trans e) (by decide),fun e=>absurd rfl e,fun _=>g3.trans hd.to,.inr fun _=>g4⟩
   by_cases hp:c.1= -1
   ·rw[ai hp]
    have hf:10≤c.2.1∧c.2.1≤14:=by omega
    obtain⟨e,d,g1,g2⟩:=vBy hk hr h c.1 (f:=c.2) hf
    have ed:ft r (jJ s.st c.1)=fq r s c.1:=rfl
    simp only[bd,ao]
    rw[ed,g1]
    simp only[an]
    by_cases hz:e=0
    ·obtain⟨t,l,rfl,hd⟩:=g2 hz
     rw[ai hz]
     simp only[bd,ao]
     by_cases QM:c.2.1=14
     ·rw[ai QM]
      simp only[aq]
      obtain⟨t,o,q1,_,q2⟩:=qWc hk hr h ho c QM
      exact⟨t,o,0,q1,q2⟩
     ·rw[aj QM]
      simp only[ao]
      exact fin hd (yPu hk hr hd.inv (hd.ov.trans ho) c.1 hd.few c.2)
    ·rw[aj hz]
     exact⟨s,[],e,rfl,h,⟨s.m,vS.refl _ nI,iQ.refl h⟩,Nat.zero_le _,.inl ⟨nJ,rfl⟩,fun _=>rfl,fun _=>⟨rfl,rfl⟩,fun e'=>absurd e' hz,.inl rfl⟩
   ·rw[aj hp]
    have hf:1≤c.2.1∧c.2.1≤8:=by omega
    have Fu:0≤c.1∧c.1<r.1:=by omega
    have ed:JG k (ft r (jJ s.st c.1)) 15 []=some (dk r s c.1 [wM c.1 15 0]):=rfl
    obtain⟨e,d,g1,g2⟩:=ySw hk hr h ho Fu (f:=c.2) hf (x:=wM c.1 15 0) (Jx (by unfold wM;simp)) (Jz ⟨by unfold wM;simp,by unfold wM;simp⟩)
    simp only[eC,aq]
    rw[ed]
    simp only[an]
    rw[g1]
    simp only[an]
    by_cases hz:e=0
    ·obtain⟨t,l,rfl,hd⟩:=g2 hz
     rw[ai hz,aj (show¬c.2.1=14 by omega)]
     simp only[bd,ao]
     exact fin hd (yPu hk hr hd.inv (hd.ov.trans ho) c.1 hd.few c.2)
    ·rw[aj hz]
     exact⟨s,[],e,rfl,h,⟨s.m,vS.refl _ nI,iQ.refl h⟩,Nat.zero_le _,.inl ⟨nJ,rfl⟩,fun _=>rfl,fun _=>⟨rfl,rfl⟩,fun e'=>absurd e' hz,.inl rfl⟩
 ·rw[aj h0]
  exact⟨s,[],e,rfl,h,⟨s.m,vS.refl _ nI,iQ.refl h⟩,Nat.zero_le _,.inl ⟨nJ,rfl⟩,fun _=>rfl,fun _=>⟨rfl,rfl⟩,fun e'=>absurd e' h0,.inl rfl⟩
def rC:mC:=(-1,14,0,0,0,0,0,0)
theorem vB8 (k:Nat)(hk:nK k rC.2=some true)(r:qN)(s:qF):tC k r s.st rC=some (bif s.ov then 7 else 0):=by
 unfold tC
 rw[yCo,yBp,hk]
 have eo:s.st.2.2.2.2.2.2.2.2.2.2=s.ov:=rfl
 rw[eo]
 cases s.ov<;>rfl
theorem vFa {k:Nat}(hk:1000≤k)(hm:nK k rC.2=some true){r:qN}(hr:fm r){s:qF}(h:yN r s):
  ∃x,jm k r s.st rC=some x∧(s.ov=true→x=(s.st,[],7))∧(s.ov=false→x.1.1=s.t+1):=by
 unfold jm
 rw[vB8 k hm]
 cases ho:s.ov with
 |true=>exact⟨_,rfl,fun _=>rfl,fun e=>by cases e⟩
 |false=>
  obtain⟨t,o,q1,q2,_⟩:=qWc hk hr h ho rC rfl
  exact⟨_,q1,fun e=>(by cases e),fun _=>q2⟩
structure oZ (r:qN) (n:Nat) (s:qF) (o:List qU):Prop where
 inv:yN r s
 few:o.length≤100*n
 wait:∀id,yP s.m id→jG o id
 done:∀id,id∈s.ids→¬yP s.m id→jl o id=true
 none:∀id,id∉s.ids→jG o id
theorem oZ.step {k:Nat}{r:qN}{n:Nat}{s t:qF}{o w:List qU}{c:mC}{e:Int}(h:oZ r n s o)(d:FH k r s c t w e):oZ r (n+1) t (o++w):=by
 obtain⟨m1,T,G⟩:=d.tel
 have z:∀id,yP m1 id→jG o id:=fun id x=>by
  rcases G.new id x with y|y
  ·exact h.wait id y
  ·exact h.none id y
 refine⟨d.inv,?_,fun id x=>(z id (T.sub id x)).append (T.keep id x),fun id x y=>?_,fun id x=>?_⟩
 ·have:=h.few
  have:=d.few
  rw[List.length_append]
  omega
 ·by_cases q:yP m1 id
  ·exact yJg (z id q) (T.gone id q y)
  ·rcases(G.ids id).1 x with x|x
   ·exact QJ (h.done id x (fun y=>q (G.old id y))) (T.rest id q)
   ·exact absurd x q
 ·have q:¬yP m1 id:=fun y=>x ((G.ids id).2 (.inr y))
  exact(h.none id (fun y=>x ((G.ids id).2 (.inl y)))).append (T.rest id q)
def fu (r:qN):qF where
 t:=0
 B:=(List.replicate r.1.toNat (0,0,0),List.replicate r.1.toNat (List.replicate r.1.toNat (-1)),List.replicate r.1.toNat (-1),List.replicate r.1.toNat (List.replicate r.1.toNat 0))
 pr:=r.2.1.map Prod.fst
 ho:=List.replicate r.1.toNat (List.replicate r.2.1.length 0)
 m:=[]
 ids:=[]
 to:=0
 ov:=false
structure wz (r:qN):Prop where
 ok:fm r
 inv:yN r (fu r)
 new:nL 1000 r=some (fu r).st
 cl:r.2.2.2.1≤20
 aac:nL 20000 r=some (fu r).st
theorem JH (n:Nat):fP n [] [] where
 dist:=List.Pairwise.nil
 len:=by decide
 sort:=List.Pairwise.nil
 may:=fun p h=>absurd h List.not_mem_nil
 time:=fun p h=>absurd h List.not_mem_nil
 were:=fun p h=>absurd h List.not_mem_nil
 asc:=List.Pairwise.nil
 pos:=fun p h=>absurd h List.not_mem_nil
 idl:=by decide
def r0:qN:=(3,[(100,1000),(7,0)],12,20,4)
def r1:qN:=(4,[(100,1000),(7,0)],12,20,100)
def r2:qN:=(3,[],20,20,4)
def r3:qN:=(3,[(100,1000),(7,0)],0,6,1)
theorem QN {pr h:List Int}(h1:pr=[100,7])(h2:h=[0,0]):kr [(100,1000),(7,0)] pr h:=by
 subst h1;subst h2
 exact⟨by decide,rfl,rfl,by decide,by decide,by decide⟩
theorem JI {B:BT}(h:kT B.1 B.2.1 B.2.2.1 B.2.2.2=true):yM B:=Ph.1 h
theorem vGa:wz r0:=⟨⟨by decide,by decide,by decide,by decide,by decide,by decide,by decide⟩,
  { tk:=by decide,bk:=JI (by kernel_rfl),n:=rfl,hol:=rfl,
    laid:=fun i hi=>by
      have e:∀i,i<(fu r0).B.1.length→(fu r0).ho.getD i []=[0,0]:=by decide
      exact QN rfl (e i hi)
    cred:=by decide,most:=by decide,waits:=JH _,sum:=by decide,tot:=by decide,over:=by decide,none:=fun e=>by cases e},by kernel_rfl,by decide,by kernel_rfl⟩
theorem yUp:wz r1:=⟨⟨by decide,by decide,by decide,by decide,by decide,by decide,by decide⟩,
  { tk:=by decide,bk:=JI (by kernel_rfl),n:=rfl,hol:=rfl,
    laid:=fun i hi=>by
      have e:∀i,i<(fu r1).B.1.length→(fu r1).ho.getD i []=[0,0]:=by decide
      exact QN rfl (e i hi)
    cred:=by decide,most:=by decide,waits:=JH _,sum:=by decide,tot:=by decide,over:=by decide,none:=fun e=>by cases e},by kernel_rfl,by decide,by kernel_rfl⟩
theorem vMh:wz r2:=⟨⟨by decide,by decide,by decide,by decide,by decide,by decide,by decide⟩,
  { tk:=by decide,bk:=JI (by kernel_rfl),n:=rfl,hol:=rfl,
    laid:=fun i hi=>by
      have e:∀i,i<(fu r2).B.1.length→(fu r2).ho.getD i []=[]:=by decide
      rw[e i hi]
      exact⟨by decide,rfl,rfl,by decide,by decide,by decide⟩
    cred:=by decide,most:=by decide,waits:=JH _,sum:=by decide,tot:=by decide,over:=by decide,none:=fun e=>by cases e},by kernel_rfl,by decide,by kernel_rfl⟩
theorem vBo:wz r3:=⟨⟨by decide,by decide,by decide,by decide,by decide,by decide,by decide⟩,
  { tk:=by decide,bk:=JI (by kernel_rfl),n:=rfl,hol:=rfl,
    laid:=fun i hi=>by
      have e:∀i,i<(fu r3).B.1.length→(fu r3).ho.getD i []=[0,0]:=by decide
      exact QN rfl (e i hi)
    cred:=by decide,most:=by decide,waits:=JH _,sum:=by decide,tot:=by decide,over:=by decide,none:=fun e=>by cases e},by kernel_rfl,by decide,by kernel_rfl⟩
abbrev ld:Type:=Int×Int×Int×Int×Int×Int×Int×Int
abbrev o0:Type:=Int×Int×List Int×Int×Int
abbrev fR:Type:=Int×List Int×Int×List Int×Int×Int×Int×Bool×Bool×Int
abbrev lf:Type:=Int×Int×Int×Bool
abbrev QO:Type:=Int×List (Int×Int)×Int×Int×Int
abbrev FI:Type:=Int×List (Int×Int×Int)×List (List Int)×List Int×List (List Int)×List Int×List (List Int)×List (Int×Int×Int×Int×Int×Int×Int)×List Int×Int×Bool
abbrev rD:Type:=Int×List (Int×Int)×Int×Int×Int×Int×List (Int×Int×Int)×List (List Int)×List Int×List (List Int)×List Int×List (List Int)×List (Int×Int×Int×Int×Int×Int×Int)×List Int×Int×Bool×Int×Bool
abbrev JJ:Type:=Int×Int×Bool×Bool
def d0:o0:=(0,0,[],0,0)
def zI (ev:Int)(bL:List o0)(n i:Int)(R:QO)(c:JJ)(D:fR)(G:rD)(L:lf)(c2:JJ)(outs:List (List ld))(asked:List ld):=
 (ev,bL,n,i,R,c,((D.1,D.2.2.1,D.2.2.2.2):Int×Int×Int×Int×Int×Bool×Bool×Int),D.2.1,D.2.2.2.1,G,L,c2,outs,asked)
section
variable {k:Nat} {rec:FJ} {ev n i:Int} {bL:List o0} {R:QO} {c c2:JJ} {D:fR} {G:rD} {L:lf} {outs:List (List ld)} {asked:List ld}
theorem JK (h:outs.length≤1000000):zX (outs.length+1) 24=true:=yF (by omega) (by omega)
theorem yYq (hi:¬i<n):w4 k rec (.inl (zI ev bL n i R c D G L c2 outs asked))=some (.inr (c,G,L,(D.1,D.2.2.1,D.2.2.2.2),D.2.1,D.2.2.2.1,c2,outs,asked)):=by
 unfold w4
 dsimp only[zI]
 rw[aj hi,ao]
end
abbrev iR (ro:Int)(x:List Int)(sx:Int)(y:List Int)(sy cA cK op:Int):fR:=(ro,x,sx,y,sy,cA,cK,false,false,op)
section
variable {k:Nat} {ro sx sy cA cK op:Int} {x y b:List Int}
theorem yCw (h:(b.length:Int)≤zA (ro-(x.length:Int)))(hr:x.length+b.length≤1000000):rE k (iR ro x sx y sy cA cK op) 0 b=some (0,iR ro (x++b) sx y sy cA cK (zA (op+1))):=by
 show(bif decide ((b.length:Int)>zA (ro-(x.length:Int))) then _ else(bif zX (x.length+b.length) 1 then _ else none))=_
 rw[aj (by omega),ao,yF (by omega) (by omega)]
 rfl
theorem vFd (h:(b.length:Int)>zA (ro-(x.length:Int))):rE k (iR ro x sx y sy cA cK op) 0 b=some (3,iR ro x sx y sy cA cK op):=by
 show(bif decide ((b.length:Int)>zA (ro-(x.length:Int))) then _ else _)=_
 rw[ai h]
 rfl
theorem yAe (h:(b.length:Int)≤zA (ro-(y.length:Int)))(hr:y.length+b.length≤1000000):rE k (iR ro x sx y sy cA cK op) 1 b=some (0,iR ro x sx (y++b) sy cA cK (zA (op+1))):=by
 show(bif decide ((b.length:Int)>zA (ro-(y.length:Int))) then _ else(bif zX (y.length+b.length) 1 then _ else none))=_
 rw[aj (by omega),ao,yF (by omega) (by omega)]
 rfl
theorem yUo (h:(b.length:Int)>zA (ro-(y.length:Int))):rE k (iR ro x sx y sy cA cK op) 1 b=some (3,iR ro x sx y sy cA cK op):=by
 show(bif decide ((b.length:Int)>zA (ro-(y.length:Int))) then _ else _)=_
 rw[ai h]
 rfl
theorem yS9:JL k (iR ro x sx y sy cA cK op) 0=some (0,iR ro [] 0 y sy cA cK (zA (op+1))):=rfl
theorem ySo:JL k (iR ro x sx y sy cA cK op) 1=some (0,iR ro x sx [] 0 cA cK (zA (op+1))):=rfl
theorem JM:BX k (iR ro x sx y sy cA cK op)=some (0,iR ro x (x.length:Int) y (y.length:Int) cA cK (zA (op+1))):=rfl
end
def vI (n:Int)(i:Nat):Int:=IntKind.wrap .u8 (shr .i64 n (8*(i:Int)))
def o6 (n:Int):List Int:=[vI n 7,vI n 6,vI n 5,vI n 4,vI n 3,vI n 2,vI n 1,vI n 0]
def lX (l:List Int):List Int:=l.flatMap o6
theorem rF:∀(l:List Int),(lX l).length=8*l.length
 |[]=>rfl
 |n::l=>by
  have:=rF l
  simp only[lX,List.flatMap_cons,List.length_append,List.length_cons] at this⊢
  rw[this]
  simp[o6]
  omega
theorem vGr {k n:Nat}(v:Int)(i:Nat)(hi:i≤7)(bC:List Int)(bx aP:Int)(r:List Int)(hr:r.length≤1000000000):
  tD k (n+1) v (i:Int) bC bx aP r=tD k n v ((i:Int)-1) bC bx aP (r++[vI v i]):=by
 show JN k (tD k n) v (i:Int) bC bx aP r=_
 unfold JN
 have e8:zA (8*(i:Int))=8*(i:Int):=yA (by omega) (by omega)
 rw[ai (show(i:Int)≥0 by omega),aq,e8,aj (by omega),eC,aq,yF (by omega) (by omega),aq,yA (by omega) (by omega)]
 rfl
theorem yXa {k:Nat}(hk:9≤k)(v:Int)(bC:List Int)(bx aP:Int)(r:List Int)(hr:r.length≤100000000):
  tD k k v 7 bC bx aP r=some (bC,bx,aP,r++o6 v):=by
 have gen:∀m,tD k (m+9) v 7 bC bx aP r=some (bC,bx,aP,r++o6 v):=fun m=>by
  have h:=fun n i hi r' lE=>vGr (k:=k) (n:=n) v i hi bC bx aP r' lE
  have h7:=h (m+8) 7 (by omega) r (by omega)
  have h6:=h (m+7) 6 (by omega) (r++[vI v 7]) (by simp;omega)
  have h5:=h (m+6) 5 (by omega) ((r++[vI v 7])++[vI v 6]) (by simp;omega)
  have h4:=h (m+5) 4 (by omega) (((r++[vI v 7])++[vI v 6])++[vI v 5]) (by simp;omega)
  have h3:=h (m+4) 3 (by omega) ((((r++[vI v 7])++[vI v 6])++[vI v 5])++[vI v 4]) (by simp;omega)
  have h2:=h (m+3) 2 (by omega) (((((r++[vI v 7])++[vI v 6])++[vI v 5])++[vI v 4])++[vI v 3]) (by simp;omega)
  have h1:=h (m+2) 1 (by omega) ((((((r++[vI v 7])++[vI v 6])++[vI v 5])++[vI v 4])++[vI v 3])++[vI v 2]) (by simp;omega)
  have h0:=h (m+1) 0 (by omega) (((((((r++[vI v 7])++[vI v 6])++[vI v 5])++[vI v 4])++[vI v 3])++[vI v 2])++[vI v 1]) (by simp;omega)
  refine(h7.trans (h6.trans (h5.trans (h4.trans (h3.trans (h2.trans (h1.trans (h0.trans ?_))))))))
  show some (bC,bx,aP,_)=_
  simp only[List.append_assoc,List.cons_append,List.nil_append]
  rfl
 obtain⟨m,rfl⟩:∃m,k=m+9:=⟨k-9,by omega⟩
 exact gen m
theorem yIc {k:Nat}(hk:9≤k)(l:List Int)(hl:l.length≤1000000):∀(m n i:Nat),i+m=l.length→m<n→w5 k n l (l.length:Int) (i:Int) (lX (l.take i))=some (lX l)
 |0,n,i,hi,hn=>by
  obtain⟨n,rfl⟩:∃x,n=x+1:=⟨n-1,by omega⟩
  show BY k (w5 k n) l _ _ _=_
  unfold BY
  rw[aj (by omega),ao,List.take_of_length_le (by omega)]
 |m+1,n,i,hi,hn=>by
  obtain⟨n,rfl⟩:∃x,n=x+1:=⟨n-1,by omega⟩
  show BY k (w5 k n) l _ _ _=_
  unfold BY
  have aV:i<l.length:=by omega
  rw[ai (show(i:Int)<(l.length:Int) by omega),aq,fK (by omega) (by omega),aq,aN,
   yXa hk _ _ _ _ _ (by rw[rF,List.length_take];omega),an,qY (N:=l.length) aV (by omega)]
  rw[show lX (l.take i)++o6 (l.getD i 0)=lX (l.take (i+1)) by
   rw[←jK l i 0 aV]
   simp[lX]]
  exact yIc hk l hl m n (i+1) (by omega) (by omega)
theorem FK {k:Nat}(hk:9≤k)(l:List Int)(hl:l.length≤1000000)(mQ:l.length<k):tE k l=some (lX l):=by
 unfold tE
 have h8:zA (8*(l.length:Int))=((8*l.length:Nat):Int):=by rw[yA (by omega) (by omega)];omega
 rw[h8]
 have hm:lL 0 ((8*l.length:Nat):Int) 1=true:=by
  unfold lL
  simp
  omega
 rw[hm,aq]
 have:=yIc hk l hl l.length k 0 (by omega) mQ
 show(w5 k k l (l.length:Int) ((0:Nat):Int) (lX (l.take 0))).bind _=_
 rw[this]
 rfl
def tF (l:List Int):List Int:=o6 (l.length:Int)++lX l
theorem vL9 {k:Nat}(hk:9≤k)(l:List Int)(hl:l.length≤1000000)(mQ:l.length<k):JO k l=some (tF l):=by
 unfold JO
 rw[FK hk [(l.length:Int)] (by simp) (by simp;omega),an,FK hk l hl mQ,an]
 rw[yF (by rw[rF,rF];simp;omega) (by rw[rF,rF];simp;omega)]
 simp[tF,lX]
def rG (b:List Int):List Int:=[IntKind.wrap .u8 (shr .i64 (b.length:Int) 8),IntKind.wrap .u8 (b.length:Int)]++b
theorem yEh (k:Nat)(b:List Int):FL k b=some (if b.length≤60000 then(rG b,true) else([],false)):=by
 unfold FL
 by_cases h:b.length≤60000
 ·rw[aj (by omega),ao,yF (by omega) (by omega),if_pos h]
  rfl
 ·rw[ai (by omega),if_neg h]
  rfl
def jn (l:List (List Int)):List Int:=l.flatMap tF
theorem FM (l:List Int):(tF l).length=8*(l.length+1):=by
 simp only[tF,List.length_append,rF]
 show 8+_=_
 omega
theorem vAb {l:List (List Int)}{i:Nat}(h:i<l.length):jn (l.take i)++tF (l.getD i [])=jn (l.take (i+1)):=by
 rw[←jK l i [] h]
 simp[jn]
structure QP (l:List (List Int)):Prop where
 n:l.length≤1000
 r:∀x∈l,x.length≤999
theorem vKs {l:List (List Int)}(h:∀x∈l,x.length≤999):(jn l).length≤8000*l.length:=by
 induction l with
 |nil=>simp[jn]
 |cons x l ih=>
  have h1:=ih fun y hy=>h y (List.mem_cons_of_mem _ hy)
  have h2:=h x (List.mem_cons_self ..)
  simp only[jn,List.flatMap_cons,List.length_append,FM,List.length_cons] at h1⊢
  omega
theorem yZ9 {k:Nat}(hk:1001≤k){l:List (List Int)}(h:QP l):FN k l=some (jn l):=by
 have hn:=h.n
 unfold FN
 obtain ⟨s, h1, h2⟩ := vY (L := fun n i (s : List Int) => BZ k n l (l.length : Int) i s) (N := l.length) (fun s => s) (fun i s => s = jn (l.take i)) (fun n s _=>by
  show B1 k (BZ k n) l _ _ s=_
  unfold B1
  rw[aj (by omega)]
  rfl) (fun n i s hi hs=>by
  refine⟨s++tF (l.getD i []),?_,by rw[hs,vAb hi]⟩
  show B1 k (BZ k n) l _ (i:Int) s=_
  unfold B1
  have hr:=h.r _ (wY (d:=[]) hi)
  have uI:s.length≤8000*1000:=by
   rw[hs]
   have:=vKs (l:=l.take i) fun x hx=>h.r x (List.mem_of_mem_take hx)
   rw[List.length_take] at this
   omega
  rw[ai (show(i:Int)<(l.length:Int) by omega),aq,fK (by omega) (by omega),aq,aN,vL9 (by omega) _ (by omega) (by omega),an,
   yF (by rw[FM];omega) (by rw[FM];omega),aq,qY (N:=l.length) hi (by omega)]) (n:=k) (s:=[]) (by omega) rfl
 rw[List.take_of_length_le (Nat.le_refl _)] at h2
 subst h2
 rw[h1]
 rfl
def B2 (a:Int×Int×Int):List Int:=[a.1,a.2.1,a.2.2]
def B3 (p:Int×Int×Int×Int×Int×Int×Int):List Int:=[p.1,p.2.1,p.2.2.1,p.2.2.2.1,p.2.2.2.2.1,p.2.2.2.2.2.1,p.2.2.2.2.2.2]
def w6 (s:FI):List (List Int):=
 (((((([[s.1,s.2.2.2.2.2.2.2.2.2.1,bif s.2.2.2.2.2.2.2.2.2.2 then 1 else 0,(s.2.1.length:Int),(s.2.2.1.length:Int),(s.2.2.2.1.length:Int),(s.2.2.2.2.1.length:Int),(s.2.2.2.2.2.2.1.length:Int),(s.2.2.2.2.2.2.2.1.length:Int)]]++
  s.2.1.map B2)++s.2.2.1)++[s.2.2.2.1])++s.2.2.2.2.1)++[s.2.2.2.2.2.1])++s.2.2.2.2.2.2.1)++s.2.2.2.2.2.2.2.1.map B3++[s.2.2.2.2.2.2.2.2.1]
theorem yM4 {α β:Type}(f:α→β)(d:α){l:List α}{i:Nat}(h:i<l.length):(l.take i).map f++[f (l.getD i d)]=(l.take (i+1)).map f:=by
 rw[←jK l i d h];simp
theorem yW6 {k:Nat}{l:List (Int×Int×Int)}(hl:l.length≤1000)(hk:1001≤k)(s:FI)(b)(r:List (List Int))(hr:r.length≤1000000):w7 k k l (l.length:Int) 0 s b r=some (s,b,r++l.map B2):=by
 obtain ⟨t, h1, h2⟩ := vY (L := fun n i (t : List (List Int)) => w7 k n l (l.length : Int) i s b t) (N := l.length) (fun t => (s, b, t)) (fun i t => t = r ++ (l.take i).map B2) (fun n t _=>by
  show B4 k (w7 k n) l _ _ s b t=_
  unfold B4
  rw[aj (by omega)]
  rfl) (fun n i t hi ht=>by
  refine⟨t++[B2 (l.getD i (0,0,0))],?_,by rw[ht,List.append_assoc,yM4 B2 (0,0,0) hi]⟩
  show B4 k (w7 k n) l _ (i:Int) s b t=_
  unfold B4
  have:t.length≤1001000:=by rw[ht];simp;omega
  rw[ai (show(i:Int)<(l.length:Int) by omega),aq,fK (by omega) (by omega),aq,yF (by omega) (by omega),aq,qY (N:=l.length) hi (by omega)]
  rfl) (n:=k) (s:=r) (by omega) (by simp)
 rw[List.take_of_length_le (Nat.le_refl _)] at h2
 subst h2
 exact h1
theorem vAf {k:Nat}{l:List (Int×Int×Int×Int×Int×Int×Int)}(hl:l.length≤1000)(hk:1001≤k)(s:FI)(r:List (List Int))(hr:r.length≤1000000):w8 k k l (l.length:Int) 0 s r=some (s,r++l.map B3):=by
 obtain ⟨t, h1, h2⟩ := vY (L := fun n i (t : List (List Int)) => w8 k n l (l.length : Int) i s t) (N := l.length) (fun t => (s, t)) (fun i t => t = r ++ (l.take i).map B3) (fun n t _=>by
  show B5 k (w8 k n) l _ _ s t=_
  unfold B5
  rw[aj (by omega)]
  rfl) (fun n i t hi ht=>by
  refine⟨t++[B3 (l.getD i (0,0,0,0,0,0,0))],?_,by rw[ht,List.append_assoc,yM4 B3 (0,0,0,0,0,0,0) hi]⟩
  show B5 k (w8 k n) l _ (i:Int) s t=_
  unfold B5
  have:t.length≤1001000:=by rw[ht];simp;omega
  rw[ai (show(i:Int)<(l.length:Int) by omega),aq,fK (by omega) (by omega),aq,yF (by omega) (by omega),aq,qY (N:=l.length) hi (by omega)]
  rfl) (n:=k) (s:=r) (by omega) (by simp)
 rw[List.take_of_length_le (Nat.le_refl _)] at h2
 subst h2
 exact h1
theorem vH0 {k:Nat}(hk:1001≤k){s:FI}(h:QP (w6 s)):jo k s=some (jn (w6 s)):=by
 have hn:=h.n
 simp only[w6,List.length_append,List.length_cons,List.length_nil,List.length_map] at hn
 unfold jo
 rw[show JP k s.2.2.2.2.2.2.2.2.2.2=some (bif s.2.2.2.2.2.2.2.2.2.2 then 1 else 0) by unfold JP;cases s.2.2.2.2.2.2.2.2.2.2<;>rfl,an]
 rw[yW6 (by omega) hk _ _ _ (by simp),an]
 dsimp only
 rw[yF (by simp;omega) (by simp;omega),aq,yF (by simp;omega) (by simp;omega),aq,yF (by simp;omega) (by simp;omega),aq,yF (by simp;omega) (by simp;omega),aq,
  yF (by simp;omega) (by simp;omega),aq,vAf (by omega) hk _ _ (by simp;omega),an]
 dsimp only
 rw[yF (by simp;omega) (by simp;omega),aq]
 show(FN k (w6 s)).bind (fun x1=>some x1)=_
 rw[yZ9 hk h]
 rfl
structure nM (D:fR):Prop where
 aad:D.2.2.2.2.2.2.2.1=false
 down:D.2.2.2.2.2.2.2.2.1=false
 room:0≤D.1∧D.1≤200000
 x:(D.2.1.length:Int)≤D.1
 y:(D.2.2.2.1.length:Int)≤D.1
def wK (D:fR)(i:Int):List Int:=if i=0 then D.2.1 else D.2.2.2.1
theorem nM.as {D:fR}(h:nM D):∃ro x sx y sy cA cK op,D=iR ro x sx y sy cA cK op∧0≤ro∧ro≤200000∧(x.length:Int)≤ro∧(y.length:Int)≤ro:=by
 obtain⟨ro,x,sx,y,sy,cA,cK,ar,dn,op⟩:=D
 obtain⟨h1,h2,h3,h4,h5⟩:=h
 dsimp only at h1 h2 h3 h4 h5
 subst h1;subst h2
 exact⟨ro,x,sx,y,sy,cA,cK,op,rfl,h3.1,h3.2,h4,h5⟩
theorem JQ {ro sx sy cA cK op:Int}{x y:List Int}(h0:0≤ro)(h1:ro≤200000)(hx:(x.length:Int)≤ro)(hy:(y.length:Int)≤ro):nM (iR ro x sx y sy cA cK op):=⟨rfl,rfl,⟨h0,h1⟩,hx,hy⟩
theorem yTo {k:Nat}{D:fR}(h:nM D){i:Int}(hi:i=0∨i=1){b:List Int}(hb:b.length≤100000):
  ((b.length:Int)>D.1-((wK D i).length:Int)∧rE k D i b=some (3,D))∨
  ((b.length:Int)≤D.1-((wK D i).length:Int)∧∃D1 D2,rE k D i b=some (0,D1)∧BX k D1=some (0,D2)∧nM D2∧D2.1=D.1∧wK D2 i=wK D i++b∧wK D2 (1-i)=wK D (1-i)):=by
 obtain⟨ro,x,sx,y,sy,cA,cK,op,rfl,h0,h1,hx,hy⟩:=h.as
 rcases hi with rfl|rfl
 ·have hw:zA (ro-(x.length:Int))=ro-(x.length:Int):=yA (by omega) (by omega)
  by_cases hf:(b.length:Int)>ro-(x.length:Int)
  ·exact .inl ⟨hf,vFd (by rw[hw];exact hf)⟩
  ·refine .inr ⟨by show(b.length:Int)≤ro-(x.length:Int);omega,_,_,yCw (by rw[hw];omega) (by omega),JM,JQ h0 h1 (by rw[List.length_append];omega) hy,rfl,rfl,rfl⟩
 ·have hw:zA (ro-(y.length:Int))=ro-(y.length:Int):=yA (by omega) (by omega)
  by_cases hf:(b.length:Int)>ro-(y.length:Int)
  ·exact .inl ⟨hf,yUo (by rw[hw];exact hf)⟩
  ·refine .inr ⟨by show(b.length:Int)≤ro-(y.length:Int);omega,_,_,yAe (by rw[hw];omega) (by omega),JM,JQ h0 h1 hx (by rw[List.length_append];omega),rfl,rfl,rfl⟩
structure QQ (L:lf):Prop where
 side:L.1=0∨L.1=1
 gen:1≤L.2.1∧L.2.1≤4611686018427387904
 rows:0≤L.2.2.1∧L.2.2.1≤1000000
 stale:L.2.2.2=false
theorem FO (b:List Int):(rG b).length=b.length+2:=by simp[rG]
theorem yZr {k:Nat}{D:fR}(h:nM D){L:lf}(hL:QQ L){b:List Int}(hb:b.length≤60000):
  ((b.length:Int)+2>D.1-((wK D L.1).length:Int)∧w9 k L D b=some (10,L,D))∨
  ((b.length:Int)+2≤D.1-((wK D L.1).length:Int)∧∃D2,w9 k L D b=some (0,(L.1,L.2.1,zA (L.2.2.1+1),L.2.2.2),D2)∧nM D2∧D2.1=D.1∧wK D2 L.1=wK D L.1++rG b∧wK D2 (1-L.1)=wK D (1-L.1)):=by
 have hr:((rG b).length:Int)=(b.length:Int)+2:=by rw[FO];rfl
 unfold w9
 rw[yEh,if_pos hb,an,hL.stale]
 dsimp only
 rw[bd,ao,ao]
 rcases yTo (k:=k) h hL.side (b:=rG b) (by rw[FO];omega) with⟨h1,h2⟩|⟨h1,D1,D2,h2,h3,h4,h5,h6,h7⟩
 ·left
  rw[h2]
  exact⟨by omega,rfl⟩
 ·right
  rw[h2]
  refine⟨by omega,D2,?_,h4,h5,h6,h7⟩
  show(BX k D1).bind _=_
  rw[h3]
  rfl
theorem vBd {k:Nat}(hk:9≤k){D:fR}(h:nM D){L:lf}(hL:QQ L)(hg:L.2.1<4611686018427387904){b:List Int}(hb:b.length≤50000)(sO:(b.length:Int)+10≤D.1):
  ∃D2,tG k L D b=some (0,(1-L.1,L.2.1+1,0,false),D2)∧nM D2∧D2.1=D.1∧wK D2 (1-L.1)=rG (o6 (L.2.1+1)++b)∧wK D2 L.1=wK D L.1:=by
 obtain⟨ro,x,sx,y,sy,cA,cK,op,rfl,h0,h1,hx,hy⟩:=h.as
 obtain⟨si,ge,rw',st⟩:=L
 have iY:=hL.gen
 dsimp only at iY hg
 have sO:(b.length:Int)+10≤ro:=sO
 have e1:zA (ge+1)=ge+1:=yA (by omega) (by omega)
 have hlen:(rG (o6 (ge+1)++b)).length=b.length+10:=by rw[FO,List.length_append];show 8+b.length+2=_;omega
 unfold tG JR
 dsimp only
 rw[e1,FK hk [ge+1] (by simp) (by simp;omega),an,show lX [ge+1]=o6 (ge+1) by simp[lX]]
 rw[yF (by show(8+b.length)*1≤_;omega) (by show 8+b.length≤_;omega),aq,yEh,if_pos (by rw[List.length_append];show 8+b.length≤_;omega),an]
 dsimp only
 rw[bd,ao,aj (by omega),ao]
 rw[show QR k (iR ro x sx y sy cA cK op)=some ro from rfl,an,hlen,aj (by omega),ao]
 rcases hL.side with hs|hs<;>dsimp only at hs<;>subst hs
 ·rw[show zA (1-0)=1 from rfl,ySo,an]
  dsimp only
  rw[show decide ((0:Int)=0)=true from rfl,bd,ao,yAe (by rw[hlen];rw[yA (by simp;omega) (by simp;omega)];simp;omega) (by rw[hlen];simp;omega),an]
  dsimp only
  rw[show decide ((0:Int)=0)=true from rfl,bd,ao,JM]
  exact⟨_,rfl,JQ h0 h1 hx (by rw[List.nil_append,hlen];omega),rfl,rfl,rfl⟩
 ·rw[show zA (1-1)=0 from rfl,yS9,an]
  dsimp only
  rw[show decide ((0:Int)=0)=true from rfl,bd,ao,yCw (by rw[hlen];rw[yA (by simp;omega) (by simp;omega)];simp;omega) (by rw[hlen];simp;omega),an]
  dsimp only
  rw[show decide ((0:Int)=0)=true from rfl,bd,ao,JM]
  exact⟨_,rfl,JQ h0 h1 (by rw[List.nil_append,hlen];omega) hy,rfl,rfl,rfl⟩
structure Tk (L:lf) (N:Nat):Prop where
 side:L.1=0∨L.1=1
 gen:1≤L.2.1∧L.2.1≤(N:Int)+1
 rows:0≤L.2.2.1∧L.2.2.1≤(N:Int)
 stale:L.2.2.2=false
theorem Tk.takes {L:lf}{N:Nat}(h:Tk L N)(hN:N≤1000000):QQ L:=⟨h.side,⟨h.gen.1,by have:=h.gen.2;omega⟩,⟨h.rows.1,by have:=h.rows.2;omega⟩,h.stale⟩
theorem Tk.more {L:lf}{N M:Nat}(h:Tk L N)(hN:N≤M):Tk L M:=⟨h.side,⟨h.gen.1,by have:=h.gen.2;omega⟩,⟨h.rows.1,by have:=h.rows.2;omega⟩,h.stale⟩
structure vM1 (k:Nat) (s:FI) (b:List Int):Prop where
 is:jo k s=some b
 len:b.length≤50000
theorem vIk {c:Nat}{l:List (List Int)}(h:∀x∈l,x.length≤c):(jn l).length≤8*(c+1)*l.length:=by
 induction l with
 |nil=>simp[jn]
 |cons x l ih=>
  have h1:=ih fun y hy=>h y (List.mem_cons_of_mem _ hy)
  have h2:=h x (List.mem_cons_self ..)
  have h3:8*(c+1)*(l.length+1)=8*(c+1)*l.length+8*(c+1):=Nat.mul_succ _ _
  simp only[jn,List.flatMap_cons,List.length_append,FM,List.length_cons] at h1⊢
  rw[h3]
  omega
theorem QS {l:List (List Int)}{n:Nat}(h:∀i,i<l.length→(l.getD i []).length=n){x:List Int}(hx:x∈l):x.length=n:=by
 obtain⟨i,hi,e⟩:=List.mem_iff_getElem.1 hx
 have:=h i hi
 rw[List.getD_eq_getElem?_getD,List.getElem?_eq_getElem hi] at this
 rw[←e]
 exact this
theorem yY6 {r:qN}(hr:fm r){s:qF}(h:yN r s):∃l,w6 s.st=l++[s.ids]∧l.length≤67∧∀x∈l,x.length≤9:=by
 have n6:=h.bk.n6
 have n1:=h.bk.n1
 have hm:=h.waits.len
 have h3:=hr.n3
 have hb:wU s.B.1 s.B.2.1 s.B.2.2.1 s.B.2.2.2:=h.bk
 have hL:=h.laid 0 (by omega)
 have hol:=h.hol
 refine⟨_,rfl,?_,fun x hx=>?_⟩
 ·simp only[List.length_append,List.length_cons,List.length_nil,List.length_map]
  show 0+1+s.B.1.length+s.B.2.1.length+(0+1)+s.B.2.2.2.length+(0+1)+s.ho.length+s.m.length≤67
  have:=hb.bl
  have:=hb.pl
  omega
 ·simp only[List.mem_append,List.mem_singleton,List.mem_map] at hx
  rcases hx with(((((((rfl|⟨a,_,rfl⟩)|hx)|rfl)|hx)|rfl)|hx)|⟨a,_,rfl⟩)
  ·simp
  ·simp[B2]
  ·have:=QS (l:=s.B.2.1) (fun i hi=>hb.br i (by have:=hb.bl;omega)) hx
   omega
  ·show s.B.2.2.1.length≤9
   have:=hb.ml
   omega
  ·have:=QS (l:=s.B.2.2.2) (fun i hi=>hb.pr i (by have:=hb.pl;omega)) hx
   omega
  ·show s.pr.length≤9
   rw[hL.pl]
   omega
  ·have:=QS (l:=s.ho) (fun i hi=>(h.laid i (by omega)).hl) hx
   omega
  ·simp[B3]
theorem vIe {k:Nat}(hk:1001≤k){r:qN}(hr:fm r){s:qF}(h:yN r s):∃b,jo k s.st=some b∧b=jn (w6 s.st)∧b.length≤7000:=by
 obtain⟨l,e,h1,h2⟩:=yY6 hr h
 have hi:=h.waits.idl
 have hf:QP (w6 s.st):=by
  rw[e]
  refine⟨by rw[List.length_append];simp;omega,fun x hx=>?_⟩
  rcases List.mem_append.1 hx with hx|hx
  ·have:=h2 x hx;omega
  ·rw[List.mem_singleton.1 hx];omega
 refine⟨_,vH0 hk hf,rfl,?_⟩
 rw[e]
 have:=vIk h2
 have e2:jn (l++[s.ids])=jn l++tF s.ids:=by simp[jn]
 rw[e2,List.length_append,FM]
 omega
theorem vC0 {k:Nat}(hk:10≤k)(w:Int)(f:jP):∃b,JS k (w,f)=some b∧b.length≤57:=by
 unfold JS QT
 obtain⟨b,hb⟩:=yFw hk f
 obtain⟨n,h1,h2,h3⟩:=yJb k f.1
 dsimp only
 rw[hb]
 cases b with
 |false=>exact⟨[],rfl,by decide⟩
 |true=>
  have hn:0≤n:=by
   unfold nK at hb
   rw[h1] at hb
   simp only[an] at hb
   by_cases h0:n<0
   ·rw[ai h0] at hb;cases hb
   ·omega
  have hl:(yB [f.2.1,f.2.2.1,f.2.2.2.1,f.2.2.2.2.1,f.2.2.2.2.2.1,f.2.2.2.2.2.2] 0 (n.toNat-0)).length≤6:=by
   unfold yB
   rw[List.length_take,List.length_drop]
   simp
   omega
  simp only[an,bd,ao]
  rw[h1]
  simp only[an]
  rw[ai hn,ai h3]
  simp only[Bool.and_self,aq]
  generalize yB [f.2.1,f.2.2.1,f.2.2.2.1,f.2.2.2.2.1,f.2.2.2.2.2.1,f.2.2.2.2.2.2] 0 (n.toNat-0)=L at hl⊢
  rw[FK (by omega) L (by omega) (by omega)]
  have e1:=rF L
  simp only[an]
  rw[yF (by omega) (by omega)]
  simp only[aq,an]
  rw[aj (by rw[List.length_append];simp;omega)]
  simp only[ao]
  rw[FK (by omega) [w] (by simp) (by simp;omega)]
  have e2:=rF [w]
  simp only[List.length_singleton] at e2
  simp only[an]
  rw[yF (by rw[List.length_append,List.length_singleton];omega) (by rw[List.length_append,List.length_singleton];omega)]
  refine⟨_,rfl,?_⟩
  rw[List.length_append,List.length_append,List.length_singleton]
  omega
def iS (r:qN)(s:qF)(ev:Int):rD:=(r.1,r.2.1,r.2.2.1,r.2.2.2.1,r.2.2.2.2,s.t,s.B.1,s.B.2.1,s.B.2.2.1,s.B.2.2.2,s.pr,s.ho,s.m,s.ids,s.to,s.ov,ev,false)
structure nN (r:qN) (ev:Int) (N:Nat) (s:qF) (G:rD) (L:lf) (D:fR):Prop where
 g:G=iS r s ev
 inv:yN r s
 calm:nM D
 room:D.1=200000
 x:(wK D 0).length≤20000+100*N
 y:(wK D 1).length≤20000+100*N
 tk:Tk L N
theorem yLx {D:fR}{i:Int}{n:Nat}(hi:i=0∨i=1)(hx:(wK D i).length≤n)(hy:(wK D (1-i)).length≤n):(wK D 0).length≤n∧(wK D 1).length≤n:=by
 rcases hi with rfl|rfl
 ·exact⟨hx,hy⟩
 ·exact⟨hy,hx⟩
theorem nN.more {r:qN}{ev:Int}{N M:Nat}{s:qF}{G:rD}{L:lf}{D:fR}(h:nN r ev N s G L D)(hM:N≤M):nN r ev M s G L D:=
 ⟨h.g,h.inv,h.calm,h.room,by have:=h.x;omega,by have:=h.y;omega,h.tk.more hM⟩
def QU (k:Nat)(r:qN):Prop:=∀s,yN r s→∀c,∃t o e,jm k r (qF.st s) c=some (qF.st t,o,e)∧yN r t∧(e≠0→t=s)
def B6 (k:Nat)(r:qN)(s:qF)(a:Int)(m:td×Int)(t:qF)(o:List ld):Prop:=
 (m.2≠0∧t=s∧o=[(a,16,m.2,0,0,0,0,0)])∨
 (m.2=0∧∃u p e,jm k r s.st (a,m.1)=some (u,p,e)∧((e≠0∧t=s∧o=[(a,16,e,0,0,0,0,0)])∨(e=0∧u=t.st∧o=p)))
theorem yWr {k:Nat}(hk:1001≤k){r:qN}(hr:fm r)(hd:QU k r)(hq:∀s c u o e,jm k r (qF.st s) c=some (u,o,e)→c.2.1=9→u=s.st){ev:Int}{N:Nat}(hN:N≤1000){s:qF}{G:rD}{L:lf}{D:fR}(h:nN r ev N s G L D)
  {a:Int} {b:List Int} {m:td×Int} (hm:lQ k b=some m):
  ∃t o L' D',FP k G L D a b=some (o,iS r t ev,L',D')∧nN r ev (N+1) t (iS r t ev) L' D'∧B6 k r s a m t o:=by
 obtain⟨rfl,hi,hc,sO,hx,hy,ht⟩:=h
 unfold FP
 rw[show xa k (iS r s ev) L D=some (false,iS r s ev,L,D) from rfl]
 simp only[an,ao]
 rw[hm]
 simp only[an]
 have same:nN r ev (N+1) s (iS r s ev) L D:=(nN.mk rfl hi hc sO hx hy ht:nN r ev N s (iS r s ev) L D).more (by omega)
 by_cases h0:m.2=0
 case neg=>
  rw[aj h0]
  exact⟨s,_,L,D,rfl,same,.inl ⟨h0,rfl,rfl⟩⟩
 rw[ai h0]
 simp only[bd,ao]
 obtain⟨t,o,e,h1,h2,h3⟩:=hd s hi (a,m.1)
 have e1:vO (iS r s ev)=r:=rfl
 have e2:tH (iS r s ev)=s.st:=rfl
 rw[e1,e2,h1]
 simp only[an]
 by_cases he:e=0
 case neg=>
  rw[aj he]
  exact⟨s,_,L,D,rfl,same,.inr ⟨h0,_,_,_,h1,.inl ⟨he,rfl,rfl⟩⟩⟩
 subst he
 rw[show decide ((0:Int)=0)=true from rfl]
 simp only[bd,ao]
 have act:B6 k r s a m t o:=.inr ⟨h0,_,_,_,h1,.inr ⟨rfl,rfl,rfl⟩⟩
 by_cases h9:m.1.1=9
 ·rw[ai h9]
  have eq:=hq _ _ _ _ _ h1 h9
  have QV:B6 k r s a m s o:=.inr ⟨h0,_,_,_,h1,.inr ⟨rfl,eq,rfl⟩⟩
  exact⟨s,_,L,D,rfl,same,QV⟩
 rw[aj h9]
 simp only[ao]
 obtain⟨c,OX,ux⟩:=vC0 (k:=k) (by omega) a m.1
 rw[OX]
 simp only[an]
 have BW:∃D1,w9 k L D c=some (0,(L.1,L.2.1,zA (L.2.2.1+1),L.2.2.2),D1)∧nM D1∧D1.1=200000∧(wK D1 0).length≤20000+100*(N+1)∧(wK D1 1).length≤20000+100*(N+1):=by
  have hs:=ht.side
  have iz:(wK D L.1).length≤20000+100*N∧(wK D (1-L.1)).length≤20000+100*N:=by
   rcases hs with e|e<;>rw[e]
   ·exact⟨hx,hy⟩
   ·exact⟨hy,hx⟩
  rcases yZr (k:=k) hc (ht.takes (by omega)) (b:=c) (by omega) with⟨g1,_⟩|⟨_,D1,g1,g2,g3,g4,g5⟩
  ·omega
  ·refine⟨D1,g1,g2,g3.trans sO,?_⟩
   exact yLx hs (by rw[g4,List.length_append,FO];omega) (by rw[g5];omega)
 obtain⟨D1,g1,g2,g3,g4,g5⟩:=BW
 have hkp:JT k (iS r s ev) L D c=some (0,iS r s ev,(L.1,L.2.1,zA (L.2.2.1+1),L.2.2.2),D1):=by
  unfold JT
  rw[g1]
  rfl
 have hrw:=ht.rows
 have iY:=ht.gen
 have wr:zA (L.2.2.1+1)=L.2.2.1+1:=yA (by omega) (by omega)
 have tk1:Tk (L.1,L.2.1,zA (L.2.2.1+1),L.2.2.2) (N+1):=⟨ht.side,⟨iY.1,by show L.2.1≤_;omega⟩,by show 0≤zA (L.2.2.1+1)∧zA (L.2.2.1+1)≤_;rw[wr];omega,ht.stale⟩
 rw[hkp]
 simp only[an,decide_true,aq]
 show∃t o L' D',(JU k (L.1,L.2.1,zA (L.2.2.1+1),L.2.2.2) D1).bind _=_∧_
 rw[show JU k (L.1,L.2.1,zA (L.2.2.1+1),L.2.2.2) D1=some (zA (L.2.2.1+1),(L.1,L.2.1,zA (L.2.2.1+1),L.2.2.2),D1) from rfl]
 simp only[an]
 cases decide (zA (L.2.2.1+1)≥(iS r s ev).2.2.2.2.2.2.2.2.2.2.2.2.2.2.2.2.1) with
 |false=>exact⟨t,o,_,D1,rfl,⟨rfl,h2,g2,g3,g4,g5,tk1⟩,act⟩
 |true=>
  obtain⟨q,q1,_,q3⟩:=vIe hk hr h2
  simp only[aq]
  rw[q1]
  simp only[an]
  obtain⟨D2,p1,p2,p3,p4,p5⟩:=vBd (k:=k) (by omega) g2 (tk1.takes (by omega)) (by show L.2.1<_;omega) (b:=q) (by omega) (by omega)
  rw[p1]
  simp only[an]
  have p4:wK D2 (1-L.1)=rG (o6 (L.2.1+1)++q):=p4
  have p5:wK D2 L.1=wK D1 L.1:=p5
  have hs:=ht.side
  have l4:(wK D2 (1-L.1)).length≤20000+100*(N+1):=by
   rw[p4,FO,List.length_append]
   show 8+q.length+2≤_
   omega
  have l5:(wK D2 L.1).length≤20000+100*(N+1):=by
   rw[p5]
   rcases hs with e|e<;>rw[e]<;>assumption
  have l6:=yLx hs l5 l4
  refine⟨t,o,_,D2,rfl,⟨rfl,h2,p2,p3.trans g3,l6.1,l6.2,?_,⟨by show 1≤L.2.1+1;omega,by show L.2.1+1≤_;omega⟩,⟨Int.le_refl _,by show(0:Int)≤_;omega⟩,rfl⟩,act⟩
  show 1-L.1=0∨1-L.1=1
  omega
end Go.Ab.Gi
namespace Go.Ab.Gi
open Go.Ab Go.RowKit
theorem vB7 {k:Nat}{o:List ld}(hk:o.length<k)(ho:o.length≤1000000):∃b,B7 k o=some b∧(b=false↔∀x∈o,x.2.1≠16):=by
 obtain⟨e,h⟩:∃e,e=qK (fun i=> !decide ((o.getD i (0,0,0,0,0,0,0,0)).2.1=16)) o.length 0:=⟨_,rfl⟩
 have key:∀(c:Nat) (n i:Nat),i+c=o.length→c<n→∃x,FQ k n o (o.length:Int) (i:Int)=some x∧((∃j:Nat,x=.inr (j:Int)∧∃y∈o,y.2.1=16)∨(x=.inl ()∧∀j,i≤j→j<o.length→(o.getD j (0,0,0,0,0,0,0,0)).2.1≠16)):=by
  intro c
  induction c with
  |zero=>
   intro n i h1 h2
   obtain⟨n,rfl⟩:∃m,n=m+1:=⟨n-1,by omega⟩
   refine⟨.inl (),?_,.inr ⟨rfl,fun j h3 h4=>by omega⟩⟩
   show tI k _ o _ _=_
   unfold tI
   rw[aj (by omega)]
   rfl
  |succ c ih=>
   intro n i h1 h2
   obtain⟨n,rfl⟩:∃m,n=m+1:=⟨n-1,by omega⟩
   have hi:i<o.length:=by omega
   by_cases e:(o.getD i (0,0,0,0,0,0,0,0)).2.1=16
   ·refine⟨.inr (i:Int),?_,.inl ⟨i,rfl,_,wY hi,e⟩⟩
    show tI k _ o _ _=_
    unfold tI JV
    rw[ai (by omega),fK (by omega) (by omega),aN,ai e]
    rfl
   ·obtain⟨x,g1,g2⟩:=ih n (i+1) (by omega) (by omega)
    refine⟨x,?_,?_⟩
    ·show tI k _ o _ _=_
     unfold tI JV
     rw[ai (by omega),fK (by omega) (by omega),aN,aj e,qY hi (by omega)]
     exact g1
    ·rcases g2 with g|⟨rfl,g⟩
     ·exact .inl g
     ·refine .inr ⟨rfl,fun j h3 h4=>?_⟩
      rcases Nat.lt_or_ge i j with h|h
      ·exact g j h h4
      ·have:j=i:=by omega
       rw[this];exact e
 obtain⟨x,g1,g2⟩:=key o.length k 0 (by omega) hk
 unfold B7 QW QX
 have g1:FQ k k o (o.length:Int) 0=some x:=g1
 rw[g1]
 rcases g2 with⟨j,rfl,y,hy,e⟩|⟨rfl,g⟩
 ·refine⟨true,?_,fun e'=>(by cases e'),fun h'=>absurd e (h' y hy)⟩
  show some (decide ((j:Int)≥0))=_
  rw[ai (by omega)]
 ·refine⟨false,rfl,fun _ y hy=>?_,fun _=>rfl⟩
  obtain⟨j,hj,e⟩:=List.mem_iff_getElem.1 hy
  have:=g j (Nat.zero_le _) hj
  rw[List.getD_eq_getElem?_getD,List.getElem?_eq_getElem hj] at this
  rw[←e]
  exact this
theorem yCt (k n:Nat)(z):xc k (n+1) z=w4 k (xc k n) z:=rfl
def B8 (m:td×Int)(x:Bool)(a:Int):List ld:=bif decide (m.2=0)&& !x then[(a,m.1)] else[]
section
variable {k:Nat} {rec:FJ} {ev n i:Int} {bL:List o0} {R:QO} {c c2:JJ} {D:fR} {G:rD} {L:lf} {outs:List (List ld)} {asked:List ld}
theorem vDt {a:Int}{b:List Int}{e:Int×Int}{o:List ld}{G':rD}{L':lf}{D':fR}{m:td×Int}{x:Bool}(hi:i<n)(h0:0≤i)(hl:i<bL.length)(ha:bL.getD i.toNat d0=(1,a,b,e))
  (hdo:FP k G L D a b=some (o,G',L',D')) (hm:lQ k b=some m) (hx:B7 k o=some x) (hd:xa k G' L' D'=some (false,G',L',D')) (ho:outs.length≤1000000) (hq:asked.length≤1000000):
  w4 k rec (.inl (zI ev bL n i R c D G L c2 outs asked))=rec (.inl (zI ev bL n (zA (i+1)) R c D' G' L' c2 (outs++[o]) (asked++B8 m x a))):=by
 have r1:zX (asked.length+1) 64=true:=yF (by omega) (by omega)
 have hz:((D.1,D.2.1,D.2.2.1,D.2.2.2.1,D.2.2.2.2):fR)=D:=rfl
 have hz':((D'.1,D'.2.1,D'.2.2.1,D'.2.2.2.1,D'.2.2.2.2):fR)=D':=rfl
 unfold w4 B8
 dsimp only[zI]
 rw[ai hi,aq,fK h0 hl,aq]
 rw[show List.getD bL i.toNat (0,0,[],0,0)=(1,a,b,e) from ha]
 dsimp only
 rw[ai rfl,aq,hdo,an,hm,an]
 cases decide (m.2=0) with
 |false=>
  simp only[ao,Bool.false_and,List.append_nil]
  rw[JK ho,aq]
 |true=>
  simp only[aq,Bool.true_and]
  rw[hx,an]
  cases x with
  |true=>
   simp only[bd,ao,List.append_nil]
   rw[JK ho,aq]
  |false=>
   simp only[eC,aq]
   cases decide ((o.length:Int)>0) with
   |true=>
    simp only[aq]
    rw[r1,aq,JK ho,aq]
   |false=>
    simp only[ao]
    rw[hd,an]
    simp only[eC,aq]
    rw[r1,aq,JK ho,aq]
end
def JW:fR:=(200000,[],0,[],0,0,0,false,false,0)
def tJ (k:Nat)(r:qN):fR:=match o9 k r JW 1 with
 |some (.inl x)=>x.2.1
 |_=>JW
structure JX (k:Nat) (r:qN):Prop where
 new:QY k 200000=some (.inl JW)
 is:∀ev,1≤ev→ev≤1000→o9 k r JW ev=some (.inl (0,tJ k r,iS r (fu r) ev,(0,1,0,false)))
 calm:(!(tJ k r).2.2.2.2.2.2.2.1&& !(tJ k r).2.2.2.2.2.2.2.2.1&&decide ((tJ k r).1=200000)&&decide ((tJ k r).2.1.length≤20000)&&decide ((tJ k r).2.2.2.1.length≤20000))=true
theorem JX.roomy {k:Nat}{r:qN}(h:JX k r)(w:wz r)(ev:Int):nN r ev 0 (fu r) (iS r (fu r) ev) (0,1,0,false) (tJ k r):=by
 have c:=h.calm
 simp only[bU,Bool.not_eq_true',bN] at c
 obtain⟨⟨⟨⟨c1,c2⟩,c3⟩,c4⟩,c5⟩:=c
 exact⟨rfl,w.inv,⟨c1,c2,by omega,by omega,by omega⟩,c3,c4,c5,⟨.inl rfl,by decide,by decide,rfl⟩⟩
theorem vEc {k:Nat}(hk:1001≤k){r:qN}(w:wz r)(mU:JX k r)(hd:QU k r)(hq:∀s c u o e,jm k r (qF.st s) c=some (u,o,e)→c.2.1=9→u=s.st){ev:Int}(aO:1≤ev∧ev≤1000)
  (bL:List o0) (hl:bL.length≤200) (FR:∀a∈bL,a.1=1) (FT:∀a∈bL,∃m,lQ k a.2.2.1=some m) (QZ:∀s,yN r s→∀c u o e,jm k r (qF.st s) c=some (u,o,e)→o.length≤300)
  (I:Nat→qF→List (List ld)→List ld→Prop) (h0:I 0 (fu r) [] [])
  (hI:∀i s os q t o m x,i<bL.length→I i s os q→yN r s→lQ k (bL.getD i d0).2.2.1=some m→B6 k r s (bL.getD i d0).2.1 m t o→(x=false↔∀y∈o,y.2.1≠16)→I (i+1) t (os++[o]) (q++B8 m x (bL.getD i d0).2.1)):
  ∃s os q,B9 k r 200000 ev bL=some (os,q,s.t,s.B.1,s.B.2.1,s.B.2.2.1,s.B.2.2.2,s.pr,s.ho,s.m,s.ids,s.to,s.ov,true)∧yN r s∧I bL.length s os q:=by
 obtain⟨x,h1,h2⟩:=vY (L:=fun n i (x:qF×rD×lf×fR×List (List ld)×List ld)=>xc k n (.inl (zI ev bL (bL.length:Int) i r (0,0,false,false) x.2.2.2.1 x.2.1 x.2.2.1 (0,0,false,false) x.2.2.2.2.1 x.2.2.2.2.2))) (N:=bL.length)
  (fun x=>.inr ((0,0,false,false),x.2.1,x.2.2.1,(x.2.2.2.1.1,x.2.2.2.1.2.2.1,x.2.2.2.1.2.2.2.2),x.2.2.2.1.2.1,x.2.2.2.1.2.2.2.1,(0,0,false,false),x.2.2.2.2.1,x.2.2.2.2.2))
  (fun i x => nN r ev i x.1 x.2.1 x.2.2.1 x.2.2.2.1 ∧ I i x.1 x.2.2.2.2.1 x.2.2.2.2.2 ∧ x.2.2.2.2.1.length = i ∧ x.2.2.2.2.2.length ≤ i) (fun n x _=>by
  exact (yCt k n _).trans (yYq (by omega))) (fun n i x hi hx=>by
  obtain⟨s,G,L,D,os,q⟩:=x
  obtain⟨hR,Q0,Q1,hql⟩:=hx
  have hR:nN r ev i s G L D:=hR
  have Q1:os.length=i:=Q1
  have hql:q.length≤i:=hql
  have dC:=wY (d:=d0) hi
  obtain⟨m,hm⟩:=FT _ dC
  have v9:=FR _ dC
  obtain⟨a,ha⟩:∃a,bL.getD i d0=a:=⟨_,rfl⟩
  rw[ha] at hm v9
  obtain⟨t,o,L',D',g1,g2,g3⟩:=yWr hk w.ok hd hq (N:=i) (by omega) hR (a:=a.2.1) (b:=a.2.2.1) hm
  have hol:o.length≤300:=by
   rcases g3 with⟨_,_,rfl⟩|⟨_,u,p,e,p1,⟨_,_,rfl⟩|⟨_,_,rfl⟩⟩
   ·simp
   ·simp
   ·exact QZ s hR.inv _ _ _ _ p1
  obtain⟨x,x1,x2⟩:=vB7 (k:=k) (o:=o) (by omega) (by omega)
  have kL:bL.getD ((i:Nat):Int).toNat d0=(1,a.2.1,a.2.2.1,a.2.2.2):=by
   rw[aN,ha,←v9]
  have hIn:=hI i s os q t o m x hi Q0 hR.inv (by rw[ha];exact hm) (by rw[ha];exact g3) x2
  rw[ha] at hIn
  refine⟨(t,iS r t ev,L',D',os++[o],q++B8 m x a.2.1),?_,g2,hIn,?_,?_⟩
  ·refine(yCt k n _).trans ?_
   refine(vDt (k:=k) (n:=(bL.length:Int)) (i:=(i:Int)) (by omega) (by omega) (by omega) kL g1 hm x1 rfl (by omega) (by omega)).trans ?_
   rw[qY hi (by omega)]
  ·show(os++[o]).length=i+1
   rw[List.length_append,Q1];rfl
  ·show(q++B8 m x a.2.1).length≤i+1
   rw[List.length_append]
   unfold B8
   cases(decide (m.2=0)&& !x)
   ·simp;omega
   ·simp;omega) (n:=k) (s:=(fu r,iS r (fu r) ev,(0,1,0,false),tJ k r,[],[])) (by omega) ⟨mU.roomy w ev,h0,rfl,Nat.le_refl 0⟩
 obtain⟨s,G,L,D,os,q⟩:=x
 obtain⟨hR,Q0,_,_⟩:=h2
 have hg:G=iS r s ev:=hR.g
 subst hg
 refine⟨s,os,q,?_,hR.inv,Q0⟩
 unfold B9
 rw[mU.new,an]
 dsimp only
 rw[mU.is ev aO.1 aO.2,an]
 dsimp only
 rw[ai rfl,bd,ao]
 refine(congrArg (fun z=>Option.bind z _) h1).trans ?_
 rfl
end Go.Ab.Gi
namespace Go.Ab.Gi
open Go.Ab Go.RowKit
theorem yX4 {k:Nat}{r:qN}{s u:Jk}{c:mC}{o:List qU}{e:Int}(h:jm k r s c=some (u,o,e))(h9:c.2.1=9):u=s:=by
 unfold jm at h
 cases hm:tC k r s c with
 |none=>rw[hm] at h;cases h
 |some x=>
  rw[hm,an] at h
  cases hx:decide (x=0) with
  |false=>
   rw[hx] at h
   exact(Prod.mk.inj (Option.some.inj h)).1.symm
  |true=>
   rw[hx,ai h9] at h
   simp only[bd,ao,aq] at h
   cases hq:FG k s c.1 with
   |none=>rw[hq] at h;cases h
   |some y=>
    rw[hq] at h
    exact(Prod.mk.inj (Option.some.inj h)).1.symm
theorem yXv {s t:qF}(h:s.st=t.st):s=t:=by
 obtain⟨a,⟨b1,b2,b3,b4⟩,c,d,e,f,g,i⟩:=s
 obtain⟨a',⟨b1',b2',b3',b4'⟩,c',d',e',f',g',i'⟩:=t
 unfold qF.st at h
 simp only[Prod.mk.injEq] at h
 obtain⟨rfl,rfl,rfl,rfl,rfl,rfl,rfl,rfl,rfl,rfl,rfl⟩:=h
 rfl
theorem ySv {k:Nat}(hk:1000≤k){r:qN}(hr:fm r):QU k r:=fun s hs c=>by
 obtain⟨t,o,e,h1,h2⟩:=JF hk hr hs c
 exact⟨t,o,e,h1,h2.inv,fun h=>(h2.bad h).1⟩
def No (o:List qU):Prop:=∀x∈o,x.2.1≠23
theorem No.append {a b:List qU}(h:No a)(g:No b):No (a++b):=fun x hx=>(List.mem_append.1 hx).elim (h x) (g x)
theorem Kd.no {o:List qU}(h:Kd o):No o:=fun x hx=>(h x hx).2
def nO (s:qF)(o:List qU):Prop:=(s.ov=false∧No o)∨(s.ov=true∧∃l w,o=l++gp s.B s.B.1.length++w∧No l∧No w)
theorem nO.no {s:qF}{o w:List qU}(h:nO s o)(hw:No w):nO s (o++w):=by
 rcases h with⟨h1,h2⟩|⟨h1,l,v,rfl,h2,h3⟩
 ·exact .inl ⟨h1,h2.append hw⟩
 ·exact .inr ⟨h1,l,v++w,by simp only[List.append_assoc],h2,h3.append hw⟩
theorem nO.step {k:Nat}{r:qN}{s t:qF}{o w:List qU}{c:mC}{e:Int}(h:nO s o)(d:FH k r s c t w e):nO t (o++w):=by
 rcases h with⟨h1,h2⟩|⟨h1,h2⟩
 ·rcases d.kd with⟨d1,d2⟩|⟨_,d2,l,rfl,d3⟩
  ·exact .inl ⟨d2.trans h1,h2.append d1.no⟩
  ·exact .inr ⟨d2,o++l,[],by simp only[List.append_assoc,List.append_nil],h2.append d3.no,fun x hx=>absurd hx List.not_mem_nil⟩
 ·have e:=d.done h1
  subst e
  rcases d.kd with⟨d1,_⟩|⟨d1,_⟩
  ·exact nO.no (.inr ⟨h1,h2⟩) d1.no
  ·rw[d1] at h1;cases h1
theorem oZ.err {r:qN}{n:Nat}{s:qF}{o:List qU}(h:oZ r n s o)(a e:Int):oZ r (n+1) s (o++[(a,16,e,0,0,0,0,0)]):=by
 have z:∀id,jG [((a,16,e,0,0,0,0,0):qU)] id:=Jx (by simp)
 refine⟨h.inv,?_,fun id x=>(h.wait id x).append (z id),fun id x y=>QJ (h.done id x y) (z id),fun id x=>(h.none id x).append (z id)⟩
 have:=h.few
 rw[List.length_append,List.length_singleton]
 omega
theorem yD1 (a e:Int):No [((a,16,e,0,0,0,0,0):qU)]:=fun x hx=>by rw[List.mem_singleton.1 hx];simp
theorem yVv {k:Nat}(hk:1000≤k){r:qN}(hr:fm r){n:Nat}{s t:qF}{o w:List qU}(h:oZ r n s o)(g:nO s o){a:Int}{m:td×Int}(ha:B6 k r s a m t w):
  oZ r (n+1) t (o++w)∧nO t (o++w)∧w.length≤100:=by
 rcases ha with⟨_,rfl,rfl⟩|⟨_,u,p,e,p1,⟨_,rfl,rfl⟩|⟨he,p2,rfl⟩⟩
 ·exact⟨h.err _ _,g.no (yD1 _ _),by simp⟩
 ·exact⟨h.err _ _,g.no (yD1 _ _),by simp⟩
 ·obtain⟨t',o',e',h1,h2⟩:=JF hk hr h.inv (a,m.1)
  have:=h1.symm.trans p1
  simp only[Option.some.injEq,Prod.mk.injEq] at this
  obtain⟨q1,rfl,rfl⟩:=this
  obtain rfl:=yXv (q1.trans p2)
  exact⟨h.step h2,g.step h2,h2.few⟩
def pb:o0:=(1,-1,[14],0,0)
theorem vF7 {k:Nat}(hk:1000≤k)(hm:nK k rC.2=some true){r:qN}(hr:fm r){s t:qF}{w:List qU}(h:yN r s)(ha:B6 k r s (-1) ((14,0,0,0,0,0,0),0) t w){j:Int}(hj:s.ov=true∨j≤s.t):t.ov=true∨j+1≤t.t:=by
 obtain⟨x,x1,x2,x3⟩:=vFa hk hm hr h
 obtain⟨t',o',e',h1,h2⟩:=JF hk hr h rC
 have ex:x=(t'.st,o',e'):=Option.some.inj (x1.symm.trans h1)
 rcases ha with⟨q,_⟩|⟨_,u,p,e,p1,pp⟩
 ·exact absurd rfl q
 have p1:jm k r s.st rC=some (u,p,e):=p1
 have eu:x=(u,p,e):=Option.some.inj (x1.symm.trans p1)
 cases hs:s.ov with
 |true=>
  have e1:=x2 hs
  rw[eu] at e1
  simp only[Prod.mk.injEq] at e1
  rcases pp with⟨_,rfl,_⟩|⟨q,_⟩
  ·exact .inl hs
  ·omega
 |false=>
  have e1:=x3 hs
  rw[eu] at e1
  have e1:u.1=s.t+1:=e1
  have hj:j≤s.t:=by
   rcases hj with q|q
   ·rw[hs] at q;cases q
   ·exact q
  rcases pp with⟨q,rfl,_⟩|⟨_,q,_⟩
  ·rw[ex] at eu
   simp only[Prod.mk.injEq] at eu
   obtain⟨q1,_,rfl⟩:=eu
   have:=(h2.bad q).1
   subst this
   rw[←q1] at e1
   have:t'.t=t'.t+1:=e1
   omega
  ·rw[q] at e1
   have:t.t=s.t+1:=e1
   right
   omega
theorem yUj {k:Nat}(hk:10≤k)(c:mC):∃b,pc k c=some (1,c.1,b,0,0)∧b.length≤49:=by
 obtain⟨b,h1,h2⟩:=vGv hk c.2
 unfold pc
 rw[h1]
 exact⟨b,rfl,h2⟩
def Q2 (A:List o0):Prop:=∀a∈A,a.1=1∧a.2.2.1.length≤49
theorem vBa {k:Nat}(hk:1000≤k)(l:List mC)(hl:l.length≤200)(b0:Int×Int×Int×Int)(r1:List (Int×Int)):
  ∃A,Ca k k l 0 b0 r1 []=some (b0,r1,A)∧A.length=l.length∧Q2 A:=by
 obtain ⟨A, h1, h2, h3⟩ := vY (L := fun n i (A : List o0) => Ca k n l i b0 r1 A) (N := l.length) (fun A => (b0, r1, A)) (fun i A => A.length = i ∧ Q2 A) (fun n A _=>by
  show Cb k _ l (l.length:Int) b0 r1 A=_
  unfold Cb
  rw[aj (Int.lt_irrefl _)]
  rfl) (fun n i A hi hA=>by
  obtain⟨b,g1,g2⟩:=yUj (k:=k) (by omega) (l.getD i (0,0,0,0,0,0,0,0))
  have Q3:=hA.1
  refine⟨A++[(1,(l.getD i (0,0,0,0,0,0,0,0)).1,b,0,0)],?_,by rw[List.length_append,Q3];rfl,fun a ha=>?_⟩
  ·show Cb k (Ca k n) l (i:Int) b0 r1 A=_
   unfold Cb
   rw[ai (show(i:Int)<l.length by omega),qZ,ai hi,aN,g1]
   simp only[aq,an]
   rw[yF (by omega) (by omega),qY hi (by omega)]
   rfl
  ·rcases List.mem_append.1 ha with ha|ha
   ·exact hA.2 a ha
   ·rw[List.mem_singleton.1 ha];exact⟨rfl,g2⟩) (n:=k) (s:=[]) (by omega) ⟨rfl,fun a ha=>absurd ha List.not_mem_nil⟩
 exact⟨A,h1,h2,h3⟩
theorem yS7 {k:Nat}(hk:1000≤k)(hc:(tK k (-1) 14 []).bind (fun x2=>pc k x2)=some pb)(A:List o0)(hl:A.length≤200)(b0:Int×Int×Int×Int)(r1:List (Int×Int)):
  xd k k 0 b0 r1 A=some (b0,r1,A++List.replicate 21 pb):=by
 cases qn:tK k (-1) 14 [] with
 |none=>rw[qn] at hc;cases hc
 |some x2=>
 rw[qn,an] at hc
 obtain ⟨B, h1, h2⟩ := vY (L := fun n i (B : List o0) => xd k n i b0 r1 B) (N := 21) (fun B => (b0, r1, B)) (fun i B => B = A ++ List.replicate i pb) (fun n B _=>by
  show Cc k (xd k n) 21 b0 r1 B=_
  unfold Cc
  rw[aj (Int.lt_irrefl _)]
  rfl) (fun n i B hi hB=>by
  refine⟨B++[pb],?_,by rw[hB,List.append_assoc,List.replicate_succ']⟩
  have ZD:B.length=A.length+i:=by rw[hB,List.length_append,List.length_replicate]
  show Cc k (xd k n) (i:Int) b0 r1 B=_
  unfold Cc
  rw[ai (show(i:Int)<21 by omega),aq,qn,an,hc,an,yF (by omega) (by omega),qY hi (by omega)]
  rfl) (n:=k) (s:=A) (by omega) (by simp)
 rw[←h2]
 exact h1
def lY (o:List qU)(j:Nat):Nat:=o.countP fun x=>decide (x.2.1=23)&&decide (x.1=(j:Int))
theorem Q4 (a b:List qU)(j:Nat):lY (a++b) j=lY a j+lY b j:=List.countP_append
theorem yNh {o:List qU}(h:No o)(j:Nat):lY o j=0:=List.countP_eq_zero.2 fun x hx=>by rw[aj (h x hx)];simp
theorem vJt (o:List qU)(i:Nat)(hi:i<o.length)(j:Nat):lY (o.take (i+1)) j=lY (o.take i) j+(bif decide ((o.getD i ow).2.1=23)&&decide ((o.getD i ow).1=(j:Int)) then 1 else 0):=by
 rw[←jK o i ow hi,Q4]
 unfold lY
 rw[List.countP_singleton]
 cases decide ((o.getD i ow).2.1=23)&&decide ((o.getD i ow).1=(j:Int))<;>rfl
theorem vAx (B:BT)(n j:Nat):lY (gp B n) j=if j<n then 1 else 0:=by
 unfold lY gp
 rw[List.countP_map]
 induction n with
 |zero=>simp
 |succ n ih=>
  rw[List.range_succ,List.countP_append,ih,List.countP_singleton]
  show(if j<n then 1 else 0)+(if(decide ((23:Int)=23)&&decide ((n:Int)=(j:Int)))=true then 1 else 0)=_
  by_cases h:j=n
  ·subst h;simp
  ·rw[aj (show¬(n:Int)=(j:Int) by omega)]
   by_cases h':j<n
   ·rw[if_pos h',if_pos (show j<n+1 by omega)];rfl
   ·rw[if_neg h',if_neg (show¬j<n+1 by omega)];rfl
theorem vBu {k:Nat}{s:qF}{o:List qU}(hk:o.length<k)(ho:o.length≤1000000)(hn:1≤s.B.1.length)(h:∀x∈o,x.2.1=23→0≤x.1∧x.1<s.B.1.length∧x.2.2.1=(s.B.1.getD x.1.toNat ad).1)
  (b0:Int×Int×Int×Int) (hb:b0.1=(s.B.1.length:Int)) (r1:List (Int×Int)) (b2:Jk×Bool) (hb2:b2.1=s.st) (r3:List (List qU)) (r4:List qU):
  ∃c,xe k k 0 b0 r1 (s.t,s.B.1,s.B.2.1,s.B.2.2.1,s.B.2.2.2,s.pr,s.ho,s.m,s.ids,s.to,s.ov,true) r3 r4 o (List.replicate s.B.1.length 0)=some (.inl (b0,r1,(s.t,s.B.1,s.B.2.1,s.B.2.2.1,s.B.2.2.2,s.pr,s.ho,s.m,s.ids,s.to,s.ov,true),r3,r4,o,c))∧
   c.length=s.B.1.length∧∀j,j<s.B.1.length→c.getD j 0=(lY o j:Int):=by
 obtain⟨c,h1,h2,h3⟩:=vY (L:=fun n i (c:List Int)=>xe k n i b0 r1 (s.t,s.B.1,s.B.2.1,s.B.2.2.1,s.B.2.2.2,s.pr,s.ho,s.m,s.ids,s.to,s.ov,true) r3 r4 o c) (N:=o.length)
  (fun c => .inl (b0, r1, (s.t, s.B.1, s.B.2.1, s.B.2.2.1, s.B.2.2.2, s.pr, s.ho, s.m, s.ids, s.to, s.ov, true), r3, r4, o, c)) (fun i c => c.length = s.B.1.length ∧ ∀ j, j < s.B.1.length → c.getD j 0 = (lY (o.take i) j : Int)) (fun n c _=>by
  show xf k _ (o.length:Int) b0 r1 _ r3 r4 o c=_
  unfold xf
  rw[aj (Int.lt_irrefl _)]
  rfl) (fun n i c hi hc=>by
  have Ed:zE (i:Int) o.length=true:=fK (by omega) (by omega)
  have hx:=h _ (wY (d:=ow) hi)
  have A9:=vJt o i hi
  obtain⟨x,ex⟩:∃x,o.getD i ow=x:=⟨_,rfl⟩
  have ex':o.getD i (0,0,0,0,0,0,0,0)=x:=ex
  rw[ex] at hx A9
  have eA:∀y,xf k (xe k n) (i:Int) b0 r1 (s.t,s.B.1,s.B.2.1,s.B.2.2.1,s.B.2.2.2,s.pr,s.ho,s.m,s.ids,s.to,s.ov,true) r3 r4 o c=y→xe k (n+1) (i:Int) b0 r1 (s.t,s.B.1,s.B.2.1,s.B.2.2.1,s.B.2.2.2,s.pr,s.ho,s.m,s.ids,s.to,s.ov,true) r3 r4 o c=y:=fun y e=>e
  by_cases FU:x.2.1=23
  ·obtain⟨x1,x2,x3⟩:=hx FU
   have JY:lY (o.take i) x.1.toNat≤i:=by
    unfold lY
    exact Nat.le_trans List.countP_le_length (by rw[List.length_take];omega)
   have hcg:=hc.2 x.1.toNat (by omega)
   refine⟨c.set x.1.toNat (zA (c.getD x.1.toNat 0+1)),eA _ ?_,by rw[List.length_set];exact hc.1,fun j hj=>?_⟩
   ·unfold xf
    rw[ai (show(i:Int)<o.length by omega),Ed,aN,ex',ai FU,aj (show¬x.1<0 by omega),hb,aj (show¬x.1≥(s.B.1.length:Int) by omega),
     fK (n:=s.B.1.length) x1 (by omega),fK (n:=c.length) x1 (by rw[hc.1];omega),qY hi (by omega)]
    have e3:decide (x.2.2.1=(s.B.1.getD x.1.toNat (0,0,0)).1)=true:=ai x3
    rw[e3]
    rfl
   ·rw[wJ,A9 j,ai FU,Bool.true_and]
    by_cases fe:x.1.toNat=j
    ·subst fe
     rw[if_pos ⟨rfl,by rw[hc.1];omega⟩,hcg,ai (show x.1=((x.1.toNat:Nat):Int) by omega),yA (by omega) (by omega)]
     rfl
    ·rw[if_neg (fun e=>fe e.1),aj (show¬x.1=(j:Int) by omega)]
     exact hc.2 j hj
  ·refine⟨c,eA _ ?_,hc.1,fun j hj=>?_⟩
   ·unfold xf
    rw[ai (show(i:Int)<o.length by omega),Ed,aN,ex',aj FU,qY hi (by omega)]
    rfl
   ·rw[A9 j,aj FU]
    exact hc.2 j hj) (n:=k) (s:=List.replicate s.B.1.length 0) (by omega) ⟨List.length_replicate,fun j hj=>by
   rw[List.getD_eq_getElem?_getD,List.getElem?_replicate]
   split<;>rfl⟩
 rw[List.take_length] at h3
 exact⟨c,h1,h2,h3⟩
theorem yZq {k n:Nat}(hk:n<k)(hn:n≤1000){c:List Int}(hc:c.length=n)(h:∀j,j<n→c.getD j 0=1)(b0:Int×Int×Int×Int)(hb:b0.1=(n:Int))(r1:List (Int×Int))(b2)(r3:List (List qU))(r4 o:List qU):
  FV k k 0 b0 r1 b2 r3 r4 o c=some (.inl (b2,r3,r4,o)):=by
 have := oN (L := fun m i => FV k m i b0 r1 b2 r3 r4 o c) (N := n) (fun i => true) (.inl (b2, r3, r4, o)) (.inr false) (fun m=>by
  show Cd k _ n b0 r1 b2 r3 r4 o c=_
  unfold Cd
  rw[hb,aj (Int.lt_irrefl _)]
  rfl) (fun m i hi=>by
  show Cd k _ i b0 r1 b2 r3 r4 o c=_
  unfold Cd
  rw[hb,ai (show(i:Int)<n by omega),fK (by omega) (by omega),aN,h i hi,qY hi (by omega)]
  rfl) (n:=k) (by omega)
 rw[show qK (fun _=>true) n 0=true from gY.2 fun _ _=>rfl] at this
 exact this
theorem vF0 {k:Nat}{os:List (List qU)}(hk:os.length<k)(hn:os.length≤1000)(hl:∀o∈os,o.length≤100)(b0:Int×Int×Int×Int)(r1:List (Int×Int))(b2)(r4:List qU)(c:List Int):
  Ce k k 0 b0 r1 b2 os r4 [] c=some (b0,r1,b2,os,r4,os.flatten,c):=by
 obtain ⟨o, h1, h2, _⟩ := vY (L := fun n i (o : List qU) => Ce k n i b0 r1 b2 os r4 o c) (N := os.length) (fun o => (b0, r1, b2, os, r4, o, c)) (fun i o => o = (os.take i).flatten ∧ o.length ≤ 100 * i) (fun n o _=>by
  show Cf k _ (os.length:Int) b0 r1 b2 os r4 o c=_
  unfold Cf
  rw[aj (Int.lt_irrefl _)]
  rfl) (fun n i o hi ho=>by
  have hx:=hl _ (wY (d:=[]) hi)
  have tw:=ho.2
  refine⟨o++os.getD i [],?_,by rw[ho.1,←jK os i [] hi];simp,by rw[List.length_append];omega⟩
  show Cf k (Ce k n) (i:Int) b0 r1 b2 os r4 o c=_
  unfold Cf
  rw[ai (show(i:Int)<os.length by omega),fK (by omega) (by omega),aN,yF (by omega) (by omega),qY hi (by omega)]
  rfl) (n:=k) (s:=[]) (by omega) ⟨rfl,by simp⟩
 rw[List.take_length] at h2
 rw[←h2]
 exact h1
theorem vBf {r:qN}(h:r=r0∨r=r1∨r=r2∨r=r3):JX 20000 r:=by
 rcases h with rfl|rfl|rfl|rfl
 ·exact⟨by kernel_rfl,fun ev h1 h2=>by
   unfold o9
   rw[show xg 20000 r0=some true by kernel_rfl,an,bd,ao,aj (show¬ev<1 by omega),ao,aj (show¬ev>1000 by omega),ao]
   kernel_rfl,by kernel_rfl⟩
 ·exact⟨by kernel_rfl,fun ev h1 h2=>by
   unfold o9
   rw[show xg 20000 r1=some true by kernel_rfl,an,bd,ao,aj (show¬ev<1 by omega),ao,aj (show¬ev>1000 by omega),ao]
   kernel_rfl,by kernel_rfl⟩
 ·exact⟨by kernel_rfl,fun ev h1 h2=>by
   unfold o9
   rw[show xg 20000 r2=some true by kernel_rfl,an,bd,ao,aj (show¬ev<1 by omega),ao,aj (show¬ev>1000 by omega),ao]
   kernel_rfl,by kernel_rfl⟩
 ·exact⟨by kernel_rfl,fun ev h1 h2=>by
   unfold o9
   rw[show xg 20000 r3=some true by kernel_rfl,an,bd,ao,aj (show¬ev<1 by omega),ao,aj (show¬ev>1000 by omega),ao]
   kernel_rfl,by kernel_rfl⟩
theorem vGu {k:Nat}(a:Int):∃r,FW k a=some r∧wz r∧(r=r0∨r=r1∨r=r2∨r=r3):=by
 unfold FW
 cases decide (gl .i64 a 3=1) with
 |true=>exact⟨r1,rfl,yUp,.inr (.inl rfl)⟩
 |false=>
  cases decide (gl .i64 a 3=2) with
  |true=>exact⟨r2,rfl,vMh,.inr (.inr (.inl rfl))⟩
  |false=>
   cases decide (gl .i64 a 3=3) with
   |true=>exact⟨r3,rfl,vBo,.inr (.inr (.inr rfl))⟩
   |false=>exact⟨r0,rfl,vGa,.inl rfl⟩
theorem yX8 (a:Int)(l:List mC):JZ 20000 a l=some true:=by
 unfold JZ
 by_cases hl:(l.length:Int)>80
 ·rw[ai hl];rfl
 rw[aj hl]
 obtain⟨r,hr,w,hw⟩:=vGu (k:=20000) a
 simp only[ao]
 rw[hr]
 simp only[an]
 obtain⟨A,a1,a2,a3⟩:=vBa (k:=20000) (by decide) l (by omega) (r.1,r.2.2) r.2.1
 rw[a1]
 simp only[an]
 rw[yS7 (k:=20000) (by decide) (by kernel_rfl) A (by omega)]
 simp only[an]
 have nP:Q2 (A++List.replicate 21 pb):=fun x hx=>by
  rcases List.mem_append.1 hx with hx|hx
  ·exact a3 x hx
  ·rw[(List.mem_replicate.1 hx).2];exact⟨rfl,by decide⟩
 have hlen:(A++List.replicate 21 pb).length=A.length+21:=by rw[List.length_append,List.length_replicate]
 have hm:nK 20000 rC.2=some true:=by kernel_rfl
 have ee:Iq [14]=((14,0,0,0,0,0,0),0):=by kernel_rfl
 have h0:oZ r 0 (fu r) []:=⟨w.inv,Nat.zero_le _,fun id _=>nI id,fun id h _=>absurd h List.not_mem_nil,fun id _=>nI id⟩
 have hj0 : ∀ j : Nat, A.length + j = 0 → (fu r).ov = true ∨ (j : Int) ≤ (fu r).t := fun j hj => .inr (by
  rw[show j=0 by omega]
  exact w.inv.tk.1)
 have c0:nO (fu r) []:=.inl ⟨rfl,fun x hx=>absurd hx List.not_mem_nil⟩
 obtain⟨s,os,q,p1,p2,p3,p4,p5,p6,p7⟩:=vEc (k:=20000) (by decide) w (vBf hw) (ySv (by decide) w.ok) (fun s c u o e h h9=>yX4 h h9) (ev:=15) (by decide) (A++List.replicate 21 pb) (by omega) (fun x hx=>(nP x hx).1)
  (fun x hx=>⟨_,Z5 (by decide) (by have:=(nP x hx).2;omega) (by have:=(nP x hx).2;omega)⟩)
  (fun s hs c u o e h=>by
   obtain⟨t,o',e',h1,h2⟩:=JF (k:=20000) (by decide) w.ok hs c
   have:=h1.symm.trans h
   simp only[Option.some.injEq,Prod.mk.injEq] at this
   rw[←this.2.1]
   have:=h2.few
   omega)
  (fun i s os _=>oZ r i s os.flatten∧nO s os.flatten∧os.length=i∧(∀o∈os,o.length≤100)∧∀j:Nat,A.length+j=i→s.ov=true∨(j:Int)≤s.t)
  ⟨h0,c0,rfl,fun o ho=>absurd ho List.not_mem_nil,hj0⟩
  (fun i s os q t o m x hi hI hs hmr ha _=>by
   obtain⟨i1,i2,i3,i4,i5⟩:=hI
   obtain⟨g1,g2,g3⟩:=yVv (k:=20000) (by decide) w.ok i1 i2 ha
   have ef:(os++[o]).flatten=os.flatten++o:=by simp
   refine⟨by rw[ef];exact g1,by rw[ef];exact g2,by rw[List.length_append,i3];rfl,fun p hp=>?_,fun j hj=>?_⟩
   ·rcases List.mem_append.1 hp with hp|hp
    ·exact i4 p hp
    ·rw[List.mem_singleton.1 hp];exact g3
   ·cases j with
    |zero=>exact .inr g1.inv.tk.1
    |succ j=>
     have hA:(A++List.replicate 21 pb).getD i d0=pb:=by
      rw[List.getD_eq_getElem?_getD,List.getElem?_append_right (by omega),List.getElem?_replicate,if_pos (by omega)]
      rfl
     rw[hA] at hmr ha
     have er:lQ 20000 [14]=some (Iq [14]):=Z5 (by decide) (by decide) (by decide)
     have em:m=((14,0,0,0,0,0,0),0):=(Option.some.inj (hmr.symm.trans er)).trans ee
     subst em
     exact vF7 (k:=20000) (by decide) hm w.ok hs ha (i5 j (by omega)))
 have FX:B9 20000 (r.1,r.2.1,r.2.2) 200000 15 (A++List.replicate 21 pb)=_:=p1
 rw[FX]
 simp only[an]
 have hn:=p2.n
 have oV:=p2.bk.n6
 have mq:=p2.bk.n1
 have hpa:=w.ok.pa
 have I4:lL r.1 r.1 8=true:=by
  unfold lL
  simp
  omega
 rw[I4]
 simp only[aq]
 have hf:=p3.few
 rw[vF0 (k:=20000) (by omega) (by omega) p6]
 simp only[an]
 have hrn:List.replicate r.1.toNat (0:Int)=List.replicate s.B.1.length 0:=by rw[←hn];rfl
 rw[hrn]
 have rA:s.ov=true:=by
  rcases p7 21 (by omega) with q|q
  ·exact q
  ·have:=p2.tk
   have:=w.cl
   omega
 obtain⟨l1,l2,ho,n1,n2⟩:∃l w,os.flatten=l++gp s.B s.B.1.length++w∧No l∧No w:=by
  rcases p4 with⟨q,_⟩|⟨_,q⟩
  ·rw[rA] at q;cases q
  ·exact q
 have ux:∀x∈os.flatten,x.2.1=23→0≤x.1∧x.1<s.B.1.length∧x.2.2.1=(s.B.1.getD x.1.toNat ad).1:=fun x hx e=>by
  rw[ho] at hx
  rcases List.mem_append.1 hx with hx|hx
  ·rcases List.mem_append.1 hx with hx|hx
   ·exact absurd e (n1 x hx)
   ·obtain⟨j,hj,rfl⟩:=List.mem_map.1 hx
    have hj:=List.mem_range.1 hj
    exact⟨Int.natCast_nonneg j,Int.ofNat_lt.2 hj,rfl⟩
  ·exact absurd e (n2 x hx)
 obtain⟨c,c1,c2,c3⟩:=vBu (k:=20000) (s:=s) (o:=os.flatten) (by omega) (by omega) mq ux (r.1,r.2.2) hn.symm r.2.1 (s.st,true) rfl os q
 refine(congrArg (fun z=>Option.bind z _) c1).trans ?_
 simp only[an]
 have ca:∀j,j<s.B.1.length→c.getD j 0=1:=fun j hj=>by
  rw[c3 j hj,ho,Q4,Q4,yNh n1,yNh n2,vAx,if_pos hj]
  rfl
 have c4:=yZq (k:=20000) (n:=s.B.1.length) (by omega) (by omega) c2 ca (r.1,r.2.2) hn.symm r.2.1 (s.t,s.B.1,s.B.2.1,s.B.2.2.1,s.B.2.2.2,s.pr,s.ho,s.m,s.ids,s.to,s.ov,true) os q os.flatten
 refine(congrArg (fun z=>Option.bind z _) c4).trans ?_
 simp only[an]
 have Ha:s.m=[]:=p2.none rA
 have aa:=p2.waits.idl
 have once:qK (fun j=>jl os.flatten (s.ids.getD j 0)) s.ids.length 0=true:=gY.2 fun j hj=>p3.done _ (wY hj) (by rw[Ha];rintro⟨p,hp,_⟩;exact absurd hp List.not_mem_nil)
 rw[rA,Ha,vLm (by omega) (by omega) (by omega) (by omega),once]
 have Da:Q5 20000=some true:=by kernel_rfl
 rw[Da]
 rfl
end Go.Ab.Gi
