/- Plain proofs, part 2. -/
import Derived.Test.YthpehdcmpldloaaGreatGiQB
import Derived.Test.YthpehdcmpldloaaGreatGiQA
set_option linter.unusedVariables false
set_option linter.unusedSimpArgs false
set_option maxRecDepth 100000
namespace Go.Ab.Gi
open Go.Ab
def XE (m:wZ)(i:Nat):Int:=[m.2.1,m.2.2.1,m.2.2.2.1,m.2.2.2.2.1,m.2.2.2.2.2.1,m.2.2.2.2.2.2].getD i 0
theorem vZh (x:Int)(m:wZ){n:Nat}(hn:n≤6):xa 1000 1000 x n m=some (bif qG (fun j=>decide (XE m j=0)) (6-n) n then .inl x else .inr false):=
 Ut (L := fun n i => xa 1000 n x i m) (N := 6) (fun j => decide (XE m j = 0)) (.inl x) (.inr false) (fun n => rfl) (fun n i hi=>by
  show XF 1000 (xa 1000 n) x i m=_;have:i=0∨i=1∨i=2∨i=3∨i=4∨i=5:=by omega
  rcases this with rfl|rfl|rfl|rfl|rfl|rfl
  ·show(bif !(decide (m.2.1=0)) then _ else _)=bif decide (m.2.1=0) then _ else _
   cases decide (m.2.1=0)<;>rfl
  ·show(bif !(decide (m.2.2.1=0)) then _ else _)=bif decide (m.2.2.1=0) then _ else _
   cases decide (m.2.2.1=0)<;>rfl
  ·show(bif !(decide (m.2.2.2.1=0)) then _ else _)=bif decide (m.2.2.2.1=0) then _ else _
   cases decide (m.2.2.2.1=0)<;>rfl
  ·show(bif !(decide (m.2.2.2.2.1=0)) then _ else _)=bif decide (m.2.2.2.2.1=0) then _ else _
   cases decide (m.2.2.2.2.1=0)<;>rfl
  ·show(bif !(decide (m.2.2.2.2.2.1=0)) then _ else _)=bif decide (m.2.2.2.2.2.1=0) then _ else _
   cases decide (m.2.2.2.2.2.1=0)<;>rfl
  ·show(bif !(decide (m.2.2.2.2.2.2=0)) then _ else _)=bif decide (m.2.2.2.2.2.2=0) then _ else _
   cases decide (m.2.2.2.2.2.2=0)<;>rfl) (6-n) n 1000 (by omega) (by omega)
theorem lH (m:wZ)(n:Nat)(hn:n≤6)(h1:tv 1000 m.1=some (n:Int))(h2:Df 1000 m.1=some (n:Int)):rQ 1000 m=nr 1000 m:=by
 unfold rQ nr;rw[h1,h2];have e1:wU false (n:Int) 0=(n:Int):=by
  rfl
 simp only[ae];rw[e1,vZh _ m hn,ab (by simp),aa (by simp),aa (by grind),aq];have hl:(qR [m.2.1,m.2.2.1,m.2.2.2.1,m.2.2.2.2.1,m.2.2.2.2.2.1,m.2.2.2.2.2.2] n (6-n)).length=6-n:=by
  unfold qR;simp
 have := mn (L := fun k i => mD 1000 k (qR [m.2.1, m.2.2.1, m.2.2.2.1, m.2.2.2.2.1, m.2.2.2.2.2.1, m.2.2.2.2.2.2] n (6 - n)) ((6 - n : Nat) : Int) i) (N := 6 - n) (fun j => decide ((qR [m.2.1, m.2.2.1, m.2.2.2.1, m.2.2.2.2.1, m.2.2.2.2.2.1, m.2.2.2.2.2.2] n (6 - n)).getD j 0 = 0)) (.inl ()) (.inr false) (fun k=>by
  show oE 1000 (mD 1000 k) _ _ _=_;unfold oE;simp) (fun k i hi=>by
  show oE 1000 (mD 1000 k) _ _ _=_;unfold oE;rw[aa (by grind),qC,hl,aa hi,aq,qE hi (by omega)];simp) (n:=1000) (by omega)
 have h':mD 1000 1000 (qR [m.2.1,m.2.2.1,m.2.2.2.1,m.2.2.2.2.1,m.2.2.2.2.2.1,m.2.2.2.2.2.2] n (6-n)) ((6-n:Nat):Int) 0=_:=this;have ea:qG (fun j=>decide (XE m j=0)) (6-n) n=qG (fun j=>decide ((qR [m.2.1,m.2.2.1,m.2.2.2.1,m.2.2.2.2.1,m.2.2.2.2.2.1,m.2.2.2.2.2.2] n (6-n)).getD j 0=0)) (6-n) 0:=by
  have:n=0∨n=1∨n=2∨n=3∨n=4∨n=5∨n=6:=by omega
  rcases this with rfl|rfl|rfl|rfl|rfl|rfl|rfl<;>rfl
 grind
theorem vPi (kd a b c d e f:Int)(h:1≤kd∧kd≤14):rQ 1000 (kd,a,b,c,d,e,f)=nr 1000 (kd,a,b,c,d,e,f):=by
 have:kd=1∨kd=2∨kd=3∨kd=4∨kd=5∨kd=6∨kd=7∨kd=8∨kd=9∨kd=10∨kd=11∨kd=12∨kd=13∨kd=14:=by omega
 rcases this with rfl|rfl|rfl|rfl|rfl|rfl|rfl|rfl|rfl|rfl|rfl|rfl|rfl|rfl
 ·exact lH _ 6 (by decide) rfl rfl
 ·exact lH _ 1 (by decide) rfl rfl
 ·exact lH _ 2 (by decide) rfl rfl
 ·exact lH _ 2 (by decide) rfl rfl
 ·exact lH _ 2 (by decide) rfl rfl
 ·exact lH _ 1 (by decide) rfl rfl
 ·exact lH _ 1 (by decide) rfl rfl
 ·exact lH _ 2 (by decide) rfl rfl
 ·exact lH _ 0 (by decide) rfl rfl
 ·exact lH _ 2 (by decide) rfl rfl
 ·exact lH _ 2 (by decide) rfl rfl
 ·exact lH _ 2 (by decide) rfl rfl
 ·exact lH _ 0 (by decide) rfl rfl
 ·exact lH _ 0 (by decide) rfl rfl
theorem XG (r:qL)(s:zZ)(c:iC){X:Type}(bad:Int→X)(Q:X):∃e,w9 1000 r s.st c=some e∧
  (e=0→((10≤c.2.1∧c.2.1≤14∧c.1= -1)∨(1≤c.2.1∧c.2.1≤9∧0≤c.1∧c.1<r.1))∧(s.ov=true→c.2.1=9))∧
  ((Bj 1000 r c).bind fun x0=>some (bif !x0 then bad 5 else bif s.ov then(bif !(decide (c.2.1=9)) then bad 7 else Q) else Q))=some (bif decide (e=0) then Q else bad e):=by
 obtain⟨e,he,hm⟩:=vNg (k:=1000) (by decide) r s c;refine⟨e,he,hm,?_⟩;have hA:Pl 1000 c.2.1=some (decide (c.2.1≥1)&&decide (c.2.1≤14)):=by
  unfold Pl;cases decide (c.2.1≥1)<;>rfl
 have hH:Pm 1000 c.2.1=some (decide (c.2.1≥10)&&decide (c.2.1≤14)):=by
  unfold Pm;cases decide (c.2.1≥10)<;>rfl
 by_cases hk:1≤c.2.1∧c.2.1≤14
 ·obtain⟨b,hb⟩:=OG (k:=1000) (by decide) c.2;have bF:rQ 1000 c.2=some b:=(vPi _ _ _ _ _ _ _ hk).trans hb;have eo:s.st.2.2.2.2.2.2.2.2.2.2=s.ov:=rfl;unfold w9 at he;rw[Wt,Wu,hb,eo] at he;simp only[ae] at he;unfold Bj;rw[hA,hH,bF];simp only[ae];clear hm hA hH hb bF;generalize decide (c.1≥0)=A at he⊢;generalize decide (c.2.1≥10)=B at he⊢;generalize decide (c.2.1≤14)=C at he⊢;generalize decide (c.2.1≥1)=D at he⊢;generalize decide (c.1= -1)=E at he⊢;generalize decide (c.1<r.1)=F at he⊢;generalize decide (c.2.1=9)=G at he⊢;generalize s.ov=o at he⊢;cases A<;>cases B<;>cases C<;>cases D<;>cases E<;>cases F<;>cases G<;>cases b<;>cases o<;>(cases he;rfl)
 ·have g:(decide (c.2.1≥1)&&decide (c.2.1≤14))=false:=by
   by_cases a:c.2.1≥1
   ·rw[aa a,ab (fun b=>hk ⟨a,b⟩)];rfl
   ·rw[ab a];rfl
  have e5:e=5:=by
   unfold w9 at he;rw[Wt,Wu,g] at he;simp only[ae] at he;cases hd:decide (c.1≥0)<;>rw[hd] at he<;>(cases he;rfl)
  subst e5;unfold Bj;rw[hA,g];rfl
structure Dlt (r:qL) (s:zZ) (f:wZ) (t:zZ) (l:List yK):Prop where
 inv:yE r t
 ov:t.ov=s.ov
 few:l.length≤2
 kd:Kd l
 ids:∀x∈t.ids,x∈s.ids∨x=f.2.1
structure Bk (r:qL) (s:zZ) (f:wZ) (t:zZ) (o:List yK) (e:Int):Prop where
 inv:yE r t
 bad:e≠0→t=s∧o=[]
 ne:ny o
 few:o.length≤200
 ids:∀x∈t.ids,x∈s.ids∨x=f.2.1
theorem Bk.none {r:qL}{s:zZ}{f:wZ}(h:yE r s)(e:Int):Bk r s f s [] e:=⟨h,fun _=>⟨rfl,rfl⟩,fun x hx=>absurd hx List.not_mem_nil,Nat.zero_le _,fun _ h=>.inl h⟩
theorem kn (who a:Int)(kd:Int)(h:kd≠16∧kd≠23):Kd [mC who kd a]:=Xy h
structure Gu (r:qL) (s:zZ) (who:Int) (f:wZ) (t:zZ) (l l':List yK) (paid:Int):Prop where
 dealt:Dlt r s f t l
 told:l=(if who= -1 then l' else mC who 15 0::l')
 paid:paid=if f.1=1 then f.2.1 else 0
 pos:f.1=1→0<f.2.1
theorem vMz {r:qL}{s:zZ}{who:Int}{f:wZ}(h:(iB r s who f).1=0):0<f.2.1:=by
 unfold iB at h;cases h1:decide (f.2.2.1≥0)&&decide (f.2.2.1≤r.1-1) with
 |false=>rw[h1] at h;cases h
 |true=>
 cases h2:decide (f.2.2.2.2.1≥1)&&decide (f.2.2.2.2.1≤3) with
 |false=>rw[h1,h2] at h;cases h
 |true=>
 rw[h1,h2] at h;simp only[aE,an] at h;by_cases hc:mB r s.t (fG who f)=0
 ·unfold mB at hc;cases hb:kA r.1 s.t (fG who f) with
  |false=>rw[hb] at hc;cases hc
  |true=>
   unfold kA at hb;simp only[bb,aY] at hb;have:(fG who f).1≥1:=hb.2.2.1;have e:(fG who f).1=f.2.1:=rfl;omega
 ·rw[ab hc] at h;exact absurd h hc
theorem XH {r:qL}(hr:jB r){s:zZ}(h:yE r s)(ho:s.ov=false){who:Int}(hw:0≤who∧who<r.1){f:wZ}(hf:1≤f.1∧f.1≤8):
  ∃e d d',Pn 1000 (dk r s who [mC who 15 0]) f=some (e,d)∧xr 1000 (rk r s who) f=some (e,d')∧(e=0→∃t l l' paid,d=dk r t who l∧d'=qO r t who l' paid∧Gu r s who f t l l' paid):=by
 unfold Pn xr;have rf:¬who= -1:=by omega
 have kn:=kn who 0 15 (by decide);by_cases h1:f.1=1
 ·rw[aa h1];obtain⟨d,e1,e2⟩:=vS8 (k:=1000) (by decide) hr h.waits who [mC who 15 0] f;obtain⟨d',q1,q2⟩:=vW0 (k:=1000) (by decide) hr h.waits who f;simp only[aj];rw[e1,q1];exact⟨_,d,d',rfl,rfl,fun e=>⟨_,_,_,_,e2 e,q2 e,⟨h.queue ho (vK4 hr h e),rfl,by simp,kn,vOx e⟩,(if_neg rf).symm,(if_pos h1).symm,fun _=>vMz e⟩⟩
 rw[ab h1];by_cases hq:f.1=2∨f.1=3∨f.1=4
 ·obtain⟨d,e1,e2⟩:=Wq (k:=1000) (by decide) h.waits who (l:=[mC who 15 0]) (by simp) f;obtain⟨d',q1,q2⟩:=vWn (k:=1000) (by decide) (r:=r) h.waits who f hq;have g:∃e d d',(A0 1000 (dk r s who [mC who 15 0]) f).bind (fun x=>some (x.1,x.2))=some (e,d)∧(Bf 1000 (rk r s who) f.1 f.2).bind (fun x=>some (x.1,x.2))=some (e,d')∧(e=0→∃t l l' paid,d=dk r t who l∧d'=qO r t who l' paid∧Gu r s who f t l l' paid):=by
   rw[e1,q1];refine⟨_,d,d',rfl,rfl,fun e=>⟨_,_,_,_,e2 e,q2 e,⟨h.queue ho (vIn h e),rfl,?_,kn.append vHd,fun _ h=>.inl h⟩,?_,(if_neg h1).symm,fun e'=>absurd e' h1⟩⟩
   ·have:=vO3 (r:=r) (s:=s) (who:=who) (f:=f);rw[List.length_append];simp;omega
   ·rw[if_neg rf];rfl
  rcases hq with e|e|e
  ·rw[aa e];exact g
  ·rw[ab (show¬f.1=2 by omega),aa e];exact g
  ·rw[ab (show¬f.1=2 by omega),ab (show¬f.1=3 by omega),aa e];exact g
 rw[ab (show¬f.1=2 by omega),ab (show¬f.1=3 by omega),ab (show¬f.1=4 by omega)];by_cases hq:f.1=5∨f.1=6∨f.1=7
 ·obtain⟨d,e1,e2⟩:=vJy (k:=1000) (by decide) hr h.bk h.n hw [mC who 15 0] f;obtain⟨d',q1,q2⟩:=vNl (k:=1000) (by decide) hr h.bk h.n hw f;have g:∃e d d',(A2 1000 (dk r s who [mC who 15 0]) f).bind (fun x=>some (x.1,x.2))=some (e,d)∧(Bg 1000 (rk r s who) f.1 f.2).bind (fun x=>some (x.1,x.2))=some (e,d')∧(e=0→∃t l l' paid,d=dk r t who l∧d'=qO r t who l' paid∧Gu r s who f t l l' paid):=by
   rw[e1,q1];have bY:=vRs r s who f;exact⟨_,d,d',rfl,rfl,fun e=>⟨_,_,_,_,e2 e,q2 e,⟨vPh h hw e,bY.2.1,by simp,kn,by rw[vD3];exact fun _ h=>.inl h⟩,(if_neg rf).symm,(if_neg h1).symm,fun e'=>absurd e' h1⟩⟩
  rcases hq with e|e|e
  ·rw[aa e];exact g
  ·rw[ab (show¬f.1=5 by omega),aa e];exact g
  ·rw[ab (show¬f.1=5 by omega),ab (show¬f.1=6 by omega),aa e];exact g
 rw[ab (show¬f.1=5 by omega),ab (show¬f.1=6 by omega),ab (show¬f.1=7 by omega),aa (show f.1=8 by omega)];obtain⟨d,e1,e2⟩:=vMw (k:=1000) (by decide) hr h hw [mC who 15 0] f.2.1 f.2.2.1;obtain⟨d',q1,q2⟩:=vRq hr h hw f.2.1 f.2.2.1;simp only[aj,an];rw[e1,q1];have bY:=Xx r s who f.2.1 f.2.2.1;exact⟨_,d,d',rfl,rfl,fun e=>⟨_,_,_,_,e2 e,q2 e,⟨Xg hr h hw e,bY.2.1,by simp,kn,by rw[vXm];exact fun _ h=>.inl h⟩,(if_neg rf).symm,(if_neg h1).symm,fun e'=>absurd e' h1⟩⟩
theorem vKw {r:qL}(hr:jB r){s:zZ}(h:yE r s){f:wZ}(hf:10≤f.1∧f.1≤13):
  ∃e d d',Gv 1000 (gf r s (-1)) f=some (e,d)∧xr 1000 (rk r s (-1)) f=some (e,d')∧(e=0→∃t l l' paid,d=dk r t (-1) l∧d'=qO r t (-1) l' paid∧Gu r s (-1) f t l l' paid):=by
 unfold Gv xr;have h1:¬f.1=1:=by omega
 rw[ab h1,ab (show¬f.1=2 by omega),ab (show¬f.1=3 by omega),ab (show¬f.1=4 by omega),ab (show¬f.1=5 by omega),ab (show¬f.1=6 by omega),ab (show¬f.1=7 by omega),ab (show¬f.1=8 by omega)];by_cases hq:f.1=10∨f.1=11
 ·obtain⟨d,e1,e2⟩:=vVe (k:=1000) (by decide) hr h (-1) f.1 f.2.1 f.2.2.1;obtain⟨d',q1,q2⟩:=Xn hr h (-1) f.1 f.2.1 f.2.2.1 hq;have g:∃e d d',(FY 1000 (gf r s (-1)) f.1 f.2.1 f.2.2.1).bind (fun x=>some (x.1,x.2))=some (e,d)∧(F7 1000 (rk r s (-1)) (decide (f.1=10)) f.2.1 f.2.2.1).bind (fun x=>some (x.1,x.2))=some (e,d')∧(e=0→∃t l l' paid,d=dk r t (-1) l∧d'=qO r t (-1) l' paid∧Gu r s (-1) f t l l' paid):=by
   rw[e1,q1];refine⟨_,d,d',rfl,rfl,fun e=>?_⟩;obtain⟨g1,g2,g3,g4,g5⟩:=Xh h e;exact⟨_,_,_,_,e2 e,q2 e,⟨g1,vTp,by simp,xq,by rw[g4];exact fun _ h=>.inl h⟩,rfl,(if_neg h1).symm,fun e'=>absurd e' h1⟩
  rcases hq with e|e
  ·have e1:decide (f.1=10)=true:=aa e;rw[e1] at g⊢;exact g
  ·have e1:decide (f.1=10)=false:=ab (by omega);rw[e1] at g⊢;rw[aa e];exact g
 rw[ab (show¬f.1=10 by omega),ab (show¬f.1=11 by omega)];by_cases hp:f.1=12
 ·rw[aa hp];obtain⟨d,e1,e2⟩:=vEd (k:=1000) (by decide) hr h (-1) f.2.1 f.2.2.1;obtain⟨d',q1,q2⟩:=vTd hr h (-1) f.2.1 f.2.2.1;simp only[aj,an];rw[e1,q1];have bY:=vD7 r s f.2.1 f.2.2.1;exact⟨_,d,d',rfl,rfl,fun e=>⟨_,_,_,_,e2 e,q2 e,⟨vZb h e,bY.2.1,by simp,xq,by rw[XB];exact fun _ h=>.inl h⟩,rfl,(if_neg h1).symm,fun e'=>absurd e' h1⟩⟩
 ·rw[ab hp];exact⟨_,_,_,rfl,rfl,fun _=>⟨s,[],[],0,rfl,rfl,⟨h,rfl,by simp,xq,fun _ h=>.inl h⟩,rfl,(if_neg h1).symm,fun e'=>absurd e' h1⟩⟩
def Po (who kd:Int)(x4:Int×Xi):Option (tR×List yK×Int):=
  bif !(decide (who = (-1))) then ((eP 1000 15 []).bind fun x5=>
   (nv 1000 x4.2.2.2.2.2.2.1 x4.2.2.2.2.2.2.2.1 x4.2.2.2.2.2.2.2.2.1 x4.2.2.2.2.2.2.2.2.2.1 x4.2.2.2.2.2.2.2.2.2.2.1 x4.2.2.2.2.2.2.2.2.2.2.2.1 x4.2.2.2.2.2.2.2.2.2.2.2.2.1 x4.2.2.2.2.2.2.2.2.2.2.2.2.2.1 x4.2.2.2.2.2.2.2.2.2.2.2.2.2.2.1 x4.2.2.2.2.2.2.2.2.2.2.2.2.2.2.2.1 x4.2.2.2.2.2.2.2.2.2.2.2.2.2.2.2.2.1 (decide (kd=13))).bind fun x6=>
   bif zN (1 + x4.2.2.2.2.2.2.2.2.2.2.2.2.2.2.2.2.2.2.1.length) 64 then (let y0:List yK:=([(who,x5)]++x4.2.2.2.2.2.2.2.2.2.2.2.2.2.2.2.2.2.2.1)
    bif zN (y0.length + x6.2.2.2.2.2.2.2.2.2.2.2.length) 64 then (bif decide (x4.2.2.2.2.2.2.2.2.2.2.2.2.2.2.2.2.2.2.2 > 0) then ((mv 1000 x6.2.2.2.2.2.2.2.1 x4.2.2.2.2.2.2.2.2.2.2.2.2.2.2.2.2.2.2.2).bind fun x7=>
      bif decide (x7 ≥ 0) then ((eP 1000 19 [x4.2.2.2.2.2.2.2.2.2.2.2.2.2.2.2.2.2.2.2]).bind fun x8=>
       bif zN ((y0 ++ x6.2.2.2.2.2.2.2.2.2.2.2).length + 1) 64 then (let y1:List yK:=((y0++x6.2.2.2.2.2.2.2.2.2.2.2)++[(who,x8)])
        some ((qS x6),y1,0))
       else none)
      else some ((qS x6),(y0++x6.2.2.2.2.2.2.2.2.2.2.2),0))
     else some ((qS x6),(y0++x6.2.2.2.2.2.2.2.2.2.2.2),0))
    else none)
   else none)
  else(nv 1000 x4.2.2.2.2.2.2.1 x4.2.2.2.2.2.2.2.1 x4.2.2.2.2.2.2.2.2.1 x4.2.2.2.2.2.2.2.2.2.1 x4.2.2.2.2.2.2.2.2.2.2.1 x4.2.2.2.2.2.2.2.2.2.2.2.1 x4.2.2.2.2.2.2.2.2.2.2.2.2.1 x4.2.2.2.2.2.2.2.2.2.2.2.2.2.1 x4.2.2.2.2.2.2.2.2.2.2.2.2.2.2.1 x4.2.2.2.2.2.2.2.2.2.2.2.2.2.2.2.1 x4.2.2.2.2.2.2.2.2.2.2.2.2.2.2.2.2.1 (decide (kd=13))).bind fun x9=>
  bif zN x4.2.2.2.2.2.2.2.2.2.2.2.2.2.2.2.2.2.2.1.length 64 then (let y2:List yK:=x4.2.2.2.2.2.2.2.2.2.2.2.2.2.2.2.2.2.2.1
   bif zN (y2.length + x9.2.2.2.2.2.2.2.2.2.2.2.length) 64 then (bif decide (x4.2.2.2.2.2.2.2.2.2.2.2.2.2.2.2.2.2.2.2 > 0) then ((mv 1000 x9.2.2.2.2.2.2.2.1 x4.2.2.2.2.2.2.2.2.2.2.2.2.2.2.2.2.2.2.2).bind fun cm=>
     bif decide (cm ≥ 0) then ((eP 1000 19 [x4.2.2.2.2.2.2.2.2.2.2.2.2.2.2.2.2.2.2.2]).bind fun cN=>
      bif zN ((y2 ++ x9.2.2.2.2.2.2.2.2.2.2.2).length + 1) 64 then (let y3:List yK:=((y2++x9.2.2.2.2.2.2.2.2.2.2.2)++[(who,cN)])
       some ((qS x9),y3,0))
      else none)
     else some ((qS x9),(y2++x9.2.2.2.2.2.2.2.2.2.2.2),0))
    else some ((qS x9),(y2++x9.2.2.2.2.2.2.2.2.2.2.2),0))
   else none)
  else none
def Bl (r:qL)(s:tR)(c:iC):Option (tR×List yK×Int):=
  bif decide (c.2.1 = 9) then (bif zB c.1 s.2.1.length then ((tF 1000 s.2.2.2.2.2.2.2.1 c.1).bind fun x1=>
    (eP 1000 17 [(s.2.1.getD c.1.toNat (0,0,0)).1,(s.2.1.getD c.1.toNat (0,0,0)).2.1,(s.2.1.getD c.1.toNat (0,0,0)).2.2,(x1.length:Int),s.1]).bind fun x2=>
    some (s,[(c.1,x2)],0))
   else none)
  else bif decide (c.2.1 = 14) then ((Gt 1000 r s).bind fun x3=>
   some (x3.1,x3.2,0))
  else(xr 1000 (jD r (wO s (c.1,0))) c.2).bind fun x4=>
  bif !(decide (x4.1=0)) then some (s,[],x4.1)
  else Po c.1 c.2.1 x4
theorem vW1 (r:qL)(s:tR)(c:iC):xu 1000 r s c=(Bj 1000 r c).bind fun x0=>
  bif !x0 then some (s,[],5) else bif s.2.2.2.2.2.2.2.2.2.2 then(bif !(decide (c.2.1=9)) then some (s,[],7) else Bl r s c) else Bl r s c:=rfl
theorem yEp {r:qL}(hr:jB r){s t:zZ}(ho:s.ov=false){who:Int}{l l':List yK}{f:wZ}{paid:Int}(hB:Gu r s who f t l l' paid):
    ∃ u o, ((tO 1000 t.t t.B.1 t.B.2.1 t.B.2.2.1 t.B.2.2.2 t.pr t.ho t.m t.ids t.to t.ov (decide (f.1=13))).bind fun x5=>
      bif zN (l.length + x5.2.2.2.2.2.2.2.2.2.2.2.length) 64 then (let y0:List yK:=(l++x5.2.2.2.2.2.2.2.2.2.2.2)
       bif decide (f.1 = 1) then ((og 1000 x5.2.2.2.2.2.2.2.1 f.2.1).bind fun x6=>
        bif decide (x6 ≥ 0) then ((w8 1000 (Pp ((0:Int),dk r t who l) y0) 19 [f.2.1]).bind fun x7=>
         some ((qS x5),x7.2.2.2.2.2.2.2.2.2.2.2.2.2.2.2.2.2,(0:Int)))
        else some ((qS x5),y0,0))
       else some ((qS x5),y0,0))
      else none)=some (u.st,o,(0:Int))∧Po who f.1 (0,qO r t who l' paid)=some (u.st,o,(0:Int))∧yE r u∧ny o∧o.length≤200∧u.ids=t.ids:=by
  have h:=hB.dealt.inv;have Bm:=hB.dealt.ov.trans ho;have hl:=hB.dealt.few;have hm:=h.waits.len;obtain⟨C,m',d,e1,KC,e3,e4,e5,e6,e7⟩:=vBl h.bk h.waits.dist h.waits.may (by omega) t.t t.pr t.ho t.ids t.to t.ov (decide (f.1=13));have hd:d.length≤40:=by
    have:=e6.length_eq;rw[List.length_append] at this;omega
  have vi:=e5.length_le;have qs:=Fk d;have hu:=h.settled Bm e3 e4 e5;have dK:l'.length≤2:=by
    have:=hB.told;by_cases hw:who= -1
    · rw[if_pos hw] at this;rw[←this];exact hl
    · rw[if_neg hw] at this;rw[this,List.length_cons] at hl;omega
  have key:Po who f.1 (0,qO r t who l' paid)=bif decide (paid>0) then(bif decide (kt m' paid≥0) then some ((t.t,C.1,C.2.1,C.2.2.1,C.2.2.2,t.pr,t.ho,m',t.ids,t.to,t.ov),(l++vN d)++[mC who 19 paid],(0:Int)) else some ((t.t,C.1,C.2.1,C.2.2.1,C.2.2.2,t.pr,t.ho,m',t.ids,t.to,t.ov),l++vN d,0)) else some ((t.t,C.1,C.2.1,C.2.2.1,C.2.2.2,t.pr,t.ho,m',t.ids,t.to,t.ov),l++vN d,0):=by
    have es:nv 1000 (qO r t who l' paid).2.2.2.2.2.1 (qO r t who l' paid).2.2.2.2.2.2.1 (qO r t who l' paid).2.2.2.2.2.2.2.1 (qO r t who l' paid).2.2.2.2.2.2.2.2.1 (qO r t who l' paid).2.2.2.2.2.2.2.2.2.1 (qO r t who l' paid).2.2.2.2.2.2.2.2.2.2.1 (qO r t who l' paid).2.2.2.2.2.2.2.2.2.2.2.1 (qO r t who l' paid).2.2.2.2.2.2.2.2.2.2.2.2.1 (qO r t who l' paid).2.2.2.2.2.2.2.2.2.2.2.2.2.1 (qO r t who l' paid).2.2.2.2.2.2.2.2.2.2.2.2.2.2.1 (qO r t who l' paid).2.2.2.2.2.2.2.2.2.2.2.2.2.2.2.1 (decide (f.1=13))=_:=KC;have eo:(qO r t who l' paid).2.2.2.2.2.2.2.2.2.2.2.2.2.2.2.2.2.1=l':=rfl;have ep:(qO r t who l' paid).2.2.2.2.2.2.2.2.2.2.2.2.2.2.2.2.2.2=paid:=rfl;have ef:mv 1000 m' paid=some (kt m' paid):=N1 (by omega) (by omega) paid;unfold Po;simp only[es,eo,ep,Of0,Pj,ae];have ht:=hB.told;by_cases hw:who= -1
    · rw[if_pos hw] at ht;rw[aa hw,qH (n:=l'.length) (by omega) (by omega),qH (n:=l'.length+(vN d).length) (by omega) (by omega),qH (n:=(l'++vN d).length+1) (by rw[List.length_append];omega) (by rw[List.length_append];omega),ht];simp only[aE,an,aj];rw[ef];rfl
    · rw[if_neg hw] at ht;have er:[((who,(15,0,0,0,0,0,0)):yK)]++l'=l:=ht.symm;rw[ab hw,er,qH (n:=1+l'.length) (by omega) (by omega),qH (n:=l.length+(vN d).length) (by omega) (by omega),qH (n:=(l++vN d).length+1) (by rw[List.length_append];omega) (by rw[List.length_append];omega)];simp only[cp,aj];rw[ef];rfl
  rw[e1,key];simp only[ae];rw[qH (n:=l.length+(vN d).length) (by omega) (by omega)];simp only[aj];have fin:∀(o:List yK) {x:Option (tR×List yK×Int)},o.length≤200→ny o→x=some (({t with B:=C,m:=m'}:zZ).st,o,(0:Int))→∃u o',some (({t with B:=C,m:=m'}:zZ).st,o,(0:Int))=some (u.st,o',(0:Int))∧x=some (u.st,o',(0:Int))∧yE r u∧ny o'∧o'.length≤200∧u.ids=t.ids:=fun o _ hl hk hx=>⟨{t with B:=C,m:=m'},o,rfl,hx,hu,hk,hl,rfl⟩
  have k1:Kd (l++vN d):=hB.dealt.kd.append (Xz _);have b1:(l++vN d).length≤199:=by rw[List.length_append];omega
  have b2:∀x:yK,(l++vN d++[x]).length≤200:=fun x=>by rw[List.length_append];simp;rw[List.length_append] at b1;omega
  have hp:=hB.paid;by_cases h1:f.1=1
  · rw[if_pos h1] at hp;subst hp;rw[aa h1,aa (show f.2.1>0 from hB.pos h1)];simp only[aj];rw[EC (by omega) (by omega)];simp only[ae];cases decide (kt m' f.2.1≥0) with
    |false=>exact fin _ (by omega) k1.ne rfl
    |true=>
      simp only[aj];have ej:Pp ((0:Int),dk r t who l) (l++vN d)=dk r t who (l++vN d):=rfl;rw[ej,yIv (by rw[List.length_append];omega)];exact fin _ (b2 _) (k1.append (kn _ _ _ (by decide))).ne rfl
  · rw[if_neg h1] at hp;subst hp;rw[ab h1,ab (show¬(0:Int)>0 by decide)];exact fin _ (by omega) k1.ne rfl
theorem XI {r:qL}{s:zZ}(h:yE r s){who:Int}(hw:0≤who∧who<r.1)(c:iC)(hc:c.1=who)(h9:c.2.1=9):
  ∃o,Pq 1000 s.st who=some o∧Bl r s.st c=some (s.st,o,0)∧o.length≤200∧ny o:=by
 have hm:=h.waits.len;have hn:=h.n;have hb:zB who s.B.1.length=true:=wT hw.1 (by omega);have e1:s.st.2.1=s.B.1:=rfl;have e2:s.st.2.2.2.2.2.2.2.1=s.m:=rfl;unfold Pq Bl;rw[aa h9,hc,e1,e2,hb,yOe (by omega) (by unfold qT;omega),NV (by omega) (by unfold qT;omega)];simp only[aj,ae,Of5];exact⟨_,rfl,rfl,by simp,(Xy ⟨by simp,by simp⟩).ne⟩
theorem vQj {r:qL}(hr:jB r){s:zZ}(h:yE r s)(c:iC):
  ∃t o e,oG 1000 r s.st c=some (t.st,o,e)∧xu 1000 r s.st c=some (t.st,o,e)∧Bk r s c.2 t o e:=by
 obtain⟨e,he,hm,hb⟩:=XG r s c (fun e=>(some (s.st,[],e):Option (tR×List yK×Int))) (Bl r s.st c);have hR:xu 1000 r s.st c=bif decide (e=0) then Bl r s.st c else some (s.st,[],e):=by
  rw[vW1];have eo:s.st.2.2.2.2.2.2.2.2.2.2=s.ov:=rfl;rw[eo];cases hx:Bj 1000 r c with
  |none=>rw[hx] at hb;cases hb
  |some x=>
   rw[hx] at hb;simp only[ae,Option.some.injEq] at hb;exact hb
 unfold oG;rw[he,hR];simp only[ae];by_cases h0:e=0
 ·obtain⟨hw,Bm⟩:=hm h0;rw[aa h0];simp only[aE,an,aj];by_cases h9:c.2.1=9
  ·have uY:0≤c.1∧c.1<r.1:=by omega
   obtain⟨o,ho,la,hol,fz⟩:=XI h uY c rfl h9;rw[aa h9,la];simp only[aj];rw[ho];exact⟨s,o,0,rfl,rfl,h,fun e=>absurd rfl e,fz,hol,fun _ h=>.inl h⟩
  ·have ho:s.ov=false:=by
    cases g:s.ov with
    |false=>rfl
    |true=>exact absurd (Bm g) h9
   have fin:∀{t:zZ} {x y:Option (tR×List yK×Int)},(∀x∈t.ids,x∈s.ids∨x=c.2.2.1)→(∃u o,x=some (u.st,o,(0:Int))∧y=some (u.st,o,(0:Int))∧yE r u∧ny o∧o.length≤200∧u.ids=t.ids)→∃t o e,x=some (t.st,o,e)∧y=some (t.st,o,e)∧Bk r s c.2 t o e:=by
    intro t x y hi ⟨u,o,g1,AN,g2,g3,g4,g5⟩;exact⟨u,o,0,g1,AN,g2,fun e=>absurd rfl e,g3,g4,by rw[g5];exact hi⟩
   unfold Bl;rw[ab h9];simp only[an];by_cases hp:c.1= -1
   ·rw[aa hp];have hf:10≤c.2.1∧c.2.1≤14:=by omega
    have ed:jD r (wO s.st c.1)=gf r s (-1):=by rw[hp];rfl
    have er:jD r (wO s.st (c.1,0))=rk r s (-1):=by rw[hp];rfl
    simp only[aE,an];rw[ed,er];by_cases XJ:c.2.1=14
    ·have g0:Gv 1000 (gf r s (-1)) c.2=some (0,dk r s (-1) []):=by
      unfold Gv;rw[XJ];rfl
     rw[g0];simp only[ae];rw[aa XJ];have bj:=h.tk;have Cz:=hr.cl;have JV:=hr.pe;obtain⟨x,x1,x2⟩:=vWq r h.bk h.waits.dist h.waits.may (by have:=h.waits.len;omega) ⟨by omega,by omega⟩ (by omega) ho;obtain⟨C,m',ov,o,y1,y2,_,_,y3,y4⟩:=vIp (k:=1000) (by decide) hr h ho;rw[x1] at y1;have y1:=Option.some.inj y1;subst y1;refine⟨_,o,0,(congrArg (fun z=>Option.bind z _) x1).trans rfl,(congrArg (fun z=>Option.bind z _) x2).trans rfl,y2,fun e=>absurd rfl e,?_,by omega,fun _ h=>.inl h⟩;rcases y4 with⟨_,_,rfl,_⟩|⟨l,d,n,rfl,_,_,_⟩
     ·exact(yU0 (.inr rfl) _).ne.append (XA _ _)
     ·exact((yU0 (.inl rfl) _).append (Xz _)).ne
    ·obtain⟨e,d,d',g1,AN,g2⟩:=vKw hr h (f:=c.2) (by omega);rw[g1,ab XJ,AN];simp only[ae,an];by_cases hz:e=0
     ·obtain⟨t,l,l',paid,rfl,rfl,hd⟩:=g2 hz;rw[aa hz,hp];simp only[aE,an];subst hz;exact fin hd.dealt.ids (yEp hr ho hd)
     ·rw[ab hz];exact⟨s,[],e,rfl,rfl,Bk.none h e⟩
   ·rw[ab hp,ab (show¬c.2.1=14 by omega)];have hf:1≤c.2.1∧c.2.1≤8:=by omega
    have uY:0≤c.1∧c.1<r.1:=by omega
    have ed:Pr 1000 (jD r (wO s.st c.1)) 15 []=some (dk r s c.1 [mC c.1 15 0]):=rfl;have er:jD r (wO s.st (c.1,0))=rk r s c.1:=rfl;obtain⟨e,d,d',g1,AN,g2⟩:=XH hr h ho uY (f:=c.2) hf;simp only[cp,aj,an];rw[ed,er,AN];simp only[ae];rw[g1];simp only[ae];by_cases hz:e=0
    ·obtain⟨t,l,l',paid,rfl,rfl,hd⟩:=g2 hz;rw[aa hz];simp only[aE,an];subst hz;exact fin hd.dealt.ids (yEp hr ho hd)
    ·rw[ab hz];exact⟨s,[],e,rfl,rfl,Bk.none h e⟩
 ·rw[ab h0];exact⟨s,[],e,rfl,rfl,Bk.none h e⟩
theorem XK (m:wZ):rQ 1000 m=nr 1000 m:=by
 have hm:=Iy m.1;by_cases h:vR m.1<0
 ·obtain⟨b,h1,h2⟩:=vPf (k:=1000) (by decide) m;obtain⟨c,h3⟩:=OG (k:=1000) (by decide) m;have hb:b=false:=by
   cases b with
   |false=>rfl
   |true=>have:=h2 rfl;omega
  have hc:c=false:=by
   cases c with
   |false=>rfl
   |true=>have:=(Wv h3).1;omega
  rw[h1,h3,hb,hc]
 ·obtain⟨n,hn⟩:∃n:Nat,vR m.1=n:=⟨(vR m.1).toNat,by omega⟩;exact lH m n (by omega) (by rw[UB,hn]) (by rw[UA,hn])
theorem vVi {f:wZ}(hi:nr 1000 f=some true)(hf:kT (wI f)){n:Nat}(hn:vR f.1=n):Dg ([IntKind.wrap .u8 f.1]++yT ((wI f).take n))=(f,0):=by
 obtain⟨h0,hz⟩:=Wv hi;have hm:=Iy f.1;have Ik:0≤f.1∧f.1<24:=by
  unfold vR at h0;split at h0
  ·assumption
  ·omega
 have XM:((wI f).take n).length=n:=by rw[List.length_take];show min n 6=n;omega
 have bU:kT ((wI f).take n):=fun x hx=>hf x (List.mem_of_mem_take hx)
 have hu8:IntKind.wrap .u8 f.1=f.1:=by rw[Dp];omega
 have hw8:zA f.1=f.1:=zO (by omega) (by omega);unfold Dg;have e1:List.drop 1 ([IntKind.wrap .u8 f.1]++yT ((wI f).take n))=yT ((wI f).take n):=rfl;have e2:([IntKind.wrap .u8 f.1]++yT ((wI f).take n)).getD 0 0=f.1:=hu8;rw[if_neg (by simp),e1,e2,hw8,UH bU];simp only[];rw[if_neg (fun h=>h.elim (fun e=>e rfl) fun e=>e (by rw[XM,hn]))];have g:∀j,j<6→((wI f).take n).getD j 0=(wI f).getD j 0:=fun j hj=>by
  by_cases h:j<n
  ·rw[List.getD_eq_getElem?_getD,List.getD_eq_getElem?_getD,List.getElem?_take_of_lt h]
  ·rw[hz j (by omega) hj,List.getD_eq_getElem?_getD,List.getElem?_eq_none (by omega)];rfl
 rw[g 0 (by omega),g 1 (by omega),g 2 (by omega),g 3 (by omega),g 4 (by omega),g 5 (by omega)];rfl
theorem vR3 {f:wZ}(hf:kT (wI f)):Bn 1000 f=some (.inl ())∨∃b,Bn 1000 f=some (.inr b)∧0<b.length∧b.length≤49∧Dg b=(f,0):=by
 unfold Bn;rw[XK];obtain⟨b,hb⟩:=OG (k:=1000) (by decide) f;rw[hb];cases b with
 |false=>exact .inl rfl
 |true=>
  right;have hm:=Iy f.1;have h0:=(Wv hb).1;obtain⟨n,hn⟩:∃n:Nat,vR f.1=n:=⟨(vR f.1).toNat,by omega⟩;have XM:((wI f).take n).length=n:=by rw[List.length_take];show min n 6=n;omega
  have rG:=jg ((wI f).take n);have eG:qR [f.2.1,f.2.2.1,f.2.2.2.1,f.2.2.2.2.1,f.2.2.2.2.2.1,f.2.2.2.2.2.2] 0 (n-0)=(wI f).take n:=by
   unfold qR;show List.take (n-0) ((wI f).drop 0)=_;rw[List.drop_zero,Nat.sub_zero]
  refine⟨[IntKind.wrap .u8 f.1]++yT ((wI f).take n),?_,by simp,by rw[List.length_append,rG,XM];show 1+8*n≤49;omega,vVi hb hf hn⟩;simp only[ae,aE,an];rw[UA,hn];simp only[ae];rw[aa (show(0:Int)≤(n:Int) by omega),aa (show(n:Int)≤6 by omega),aq,eG,J5 (by decide) (by omega) (by omega)];simp only[Bool.and_self,aj,ae];rw[qH (by omega) (by omega)];rfl
def oH (s t:zZ):Prop:=∀i,i<s.B.1.length→(t.B.1.getD i ad).1<(s.B.1.getD i ad).1→0≤(t.B.1.getD i ad).1+(t.B.1.getD i ad).2.1
theorem oH.same {s t}(h:∀i,i<s.B.1.length→(t.B.1.getD i ad).1=(s.B.1.getD i ad).1):oH s t:=fun i hi bj=>by simp_all
theorem oH.refl s:oH s s:=oH.same (by simp)
theorem oH.set {s t:zZ}{j:Nat}{a:qY}(h:t.B.1=s.B.1.set j a)(ha:a.1<(s.B.1.getD j ad).1→0≤a.1+a.2.1):oH s t:=fun i hi=>by
 rw[h,fj];split
 ·next h=>rw[←h.1];exact ha
 ·omega
structure ab0 (r:qL) (s:zZ) (f:wZ) (t:zZ) (l:List yK):Prop where
 inv:yE r t
 tk:t.t=s.t
 ov:t.ov=s.ov
 few:l.length≤2
 to:t.to=s.to+(if f.1=10 then f.2.2.1 else if f.1=11 then-f.2.2.1 else 0)
 fell:oH s t
 kd:Kd l
 ids:∀x∈t.ids,x∈s.ids∨x=f.2.1
structure Did (k:Nat) (r:qL) (s:zZ) (c:iC) (t:zZ) (o:List yK) (e:Int):Prop where
 inv:yE r t
 bad:e≠0→t=s∧o=[]
 to:e=0→t.to=s.to+(if c.2.1=10 then c.2.2.2.1 else if c.2.1=11 then-c.2.2.2.1 else 0)
 still:t=s∨(t.ov=false→fE k t.B (wA t.m t.t)=none)
 fell:oH s t
 ne:ny o
 few:o.length≤100
 ids:∀x∈t.ids,x∈s.ids∨x=c.2.2.1
theorem oH.kept {s t u}(h:oH s t)(hl:t.B.1.length=s.B.1.length)(g:fm t.B u.B):oH s u:=fun i hi=>by
 have h1:=h i hi;have h2:=g.fell i (by omega);have h3:=g.cred i (by omega);omega
theorem vDc {k:Nat}(hk:1000≤k){n:Nat}{m:List zH}{ids:AC}(h:jm n m ids):KL k m=some true:=by
 have hm:=h.len;have e1 : Bo k k m m (m.length : Int) 0 = some (.inl m) := Ko (L := fun n i => Bo k n m m (m.length : Int) i) (fun n=>by
  show Gw k _ m m (m.length:Int) (m.length:Int)=_;unfold Gw;rw[ab (Int.lt_irrefl _)];rfl) (fun n i hi=>by
  show Gw k (Bo k n) m m (m.length:Int) (i:Int)=_;unfold Gw;have e:m.getD i (0,0,0,0,0,0,0)=m.getD i pd:=rfl;rw[aa (show(i:Int)<m.length by omega),qC,aa hi,aq,e,EC (by omega) (by omega),yJa h.dist hi,qE hi (by omega)];simp only[aj,ae,decide_true,aE,an]) (by omega)
 have e2:Ps k m=some true:=by
  have down:∀(i n:Nat),i<n→i<m.length∨i=0→KM k n m (i:Int)=some (.inl ()):=by
   intro i
   induction i with
   |zero=>
    intro n hn _;obtain⟨n,rfl⟩:∃x,n=x+1:=⟨n-1,by omega⟩;rfl
   |succ i ih=>
    intro n hn hi;obtain⟨n,rfl⟩:∃x,n=x+1:=⟨n-1,by omega⟩;have bG:i+1<m.length:=by omega
    show Pt k (KM k n) m ((i+1:Nat):Int)=_;unfold Pt;have w:zA (((i+1:Nat):Int)-1)=(i:Int):=by rw[zO (by omega) (by omega)];omega
    rw[aa (show((i+1:Nat):Int)>0 by omega),w,qC,qC,aa bG,aa (show i<m.length by omega),aq,aq];simp only[aj];obtain⟨x,x1,x2,x3⟩:=VM (k:=k) (by omega) (m.getD (i+1) pd) (m.getD i pd);have hs:=List.pairwise_iff_getElem.1 h.sort i (i+1) (by omega) bG (by omega);rw[←FP (d:=pd) m (by omega),←FP (d:=pd) m bG] at hs;have nx:¬x<0:=fun q=>by
     have:jl (m.getD (i+1) pd) (m.getD i pd)=true:=by rw[←x3];exact aa q
     rw[W6] at this;rw[Ky] at hs;omega
    refine(congrArg (fun z=>Option.bind z _) x1).trans ?_;simp only[ae];rw[ab nx];exact ih n (by omega) (.inl (by omega))
  unfold Ps;by_cases hz:m.length=0
  ·have:m=[]:=List.eq_nil_of_length_eq_zero hz;subst this;have w:zA (((([]:List zH).length:Nat):Int)-1)= -1:=by rw[zO (by decide) (by decide)];rfl
   rw[w];obtain⟨j,rfl⟩:∃x,k=x+1:=⟨k-1,by omega⟩;rfl
  ·have w:zA ((m.length:Int)-1)=((m.length-1:Nat):Int):=by rw[zO (by omega) (by omega)];omega
   rw[w,down (m.length-1) k (by omega) (.inl (by omega))];rfl
 unfold KL;rw[e1];simp only[ae];rw[aa (show(m.length:Int)≤40 by omega),e2];rfl
theorem vV7 {k:Nat}(hk:1000≤k){n:Nat}{m:List zH}{ids:AC}(h:jm n m ids):KN k ids=some true:=by
 have hl:=h.idl;obtain ⟨s, e1, _⟩ := yS (L := fun n i (p : Int) => KO k n ids p ids (ids.length : Int) i) (N := ids.length) (fun _ => (.inl ids : AC ⊕ Bool)) (fun i p => p = if i = 0 then 0 else ids.getD (i - 1) 0) (fun n p _=>by
  show Gx k _ ids p ids (ids.length:Int) (ids.length:Int)=_;unfold Gx;rw[ab (Int.lt_irrefl _)];rfl) (fun n i p hi hp=>by
  refine⟨ids.getD i 0,?_,by rw[if_neg (by omega)];rfl⟩;show Gx k (KO k n) ids p ids (ids.length:Int) (i:Int)=_;unfold Gx;have bj:¬ids.getD i 0≤p:=by
   rw[hp];by_cases z:i=0
   ·rw[if_pos z];have:=h.pos _ (jQ (d:=0) hi);omega
   ·rw[if_neg z];have:=List.pairwise_iff_getElem.1 h.asc (i-1) i (by omega) hi (by omega);rw[←FP (d:=0) ids (by omega),←FP (d:=0) ids hi] at this;omega
  rw[aa (show(i:Int)<ids.length by omega),qC,aa hi,aq,ab bj,qE hi (by omega)];rfl) (n:=k) (s:=0) (by omega) rfl
 unfold KN;rw[e1];simp only[ae];rw[aa (show(ids.length:Int)≤200 by omega)]
theorem vZq {k}(hk:1000≤k){r s}(h:yE r s):KP k s.st=some true:=by
 have hw:=h.waits;have hm:=hw.len;have e1:KP k s.st=(KL k s.m).bind fun x0=>bif x0 then((KN k s.ids).bind fun x1=>bif x1 then((Pu k s.m s.t s.B.1 s.B.2.1 s.B.2.2.1 s.B.2.2.2 s.pr s.ho s.m s.ids s.to s.ov).bind fun x2=>some (!x2)) else some false) else some false:=rfl
 rw[e1,vDc hk hw,vV7 hk hw];have e2 : Bp k k s.m (s.m.length : Int) 0 s.t s.B.1 s.B.2.1 s.B.2.2.1 s.B.2.2.2 s.pr s.ho s.m s.ids s.to s.ov = some (.inl ()) := Ko (L := fun n i => Bp k n s.m (s.m.length : Int) i s.t s.B.1 s.B.2.1 s.B.2.2.1 s.B.2.2.2 s.pr s.ho s.m s.ids s.to s.ov) (fun n=>by
  show Gy k _ s.m (s.m.length:Int) (s.m.length:Int) s.t s.B.1 s.B.2.1 s.B.2.2.1 s.B.2.2.2 s.pr s.ho s.m s.ids s.to s.ov=_;unfold Gy;simp) (fun n i hi=>by
  show Gy k (Bp k n) s.m (s.m.length:Int) (i:Int) s.t s.B.1 s.B.2.1 s.B.2.2.1 s.B.2.2.2 s.pr s.ho s.m s.ids s.to s.ov=_;unfold Gy;have aX:s.m.getD i pd∈s.m:=jQ hi;have ht:=hw.time _ aX;have ak:=hw.were _ aX;have f1:Pv k (s.m.getD i pd) (s.t,s.B.1,s.B.2.1,s.B.2.2.1,s.B.2.2.2,s.pr,s.ho,s.m,s.ids,s.to,s.ov)=some false:=by
   unfold Pv;rw[Nv];have bN:pt s.B.1.length (s.m.getD i pd)=true:=U2.2 (hw.may _ aX);have KQ:pt s.B.1.length ((s.m.getD i pd).1,(s.m.getD i pd).2.1,(s.m.getD i pd).2.2.1,(s.m.getD i pd).2.2.2.1,(s.m.getD i pd).2.2.2.2.1,(s.m.getD i pd).2.2.2.2.2.1,(s.m.getD i pd).2.2.2.2.2.2)=true:=bN;rw[KQ];rw[ab (by grind),mA,aa (by grind),aa (by grind)];have hI:=hw.idl;rw[vF1 (by omega) (by omega) hw.asc,aa ak];rfl
  have e:s.m.getD i (0,0,0,0,0,0,0)=s.m.getD i pd:=rfl;rw[aa (by grind),qC,aa hi,aq,e,f1,qE hi (by omega)];rfl) (by omega)
 unfold Pu XN;simp_all
theorem vWc {k}(hk:1000≤k){r}(hr:jB r){s}(h:yE r s):KR k s.pr=some false:=by
 have mh:=h.bk.n1;have L:=h.laid 0 (by omega);have h3:=L.n3;have hp:=L.pl;have e2 : Bq k k s.pr (s.pr.length : Int) 0 = some (.inl ()) := Ko (L := fun n i => Bq k n s.pr (s.pr.length : Int) i) (fun n=>by
  show Gz k _ s.pr (s.pr.length:Int) (s.pr.length:Int)=_;unfold Gz;simp) (fun n i hi=>by
  show Gz k (Bq k n) s.pr (s.pr.length:Int) (i:Int)=_;unfold Gz XO;have hv:=L.price i (by omega);rw[aa (by grind),qC,aa hi,aq,mA,aa (by grind),aa (by grind),qE hi (by omega)];rfl) (by omega)
 unfold KR XP;simp_all
theorem vHb {k}(hk:1000≤k){sa pr h}(L:kx sa pr h):Pw k h=some false:=by
 have h3:=L.n3;have hp:=L.hl;have e2 : Br k k h (h.length : Int) 0 = some (.inl ()) := Ko (L := fun n i => Br k n h (h.length : Int) i) (fun n=>by
  show GA k _ h (h.length:Int) (h.length:Int)=_;unfold GA;simp) (fun n i hi=>by
  show GA k (Br k n) h (h.length:Int) (i:Int)=_;unfold GA XQ;have hv:=L.hold i (by omega);rw[aa (by grind),qC,aa hi,aq,ab (by grind),qE hi (by omega)];rfl) (by omega)
 unfold Pw XR;simp_all
theorem XS {k}(hk:1000≤k){r}(hr:jB r){s}(h:yE r s):KS k r s.st=some true:=by
 have mh:=h.bk.n1;have gD:=h.bk.n6;have hn:=h.n;have hol:=h.hol;have L:=h.laid 0 (by omega);have e0:KS k r s.st=bif !(decide ((s.pr.length:Int)=(r.2.1.length:Int))) then some false
  else bif !(decide ((s.ho.length:Int)=r.1)) then some false
  else(KR k s.pr).bind fun x0=>
  bif x0 then some false
  else(xv k k s.ho (s.ho.length:Int) 0 r s.st).bind fun z=>
  match z with
  |.inl z1=>some true
  |.inr z2=>some z2:=rfl
 have e2 : xv k k s.ho (s.ho.length : Int) 0 r s.st = some (.inl ()) := Ko (L := fun n i => xv k n s.ho (s.ho.length : Int) i r s.st) (fun n=>by
  show GB k (xv k n) s.ho (s.ho.length:Int) (s.ho.length:Int) r s.st=_;unfold GB;simp) (fun n i hi=>by
  show GB k (xv k n) s.ho (s.ho.length:Int) (i:Int) r s.st=_;unfold GB;have bG:i<s.B.1.length:=by omega
  have Li:=h.laid i bG;have hc:(s.B.1.getD i ad).2.1=_:=h.cred i bG;have hm:(s.B.1.getD i ad).2.1≤_:=h.most i bG;have ep:s.st.2.2.2.2.2.1=s.pr:=rfl;have ea:s.st.2.1=s.B.1:=rfl;have ed:s.B.1.getD i (0,0,0)=s.B.1.getD i ad:=rfl;rw[aa (by grind),qC,aa hi,aq,ep,V2 Li (by omega),ea,qC,aa bG,ed,vHb hk Li,qE hi (by omega)];grind) (by omega)
 rw[e0,aa (show(s.pr.length:Int)=(r.2.1.length:Int) by rw[L.pl]),aa (by grind),vWc hk hr h,e2];rfl
theorem vL6 (s:zZ):iz ((List.range s.B.1.length).map fun j=>(s.B.1.getD j ad).1)=qI (fun j=>(s.B.1.getD j ad).1) s.B.1.length:=V0 _ _
theorem XT {k}(hk:1000≤k){r}(hr:jB r){s}(h:yE r s):KT k r s.st=some true:=by
  have gD:=h.bk.n6;have ht:=h.tk;have O7:=h.tot;have XU:Av k s.B.1 s.B.2.1 s.B.2.2.1 s.B.2.2.2=some true:=by rw[yVw (by omega),Ns.2 h.bk]
  obtain ⟨x, h1, h2⟩ := yS (L := fun n j (x : AC) => GC k n s.B.1 (s.B.1.length : Int) j r s.st x) (N := s.B.1.length) (fun x => (r, s.st, x)) (fun j x => x = (List.range j).map fun j => (s.B.1.getD j ad).1) (fun n x _=>by
    show GD k _ s.B.1 (s.B.1.length:Int) (s.B.1.length:Int) r s.st x=_;unfold GD;simp) (fun n j x hj hx=>by
    refine⟨x++[(s.B.1.getD j ad).1],?_,?_⟩
    · show GD k (GC k n) s.B.1 (s.B.1.length:Int) (j:Int) r s.st x=_;unfold GD;have hl:x.length=j:=by simp_all
      rw[aa (by grind),qC,aa hj,qH (by omega) (by omega),aq,qE hj (by omega)];rfl
    · rw[hx,List.range_succ,List.map_append];rfl) (n:=k) (s:=[]) (by omega) rfl
  have hb:∀i,i<x.length→-9223372036854775808≤x.getD i 0∧x.getD i 0<9223372036854775808:=by
    intro i hi;have hm:x.getD i 0∈x:=jQ hi;rw[h2] at hm;obtain⟨j,hj,e⟩:=List.mem_map.1 hm;have:=pF.1 (h.bk.acct j (List.mem_range.1 hj));grind
  have hlen:x.length=s.B.1.length:=by simp_all
  have KU:iz x=s.to:=by rw[h2,vL6];exact h.sum
  have eZ:wj (iz x)=true:=by rw[KU];unfold wj;grind
  have eU:KT k r s.st=(vH k s.t 0 r.2.2.2.1).bind fun x0=>
     bif !x0 then some false
     else(Av k s.B.1 s.B.2.1 s.B.2.2.1 s.B.2.2.2).bind fun x1=>
     bif !x1 then some false
     else bif !(decide ((s.B.1.length:Int)=r.1)) then some false
     else(KS k r s.st).bind fun x2=>
     bif !x2 then some false
     else(KP k s.st).bind fun x3=>
     bif !x3 then some false
     else(GC k k s.B.1 (s.B.1.length:Int) 0 r s.st []).bind fun z=>
     (EP k z.2.2).bind fun x4=>
     bif !x4.2 then some false
     else bif !(decide (x4.1=z.2.1.2.2.2.2.2.2.2.2.2.1)) then some false
     else(vH k x4.1 0 1152921504606846976).bind fun x5=>
     bif !x5 then some false
     else(AY k z.1.1 z.1.2.1 z.1.2.2.1 z.1.2.2.2.1 z.1.2.2.2.2 z.2.1.1).bind fun x6=>
     bif mK z.2.1.2.2.2.2.2.2.2.2.2.2 x6 then (bif !z.2.1.2.2.2.2.2.2.2.2.2.2 then some true
      else some (decide ((z.2.1.2.2.2.2.2.2.2.1.length:Int)=0)))
     else some false:=rfl
  have ec:∀b:Bool,mK b b=true:=fun b=>by cases b<;>rfl
  have eo:s.st.2.2.2.2.2.2.2.2.2.2=s.ov:=rfl;have em:s.st.2.2.2.2.2.2.2.1=s.m:=rfl;have et:s.st.2.2.2.2.2.2.2.2.2.1=s.to:=rfl;have e1:s.st.1=s.t:=rfl;have ecl:AY k r.1 r.2.1 r.2.2.1 r.2.2.2.1 r.2.2.2.2 s.t=some (decide (s.t=r.2.2.2.1)):=rfl;rw[eU,mA,aa (by grind),aa (by grind),XU,aa h.n,XS hk hr h,vZq hk h,h1];simp;rw[yHq (by omega) (by omega) hb,eZ,KU];simp;rw[et,aa (by simp),mA,aa (by grind),aa (by grind)];rw[e1,ecl,eo,em,←h.over];simp only[ae];rw[ec];cases ho:s.ov with
  |false=>rfl
  |true=>rw[h.none ho];rfl
instance Bt:DecidableEq zH:=fun a b=>inferInstanceAs (Decidable (a=b))
theorem vLw {k}{a b:List zH}(hk:a.length<k)(hl:a.length<9223372036854775808):KV k a b=some (decide (a=b)):=by
 unfold KV;by_cases hlen:a.length=b.length
 case neg=>
  have e:decide (((a.length:Nat):Int)=((b.length:Nat):Int))=false:=by grind
  have:a≠b:=by grind
  simp_all
 have e:decide (((a.length:Nat):Int)=((b.length:Nat):Int))=true:=by grind
 have := mn (L := fun n i => KW k n a b i) (N := a.length) (fun i => decide (a.getD i pd = b.getD i pd)) (.inl ()) (.inr false) (fun n=>by
  show GG k _ a b a.length=_;unfold GG;simp) (fun n i hi=>by
  show GG k _ a b i=_;unfold GG;have e7:=eq7 (a.getD i pd) (b.getD i pd);simp only[qC,qE hi hl];simp_all) hk
 rw[this,Nt pd hlen];grind
theorem XV {r s}(hr:jB r)(h:yE r s):Px 1000 s.st s.st=some true:=by
 have hb:wM s.B.1 s.B.2.1 s.B.2.2.1 s.B.2.2.2:=h.bk;have gD:=h.bk.n6;have mh:=h.bk.n1;have hm:=h.waits.len;have hi:=h.waits.idl;have h3:=hr.n3;have hL:=h.laid 0 (by omega);have e1:IX 1000 s.B.1 s.B.2.1 s.B.2.2.1 s.B.2.2.2 s.B.1 s.B.2.1 s.B.2.2.1 s.B.2.2.2=some true:=by
  rw[vOd (by decide) hb.toSized];simp
 have e2:tx 1000 s.pr s.pr=some true:=by rw[Nu (by rw[hL.pl];omega) (by rw[hL.pl];omega),aa rfl]
 have e3:Aw 1000 s.ho s.ho=some true:=by
  have hol:=h.hol;rw [U1 (by omega) (by omega) (fun i hi=>by
   have:=(h.laid i (by omega)).hl;omega),aa rfl]
 have e4:KV 1000 s.m s.m=some true:=by rw[vLw (by omega) (by omega),aa rfl]
 have e5:tx 1000 s.ids s.ids=some true:=by rw[Nu (by omega) (by omega),aa rfl]
 unfold Px;have f0:s.st.1=s.t:=rfl;have f9:s.st.2.2.2.2.2.2.2.2.2.1=s.to:=rfl;have f10:s.st.2.2.2.2.2.2.2.2.2.2=s.ov:=rfl;have q:mK s.ov s.ov=true:=by cases s.ov<;>rfl
 rw[f0,f9,f10,aa rfl,aa rfl,q];refine(congrArg (fun z=>Option.bind z _) e1).trans ?_;refine(congrArg (fun z=>Option.bind z _) e2).trans ?_;refine(congrArg (fun z=>Option.bind z _) e3).trans ?_;refine(congrArg (fun z=>Option.bind z _) e4).trans ?_;refine(congrArg (fun z=>Option.bind z _) e5).trans ?_;rfl
def fH (r:qL):zZ where
 t:=0
 B:=(List.replicate r.1.toNat (0,0,0),List.replicate r.1.toNat (List.replicate r.1.toNat (-1)),List.replicate r.1.toNat (-1),List.replicate r.1.toNat (List.replicate r.1.toNat 0))
 pr:=r.2.1.map Prod.fst
 ho:=List.replicate r.1.toNat (List.replicate r.2.1.length 0)
 m:=[]
 ids:=[]
 to:=0
 ov:=false
structure ue (r:qL):Prop where
 ok:jB r
 inv:yE r (fH r)
 new:uf 1000 r=some (fH r).st
 cl:r.2.2.2.1≤20
 abM:uf 20000 r=some (fH r).st
theorem Py n:jm n [] [] where
 dist:=List.Pairwise.nil
 len:=by decide
 sort:=List.Pairwise.nil
 may:=by simp
 time:=by simp
 were:=by simp
 asc:=List.Pairwise.nil
 pos:=by simp
 idl:=by decide
def r0:qL:=(3,[(100,1000),(7,0)],12,20,4)
def r1:qL:=(4,[(100,1000),(7,0)],12,20,100)
def r2:qL:=(3,[],20,20,4)
def r3:qL:=(3,[(100,1000),(7,0)],0,6,1)
theorem XW {pr h}(h1:pr=[100,7])(h2:h=[0,0]):kx [(100,1000),(7,0)] pr h:=by
 subst h1;subst h2;exact⟨by decide,rfl,rfl,by decide,by decide,by decide⟩
theorem Pz {B}(h:mr B.1 B.2.1 B.2.2.1 B.2.2.2=true):qP B:=Ns.1 h
theorem vU9:ue r0:=⟨⟨by decide,by decide,by decide,by decide,by decide,by decide,by decide⟩,
  { tk:=by decide,bk:=Pz (by rfl),n:=rfl,hol:=rfl,
    laid:=fun i hi=>by
      have e:∀i,i<(fH r0).B.1.length→(fH r0).ho.getD i []=[0,0]:=by decide
      exact XW rfl (e i hi)
    cred:=by decide,most:=by decide,waits:=Py _,sum:=by decide,tot:=by decide,over:=by decide,none:=nofun},by rfl,by decide,by rfl⟩
theorem vZj:ue r1:=⟨⟨by decide,by decide,by decide,by decide,by decide,by decide,by decide⟩,
  { tk:=by decide,bk:=Pz (by rfl),n:=rfl,hol:=rfl,
    laid:=fun i hi=>by
      have e:∀i,i<(fH r1).B.1.length→(fH r1).ho.getD i []=[0,0]:=by decide
      exact XW rfl (e i hi)
    cred:=by decide,most:=by decide,waits:=Py _,sum:=by decide,tot:=by decide,over:=by decide,none:=nofun},by rfl,by decide,by rfl⟩
theorem vZu:ue r2:=⟨⟨by decide,by decide,by decide,by decide,by decide,by decide,by decide⟩,
  { tk:=by decide,bk:=Pz (by rfl),n:=rfl,hol:=rfl,
    laid:=fun i hi=>by
      have e:∀i,i<(fH r2).B.1.length→(fH r2).ho.getD i []=[]:=by decide
      rw[e i hi];exact⟨by decide,rfl,rfl,by decide,by decide,by decide⟩
    cred:=by decide,most:=by decide,waits:=Py _,sum:=by decide,tot:=by decide,over:=by decide,none:=nofun},by rfl,by decide,by rfl⟩
theorem vYs:ue r3:=⟨⟨by decide,by decide,by decide,by decide,by decide,by decide,by decide⟩,
  { tk:=by decide,bk:=Pz (by rfl),n:=rfl,hol:=rfl,
    laid:=fun i hi=>by
      have e:∀i,i<(fH r3).B.1.length→(fH r3).ho.getD i []=[0,0]:=by decide
      exact XW rfl (e i hi)
    cred:=by decide,most:=by decide,waits:=Py _,sum:=by decide,tot:=by decide,over:=by decide,none:=nofun},by rfl,by decide,by rfl⟩
structure Tk (L:iH) (N:Nat):Prop where
 side:L.1=0∨L.1=1
 gen:1≤L.2.1∧L.2.1≤(N:Int)+1
 rows:0≤L.2.2.1∧L.2.2.1≤(N:Int)
 stale:L.2.2.2=false
theorem Tk.more {L N M}(h:Tk L N)(hN:N≤M):Tk L M:=⟨h.side,⟨h.gen.1,by have:=h.gen.2;omega⟩,⟨h.rows.1,by have:=h.rows.2;omega⟩,h.stale⟩
structure ab1 (k:Nat) (s:Dm) (b:AC):Prop where
 is:mo k s=some b
 len:b.length≤50000
theorem vFf {c:Nat}{l:EQ}(h:∀x∈l,x.length≤c):(qA l).length≤8*(c+1)*l.length:=by
 induction l with
 |nil=>simp[qA]
 |cons x l ih=>
  have h1:=ih fun y hy=>h y (List.mem_cons_of_mem _ hy)
  have h2:=h x (List.mem_cons_self ..);have h3:8*(c+1)*(l.length+1)=8*(c+1)*l.length+8*(c+1):=Nat.mul_succ _ _;simp only[qA,List.flatMap_cons,List.length_append,jX,List.length_cons] at h1⊢;rw[h3];omega
theorem XX {l:EQ}{n:Nat}(h:∀i,i<l.length→(l.getD i []).length=n){x:AC}(hx:x∈l):x.length=n:=by
 obtain⟨i,hi,e⟩:=List.mem_iff_getElem.1 hx;have:=h i hi;rw[List.getD_eq_getElem?_getD,List.getElem?_eq_getElem hi] at this;rw[←e];exact this
theorem XY {r:qL}(hr:jB r){s:zZ}(h:yE r s):∃l,vV s.st=l++[s.ids]∧l.length≤67∧∀x∈l,x.length≤9:=by
 have n6:=h.bk.n6;have n1:=h.bk.n1;have hm:=h.waits.len;have h3:=hr.n3;have hb:wM s.B.1 s.B.2.1 s.B.2.2.1 s.B.2.2.2:=h.bk;have hL:=h.laid 0 (by omega);have hol:=h.hol;refine⟨_,rfl,?_,fun x hx=>?_⟩
 ·simp only[List.length_append,List.length_cons,List.length_nil,List.length_map];show 0+1+s.B.1.length+s.B.2.1.length+(0+1)+s.B.2.2.2.length+(0+1)+s.ho.length+s.m.length≤67;have:=hb.bl;have:=hb.pl;omega
 ·simp only[List.mem_append,List.mem_singleton,List.mem_map] at hx;rcases hx with(((((((rfl|⟨a,_,rfl⟩)|hx)|rfl)|hx)|rfl)|hx)|⟨a,_,rfl⟩)
  ·simp
  ·simp[vZ]
  ·have:=XX (l:=s.B.2.1) (fun i hi=>hb.br i (by have:=hb.bl;omega)) hx;omega
  ·show s.B.2.2.1.length≤9;have:=hb.ml;omega
  ·have:=XX (l:=s.B.2.2.2) (fun i hi=>hb.pr i (by have:=hb.pl;omega)) hx;omega
  ·show s.pr.length≤9;rw[hL.pl];omega
  ·have:=XX (l:=s.ho) (fun i hi=>(h.laid i (by omega)).hl) hx;omega
  ·simp[vI]
theorem XZ {k:Nat}(hk:1000≤k){r:qL}(hr:jB r){s:zZ}(h:yE r s):∃b,mo k s.st=some b∧b=qA (vV s.st)∧b.length≤7000:=by
 obtain⟨l,e,h1,h2⟩:=XY hr h;have hi:=h.waits.idl;have hf:wQ (vV s.st):=by
  rw[e];refine⟨by rw[List.length_append];simp;omega,fun x hx=>?_⟩;rcases List.mem_append.1 hx with hx|hx
  ·have:=h2 x hx;omega
  ·rw[List.mem_singleton.1 hx];omega
 refine⟨_,yLq hk hf,rfl,?_⟩;rw[e];have:=vFf h2;have e2:qA (l++[s.ids])=qA l++qV s.ids:=by simp[qA]
 rw[e2,List.length_append,jX];omega
def rS (r:qL)(s:zZ)(ev:Int):vt:=(r.1,r.2.1,r.2.2.1,r.2.2.2.1,r.2.2.2.2,s.t,s.B.1,s.B.2.1,s.B.2.2.1,s.B.2.2.2,s.pr,s.ho,s.m,s.ids,s.to,s.ov,ev,false)
structure X0 (r:qL) (ev:Int) (N:Nat) (s:zZ) (G:vt) (L:iH) (D:wC):Prop where
 g:G=rS r s ev
 inv:yE r s
 calm:UG D
 room:D.1=200000
 x:(wW D 0).length≤20000+100*N
 y:(wW D 1).length≤20000+100*N
 tk:Tk L N
theorem X0.more {r:qL}{ev:Int}{N M:Nat}{s:zZ}{G:vt}{L:iH}{D:wC}(h:X0 r ev N s G L D)(hM:N≤M):X0 r ev M s G L D:=
 ⟨h.g,h.inv,h.calm,h.room,by have:=h.x;omega,by have:=h.y;omega,h.tk.more hM⟩
def vM9 (k:Nat)(r:qL)(s:zZ)(a:Int)(m:zC×Int)(t:zZ)(o:List qQ):Prop:=
 (m.2≠0∧t=s∧o=[(a,16,m.2,0,0,0,0,0)])∨
 (m.2=0∧∃u p e,oG k r s.st (a,m.1)=some (u,p,e)∧((e≠0∧t=s∧o=[(a,16,e,0,0,0,0,0)])∨(e=0∧u=t.st∧o=p)))
structure X1 (D:wC):Prop where
 x:D.2.2.1=(D.2.1.length:Int)
 y:D.2.2.2.2.1=(D.2.2.2.1.length:Int)
 room:0≤D.1∧D.1≤200000
 lx:(D.2.1.length:Int)≤D.1
 ly:(D.2.2.2.1.length:Int)≤D.1
 ck:D.2.2.2.2.2.2.1<9223372036854775808
def Bu (D:wC):Bool:=D.2.2.2.2.2.2.2.2.1
def lI (D:wC):Bool:=D.2.2.2.2.2.2.2.1
structure ug (D D':wC) (i:Int) (c:AC) (dn:Bool):Prop where
 clean:X1 D'
 room:D'.1=D.1
 it:wW D' i=c
 oth:wW D' (1-i)=wW D (1-i)
 dn:Bu D'=dn
 ar:lI D'=lI D
theorem ug.trans {D D1 D2 i c d p q}(h:ug D D1 i c p)(g:ug D1 D2 i d q):ug D D2 i d q:=
 ⟨g.clean,g.room.trans h.room,g.it,g.oth.trans h.oth,g.dn,g.ar.trans h.ar⟩
inductive PA (D:wC) (i:Int) (R:AC):Int→wC→Prop
 |full (h:(R.length:Int)>D.1):PA D i R 10 D
 |ok {D':wC} (h:ug D D' i R false):PA D i R 0 D'
 |none {D':wC} (ha:lI D=true) (h:ug D D' i (wW D i) true):PA D i R 11 D'
 |X2 {D':wC} {j:Nat} (ha:lI D=true) (hj:j≤R.length) (h:ug D D' i (R.take j) true):PA D i R 11 D'
inductive X3 (L:iH) (D:wC) (R:AC):Int→iH→wC→Prop
 |full (h:(R.length:Int)>D.1-((wW D L.1).length:Int)):X3 L D R 10 L D
 |ok {D':wC} (h:ug D D' L.1 (wW D L.1++R) false):X3 L D R 0 (L.1,L.2.1,zA (L.2.2.1+1),L.2.2.2) D'
 |X2 {D':wC} {j:Nat} (ha:lI D=true) (hj:j≤R.length) (h:ug D D' L.1 (wW D L.1++R.take j) true):X3 L D R 11 L D'
structure PB (b:AC) (g:Int) (S:AC) (rows:EQ):Prop where
 is:∃t,b=eM ((yL g++S)::rows)++t∧Cut t
 gen:1≤g∧g≤4611686018427387904
 len:S.length≤50000
 rl:∀x∈rows,x.length≤60000
 rn:rows.length≤900
theorem yS0 {k:Nat}{D:wC}{i:Int}(hi:i=0∨i=1)(hl:(wW D i).length≤1000000):X4 k D i=some (wW D i):=by
 rcases hi with rfl|rfl
 ·have hl:D.2.1.length≤1000000:=hl;show(Bv k D.2.1).bind (fun x1=>some x1)=some D.2.1;unfold Bv;rw[qH (by omega) (by omega)];rfl
 ·have hl:D.2.2.2.1.length≤1000000:=hl;show(Bv k D.2.2.2.1).bind (fun x1=>some x1)=some D.2.2.2.1;unfold Bv;rw[qH (by omega) (by omega)];rfl
theorem KX {k:Nat}(hk:1000≤k){D:wC}{i:Int}(hi:i=0∨i=1)(hl:(wW D i).length≤1000000){g:Int}{S:AC}{rows:EQ}(h:PB (wW D i) g S rows):xw k D i=some (g,S,rows):=by
 obtain⟨⟨t,e,hc⟩,hg,hS,hr,hn⟩:=h;unfold xw;rw[yS0 hi hl,ae];have rG:(yL g++S).length=8+S.length:=by rw[List.length_append];rfl
 rw[e,List.length_append] at hl;rw [e, yLt (l := (yL g ++ S) :: rows) hc (by omega) (fun x hx=>by
  rcases List.mem_cons.1 hx with rfl|hx
  ·omega
  ·exact hr x hx) (by simp;omega) (by simp;omega) (by omega)]
 simp only[ae];have hb:zB 0 ((yL g++S)::rows).length=true:=wT (by omega) (by simp);have ht:List.take 8 (yL g++S)=yL g:=rfl;have hd:List.drop 8 (yL g++S)=S:=rfl;have hs:qR ((yL g++S)::rows) 1 (((yL g++S)::rows).length-1)=rows:=by
  unfold qR;show List.take _ rows=rows;exact List.take_of_length_le (by simp)
 rw[ab (by simp;omega),hb];simp only[an,aj,List.getD_cons_zero];rw[ab (show¬((yL g++S).length:Int)<8 by omega),aa (show(8:Int)≤((yL g++S).length:Int) by omega),ht,UI (by omega) (by omega),aa (show(1:Int)≤(((yL g++S)::rows).length:Int) by simp;omega),hd,hs];simp only[an,aj,ae,List.getD_cons_zero];have eF:zB 0 [g].length=true:=rfl;rw[eF,ab (show¬g<1 by omega),ab (show¬g>4611686018427387904 by omega)];rfl
theorem vCa {k}(hk:1000≤k){D i}(hi:i=0∨i=1)(hl:(wW D i).length≤1000000)(h:Cut (wW D i)):xw k D i=some (0,[],[]):=by
 unfold xw;rw[yS0 hi hl,ae];have:=yLt (k:=k) h hl (l:=[]) (by simp) (by grind) (by simp) (by simp[eM]);rw[show eM []++wW D i=wW D i from rfl] at this;simp_all
structure Has (D:wC) (m g:Int) (S:AC) (rows:EQ):Prop where
 side:m=0∨m=1
 main:PB (wW D m) g S rows
 other:Cut (wW D (1-m))∨∃g' S' gV,g'<g∧PB (wW D (1-m)) g' S' gV
 x:(wW D 0).length≤1000000
 y:(wW D 1).length≤1000000
theorem yD5 {k:Nat}(hk:1000≤k){D:wC}{m g:Int}{S:AC}{rows:EQ}(h:Has D m g S rows):KY k D=some (g,m,S,rows,true):=by
 have hx:=h.x;have hy:=h.y;have hg:=h.main.gen;unfold KY;rcases h.side with rfl|rfl
 ·rw[KX hk (.inl rfl) hx h.main,ae];simp only[];rw[aa (show g>0 by omega),aj];rcases h.other with hc|⟨g',S',gV,bj,ho⟩
  ·rw[vCa hk (.inr rfl) hy hc,ae];simp only[];rw[ab (by omega)];rfl
  ·rw[KX hk (.inr rfl) hy ho,ae];simp only[];rw[ab (by omega)];rfl
 ·rcases h.other with hc|⟨g',S',gV,bj,ho⟩
  ·rw[vCa hk (.inl rfl) hx hc,ae];simp only[];rw[ab (by omega),an,KX hk (.inr rfl) hy h.main,ae];simp only[];rw[aa (show g>0 by omega)];rfl
  ·have hg':=ho.gen;rw[KX hk (.inl rfl) hx ho,ae];simp only[];rw[aa (show g'>0 by omega),aj,KX hk (.inr rfl) hy h.main,ae];simp only[];rw[aa (show g>g' by omega)];rfl
theorem vHq {k}(hk:1000≤k){D m g S rows}(h:Has D m g S rows) f:PD k D f=some (.inl (S,rows,0,D,m,g,(rows.length:Int),true)):=by
 unfold PD;rw[yD5 hk h];rfl
structure mE (r:qL) (s:zZ):Prop where
 inv:yE r s
 ids:∀x∈s.ids,x<9223372036854775808
theorem PE {α:Type}{d x}{l:List α}(h:x∈l):∃i,i<l.length∧l.getD i d=x:=by
 obtain⟨i,hi,e⟩:=List.mem_iff_getElem.1 h;exact⟨i,hi,by simp_all⟩
theorem vBn {k:Nat}(hk:1000≤k){r:qL}(hr:jB r){s:zZ}(h:mE r s):∀x∈vV s.st,fc k x:=by
 have hi:=h.inv;have n6:=hi.bk.n6;have n1:=hi.bk.n1;have hm:=hi.waits.len;have h3:=hr.n3;have hb:wM s.B.1 s.B.2.1 s.B.2.2.1 s.B.2.2.2:=hi.bk;have hL:=hi.laid 0 (by omega);have hol:=hi.hol;have htk:=hi.tk;have Cz:=hr.cl;have O7:=hi.tot;have hn:=hi.n;have ak:=hi.waits.idl;have b1:=hb.bl;have b2:=hb.pl;have b3:=hb.ml;have few:∀{x:AC},x.length≤200→kT x→fc k x:=fun h1 h2=>⟨by omega,by omega,h2⟩
 have row:∀{l:EQ} {n:Nat} {x:AC},x∈l→l.length=n→(∀i,i<n→(l.getD i []).length≤200)→(∀i,i<n→∀j,j<(l.getD i []).length→-9223372036854775808≤(l.getD i []).getD j 0∧(l.getD i []).getD j 0<9223372036854775808)→fc k x:=by
  intro l n x hx hl h1 h2;obtain⟨i,hi,e⟩:=PE (d:=[]) hx;have g1:=h1 i (by omega);have g2:=h2 i (by omega);rw[e] at g1 g2;refine few g1 fun y hy=>?_
  obtain⟨j,hj,e⟩:=PE (d:=0) hy;rw[←e];exact g2 j hj
 have one:∀{x:AC},x.length≤200→(∀j,j<x.length→-9223372036854775808≤x.getD j 0∧x.getD j 0<9223372036854775808)→fc k x:=fun h1 h2=>few h1 fun y hy=>by
  obtain⟨j,hj,e⟩:=PE (d:=0) hy;rw[←e];exact h2 j hj
 intro x hx;simp only[vV,List.mem_append,List.mem_singleton,List.mem_map] at hx;rcases hx with((((((((rfl|⟨a,ha,rfl⟩)|hx)|rfl)|hx)|rfl)|hx)|⟨p,hp,rfl⟩)|rfl)
 ·refine few (by simp) fun y hy=>?_
  simp only[List.mem_cons,List.not_mem_nil,or_false] at hy;have q0:s.st.1=s.t:=rfl;have q1:s.st.2.2.2.2.2.2.2.2.2.1=s.to:=rfl;have q2:s.st.2.1.length=s.B.1.length:=rfl;have q3:s.st.2.2.1.length=s.B.2.1.length:=rfl;have q4:s.st.2.2.2.1.length=s.B.2.2.1.length:=rfl;have q5:s.st.2.2.2.2.1.length=s.B.2.2.2.length:=rfl;have q6:s.st.2.2.2.2.2.2.1.length=s.ho.length:=rfl;have q7:s.st.2.2.2.2.2.2.2.1.length=s.m.length:=rfl;rcases hy with rfl|rfl|rfl|rfl|rfl|rfl|rfl|rfl|rfl
  ·omega
  ·omega
  ·cases s.st.2.2.2.2.2.2.2.2.2.2<;>decide
  all_goals omega
 ·obtain⟨i,bG,e⟩:=PE (d:=ad) ha;have:=pF.1 (hb.acct i bG);have e:s.B.1.getD i ad=a:=e;have:=(pF (a:=a)).1 (by rw[←e];exact hb.acct i bG);refine few (by simp[vZ]) fun y hy=>?_
  simp only[vZ,List.mem_cons,List.not_mem_nil,or_false] at hy;rcases hy with rfl|rfl|rfl<;>omega
 ·refine row (n:=s.B.1.length) hx b1 (fun i hi=>?_) fun i hi j hj=>?_
  ·have:=hb.br i hi;show(s.B.2.1.getD i []).length≤200;omega
  ·have hj:j<(s.B.2.1.getD i []).length:=hj;have g:=hb.bil i hi j (by have:=hb.br i hi;omega);unfold wL at g;simp only[bb,aY] at g;have g:cell s.B.2.1 i j≥-1∧cell s.B.2.1 i j≤2305843009213693952:=g;show-9223372036854775808≤cell s.B.2.1 i j∧cell s.B.2.1 i j<9223372036854775808;omega
 ·refine one (x:=s.B.2.2.1) (by omega) fun j hj=>?_
  have g:=hb.mul j (by omega);unfold wL at g;simp only[bb,aY] at g;omega
 ·refine row (n:=s.B.1.length) hx b2 (fun i hi=>?_) fun i hi j hj=>?_
  ·have:=hb.pr i hi;show(s.B.2.2.2.getD i []).length≤200;omega
  ·have hj:j<(s.B.2.2.2.getD i []).length:=hj;have g:=hb.net i hi j (by have:=hb.pr i hi;omega);unfold gx at g;simp only[bb,aY] at g;have g:cell s.B.2.2.2 i j>-72057594037927936∧cell s.B.2.2.2 i j<72057594037927936:=g;show-9223372036854775808≤cell s.B.2.2.2 i j∧cell s.B.2.2.2 i j<9223372036854775808;omega
 ·refine one (x:=s.pr) (by rw[hL.pl];omega) fun j hj=>?_
  have:=hL.price j (by rw[←hL.pl];exact hj);omega
 ·refine row (n:=s.B.1.length) hx hol (fun i bG=>?_) fun i bG j hj=>?_
  ·have:=(hi.laid i bG).hl;show(s.ho.getD i []).length≤200;omega
  ·have hj:j<(s.ho.getD i []).length:=hj;have L:=hi.laid i bG;have:=L.hold j (by rw[←L.hl];exact hj);show-9223372036854775808≤(s.ho.getD i []).getD j 0∧(s.ho.getD i []).getD j 0<9223372036854775808;omega
 ·have m1:=hi.waits.may p hp;have m2:=hi.waits.time p hp;have m3:=hi.waits.were p hp;have m4:=hi.waits.pos _ m3;have m5:=h.ids _ m3;have f1:=m1.f0;have f2:=m1.f1;have f3:=m1.t0;have f4:=m1.t1;have f5:=m1.a1;have f6:=m1.a2;have f7:=m1.c1;have f8:=m1.c3;refine few (by simp[vI]) fun y hy=>?_
  simp only[vI,List.mem_cons,List.not_mem_nil,or_false] at hy;rcases hy with rfl|rfl|rfl|rfl|rfl|rfl|rfl<;>omega
 ·exact few (x:=s.ids) (by omega) fun y hy=>⟨by have:=hi.waits.pos y hy;omega,h.ids y hy⟩
inductive fa (k:Nat) (r:qL):zZ→EQ→zZ→Prop
 |nil (s:zZ):fa k r s [] s
 |cons {s t u:zZ} {b:AC} {rows:EQ} {c:iC} {o:List yK} {e:Int} (h1:rT k b=some (c,0)) (h2:oG k r s.st c=some (t.st,o,e)) (g:fa k r t rows u):fa k r s (b::rows) u
 |skip {s u:zZ} {b:AC} {rows:EQ} {c:iC} {e:Int} (h1:rT k b=some (c,e)) (he:e≠0) (g:fa k r s rows u):fa k r s (b::rows) u
theorem fa.app {k:Nat}{r:qL}{s t u:zZ}{a b:EQ}(g:fa k r s a t)(h:fa k r t b u):fa k r s (a++b) u:=by
 induction g with
 |nil s=>exact h
 |cons a b _ ih=>exact .cons a b (ih h)
 |skip a b _ ih=>exact .skip a b (ih h)
theorem fa.snocE {k:Nat}{r:qL}{s t u:zZ}{b:AC}{rows:EQ}{c:iC}{o:List yK}{e:Int}(g:fa k r s rows t)(h1:rT k b=some (c,0))(h2:oG k r t.st c=some (u.st,o,e)):fa k r s (rows++[b]) u:=g.app (.cons h1 h2 (.nil _))
theorem fa.snocS {k:Nat}{r:qL}{s t:zZ}{b:AC}{rows:EQ}{c:iC}{e:Int}(g:fa k r s rows t)(h1:rT k b=some (c,e))(he:e≠0):fa k r s (rows++[b]) t:=g.app (.skip h1 he (.nil _))
theorem X5 {k:Nat}{r:qL}{ev:Int}{th:Bool}{rows:EQ}{b0}{x y:AC}{L:iH}{u:zZ}:∀(m n i:Nat) (s:zZ),i+m=rows.length→m<n→rows.length≤1000000→fa k r s (rows.drop i) u→
  xx k n ev th rows (rows.length:Int) (i:Int) b0 x y r L s.st=some (ev,th,b0,x,y,r,L,u.st)
 |0,n,i,s,h1,h2,_,g=>by
  obtain⟨n,rfl⟩:∃m,n=m+1:=⟨n-1,by omega⟩;rw[List.drop_of_length_le (by omega)] at g;cases g;show xy k _ ev th rows (rows.length:Int) (i:Int) b0 x y r L u.st=_;unfold xy;rw[ab (by omega)];rfl
 |m+1,n,i,s,h1,h2,h3,g=>by
  obtain⟨n,rfl⟩:∃m,n=m+1:=⟨n-1,by omega⟩;have hi:i<rows.length:=by omega
  have ed:rows.drop i=rows.getD i []::rows.drop (i+1):=by rw[List.drop_eq_getElem_cons hi,List.getD_eq_getElem?_getD,List.getElem?_eq_getElem hi];rfl
  rw[ed] at g;cases g with
  |@skip _ _ _ _ c e g1 he g3=>
   have ih:=X5 (ev:=ev) (th:=th) (b0:=b0) (x:=x) (y:=y) (L:=L) m n (i+1) s (by omega) (by omega) h3 g3;show xy k (xx k n) ev th rows (rows.length:Int) (i:Int) b0 x y r L s.st=_;unfold xy;rw[aa (show(i:Int)<rows.length by omega),wT (by omega) (by omega),aq,g1];simp only[aj,ae];rw[ab he,qE hi (by omega)];exact ih
  |@cons _ t _ _ _ c o e g1 g2 g3=>
  have ih:=X5 (ev:=ev) (th:=th) (b0:=b0) (x:=x) (y:=y) (L:=L) m n (i+1) t (by omega) (by omega) h3 g3;show xy k (xx k n) ev th rows (rows.length:Int) (i:Int) b0 x y r L s.st=_;unfold xy;rw[aa (show(i:Int)<rows.length by omega),wT (by omega) (by omega),aq,g1];simp only[aj,ae,decide_true];rw[g2];simp only[ae];rw[qE hi (by omega)];exact ih
theorem vQc {k:Nat}(hk:1000≤k){r:qL}(hr:jB r)(Bw:xz k r=some true)(gU:yE r (fH r))(sK:uf k r=some (fH r).st){ev:Int}(aV:1≤ev∧ev≤1000)
  {D:wC} {m g:Int} {s0 s:zZ} {rows:EQ} (h0:mE r s0) (hD:Has D m g (qA (vV s0.st)) rows) (hkp:fa k r s0 rows s):
  fI k r D ev=(mo k s.st).bind fun b=>(uh k (m,g,(rows.length:Int),true) D b).bind fun x=>bif !(decide (x.1=0)) then some (.inr (x.1,x.2.2)) else some (.inl (0,x.2.2,rS r s ev,x.2.1)):=by
 obtain⟨b0,ET,_,_⟩:=XZ hk hr gU;obtain⟨b1,_,eF,rG⟩:=XZ hk hr h0.inv;obtain⟨l,el,l1,l2⟩:=XY hr h0.inv;have X6:=h0.inv.waits.idl;have hrn:=hD.main.rn;have hf:wQ (vV s0.st):=by
  rw[el];refine⟨by rw[List.length_append];simp;omega,fun x hx=>?_⟩;rcases List.mem_append.1 hx with hx|hx
  ·have:=l2 x hx;omega
  ·rw[List.mem_singleton.1 hx];omega
 have j6:=vLy hk hf (vBn hk hr h0) (by rw[eF] at rG;omega);have his:=XT hk hr h0.inv;unfold fI;rw[Bw];simp only[ae,aE,an];rw[ab (show¬ev<1 by omega),ab (show¬ev>1000 by omega)];simp only[an];rw[yD5 hk hD];simp only[ae];rw[sK];simp only[ae];rw[ET];simp only[ae];rw[vHq hk hD];simp only[ae,decide_true,aE,an];rw[j6];simp only[ae,aE,an];rw[his];simp only[ae,aE,an];have pE:=X5 (k:=k) (r:=r) (ev:=ev) (th:=true) (rows:=rows) (b0:=(D.1,D.2.2.1,D.2.2.2.2)) (x:=D.2.1) (y:=D.2.2.2.1) (L:=(m,g,(rows.length:Int),true)) rows.length k 0 s0 (by omega) (by omega) (by omega) (by simpa using hkp);refine(congrArg (fun z=>Option.bind z _) pE).trans ?_;rfl
def oI (s:zZ):AC:=qA (vV s.st)
theorem X7 {k}(hk:1000≤k){r}(hr:jB r){s}(h:yE r s):mo k s.st=some (oI s)∧(oI s).length≤7000:=by
 obtain⟨b,h1,h2,h3⟩:=XZ hk hr h;subst h2;exact⟨h1,h3⟩
structure KZ (k:Nat) (r:qL) (N:Nat) (s s0:zZ) (rows:EQ) (g:Int):Prop where
 i0:mE r s0
 i:mE r s
 kept:fa k r s0 rows s
 gen:1≤g∧g≤2305843009213693953+(N:Int)
 rl:∀x∈rows,x.length≤57
 rn:rows.length≤N
def Old (b:AC)(g:Int):Prop:=Cut b∨∃g' S' gV,g'<g∧PB b g' S' gV
def xA (k:Nat)(r:qL)(N:Nat)(s:zZ)(D:wC):Prop:=
 X1 D∧∃(m g:Int) (s0:zZ) (rows:EQ) (t:AC),(m=0∨m=1)∧KZ k r N s s0 rows g∧wW D m=eM ((yL g++oI s0)::rows)++t∧Cut t∧Old (wW D (1-m)) g
structure xB (k:Nat) (r:qL) (N:Nat) (s:zZ) (L:iH) (D:wC):Prop where
 clean:X1 D
 up:Bu D=false
 side:L.1=0∨L.1=1
 stale:L.2.2.2=false
 rows:0≤L.2.2.1∧L.2.2.1≤(N:Int)
 main:∃(s0:zZ) (rows:EQ),KZ k r N s s0 rows L.2.1∧wW D L.1=eM ((yL L.2.1++oI s0)::rows)
 old:Old (wW D (1-L.1)) L.2.1
theorem KZ.more {k r N M s s0 rows g}(h:KZ k r N s s0 rows g)(hM:N≤M):KZ k r M s s0 rows g:=
 ⟨h.i0,h.i,h.kept,by have:=h.gen;omega,h.rl,by have:=h.rn;omega⟩
theorem xB.more {k r N M s L D}(h:xB k r N s L D)(hM:N≤M):xB k r M s L D:=
 ⟨h.clean,h.up,h.side,h.stale,by have:=h.rows;omega,by obtain⟨s0,rows,a,b⟩:=h.main;exact⟨s0,rows,a.more hM,b⟩,h.old⟩
theorem xA.more {k r N M s D}(h:xA k r N s D)(hM:N≤M):xA k r M s D:=by
 obtain⟨a,m,g,s0,rows,t,b,c,d⟩:=h;exact⟨a,m,g,s0,rows,t,b,c.more hM,d⟩
theorem vPb {l}(h:∀x∈l,x.length≤57):(eM l).length≤59*l.length:=by
 induction l with
 |nil=>simp[eM]
 |cons x l ih=>
  have h1:=ih (by grind);have h2:=h x (by simp);have e:eM (x::l)=jI x++eM l:=by rfl
  rw[e,List.length_append,Dv,List.length_cons];omega
def X8 (r:qL)(s:zZ)(ev:Int):vt:=(r.1,r.2.1,r.2.2.1,r.2.2.2.1,r.2.2.2.2,s.t,s.B.1,s.B.2.1,s.B.2.2.1,s.B.2.2.2,s.pr,s.ho,s.m,s.ids,s.to,s.ov,ev,true)
def PF (x:Int):Prop:= -9223372036854775808≤x∧x<9223372036854775808
inductive K0 (k:Nat) (r:qL) (ev:Int) (N:Nat) (s:zZ) (L:iH) (D:wC) (a:Int) (m:zC×Int):List qQ→vt→iH→wC→Prop
 |none {o:List qQ} (ha:vM9 k r s a m s o):K0 k r ev N s L D a m o (rS r s ev) L D
 |X9 {L':iH} {D':wC} (hf:D.1<100000) (hr:xB k r (N+4) s L' D') (K1:lI D'=lI D):K0 k r ev N s L D a m [(a,16,10,0,0,0,0,0)] (rS r s ev) L' D'
 |done {t:zZ} {o:List qQ} {L':iH} {D':wC} (hm:m.2=0) (ha:oG k r s.st (a,m.1)=some (t.st,o,0)) (hr:xB k r (N+4) t L' D') (K1:lI D'=lI D):K0 k r ev N s L D a m o (rS r t ev) L' D'
 |lost {t:zZ} {o:List qQ} {L':iH} {D':wC} (hm:m.2=0) (ha:oG k r s.st (a,m.1)=some (t.st,o,0)) (K1:lI D=true) (hd:Bu D'=true) (hs:xA k r (N+4) s D'∨xA k r (N+4) t D'):K0 k r ev N s L D a m [] (X8 r s ev) L' D'
 |late {t:zZ} {o:List qQ} {L':iH} {D':wC} (hm:m.2=0) (ha:oG k r s.st (a,m.1)=some (t.st,o,0)) (K1:lI D=true) (hd:Bu D'=true) (hs:xA k r (N+4) t D'):K0 k r ev N s L D a m o (X8 r t ev) L' D'
inductive Ya (k:Nat) (r:qL) (ev:Int) (N:Nat) (s:zZ) (D:wC):((Int×wC×vt×iH)⊕(Int×wC))→Prop
 |up {L':iH} {D':wC} (hr:xB k r (N+1) s L' D') (K1:lI D'=lI D) (aQ:D'.1=D.1):Ya k r ev N s D (.inl (0,D',rS r s ev,L'))
 |X9 (hf:D.1<100000):Ya k r ev N s D (.inr (10,D))
 |lost {D':wC} (K1:lI D=true) (hd:Bu D'=true) (hs:xA k r (N+1) s D') (aQ:D'.1=D.1):Ya k r ev N s D (.inr (11,D'))
end Go.Ab.Gi
namespace Go.Ab.Gi
open Go.Ab Go.RowKit
def PG:wC:=(200000,[],0,[],0,0,0,false,false,0)
def iD (k:Nat)(r:qL):wC:=match fI k r PG 1 with
 |some (.inl x)=>x.2.1
 |_=>PG
structure vEb (k:Nat) (r:qL):Prop where
 new:PH k 200000=some PG
 is:∀ev,1≤ev→ev≤1000→fI k r PG ev=some (.inl (0,iD k r,rS r (fH r) ev,(0,1,0,false)))
 calm:(!(iD k r).2.2.2.2.2.2.2.1&& !(iD k r).2.2.2.2.2.2.2.2.1&&decide ((iD k r).1=200000)&&decide ((iD k r).2.1.length≤20000)&&decide ((iD k r).2.2.2.1.length≤20000))=true
inductive PS (k:Nat) (r:qL) (ev:Int) (N:Nat):zZ→vt→iH→wC→Bool→Prop
 |up {s:zZ} {L:iH} {D:wC} (h:xB k r N s L D):PS k r ev N s (rS r s ev) L D true
 |down {s s':zZ} {L:iH} {D:wC} (hd:Bu D=true) (h:xA k r N s D):PS k r ev N s (X8 r s' ev) L D false
theorem PS.more {k:Nat}{r:qL}{ev:Int}{N M:Nat}{s:zZ}{G:vt}{L:iH}{D:wC}{u:Bool}(h:PS k r ev N s G L D u)(hM:N≤M):PS k r ev M s G L D u:=by
 cases h with
 |up h=>exact .up (h.more hM)
 |down hd h=>exact .down hd (h.more hM)
structure ab2 (k:Nat) (a:yR9):Prop where
 who:PF a.2.1
 len:a.2.2.1.length≤8*k∧a.2.2.1.length≤140737488355328
 keep:a.2.2.2.2<9223372036854775808
theorem vRg {r:qL}(hr:jB r){s:zZ}(h:mE r s):FJ 1000 s.st=some (oI s)∧WI 1000 (oI s)=some (s.st,true):=by
 obtain⟨l,el,l1,l2⟩:=XY hr h.inv;have X6:=h.inv.waits.idl;have hf:wQ (vV s.st):=by
  rw[el];refine⟨by rw[List.length_append];simp;omega,fun x hx=>?_⟩;rcases List.mem_append.1 hx with hx|hx
  ·have:=l2 x hx;omega
  ·rw[List.mem_singleton.1 hx];omega
 have rG:=(X7 (Nat.le_refl 1000) hr h.inv).2;exact⟨yZ2 (Nat.le_refl _) hf,vHi (Nat.le_refl _) hf (vBn (Nat.le_refl _) hr h) (by have:(qA (vV s.st)).length≤7000:=rG;omega)⟩
end Go.Ab.Gi
namespace Go.Ab.Gi
open Go.Ab Go.RowKit
end Go.Ab.Gi
namespace Go.Ab.Gi
open Go.Ab Go.RowKit
def GH (r:qL):Prop:=r=r0∨r=r1∨r=r2∨r=r3
theorem Yb {r}(h:GH r):Yc 1000 r=some (fH r).st:=by
 rcases h with rfl|rfl|rfl|rfl<;>kernel_rfl
theorem yR0 {r}(h:GH r):vEb 1000 r:=by
 rcases h with rfl|rfl|rfl|rfl
 ·exact⟨by kernel_rfl,fun ev h1 h2=>by
   unfold fI;rw[show xz 1000 r0=some true by kernel_rfl,ae,aE,an,ab (show¬ev<1 by omega),an,ab (show¬ev>1000 by omega),an]
   kernel_rfl,by kernel_rfl⟩
 ·exact⟨by kernel_rfl,fun ev h1 h2=>by
   unfold fI;rw[show xz 1000 r1=some true by kernel_rfl,ae,aE,an,ab (show¬ev<1 by omega),an,ab (show¬ev>1000 by omega),an]
   kernel_rfl,by kernel_rfl⟩
 ·exact⟨by kernel_rfl,fun ev h1 h2=>by
   unfold fI;rw[show xz 1000 r2=some true by kernel_rfl,ae,aE,an,ab (show¬ev<1 by omega),an,ab (show¬ev>1000 by omega),an]
   kernel_rfl,by kernel_rfl⟩
 ·exact⟨by kernel_rfl,fun ev h1 h2=>by
   unfold fI;rw[show xz 1000 r3=some true by kernel_rfl,ae,aE,an,ab (show¬ev<1 by omega),an,ab (show¬ev>1000 by omega),an]
   kernel_rfl,by kernel_rfl⟩
def yKb (r:qL):Bool:=decide ((iD 1000 r).2.2.1=((iD 1000 r).2.1.length:Int))&&decide ((iD 1000 r).2.2.2.2.1=0)&&decide ((iD 1000 r).2.2.2.1.length=0)&&decide ((iD 1000 r).2.2.2.2.2.2.1<9223372036854775808)&& !Bu (iD 1000 r)&&decide ((iD 1000 r).2.1=eM [yL 1++oI (fH r)])&&decide ((fH r).to=0)&&(fH r).ids.all (fun x=>decide (x<9223372036854775808))
theorem vDe {r:qL}(h:GH r):yKb r=true:=by
 rcases h with rfl|rfl|rfl|rfl<;>kernel_rfl
theorem fresh {r:qL}(h:GH r)(w:ue r):mE r (fH r)∧(fH r).to=0∧xB 1000 r 0 (fH r) (0,1,0,false) (iD 1000 r)∧(iD 1000 r).1=200000∧lI (iD 1000 r)=false:=by
 have c:=(yR0 h).calm;have f:=vDe h;simp only[yKb,bb,Bool.not_eq_true',aY,List.all_eq_true] at c f;obtain⟨⟨⟨⟨c1,c2⟩,c3⟩,c4⟩,c5⟩:=c;obtain⟨⟨⟨⟨⟨⟨⟨f1,f2⟩,f3⟩,f4⟩,f5⟩,f6⟩,f7⟩,f8⟩:=f;have i6:mE r (fH r):=⟨w.inv,f8⟩;refine⟨i6,f7,⟨⟨f1,by rw[f3];exact f2,by omega,by omega,by omega,f4⟩,f5,.inl rfl,rfl,by decide,⟨fH r,[],⟨i6,i6,.nil _,by decide,fun x hx=>absurd hx List.not_mem_nil,Nat.le_refl 0⟩,f6⟩,.inl ?_⟩,c3,c1⟩;have e:wW (iD 1000 r) (1-0)=(iD 1000 r).2.2.2.1:=rfl;show Cut (wW (iD 1000 r) (1-0));rw[e,List.eq_nil_of_length_eq_zero f3];exact UK
end Go.Ab.Gi
namespace Go.Ab.Gi
open Go.Ab Go.RowKit
theorem yVn {r:qL}(hr:jB r){s:zZ}(h:mE r s){c:iC}(hc:kT (wI c.2)):∃t o e,oG 1000 r s.st c=some (zZ.st t,o,e)∧xu 1000 r s.st c=some (zZ.st t,o,e)∧mE r t:=by
 obtain⟨t,o,e,h1,h2,h3⟩:=vQj hr h.inv c;refine⟨t,o,e,h1,h2,h3.inv,fun x hx=>?_⟩;rcases h3.ids x hx with q|q
 ·exact h.ids x q
 ·have:=hc c.2.2.1 (by simp[wI]);omega
theorem Yd {b:AC}(hb:b.length≤60000):GI 1000 b=some (jI b,true):=by
 unfold GI;rw[ab (by omega),an,qH (by omega) (by omega),aj];have e1:IntKind.wrap .u8 (zA (Int.tdiv (b.length:Int) 256))=IntKind.wrap .u8 (shr .i64 (b.length:Int) 8):=by
  have:Int.tdiv (b.length:Int) 256=((b.length/256:Nat):Int):=rfl;have h2:shr .i64 (b.length:Int) 8=(b.length:Int)/256:=by
   unfold shr;rw[Int.fdiv_eq_ediv_of_nonneg _ (Int.pow_nonneg (by decide))];rfl
  rw[this,zO (by omega) (by omega),h2]
  congr 1
 have e2:IntKind.wrap .u8 (Int.tmod (b.length:Int) 256)=IntKind.wrap .u8 (b.length:Int):=by
  have:Int.tmod (b.length:Int) 256=((b.length%256:Nat):Int):=rfl;rw[this,Dp,Dp];omega
 rw[e1,e2];rfl
theorem vK5 {a:Int}(ha:-9223372036854775808≤a∧a<9223372036854775808){b:AC}(hb:b.length≤49){f:wZ}(h:Dg b=(f,0)):rT 1000 (yL a++b)=some ((a,f),0):=by
 unfold rT;have hlen:(yL a++b).length=8+b.length:=by rw[List.length_append];rfl
 have ht:List.take 8 (yL a++b)=yL a:=rfl;have hd:List.drop 8 (yL a++b)=b:=rfl;rw[ab (by omega),aa (by omega),ht,UI (by decide) ha,hd,vJ0 (by decide) (by omega) (by omega),h];simp only[an,aj,ae,decide_true,aE,List.getD_cons_zero];rfl
theorem vG9:∃c,rT 1000 []=some (c,2):=⟨(0,0,0,0,0,0,0,0),by kernel_rfl⟩
theorem vXc {c:iC}(hw:PF c.1)(hf:kT (wI c.2)):Bx 1000 c=some (.inl ())∨∃b,Bx 1000 c=some (.inr b)∧0<b.length∧b.length≤57∧rT 1000 b=some (c,0):=by
 obtain⟨a,f⟩:=c;unfold Bx;rcases vR3 hf with hb|⟨b,hb,eF,K2,By⟩
 ·rw[hb];exact .inl rfl
 ·right;refine⟨yL a++b,?_,by rw[List.length_append];show 0<8+b.length;omega,by rw[List.length_append];show 8+b.length≤57;omega,vK5 hw K2 By⟩;rw[hb];simp only[ae];rw[show Nat.blt 0 b.length=true by rw[Nat.blt_eq];exact eF,J5 (by decide) (by simp) (by simp)];simp only[aj,ae];rw[show yT [a]=yL a by simp[yT],qH (by show(8+b.length)*1≤_;omega) (by show 8+b.length≤_;omega)];rfl
abbrev Bz (Y:AC)(op:Int):wC:=vu 200000 [] 0 Y 0 0 0 op
theorem Ye {Y b:AC}{op:Int}(h:Y.length+b.length≤200000):tw 1000 (Bz Y op) 1 b=some (0,Bz (Y++b) (zA (op+1))):=
 UD (by rw[zO (by omega) (by omega)];omega) (by omega)
theorem vFb {l:EQ}(h:∀x∈l,x.length≤57):(eM l).length≤59*l.length:=vPb h
theorem vD1 {r:qL}(w:ue r)(l rows:List iC)(g:Int)(hl:l.length≤50)(hw:∀c∈l,kT (wI c.2)){s:zZ}(hs:mE r s):∃t,GJ 1000 1000 l rows g 0 r s.st=some (rows,g,r,zZ.st t)∧mE r t:=by
 exact yS (L := fun n i (s : zZ) => GJ 1000 n l rows g i r s.st) (N := l.length) (fun t => (rows, g, r, zZ.st t)) (fun _ t => mE r t) (fun n t _=>by
  show GK 1000 _ l rows g (l.length:Int) r t.st=_;unfold GK;rw[ab (Int.lt_irrefl _)];rfl) (fun n i t hi ht=>by
  obtain⟨u,o,e,_,h2,h3⟩:=yVn w.ok ht (hw _ (jQ (d:=((0,0,0,0,0,0,0,0):iC)) hi));refine⟨u,?_,h3⟩;show GK 1000 (GJ 1000 n) l rows g (i:Int) r t.st=_;unfold GK;rw[aa (show(i:Int)<(l.length:Int) by omega),wT (by omega) (by omega),aq,qE hi (by omega)];simp only[aj];rw[h2];rfl) (n:=1000) (by omega) hs
structure PI (r:qL) (s0:zZ) (H:AC) (i:Nat) (s:zZ) (Y:AC):Prop where
 i6:mE r s
 is:∃R,Y=H++eM R∧fa 1000 r s0 R s∧(∀x∈R,x.length≤57)∧R.length=i
theorem PI.len {r s0 H i s Y}(h:PI r s0 H i s Y):Y.length≤H.length+59*i:=by
 obtain⟨_,R,rfl,_,h3,h4⟩:=h;have:=vFb h3;rw[List.length_append];omega
theorem vU4 {r:qL}(w:ue r)(rows:List iC)(hl:rows.length≤30)(hw:∀c∈rows,PF c.1∧kT (wI c.2)){s0:zZ}(hs:mE r s0){H:AC}(hH:H.length≤50000)(op0:Int):
  ∃(x:zZ×AC×Int),BA 1000 1000 rows 0 r s0.st (200000,0,0,0,0,false,false,op0) [] H=some (r,zZ.st x.1,(200000,0,0,0,0,false,false,x.2.2),[],x.2.1)∧PI r s0 H rows.length x.1 x.2.1:=by
 exact yS (L:=fun n i (x:zZ×AC×Int)=>BA 1000 n rows i r x.1.st (200000,0,0,0,0,false,false,x.2.2) [] x.2.1) (N:=rows.length)
  (fun x => (r, zZ.st x.1, (200000, 0, 0, 0, 0, false, false, x.2.2), [], x.2.1)) (fun i x => PI r s0 H i x.1 x.2.1) (fun n x _=>by
  show xC 1000 _ rows (rows.length:Int) r x.1.st (200000,0,0,0,0,false,false,x.2.2) [] x.2.1=_;unfold xC;rw[ab (Int.lt_irrefl _)];rfl) (fun n i x hi hx=>by
  obtain⟨s,Y,op⟩:=x;have hlen:=hx.len;obtain⟨hi6,R,hY,hK,hR,Yf⟩:=hx;dsimp only at hY hK hlen;obtain⟨c,hc⟩:∃c,rows.getD i (0,0,0,0,0,0,0,0)=c:=⟨_,rfl⟩;have aX:c∈rows:=by rw[←hc];exact jQ hi
  obtain⟨hwc,tg⟩:=hw _ aX;have lt:decide ((i:Int)<(rows.length:Int))=true:=aa (by omega);have bd:zB (i:Int) rows.length=true:=wT (by omega) (by omega);have w1:zA ((i:Int)+1)=((i+1:Nat):Int):=qE hi (by omega);have rs:∀b,eM (R++[b])=eM R++jI b:=fun b=>by simp[eM]
  rcases vXc hwc tg with hb|⟨b,hb,eF,K2,By⟩
  ·obtain⟨c0,hn⟩:=vG9;refine⟨(s,Y++jI [],zA (op+1)),?_,hi6,R++[[]],by rw[hY,rs,List.append_assoc],hK.snocS hn (by decide),fun x hx=>?_,by rw[List.length_append,Yf];rfl⟩
   ·show xC 1000 (BA 1000 n) rows (i:Int) r s.st (200000,0,0,0,0,false,false,op) [] Y=_;unfold xC;rw[lt,bd,aq,hc,w1];simp only[aj];rw[hb];simp only[ae];rw[Yd (by simp)];simp only[ae];refine(congrArg (fun z=>Option.bind z _) (Ye (Y:=Y) (b:=jI []) (op:=op) (by rw[Dv];simp;omega))).trans ?_;rfl
   ·rcases List.mem_append.1 hx with hx|hx
    ·exact hR x hx
    ·rw[List.mem_singleton.1 hx];simp
  ·obtain⟨t,o,e,h1,h2,h3⟩:=yVn w.ok hi6 tg;have blt:Nat.blt 0 b.length=true:=by rw[Nat.blt_eq];exact eF
   refine⟨(t,Y++jI b,zA (op+1)),?_,h3,R++[b],by rw[hY,rs,List.append_assoc],hK.snocE By h1,fun x hx=>?_,by rw[List.length_append,Yf];rfl⟩
   ·show xC 1000 (BA 1000 n) rows (i:Int) r s.st (200000,0,0,0,0,false,false,op) [] Y=_;unfold xC;rw[lt,bd,aq,hc,w1];simp only[aj];rw[hb];simp only[ae];rw[Yd (by omega)];simp only[ae];refine(congrArg (fun z=>Option.bind z _) (Ye (Y:=Y) (b:=jI b) (op:=op) (by rw[Dv];omega))).trans ?_;simp only[ae];rw[blt];simp only[aj];rw[h2];rfl
   ·rcases List.mem_append.1 hx with hx|hx
    ·exact hR x hx
    ·rw[List.mem_singleton.1 hx];exact K2) (n:=1000) (s:=(s0,H,op0)) (by omega) ⟨hs,[],by simp[eM],.nil _,fun x hx=>absurd hx List.not_mem_nil,rfl⟩
theorem vPx {g n:Int}{Y b:AC}{op:Int}(hg:1≤g∧g<4611686018427387904)(hb:b.length≤50000):∃D2,uh 1000 (1,g,n,true) (Bz Y op) b=some (0,(0,g+1,0,false),D2):=by
 have e1:zA (g+1)=g+1:=zO (by omega) (by omega);have hlen:(jI (yL (g+1)++b)).length=b.length+10:=by rw[Dv,List.length_append];show 8+b.length+2=_;omega
 unfold uh PJ;rw[e1,UF (by decide) [g+1] (by simp) (by simp),ae,show yT [g+1]=yL (g+1) by simp[yT]];rw[qH (by show(8+b.length)*1≤_;omega) (by show 8+b.length≤_;omega),aj,vF3,if_pos (by rw[List.length_append];show 8+b.length≤_;omega),ae];rw[aE,an,ab (by omega),an];rw[show Yg 1000 (Bz Y op)=some 200000 from rfl,ae,hlen,ab (by omega),an];rw[show zA (1-1)=0 from rfl,vNx,ae];rw[show decide ((0:Int)=0)=true from rfl,aE,an,vX0 (by rw[zO (by simp) (by simp)];simp;omega) (by simp;omega),ae];exact⟨_,rfl⟩
theorem vVz {a g:Int}{r:qL}(hr:jq 1000 a=some r)(w:ue r)(hf:GH r)(l rows:List iC)(hw:∀c∈l,kT (wI c.2))(TU:∀c∈rows,PF c.1∧kT (wI c.2)):PK 1000 a l rows g=some true:=by
 unfold PK;by_cases q1:(l.length:Int)>50
 ·rw[aa q1];rfl
 rw[ab q1];by_cases q2:(rows.length:Int)>30
 ·rw[aa q2];rfl
 rw[ab q2];by_cases h1:g<1
 ·rw[aa h1];rfl
 rw[ab h1];by_cases h2:g>2305843009213693952
 ·rw[aa h2];rfl
 rw[ab h2];simp only[an];rw[hr];simp only[ae];obtain⟨i6,_⟩:=fresh hf w;have Bw:xz 1000 r=some true:=by rcases hf with rfl|rfl|rfl|rfl<;>kernel_rfl
 rw[Yb hf];simp only[ae];obtain⟨s,p1,p2⟩:=vD1 w l rows g (by omega) hw i6;rw[p1];simp only[ae];rw[(yR0 hf).new];simp only[ae];rw[J5 (by decide) (by simp) (by simp)];simp only[ae];rw[show yT [g]=yL g by simp[yT],(vRg w.ok p2).1];simp only[ae];have Ob:=X7 (Nat.le_refl 1000) w.ok p2.inv;have rG:=Ob.2;have Uf:(yL g).length=8:=rfl;rw[qH (by omega) (by omega),Yd (by rw[List.length_append];omega)];simp only[aj,ae];have hH:(jI (yL g++oI s)).length=(oI s).length+10:=by rw[Dv,List.length_append];omega
 refine(congrArg (fun z=>Option.bind z _) (Ye (Y:=[]) (b:=jI (yL g++oI s)) (op:=0) (by rw[hH];simp;omega))).trans ?_;simp only[ae];obtain⟨⟨t,Y,op⟩,e1,e2⟩:=vU4 w rows (by omega) TU p2 (H:=[]++jI (yL g++oI s)) (by rw[List.nil_append,hH];omega) (zA (0+1));refine(congrArg (fun z=>Option.bind z _) e1).trans ?_;simp only[ae];have hYl:=e2.len;rw[List.nil_append,hH] at hYl;obtain⟨t6,R,hY,hK,hR,Yf⟩:=e2;dsimp only at hY hK hYl t6;have hy:wW (Bz Y op) 1=Y:=rfl;have hh:Has (Bz Y op) 1 g (qA (vV s.st)) R:=by
  refine⟨.inr rfl,⟨⟨[],?_,UK⟩,by omega,by have:(qA (vV s.st)).length≤7000:=rG;omega,fun x hx=>by have:=hR x hx;omega,by omega⟩,.inl ?_,by simp[wW],by rw[hy];omega⟩
  ·rw[hy,hY,List.append_nil];simp[eM];rfl
  ·show Cut (wW (Bz Y op) (1-1));exact UK
 have Yh:=X7 (Nat.le_refl 1000) w.ok t6.inv;have mV:=vQc (k:=1000) (Nat.le_refl _) w.ok Bw w.inv w.new (ev:=9) (by decide) p2 hh hK;obtain⟨D2,hsv⟩:=vPx (g:=g) (n:=(R.length:Int)) (Y:=Y) (op:=op) (b:=oI t) (by omega) (by omega);rw[Yh.1,ae,hsv,ae] at mV;refine(congrArg (fun z=>Option.bind z _) mV).trans ?_;have hk:Yi 1000=some true:=by kernel_rfl
 simp only[decide_true,aE,an,ae,aj];refine(congrArg (fun z=>Option.bind z _) (show BB 1000 (rS r t 9) (0,g+1,0,false) D2=some (t.st,rS r t 9,(0,g+1,0,false),D2) from rfl)).trans ?_;simp only[ae];refine(congrArg (fun z=>Option.bind z _) (XV w.ok t6.inv)).trans ?_;simp only[ae,aj];rw[hk];rfl
end Go.Ab.Gi
namespace Go.Ab.Gi
open Go.Ab Go.RowKit
theorem vFo (a:Int):∃r,jq 1000 a=some r∧ue r∧GH r:=by
 unfold jq;cases decide (yJ .i64 a 3=1) with
 |true=>exact⟨r1,rfl,vZj,.inr (.inl rfl)⟩
 |false=>
  cases decide (yJ .i64 a 3=2) with
  |true=>exact⟨r2,rfl,vZu,.inr (.inr (.inl rfl))⟩
  |false=>
   cases decide (yJ .i64 a 3=3) with
   |true=>exact⟨r3,rfl,vYs,.inr (.inr (.inr rfl))⟩
   |false=>exact⟨r0,rfl,vU9,.inl rfl⟩
theorem yJo {l:List iC}(h:l.length≤reachBytes∧∀i (hi:i<l.length),Wf (.pair (.int .i64) (.pair (.int .i64) (.pair (.int .i64) (.pair (.int .i64) (.pair (.int .i64) (.pair (.int .i64) (.pair (.int .i64) (.int .i64)))))))) l[i]):∀c∈l,(-9223372036854775808≤c.1∧c.1<9223372036854775808)∧kT (wI c.2):=fun a ha=>by
 obtain⟨i,hi,rfl⟩:=List.mem_iff_getElem.1 ha;have t:=h.2 i hi;refine⟨zw t.1,fun x hx=>?_⟩;simp only[wI,List.mem_cons,List.not_mem_nil,or_false] at hx;rcases hx with rfl|rfl|rfl|rfl|rfl|rfl
 ·exact zw t.2.2.1
 ·exact zw t.2.2.2.1
 ·exact zw t.2.2.2.2.1
 ·exact zw t.2.2.2.2.2.1
 ·exact zw t.2.2.2.2.2.2.1
 ·exact zw t.2.2.2.2.2.2.2
end Go.Ab.Gi
