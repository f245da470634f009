/- Plain proofs, part 2. -/
import Derived.Test.YtdhajnjinkknkaaGreatGiQB
import Derived.Test.YtdhajnjinkknkaaGreatGiQA
set_option linter.unusedVariables false
set_option linter.unusedSimpArgs false
set_option maxRecDepth 100000
namespace Go.Ab.Gi
open Go.Ab
def RY (m:jB)(i:Nat):Int:=[m.2.1,m.2.2.1,m.2.2.2.1,m.2.2.2.2.1,m.2.2.2.2.2.1,m.2.2.2.2.2.2].getD i 0
theorem vL3 (x:Int)(m:jB){n:Nat}(hn:n≤6):CN 1000 1000 x n m=some (bif qK (fun j=>decide (RY m j=0)) (6-n) n then .inl x else .inr false):=
 P0 (L := fun n i => CN 1000 n x i m) (N := 6) (fun j => decide (RY m j = 0)) (.inl x) (.inr false) (fun n => rfl) (fun n i hi=>by
  show RZ 1000 (CN 1000 n) x i m=_
  have:i=0∨i=1∨i=2∨i=3∨i=4∨i=5:=by omega
  rcases this with rfl|rfl|rfl|rfl|rfl|rfl
  ·show(bif !(decide (m.2.1=0)) then _ else _)=bif decide (m.2.1=0) then _ else _
   cases decide (m.2.1=0)<;>rfl
  ·show(bif !(decide (m.2.2.1=0)) then _ else _)=bif decide (m.2.2.1=0) then _ else _
   cases decide (m.2.2.1=0)<;>rfl
  ·show(bif !(decide (m.2.2.2.1=0)) then _ else _)=bif decide (m.2.2.2.1=0) then _ else _
   cases decide (m.2.2.2.1=0)<;>rfl
  ·show(bif !(decide (m.2.2.2.2.1=0)) then _ else _)=bif decide (m.2.2.2.2.1=0) then _ else _
   cases decide (m.2.2.2.2.1=0)<;>rfl
  ·show(bif !(decide (m.2.2.2.2.2.1=0)) then _ else _)=bif decide (m.2.2.2.2.2.1=0) then _ else _
   cases decide (m.2.2.2.2.2.1=0)<;>rfl
  ·show(bif !(decide (m.2.2.2.2.2.2=0)) then _ else _)=bif decide (m.2.2.2.2.2.2=0) then _ else _
   cases decide (m.2.2.2.2.2.2=0)<;>rfl) (6-n) n 1000 (by omega) (by omega)
theorem kU (m:jB)(n:Nat)(hn:n≤6)(h1:GK 1000 m.1=some (n:Int))(h2:R0 1000 m.1=some (n:Int)):CO 1000 m=tu 1000 m:=by
 unfold CO tu
 rw[h1,h2]
 have e1:sm false (n:Int) 0=(n:Int):=by
  unfold sm
  rw[ao,aj (show¬(0:Int)>(n:Int) by omega)]
  rfl
 simp only[ak]
 rw[e1,vL3 _ m hn,aj (show¬(n:Int)<0 by omega),ai (show(0:Int)≤n by omega),ai (show(n:Int)≤6 by omega),aB]
 simp only[ao,Bool.and_self,av,ak]
 have hl:(yB [m.2.1,m.2.2.1,m.2.2.2.1,m.2.2.2.2.1,m.2.2.2.2.2.1,m.2.2.2.2.2.2] n (6-n)).length=6-n:=by
  unfold yB
  rw[List.length_take,List.length_drop]
  simp
 have := j8 (L := fun k i => qs 1000 k (yB [m.2.1, m.2.2.1, m.2.2.2.1, m.2.2.2.2.1, m.2.2.2.2.2.1, m.2.2.2.2.2.2] n (6 - n)) ((6 - n : Nat) : Int) i) (N := 6 - n) (fun j => decide ((yB [m.2.1, m.2.2.1, m.2.2.2.1, m.2.2.2.2.1, m.2.2.2.2.2.1, m.2.2.2.2.2.2] n (6 - n)).getD j 0 = 0)) (.inl ()) (.inr false) (fun k=>by
  show tt 1000 (qs 1000 k) _ _ _=_
  unfold tt
  rw [aj (Int.lt_irrefl _)]; rfl) (fun k i hi=>by
  show tt 1000 (qs 1000 k) _ _ _=_
  unfold tt
  rw[ai (show(i:Int)<((6-n:Nat):Int) by omega),qG,hl,ai hi,aB,qO hi (by omega)]
  cases decide ((yB [m.2.1,m.2.2.1,m.2.2.2.1,m.2.2.2.2.1,m.2.2.2.2.2.1,m.2.2.2.2.2.2] n (6-n)).getD i 0=0)<;>rfl) (n:=1000) (by omega)
 have h':qs 1000 1000 (yB [m.2.1,m.2.2.1,m.2.2.2.1,m.2.2.2.2.1,m.2.2.2.2.2.1,m.2.2.2.2.2.2] n (6-n)) ((6-n:Nat):Int) 0=_:=this
 rw[hl,h']
 have ea:qK (fun j=>decide (RY m j=0)) (6-n) n=qK (fun j=>decide ((yB [m.2.1,m.2.2.1,m.2.2.2.1,m.2.2.2.2.1,m.2.2.2.2.2.1,m.2.2.2.2.2.2] n (6-n)).getD j 0=0)) (6-n) 0:=by
  have:n=0∨n=1∨n=2∨n=3∨n=4∨n=5∨n=6:=by omega
  rcases this with rfl|rfl|rfl|rfl|rfl|rfl|rfl<;>rfl
 rw[ea]
 cases qK (fun j=>decide ((yB [m.2.1,m.2.2.1,m.2.2.2.1,m.2.2.2.2.1,m.2.2.2.2.2.1,m.2.2.2.2.2.2] n (6-n)).getD j 0=0)) (6-n) 0 with
 |false=>rfl
 |true=>
  simp only[av,ak]
  rw[ai (show(n:Int)≥0 by omega)]
theorem vBz (kd a b c d e f:Int)(h:1≤kd∧kd≤14):CO 1000 (kd,a,b,c,d,e,f)=tu 1000 (kd,a,b,c,d,e,f):=by
 have:kd=1∨kd=2∨kd=3∨kd=4∨kd=5∨kd=6∨kd=7∨kd=8∨kd=9∨kd=10∨kd=11∨kd=12∨kd=13∨kd=14:=by omega
 rcases this with rfl|rfl|rfl|rfl|rfl|rfl|rfl|rfl|rfl|rfl|rfl|rfl|rfl|rfl
 ·exact kU _ 6 (by decide) rfl rfl
 ·exact kU _ 1 (by decide) rfl rfl
 ·exact kU _ 2 (by decide) rfl rfl
 ·exact kU _ 2 (by decide) rfl rfl
 ·exact kU _ 2 (by decide) rfl rfl
 ·exact kU _ 1 (by decide) rfl rfl
 ·exact kU _ 1 (by decide) rfl rfl
 ·exact kU _ 2 (by decide) rfl rfl
 ·exact kU _ 0 (by decide) rfl rfl
 ·exact kU _ 2 (by decide) rfl rfl
 ·exact kU _ 2 (by decide) rfl rfl
 ·exact kU _ 2 (by decide) rfl rfl
 ·exact kU _ 0 (by decide) rfl rfl
 ·exact kU _ 0 (by decide) rfl rfl
theorem vIx (r:qR)(s:qL)(c:nD){X:Type}(bad:Int→X)(Q:X):∃e,tv 1000 r s.st c=some e∧
  (e=0→((10≤c.2.1∧c.2.1≤14∧c.1= -1)∨(1≤c.2.1∧c.2.1≤9∧0≤c.1∧c.1<r.1))∧(s.ov=true→c.2.1=9))∧
  ((xc 1000 r c).bind fun x0=>some (bif !x0 then bad 5 else bif s.ov then(bif !(decide (c.2.1=9)) then bad 7 else Q) else Q))=some (bif decide (e=0) then Q else bad e):=by
 obtain⟨e,he,hm⟩:=yYo (k:=1000) (by decide) r s c
 refine⟨e,he,hm,?_⟩
 have hA:KM 1000 c.2.1=some (decide (c.2.1≥1)&&decide (c.2.1≤14)):=by
  unfold KM;cases decide (c.2.1≥1)<;>rfl
 have hH:KN 1000 c.2.1=some (decide (c.2.1≥10)&&decide (c.2.1≤14)):=by
  unfold KN;cases decide (c.2.1≥10)<;>rfl
 by_cases hk:1≤c.2.1∧c.2.1≤14
 ·obtain⟨b,hb⟩:=ySo (k:=1000) (by decide) c.2
  have bJ:CO 1000 c.2=some b:=(vBz _ _ _ _ _ _ _ hk).trans hb
  have eo:s.st.2.2.2.2.2.2.2.2.2.2=s.ov:=rfl
  unfold tv at he
  rw[RV,RW,hb,eo] at he
  simp only[ak] at he
  unfold xc
  rw[hA,hH,bJ]
  simp only[ak]
  clear hm hA hH hb bJ
  generalize decide (c.1≥0)=A at he⊢
  generalize decide (c.2.1≥10)=B at he⊢
  generalize decide (c.2.1≤14)=C at he⊢
  generalize decide (c.2.1≥1)=D at he⊢
  generalize decide (c.1= -1)=E at he⊢
  generalize decide (c.1<r.1)=F at he⊢
  generalize decide (c.2.1=9)=G at he⊢
  generalize s.ov=o at he⊢
  cases A<;>cases B<;>cases C<;>cases D<;>cases E<;>cases F<;>cases G<;>cases b<;>cases o<;>(cases he;rfl)
 ·have g:(decide (c.2.1≥1)&&decide (c.2.1≤14))=false:=by
   by_cases a:c.2.1≥1
   ·rw[ai a,aj (fun b=>hk ⟨a,b⟩)];rfl
   ·rw[aj a];rfl
  have e5:e=5:=by
   unfold tv at he
   rw[RV,RW,g] at he
   simp only[ak] at he
   cases hd:decide (c.1≥0)<;>rw[hd] at he<;>(cases he;rfl)
  subst e5
  unfold xc
  rw[hA,g]
  rfl
structure CP (r:qR) (s:qL) (who:Int) (f:jB) (t:qL) (l l':List yI) (paid:Int):Prop where
 dealt:KL r s f t l
 told:l=(if who= -1 then l' else lL who 15 0::l')
 paid:paid=if f.1=1 then f.2.1 else 0
 pos:f.1=1→0<f.2.1
theorem vSs {r:qR}{s:qL}{who:Int}{f:jB}(h:(jk r s who f).1=0):0<f.2.1:=by
 unfold jk at h
 cases h1:decide (f.2.2.1≥0)&&decide (f.2.2.1≤r.1-1) with
 |false=>rw[h1] at h;cases h
 |true=>
 cases h2:decide (f.2.2.2.2.1≥1)&&decide (f.2.2.2.2.1≤3) with
 |false=>rw[h1,h2] at h;cases h
 |true=>
 rw[h1,h2] at h
 simp only[aY,ao] at h
 by_cases hc:lK r s.t (fy who f)=0
 ·unfold lK at hc
  cases hb:il r.1 s.t (fy who f) with
  |false=>rw[hb] at hc;cases hc
  |true=>
   unfold il at hb
   simp only[bN,bI] at hb
   have:(fy who f).1≥1:=hb.2.2.1
   have e:(fy who f).1=f.2.1:=rfl
   omega
 ·rw[aj hc] at h
  exact absurd h hc
theorem vNv {r:qR}(hr:jR r){s:qL}(h:yV r s)(ho:s.ov=false){who:Int}(hw:0≤who∧who<r.1){f:jB}(hf:1≤f.1∧f.1≤8):
  ∃e d d',KO 1000 (dk r s who [lL who 15 0]) f=some (e,d)∧tx 1000 (rk r s who) f=some (e,d')∧(e=0→∃t l l' paid,d=dk r t who l∧d'=qT r t who l' paid∧CP r s who f t l l' paid):=by
 unfold KO tx
 have tz:¬who= -1:=by omega
 have Qe:¬f.1=10:=by omega
 have Qf:¬f.1=11:=by omega
 have h0:s.to=s.to+(if f.1=10 then f.2.2.1 else if f.1=11 then-f.2.2.1 else 0):=by rw[if_neg Qe,if_neg Qf];omega
 by_cases h1:f.1=1
 ·rw[ai h1]
  obtain⟨d,e1,e2⟩:=vI4 (k:=1000) (by decide) hr h.waits who [lL who 15 0] f
  obtain⟨d',q1,q2⟩:=vMh (k:=1000) (by decide) hr h.waits who f
  simp only[av]
  rw[e1,q1]
  exact⟨_,d,d',rfl,rfl,fun e=>⟨_,_,_,_,e2 e,q2 e,⟨h.queue ho (vNz hr h e),rfl,rfl,by simp,h0⟩,(if_neg tz).symm,(if_pos h1).symm,fun _=>vSs e⟩⟩
 rw[aj h1]
 by_cases hq:f.1=2∨f.1=3∨f.1=4
 ·obtain⟨d,e1,e2⟩:=vJ4 (k:=1000) (by decide) h.waits who (l:=[lL who 15 0]) (by simp) f
  obtain⟨d',q1,q2⟩:=vL6 (k:=1000) (by decide) (r:=r) h.waits who f hq
  have g:∃e d d',(we 1000 (dk r s who [lL who 15 0]) f).bind (fun x=>some (x.1,x.2))=some (e,d)∧(w7 1000 (rk r s who) f.1 f.2).bind (fun x=>some (x.1,x.2))=some (e,d')∧(e=0→∃t l l' paid,d=dk r t who l∧d'=qT r t who l' paid∧CP r s who f t l l' paid):=by
   rw[e1,q1]
   refine⟨_,d,d',rfl,rfl,fun e=>⟨_,_,_,_,e2 e,q2 e,⟨h.queue ho (vDo h e),rfl,rfl,?_,h0⟩,?_,(if_neg h1).symm,fun e'=>absurd e' h1⟩⟩
   ·have:=vIg (r:=r) (s:=s) (who:=who) (f:=f)
    rw[List.length_append]
    simp
    omega
   ·rw[if_neg tz];rfl
  rcases hq with e|e|e
  ·rw[ai e];exact g
  ·rw[aj (show¬f.1=2 by omega),ai e];exact g
  ·rw[aj (show¬f.1=2 by omega),aj (show¬f.1=3 by omega),ai e];exact g
 rw[aj (show¬f.1=2 by omega),aj (show¬f.1=3 by omega),aj (show¬f.1=4 by omega)]
 by_cases hq:f.1=5∨f.1=6∨f.1=7
 ·obtain⟨d,e1,e2⟩:=vAx (k:=1000) (by decide) hr h.bk h.n hw [lL who 15 0] f
  obtain⟨d',q1,q2⟩:=vEf (k:=1000) (by decide) hr h.bk h.n hw f
  have g:∃e d d',(wg 1000 (dk r s who [lL who 15 0]) f).bind (fun x=>some (x.1,x.2))=some (e,d)∧(w8 1000 (rk r s who) f.1 f.2).bind (fun x=>some (x.1,x.2))=some (e,d')∧(e=0→∃t l l' paid,d=dk r t who l∧d'=qT r t who l' paid∧CP r s who f t l l' paid):=by
   rw[e1,q1]
   have bp:=vI1 r s who f
   exact⟨_,d,d',rfl,rfl,fun e=>⟨_,_,_,_,e2 e,q2 e,⟨vL9 h hw e,bp.1,bp.2.1,by simp,bp.2.2.trans h0⟩,(if_neg tz).symm,(if_neg h1).symm,fun e'=>absurd e' h1⟩⟩
  rcases hq with e|e|e
  ·rw[ai e];exact g
  ·rw[aj (show¬f.1=5 by omega),ai e];exact g
  ·rw[aj (show¬f.1=5 by omega),aj (show¬f.1=6 by omega),ai e];exact g
 rw[aj (show¬f.1=5 by omega),aj (show¬f.1=6 by omega),aj (show¬f.1=7 by omega),ai (show f.1=8 by omega)]
 obtain⟨d,e1,e2⟩:=vRw (k:=1000) (by decide) hr h hw [lL who 15 0] f.2.1 f.2.2.1
 obtain⟨d',q1,q2⟩:=vJw hr h hw f.2.1 f.2.2.1
 simp only[av,ao]
 rw[e1,q1]
 have bp:=vFl r s who f.2.1 f.2.2.1
 exact⟨_,d,d',rfl,rfl,fun e=>⟨_,_,_,_,e2 e,q2 e,⟨vNl hr h hw e,bp.1,bp.2.1,by simp,bp.2.2.trans h0⟩,(if_neg tz).symm,(if_neg h1).symm,fun e'=>absurd e' h1⟩⟩
theorem vCj {r:qR}(hr:jR r){s:qL}(h:yV r s){f:jB}(hf:10≤f.1∧f.1≤13):
  ∃e d d',tw 1000 (jS r s (-1)) f=some (e,d)∧tx 1000 (rk r s (-1)) f=some (e,d')∧(e=0→∃t l l' paid,d=dk r t (-1) l∧d'=qT r t (-1) l' paid∧CP r s (-1) f t l l' paid):=by
 unfold tw tx
 have h1:¬f.1=1:=by omega
 rw[aj h1,aj (show¬f.1=2 by omega),aj (show¬f.1=3 by omega),aj (show¬f.1=4 by omega),aj (show¬f.1=5 by omega),aj (show¬f.1=6 by omega),aj (show¬f.1=7 by omega),aj (show¬f.1=8 by omega)]
 by_cases hq:f.1=10∨f.1=11
 ·obtain⟨d,e1,e2⟩:=yO8 (k:=1000) (by decide) hr h (-1) f.1 f.2.1 f.2.2.1
  obtain⟨d',q1,q2⟩:=yZj hr h (-1) f.1 f.2.1 f.2.2.1 hq
  have g:∃e d d',(wh 1000 (jS r s (-1)) f.1 f.2.1 f.2.2.1).bind (fun x=>some (x.1,x.2))=some (e,d)∧(Ct 1000 (rk r s (-1)) (decide (f.1=10)) f.2.1 f.2.2.1).bind (fun x=>some (x.1,x.2))=some (e,d')∧(e=0→∃t l l' paid,d=dk r t (-1) l∧d'=qT r t (-1) l' paid∧CP r s (-1) f t l l' paid):=by
   rw[e1,q1]
   refine⟨_,d,d',rfl,rfl,fun e=>?_⟩
   obtain⟨g1,g2,g3,g4,g5⟩:=yNw h e
   refine⟨_,_,_,_,e2 e,q2 e,⟨g1,g5,ySc,by simp,?_⟩,rfl,(if_neg h1).symm,fun e'=>absurd e' h1⟩
   rw[g2]
   rcases hq with e|e
   ·rw[if_neg (by omega),if_pos e]
   ·rw[if_pos e,if_neg (by omega),if_pos e]
  rcases hq with e|e
  ·have e1:decide (f.1=10)=true:=ai e
   rw[e1] at g⊢
   exact g
  ·have e1:decide (f.1=10)=false:=aj (by omega)
   rw[e1] at g⊢
   rw[ai e];exact g
 have h0:s.to=s.to+(if f.1=10 then f.2.2.1 else if f.1=11 then-f.2.2.1 else 0):=by rw[if_neg (by omega),if_neg (by omega)];omega
 rw[aj (show¬f.1=10 by omega),aj (show¬f.1=11 by omega)]
 by_cases hp:f.1=12
 ·rw[ai hp]
  obtain⟨d,e1,e2⟩:=yM6 (k:=1000) (by decide) hr h (-1) f.2.1 f.2.2.1
  obtain⟨d',q1,q2⟩:=vQ6 hr h (-1) f.2.1 f.2.2.1
  simp only[av,ao]
  rw[e1,q1]
  have bp:=yR6 r s f.2.1 f.2.2.1
  exact⟨_,d,d',rfl,rfl,fun e=>⟨_,_,_,_,e2 e,q2 e,⟨yD4 h e,bp.1,bp.2.1,by simp,bp.2.2.trans h0⟩,rfl,(if_neg h1).symm,fun e'=>absurd e' h1⟩⟩
 ·rw[aj hp]
  exact⟨_,_,_,rfl,rfl,fun _=>⟨s,[],[],0,rfl,rfl,⟨h,rfl,rfl,by simp,h0⟩,rfl,(if_neg h1).symm,fun e'=>absurd e' h1⟩⟩
def KP (who kd:Int)(x4:Int×RJ):Option (qc×List yI×Int):=
  bif !(decide (who = (-1))) then ((jK 1000 15 []).bind fun x5=>
   (lN 1000 x4.2.2.2.2.2.2.1 x4.2.2.2.2.2.2.2.1 x4.2.2.2.2.2.2.2.2.1 x4.2.2.2.2.2.2.2.2.2.1 x4.2.2.2.2.2.2.2.2.2.2.1 x4.2.2.2.2.2.2.2.2.2.2.2.1 x4.2.2.2.2.2.2.2.2.2.2.2.2.1 x4.2.2.2.2.2.2.2.2.2.2.2.2.2.1 x4.2.2.2.2.2.2.2.2.2.2.2.2.2.2.1 x4.2.2.2.2.2.2.2.2.2.2.2.2.2.2.2.1 x4.2.2.2.2.2.2.2.2.2.2.2.2.2.2.2.2.1 (decide (kd=13))).bind fun x6=>
   bif zW (1 + x4.2.2.2.2.2.2.2.2.2.2.2.2.2.2.2.2.2.2.1.length) 64 then (let y0:List yI:=([(who,x5)]++x4.2.2.2.2.2.2.2.2.2.2.2.2.2.2.2.2.2.2.1)
    bif zW (y0.length + x6.2.2.2.2.2.2.2.2.2.2.2.length) 64 then (bif decide (x4.2.2.2.2.2.2.2.2.2.2.2.2.2.2.2.2.2.2.2 > 0) then ((kO 1000 x6.2.2.2.2.2.2.2.1 x4.2.2.2.2.2.2.2.2.2.2.2.2.2.2.2.2.2.2.2).bind fun x7=>
      bif decide (x7 ≥ 0) then ((jK 1000 19 [x4.2.2.2.2.2.2.2.2.2.2.2.2.2.2.2.2.2.2.2]).bind fun x8=>
       bif zW ((y0 ++ x6.2.2.2.2.2.2.2.2.2.2.2).length + 1) 64 then (let y1:List yI:=((y0++x6.2.2.2.2.2.2.2.2.2.2.2)++[(who,x8)])
        some ((yD x6),y1,0))
       else none)
      else some ((yD x6),(y0++x6.2.2.2.2.2.2.2.2.2.2.2),0))
     else some ((yD x6),(y0++x6.2.2.2.2.2.2.2.2.2.2.2),0))
    else none)
   else none)
  else(lN 1000 x4.2.2.2.2.2.2.1 x4.2.2.2.2.2.2.2.1 x4.2.2.2.2.2.2.2.2.1 x4.2.2.2.2.2.2.2.2.2.1 x4.2.2.2.2.2.2.2.2.2.2.1 x4.2.2.2.2.2.2.2.2.2.2.2.1 x4.2.2.2.2.2.2.2.2.2.2.2.2.1 x4.2.2.2.2.2.2.2.2.2.2.2.2.2.1 x4.2.2.2.2.2.2.2.2.2.2.2.2.2.2.1 x4.2.2.2.2.2.2.2.2.2.2.2.2.2.2.2.1 x4.2.2.2.2.2.2.2.2.2.2.2.2.2.2.2.2.1 (decide (kd=13))).bind fun x9=>
  bif zW x4.2.2.2.2.2.2.2.2.2.2.2.2.2.2.2.2.2.2.1.length 64 then (let y2:List yI:=x4.2.2.2.2.2.2.2.2.2.2.2.2.2.2.2.2.2.2.1
   bif zW (y2.length + x9.2.2.2.2.2.2.2.2.2.2.2.length) 64 then (bif decide (x4.2.2.2.2.2.2.2.2.2.2.2.2.2.2.2.2.2.2.2 > 0) then ((kO 1000 x9.2.2.2.2.2.2.2.1 x4.2.2.2.2.2.2.2.2.2.2.2.2.2.2.2.2.2.2.2).bind fun gK=>
     bif decide (gK ≥ 0) then ((jK 1000 19 [x4.2.2.2.2.2.2.2.2.2.2.2.2.2.2.2.2.2.2.2]).bind fun GM=>
      bif zW ((y2 ++ x9.2.2.2.2.2.2.2.2.2.2.2).length + 1) 64 then (let y3:List yI:=((y2++x9.2.2.2.2.2.2.2.2.2.2.2)++[(who,GM)])
       some ((yD x9),y3,0))
      else none)
     else some ((yD x9),(y2++x9.2.2.2.2.2.2.2.2.2.2.2),0))
    else some ((yD x9),(y2++x9.2.2.2.2.2.2.2.2.2.2.2),0))
   else none)
  else none
def xd (r:qR)(s:qc)(c:nD):Option (qc×List yI×Int):=
  bif decide (c.2.1 = 9) then (bif zE c.1 s.2.1.length then ((pO 1000 s.2.2.2.2.2.2.2.1 c.1).bind fun x1=>
    (jK 1000 17 [(s.2.1.getD c.1.toNat (0,0,0)).1,(s.2.1.getD c.1.toNat (0,0,0)).2.1,(s.2.1.getD c.1.toNat (0,0,0)).2.2,(x1.length:Int),s.1]).bind fun x2=>
    some (s,[(c.1,x2)],0))
   else none)
  else bif decide (c.2.1 = 14) then ((CM 1000 r s).bind fun x3=>
   some (x3.1,x3.2,0))
  else(tx 1000 (gj r (fz s (c.1,0))) c.2).bind fun x4=>
  bif !(decide (x4.1=0)) then some (s,[],x4.1)
  else KP c.1 c.2.1 x4
theorem vQt (r:qR)(s:qc)(c:nD):GN 1000 r s c=(xc 1000 r c).bind fun x0=>
  bif !x0 then some (s,[],5) else bif s.2.2.2.2.2.2.2.2.2.2 then(bif !(decide (c.2.1=9)) then some (s,[],7) else xd r s c) else xd r s c:=rfl
theorem yQd {r:qR}(hr:jR r){s t:qL}(ho:s.ov=false){who:Int}{l l':List yI}{f:jB}{paid:Int}(hB:CP r s who f t l l' paid):
    ∃ u o, ((pZ 1000 t.t t.B.1 t.B.2.1 t.B.2.2.1 t.B.2.2.2 t.pr t.ho t.m t.ids t.to t.ov (decide (f.1=13))).bind fun x5=>
      bif zW (l.length + x5.2.2.2.2.2.2.2.2.2.2.2.length) 64 then (let y0:List yI:=(l++x5.2.2.2.2.2.2.2.2.2.2.2)
       bif decide (f.1 = 1) then ((mo 1000 x5.2.2.2.2.2.2.2.1 f.2.1).bind fun x6=>
        bif decide (x6 ≥ 0) then ((sZ 1000 (KQ ((0:Int),dk r t who l) y0) 19 [f.2.1]).bind fun x7=>
         some ((yD x5),x7.2.2.2.2.2.2.2.2.2.2.2.2.2.2.2.2.2,(0:Int)))
        else some ((yD x5),y0,0))
       else some ((yD x5),y0,0))
      else none)=some (u.st,o,(0:Int))∧KP who f.1 (0,qT r t who l' paid)=some (u.st,o,(0:Int))∧yV r u∧u.to=t.to∧jL 1000 u.B (vM u.m u.t)=none∧o.length≤200:=by
  have h:=hB.dealt.inv
  have xe:=hB.dealt.ov.trans ho
  have hl:=hB.dealt.few
  have hm:=h.waits.len
  obtain⟨C,m',d,e1,Gy,e3,e4,e5,e6,e7⟩:=yMn h.bk h.waits.dist h.waits.may (by omega) t.t t.pr t.ho t.ids t.to t.ov (decide (f.1=13))
  have hd:d.length≤40:=by
    have:=e6.length_eq
    rw[List.length_append] at this
    omega
  have nf:=e5.length_le
  have yg:=BD d
  have hu:=h.settled xe e3 e4 e5
  have eg:l'.length≤2:=by
    have:=hB.told
    by_cases hw:who= -1
    · rw[if_pos hw] at this;rw[←this];exact hl
    · rw[if_neg hw] at this;rw[this,List.length_cons] at hl;omega
  have key:KP who f.1 (0,qT r t who l' paid)=bif decide (paid>0) then(bif decide (iK m' paid≥0) then some ((t.t,C.1,C.2.1,C.2.2.1,C.2.2.2,t.pr,t.ho,m',t.ids,t.to,t.ov),(l++vJ d)++[lL who 19 paid],(0:Int)) else some ((t.t,C.1,C.2.1,C.2.2.1,C.2.2.2,t.pr,t.ho,m',t.ids,t.to,t.ov),l++vJ d,0)) else some ((t.t,C.1,C.2.1,C.2.2.1,C.2.2.2,t.pr,t.ho,m',t.ids,t.to,t.ov),l++vJ d,0):=by
    have es:lN 1000 (qT r t who l' paid).2.2.2.2.2.1 (qT r t who l' paid).2.2.2.2.2.2.1 (qT r t who l' paid).2.2.2.2.2.2.2.1 (qT r t who l' paid).2.2.2.2.2.2.2.2.1 (qT r t who l' paid).2.2.2.2.2.2.2.2.2.1 (qT r t who l' paid).2.2.2.2.2.2.2.2.2.2.1 (qT r t who l' paid).2.2.2.2.2.2.2.2.2.2.2.1 (qT r t who l' paid).2.2.2.2.2.2.2.2.2.2.2.2.1 (qT r t who l' paid).2.2.2.2.2.2.2.2.2.2.2.2.2.1 (qT r t who l' paid).2.2.2.2.2.2.2.2.2.2.2.2.2.2.1 (qT r t who l' paid).2.2.2.2.2.2.2.2.2.2.2.2.2.2.2.1 (decide (f.1=13))=_:=Gy
    have eo:(qT r t who l' paid).2.2.2.2.2.2.2.2.2.2.2.2.2.2.2.2.2.1=l':=rfl
    have ep:(qT r t who l' paid).2.2.2.2.2.2.2.2.2.2.2.2.2.2.2.2.2.2=paid:=rfl
    have ef:kO 1000 m' paid=some (iK m' paid):=Jt (by omega) (by omega) paid
    unfold KP
    simp only[es,eo,ep,Of0,KI,ak]
    have ht:=hB.told
    by_cases hw:who= -1
    · rw[if_pos hw] at ht
      rw[ai hw,yE (n:=l'.length) (by omega) (by omega),yE (n:=l'.length+(vJ d).length) (by omega) (by omega),yE (n:=(l'++vJ d).length+1) (by rw[List.length_append];omega) (by rw[List.length_append];omega),ht]
      simp only[aY,ao,av]
      rw[ef]
      rfl
    · rw[if_neg hw] at ht
      have er:[((who,(15,0,0,0,0,0,0)):yI)]++l'=l:=ht.symm
      rw[aj hw,er,yE (n:=1+l'.length) (by omega) (by omega),yE (n:=l.length+(vJ d).length) (by omega) (by omega),yE (n:=(l++vJ d).length+1) (by rw[List.length_append];omega) (by rw[List.length_append];omega)]
      simp only[dX,av]
      rw[ef]
      rfl
  rw[e1,key]
  simp only[ak]
  rw[yE (n:=l.length+(vJ d).length) (by omega) (by omega)]
  simp only[av]
  have fin:∀(o:List yI) {x:Option (qc×List yI×Int)},o.length≤200→x=some (({t with B:=C,m:=m'}:qL).st,o,(0:Int))→∃u o',some (({t with B:=C,m:=m'}:qL).st,o,(0:Int))=some (u.st,o',(0:Int))∧x=some (u.st,o',(0:Int))∧yV r u∧u.to=t.to∧jL 1000 u.B (vM u.m u.t)=none∧o'.length≤200:=fun o _ hl hx=>⟨{t with B:=C,m:=m'},o,rfl,hx,hu,rfl,e7,hl⟩
  have b1:(l++vJ d).length≤199:=by rw[List.length_append];omega
  have b2:∀x:yI,(l++vJ d++[x]).length≤200:=fun x=>by rw[List.length_append];simp;rw[List.length_append] at b1;omega
  have hp:=hB.paid
  by_cases h1:f.1=1
  · rw[if_pos h1] at hp
    subst hp
    rw[ai h1,ai (show f.2.1>0 from hB.pos h1)]
    simp only[av]
    rw[AQ (by omega) (by omega)]
    simp only[ak]
    cases decide (iK m' f.2.1≥0) with
    |false=>exact fin _ (by omega) rfl
    |true=>
      simp only[av]
      have ej:KQ ((0:Int),dk r t who l) (l++vJ d)=dk r t who (l++vJ d):=rfl
      rw[ej,yMk (by rw[List.length_append];omega)]
      exact fin _ (b2 _) rfl
  · rw[if_neg h1] at hp
    subst hp
    rw[aj h1,aj (show¬(0:Int)>0 by decide)]
    exact fin _ (by omega) rfl
theorem vGg {r:qR}{s:qL}(h:yV r s){who:Int}(hw:0≤who∧who<r.1)(c:nD)(hc:c.1=who)(h9:c.2.1=9):
  ∃o,KR 1000 s.st who=some o∧xd r s.st c=some (s.st,o,0)∧o.length≤200:=by
 have hm:=h.waits.len
 have hn:=h.n
 have hb:zE who s.B.1.length=true:=uX hw.1 (by omega)
 have e1:s.st.2.1=s.B.1:=rfl
 have e2:s.st.2.2.2.2.2.2.2.1=s.m:=rfl
 unfold KR xd
 rw[ai h9,hc,e1,e2,hb,yJp (by omega) (by unfold qW;omega),Jo (by omega) (by unfold qW;omega)]
 simp only[av,ak,Of5]
 exact⟨_,rfl,rfl,by simp⟩
theorem vS5 {r:qR}(hr:jR r){s:qL}(h:yV r s)(c:nD):
  ∃t o e,GO 1000 r s.st c=some (t.st,o,e)∧GN 1000 r s.st c=some (t.st,o,e)∧RX 1000 r s c t o e∧o.length≤200:=by
 obtain⟨e,he,hm,hb⟩:=vIx r s c (fun e=>(some (s.st,[],e):Option (qc×List yI×Int))) (xd r s.st c)
 have hR:GN 1000 r s.st c=bif decide (e=0) then xd r s.st c else some (s.st,[],e):=by
  rw[vQt]
  have eo:s.st.2.2.2.2.2.2.2.2.2.2=s.ov:=rfl
  rw[eo]
  cases hx:xc 1000 r c with
  |none=>rw[hx] at hb;cases hb
  |some x=>
   rw[hx] at hb
   simp only[ak,Option.some.injEq] at hb
   exact hb
 unfold GO
 rw[he,hR]
 simp only[ak]
 by_cases h0:e=0
 ·obtain⟨hw,xe⟩:=hm h0
  rw[ai h0]
  simp only[aY,ao,av]
  by_cases h9:c.2.1=9
  ·have BU:0≤c.1∧c.1<r.1:=by omega
   obtain⟨o,ho,fY,hol⟩:=vGg h BU c rfl h9
   rw[ai h9,fY]
   simp only[av]
   rw[ho]
   refine⟨s,o,0,rfl,rfl,⟨h,fun e=>absurd rfl e,fun _=>?_,.inl rfl⟩,hol⟩
   rw[if_neg (by omega),if_neg (by omega)]
   omega
  ·have ho:s.ov=false:=by
    cases g:s.ov with
    |false=>rfl
    |true=>exact absurd (xe g) h9
   have fin:∀{t:qL} {l:List yI},KL r s c.2 t l→∀{x y:Option (qc×List yI×Int)},(∃u o,x=some (u.st,o,(0:Int))∧y=some (u.st,o,(0:Int))∧yV r u∧u.to=t.to∧jL 1000 u.B (vM u.m u.t)=none∧o.length≤200)→∃t o e,x=some (t.st,o,e)∧y=some (t.st,o,e)∧RX 1000 r s c t o e∧o.length≤200:=by
    intro t l hd x y ⟨u,o,g1,pS,g2,g3,g4,g5⟩
    exact⟨u,o,0,g1,pS,⟨g2,fun e=>absurd rfl e,fun _=>g3.trans hd.to,.inr fun _=>g4⟩,g5⟩
   unfold xd
   rw[aj h9]
   simp only[ao]
   by_cases hp:c.1= -1
   ·rw[ai hp]
    have hf:10≤c.2.1∧c.2.1≤14:=by omega
    have ed:gj r (fz s.st c.1)=jS r s (-1):=by rw[hp];rfl
    have er:gj r (fz s.st (c.1,0))=rk r s (-1):=by rw[hp];rfl
    simp only[aY,ao]
    rw[ed,er]
    by_cases KS:c.2.1=14
    ·obtain⟨e,d,g1,g2⟩:=vQf (k:=1000) (by decide) hr h (-1) (f:=c.2) hf
     have g0:tw 1000 (jS r s (-1)) c.2=some (0,dk r s (-1) []):=by
      unfold tw
      rw[KS]
      rfl
     rw[g0]
     simp only[ak]
     rw[ai KS]
     have aU:=h.tk
     have DE:=hr.cl
     have FQ:=hr.pe
     obtain⟨x,x1,x2⟩:=vS8 r h.bk h.waits.dist h.waits.may (by have:=h.waits.len;omega) ⟨by omega,by omega⟩ (by omega) ho
     obtain⟨t,o,q1,q2⟩:=vQe (k:=1000) (by decide) hr h ho c KS
     obtain⟨C,m',ov,o',y1,y2,_⟩:=yU0 (k:=1000) (by decide) h.bk h.waits.dist h.waits.may (by have:=h.waits.len;omega) r.1 r.2.1 r.2.2.1 r.2.2.2.1 r.2.2.2.2 s.t ⟨by omega,by omega⟩ (by omega) s.pr s.ho s.ids s.to
     have hol:o.length≤200:=by
      rw[ho,y1] at q1
      simp only[ak,Option.some.injEq,Prod.mk.injEq] at q1
      rw[←q1.2.1]
      have:=y2.room
      have hm:=h.waits.len
      show o'.length≤200
      split at this<;>omega
     refine⟨t,o,0,q1,?_,q2,hol⟩
     rw[x1] at q1
     simp only[av]
     rw[x2]
     exact q1
    ·obtain⟨e,d,d',g1,pS,g2⟩:=vCj hr h (f:=c.2) (by omega)
     rw[g1,aj KS,pS]
     simp only[ak,ao]
     by_cases hz:e=0
     ·obtain⟨t,l,l',paid,rfl,rfl,hd⟩:=g2 hz
      rw[ai hz,hp]
      simp only[aY,ao]
      subst hz
      exact fin hd.dealt (yQd hr ho hd)
     ·rw[aj hz]
      exact⟨s,[],e,rfl,rfl,⟨h,fun _=>⟨rfl,rfl⟩,fun e'=>absurd e' hz,.inl rfl⟩,by simp⟩
   ·rw[aj hp,aj (show¬c.2.1=14 by omega)]
    have hf:1≤c.2.1∧c.2.1≤8:=by omega
    have BU:0≤c.1∧c.1<r.1:=by omega
    have ed:KT 1000 (gj r (fz s.st c.1)) 15 []=some (dk r s c.1 [lL c.1 15 0]):=rfl
    have er:gj r (fz s.st (c.1,0))=rk r s c.1:=rfl
    obtain⟨e,d,d',g1,pS,g2⟩:=vNv hr h ho BU (f:=c.2) hf
    simp only[dX,av,ao]
    rw[ed,er,pS]
    simp only[ak]
    rw[g1]
    simp only[ak]
    by_cases hz:e=0
    ·obtain⟨t,l,l',paid,rfl,rfl,hd⟩:=g2 hz
     rw[ai hz]
     simp only[aY,ao]
     subst hz
     exact fin hd.dealt (yQd hr ho hd)
    ·rw[aj hz]
     exact⟨s,[],e,rfl,rfl,⟨h,fun _=>⟨rfl,rfl⟩,fun e'=>absurd e' hz,.inl rfl⟩,by simp⟩
 ·rw[aj h0]
  exact⟨s,[],e,rfl,rfl,⟨h,fun _=>⟨rfl,rfl⟩,fun e'=>absurd e' h0,.inl rfl⟩,by simp⟩
instance xf:DecidableEq zB:=fun a b=>inferInstanceAs (Decidable (a=b))
theorem vFt {k:Nat}{a b:List zB}(hk:a.length<k)(hl:a.length<9223372036854775808):GP k a b=some (decide (a=b)):=by
 unfold GP
 by_cases hlen:a.length=b.length
 case neg=>
  have e:decide (((a.length:Nat):Int)=((b.length:Nat):Int))=false:=aj (by omega)
  rw[e]
  have:a≠b:=fun e=>hlen (by rw[e])
  rw[aj this]
  rfl
 have e:decide (((a.length:Nat):Int)=((b.length:Nat):Int))=true:=ai (by omega)
 rw[e]
 have := j8 (L := fun n i => GQ k n a b i) (N := a.length) (fun i => decide (a.getD i pd = b.getD i pd)) (.inl ()) (.inr false) (fun n=>by
  show CQ k _ a b a.length=_
  unfold CQ
  simp only [zU, aj (Nat.lt_irrefl _), ao]) (fun n i hi=>by
  show CQ k _ a b i=_
  unfold CQ
  have e7:=eq7 (a.getD i pd) (b.getD i pd)
  simp only[pd] at e7
  simp only[qG,qO hi hl,zU,aB,ai hi,av,←hlen]
  rw[e7]
  simp only[pd]
  cases decide (a.getD i (0,(0,(0,(0,(0,(0,0))))))=b.getD i (0,(0,(0,(0,(0,(0,0)))))))<;>rfl) hk
 rw[this,EP pd hlen]
 cases decide (a=b)<;>rfl
def nE (r:qR):qL where
 t:=0
 B:=(List.replicate r.1.toNat (0,0,0),List.replicate r.1.toNat (List.replicate r.1.toNat (-1)),List.replicate r.1.toNat (-1),List.replicate r.1.toNat (List.replicate r.1.toNat 0))
 pr:=r.2.1.map Prod.fst
 ho:=List.replicate r.1.toNat (List.replicate r.2.1.length 0)
 m:=[]
 ids:=[]
 to:=0
 ov:=false
structure GR (r:qR):Prop where
 ok:jR r
 inv:yV r (nE r)
 new:KU 1000 r=some (nE r).st
theorem KV (n:Nat):jT n [] [] where
 dist:=List.Pairwise.nil
 len:=by decide
 sort:=List.Pairwise.nil
 may:=fun p h=>absurd h List.not_mem_nil
 time:=fun p h=>absurd h List.not_mem_nil
 were:=fun p h=>absurd h List.not_mem_nil
 asc:=List.Pairwise.nil
 pos:=fun p h=>absurd h List.not_mem_nil
 idl:=by decide
def r0:qR:=(3,[(100,1000),(7,0)],12,20,4)
def r1:qR:=(4,[(100,1000),(7,0)],12,20,100)
def r2:qR:=(3,[],20,20,4)
def r3:qR:=(3,[(100,1000),(7,0)],0,6,1)
theorem R1 {pr h:List Int}(h1:pr=[100,7])(h2:h=[0,0]):ik [(100,1000),(7,0)] pr h:=by
 subst h1;subst h2
 exact⟨by decide,rfl,rfl,by decide,by decide,by decide⟩
theorem KW {B:BT}(h:kM B.1 B.2.1 B.2.2.1 B.2.2.2=true):qV B:=IX.1 h
theorem vAm:GR r0:=⟨⟨by decide,by decide,by decide,by decide,by decide,by decide,by decide⟩,
  { tk:=by decide,bk:=KW (by kernel_rfl),n:=rfl,hol:=rfl,
    laid:=fun i hi=>by
      have e:∀i,i<(nE r0).B.1.length→(nE r0).ho.getD i []=[0,0]:=by decide
      exact R1 rfl (e i hi)
    cred:=by decide,most:=by decide,waits:=KV _,sum:=by decide,tot:=by decide,over:=by decide,none:=fun e=>by cases e},by kernel_rfl⟩
theorem vI7:GR r1:=⟨⟨by decide,by decide,by decide,by decide,by decide,by decide,by decide⟩,
  { tk:=by decide,bk:=KW (by kernel_rfl),n:=rfl,hol:=rfl,
    laid:=fun i hi=>by
      have e:∀i,i<(nE r1).B.1.length→(nE r1).ho.getD i []=[0,0]:=by decide
      exact R1 rfl (e i hi)
    cred:=by decide,most:=by decide,waits:=KV _,sum:=by decide,tot:=by decide,over:=by decide,none:=fun e=>by cases e},by kernel_rfl⟩
theorem vIl:GR r2:=⟨⟨by decide,by decide,by decide,by decide,by decide,by decide,by decide⟩,
  { tk:=by decide,bk:=KW (by kernel_rfl),n:=rfl,hol:=rfl,
    laid:=fun i hi=>by
      have e:∀i,i<(nE r2).B.1.length→(nE r2).ho.getD i []=[]:=by decide
      rw[e i hi]
      exact⟨by decide,rfl,rfl,by decide,by decide,by decide⟩
    cred:=by decide,most:=by decide,waits:=KV _,sum:=by decide,tot:=by decide,over:=by decide,none:=fun e=>by cases e},by kernel_rfl⟩
theorem vHd:GR r3:=⟨⟨by decide,by decide,by decide,by decide,by decide,by decide,by decide⟩,
  { tk:=by decide,bk:=KW (by kernel_rfl),n:=rfl,hol:=rfl,
    laid:=fun i hi=>by
      have e:∀i,i<(nE r3).B.1.length→(nE r3).ho.getD i []=[0,0]:=by decide
      exact R1 rfl (e i hi)
    cred:=by decide,most:=by decide,waits:=KV _,sum:=by decide,tot:=by decide,over:=by decide,none:=fun e=>by cases e},by kernel_rfl⟩
theorem vKn:R2 1000=some true:=by kernel_rfl
theorem vJ2 {r:qR}{s:qL}(hr:jR r)(h:yV r s):KX 1000 s.st s.st=some true:=by
 have hb:wH s.B.1 s.B.2.1 s.B.2.2.1 s.B.2.2.2:=h.bk
 have eY:=h.bk.n6
 have kI:=h.bk.n1
 have hm:=h.waits.len
 have hi:=h.waits.idl
 have h3:=hr.n3
 have hL:=h.laid 0 (by omega)
 have e1:ET 1000 s.B.1 s.B.2.1 s.B.2.2.1 s.B.2.2.2 s.B.1 s.B.2.1 s.B.2.2.1 s.B.2.2.2=some true:=by
  rw[yYm (by decide) hb.toSized]
  simp
 have e2:pK 1000 s.pr s.pr=some true:=by rw[IY (by rw[hL.pl];omega) (by rw[hL.pl];omega),ai rfl]
 have e3:u9 1000 s.ho s.ho=some true:=by
  have hol:=h.hol
  rw [Qh (by omega) (by omega) (fun i hi=>by
   have:=(h.laid i (by omega)).hl
   constructor<;>omega),ai rfl]
 have e4:GP 1000 s.m s.m=some true:=by rw[vFt (by omega) (by omega),ai rfl]
 have e5:pK 1000 s.ids s.ids=some true:=by rw[IY (by omega) (by omega),ai rfl]
 unfold KX
 have f0:s.st.1=s.t:=rfl
 have f9:s.st.2.2.2.2.2.2.2.2.2.1=s.to:=rfl
 have f10:s.st.2.2.2.2.2.2.2.2.2.2=s.ov:=rfl
 have q:la s.ov s.ov=true:=by cases s.ov<;>rfl
 rw[f0,f9,f10,ai rfl,ai rfl,q]
 simp only[av]
 refine(congrArg (fun z=>Option.bind z _) e1).trans ?_
 simp only[ak,av]
 refine(congrArg (fun z=>Option.bind z _) e2).trans ?_
 simp only[ak,av]
 refine(congrArg (fun z=>Option.bind z _) e3).trans ?_
 simp only[ak,av]
 refine(congrArg (fun z=>Option.bind z _) e4).trans ?_
 simp only[ak,av]
 refine(congrArg (fun z=>Option.bind z _) e5).trans ?_
 rfl
theorem yZa {r:qR}(h:r=r0∨r=r1∨r=r2∨r=r3):R3 1000 r=some (nE r).st:=by
 rcases h with rfl|rfl|rfl|rfl<;>kernel_rfl
theorem vO6 (a:Int):∃r,GS 1000 a=some r∧GR r∧(r=r0∨r=r1∨r=r2∨r=r3):=by
 unfold GS
 cases decide (yK .i64 a 3=1) with
 |true=>exact⟨r1,rfl,vI7,.inr (.inl rfl)⟩
 |false=>
  cases decide (yK .i64 a 3=2) with
  |true=>exact⟨r2,rfl,vIl,.inr (.inr (.inl rfl))⟩
  |false=>
   cases decide (yK .i64 a 3=3) with
   |true=>exact⟨r3,rfl,vHd,.inr (.inr (.inr rfl))⟩
   |false=>exact⟨r0,rfl,vAm,.inl rfl⟩
theorem vNf {r:qR}(hr:jR r)(l:List nD)(hl:l.length≤120){s:qL}(hs:yV r s):
  ∃t,xg 1000 1000 l 0 r s.st s.st=some (.inl (r,qL.st t))∧yV r t:=
 vF (L := fun n i (s : qL) => xg 1000 n l i r s.st s.st) (N := l.length) (fun t => .inl (r, qL.st t)) (fun _ t => yV r t) (fun n t _=>by
  show CR 1000 (xg 1000 n) l (l.length:Int) r t.st t.st=_
  unfold CR
  rw[aj (Int.lt_irrefl _)]
  rfl) (fun n i t hi ht=>by
  obtain⟨t',o,e,h1,h2,h3,h4⟩:=vS5 hr ht (l.getD i (0,0,0,0,0,0,0,0))
  refine⟨t',?_,h3.inv⟩
  show CR 1000 (xg 1000 n) l (i:Int) r t.st t.st=_
  unfold CR
  rw[ai (show(i:Int)<l.length by omega),qG,ai hi]
  simp only[av,aB]
  rw[h1]
  simp only[ak]
  rw[h2]
  simp only[ak]
  rw[vG4 (by omega) (by omega),ai rfl]
  simp only[ak,aY,ao,decide_true]
  rw[vJ2 hr h3.inv]
  simp only[ak,aY,ao]
  rw[qO hi (by omega)]) (by omega) hs
theorem vMg (a:Int)(l:List nD):KY 1000 a l=some true:=by
 unfold KY
 by_cases hl:(l.length:Int)>120
 ·rw[ai hl];rfl
 rw[aj hl]
 obtain⟨r,hr,w,h4⟩:=vO6 a
 simp only[ao]
 rw[hr]
 simp only[ak]
 rw[w.new,yZa h4]
 simp only[ak]
 obtain⟨t,h1,h2⟩:=vNf w.ok l (by omega) w.inv
 rw[h1]
 simp only[ak]
 rw[vRl (by decide) w.ok h2]
 simp only[ak,av]
 rw[vKn]
 rfl
end Go.Ab.Gi
