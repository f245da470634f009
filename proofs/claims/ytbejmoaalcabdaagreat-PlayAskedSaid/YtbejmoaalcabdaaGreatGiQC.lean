/- Plain proofs, part 2. -/
import Derived.Test.YtbejmoaalcabdaaGreatGiQB
import Derived.Test.YtbejmoaalcabdaaGreatGiQA
set_option linter.unusedVariables false
set_option linter.unusedSimpArgs false
set_option maxRecDepth 100000
namespace Go.Ab.Gi
open Go.Ab
def VD (m:jG)(i:Nat):Int:=[m.2.1,m.2.2.1,m.2.2.2.1,m.2.2.2.2.1,m.2.2.2.2.2.1,m.2.2.2.2.2.2].getD i 0
theorem vDo (x:Int)(m:jG){n:Nat}(hn:n≤6):wg 1000 1000 x n m=some (bif qH (fun j=>decide (VD m j=0)) (6-n) n then .inl x else .inr false):=
 SZ (L := fun n i => wg 1000 n x i m) (N := 6) (fun j => decide (VD m j = 0)) (.inl x) (.inr false) (fun n => rfl) (fun n i hi=>by
  show VE 1000 (wg 1000 n) x i m=_
  have:i=0∨i=1∨i=2∨i=3∨i=4∨i=5:=by omega
  rcases this with rfl|rfl|rfl|rfl|rfl|rfl
  ·show(bif !(decide (m.2.1=0)) then _ else _)=bif decide (m.2.1=0) then _ else _
   cases decide (m.2.1=0)<;>rfl
  ·show(bif !(decide (m.2.2.1=0)) then _ else _)=bif decide (m.2.2.1=0) then _ else _
   cases decide (m.2.2.1=0)<;>rfl
  ·show(bif !(decide (m.2.2.2.1=0)) then _ else _)=bif decide (m.2.2.2.1=0) then _ else _
   cases decide (m.2.2.2.1=0)<;>rfl
  ·show(bif !(decide (m.2.2.2.2.1=0)) then _ else _)=bif decide (m.2.2.2.2.1=0) then _ else _
   cases decide (m.2.2.2.2.1=0)<;>rfl
  ·show(bif !(decide (m.2.2.2.2.2.1=0)) then _ else _)=bif decide (m.2.2.2.2.2.1=0) then _ else _
   cases decide (m.2.2.2.2.2.1=0)<;>rfl
  ·show(bif !(decide (m.2.2.2.2.2.2=0)) then _ else _)=bif decide (m.2.2.2.2.2.2=0) then _ else _
   cases decide (m.2.2.2.2.2.2=0)<;>rfl) (6-n) n 1000 (by omega) (by omega)
theorem lZ (m:jG)(n:Nat)(hn:n≤6)(h1:sE 1000 m.1=some (n:Int))(h2:Cp 1000 m.1=some (n:Int)):tA 1000 m=qt 1000 m:=by
 unfold tA qt
 rw[h1,h2]
 have e1:wJ false (n:Int) 0=(n:Int):=by
  unfold wJ
  rw[aj,ab (show¬(0:Int)>(n:Int) by omega)]
  rfl
 simp only[ae]
 rw[e1,vDo _ m hn,ab (show¬(n:Int)<0 by omega),aa (show(0:Int)≤n by omega),aa (show(n:Int)≤6 by omega),aq]
 simp only[aj,Bool.and_self,ai,ae]
 have hl:(qZ [m.2.1,m.2.2.1,m.2.2.2.1,m.2.2.2.2.1,m.2.2.2.2.2.1,m.2.2.2.2.2.2] n (6-n)).length=6-n:=by
  unfold qZ
  rw[List.length_take,List.length_drop]
  simp
 have := lN (L := fun k i => th 1000 k (qZ [m.2.1, m.2.2.1, m.2.2.2.1, m.2.2.2.2.1, m.2.2.2.2.2.1, m.2.2.2.2.2.2] n (6 - n)) ((6 - n : Nat) : Int) i) (N := 6 - n) (fun j => decide ((qZ [m.2.1, m.2.2.1, m.2.2.2.1, m.2.2.2.2.1, m.2.2.2.2.2.1, m.2.2.2.2.2.2] n (6 - n)).getD j 0 = 0)) (.inl ()) (.inr false) (fun k=>by
  show vp 1000 (th 1000 k) _ _ _=_
  unfold vp
  rw [ab (Int.lt_irrefl _)]; rfl) (fun k i hi=>by
  show vp 1000 (th 1000 k) _ _ _=_
  unfold vp
  rw[aa (show(i:Int)<((6-n:Nat):Int) by omega),qG,hl,aa hi,aq,qK hi (by omega)]
  cases decide ((qZ [m.2.1,m.2.2.1,m.2.2.2.1,m.2.2.2.2.1,m.2.2.2.2.2.1,m.2.2.2.2.2.2] n (6-n)).getD i 0=0)<;>rfl) (n:=1000) (by omega)
 have h':th 1000 1000 (qZ [m.2.1,m.2.2.1,m.2.2.2.1,m.2.2.2.2.1,m.2.2.2.2.2.1,m.2.2.2.2.2.2] n (6-n)) ((6-n:Nat):Int) 0=_:=this
 rw[hl,h']
 have ea:qH (fun j=>decide (VD m j=0)) (6-n) n=qH (fun j=>decide ((qZ [m.2.1,m.2.2.1,m.2.2.2.1,m.2.2.2.2.1,m.2.2.2.2.2.1,m.2.2.2.2.2.2] n (6-n)).getD j 0=0)) (6-n) 0:=by
  have:n=0∨n=1∨n=2∨n=3∨n=4∨n=5∨n=6:=by omega
  rcases this with rfl|rfl|rfl|rfl|rfl|rfl|rfl<;>rfl
 rw[ea]
 cases qH (fun j=>decide ((qZ [m.2.1,m.2.2.1,m.2.2.2.1,m.2.2.2.2.1,m.2.2.2.2.2.1,m.2.2.2.2.2.2] n (6-n)).getD j 0=0)) (6-n) 0 with
 |false=>rfl
 |true=>
  simp only[ai,ae]
  rw[aa (show(n:Int)≥0 by omega)]
theorem vL0 (kd a b c d e f:Int)(h:1≤kd∧kd≤14):tA 1000 (kd,a,b,c,d,e,f)=qt 1000 (kd,a,b,c,d,e,f):=by
 have:kd=1∨kd=2∨kd=3∨kd=4∨kd=5∨kd=6∨kd=7∨kd=8∨kd=9∨kd=10∨kd=11∨kd=12∨kd=13∨kd=14:=by omega
 rcases this with rfl|rfl|rfl|rfl|rfl|rfl|rfl|rfl|rfl|rfl|rfl|rfl|rfl|rfl
 ·exact lZ _ 6 (by decide) rfl rfl
 ·exact lZ _ 1 (by decide) rfl rfl
 ·exact lZ _ 2 (by decide) rfl rfl
 ·exact lZ _ 2 (by decide) rfl rfl
 ·exact lZ _ 2 (by decide) rfl rfl
 ·exact lZ _ 1 (by decide) rfl rfl
 ·exact lZ _ 1 (by decide) rfl rfl
 ·exact lZ _ 2 (by decide) rfl rfl
 ·exact lZ _ 0 (by decide) rfl rfl
 ·exact lZ _ 2 (by decide) rfl rfl
 ·exact lZ _ 2 (by decide) rfl rfl
 ·exact lZ _ 2 (by decide) rfl rfl
 ·exact lZ _ 0 (by decide) rfl rfl
 ·exact lZ _ 0 (by decide) rfl rfl
theorem vGj (r:qP)(s:qD)(c:j8){X:Type}(bad:Int→X)(Q:X):∃e,tj 1000 r s.st c=some e∧
  (e=0→((10≤c.2.1∧c.2.1≤14∧c.1= -1)∨(1≤c.2.1∧c.2.1≤9∧0≤c.1∧c.1<r.1))∧(s.ov=true→c.2.1=9))∧
  ((AJ 1000 r c).bind fun x0=>some (bif !x0 then bad 5 else bif s.ov then(bif !(decide (c.2.1=9)) then bad 7 else Q) else Q))=some (bif decide (e=0) then Q else bad e):=by
 obtain⟨e,he,hm⟩:=UH (k:=1000) (by decide) r s c
 refine⟨e,he,hm,?_⟩
 have hA:NU 1000 c.2.1=some (decide (c.2.1≥1)&&decide (c.2.1≤14)):=by
  unfold NU;cases decide (c.2.1≥1)<;>rfl
 have hH:NV 1000 c.2.1=some (decide (c.2.1≥10)&&decide (c.2.1≤14)):=by
  unfold NV;cases decide (c.2.1≥10)<;>rfl
 by_cases hk:1≤c.2.1∧c.2.1≤14
 ·obtain⟨b,hb⟩:=UE (k:=1000) (by decide) c.2
  have bB:tA 1000 c.2=some b:=(vL0 _ _ _ _ _ _ _ hk).trans hb
  have eo:s.st.2.2.2.2.2.2.2.2.2.2=s.ov:=rfl
  unfold tj at he
  rw[UF,UG,hb,eo] at he
  simp only[ae] at he
  unfold AJ
  rw[hA,hH,bB]
  simp only[ae]
  clear hm hA hH hb bB
  generalize decide (c.1≥0)=A at he⊢
  generalize decide (c.2.1≥10)=B at he⊢
  generalize decide (c.2.1≤14)=C at he⊢
  generalize decide (c.2.1≥1)=D at he⊢
  generalize decide (c.1= -1)=E at he⊢
  generalize decide (c.1<r.1)=F at he⊢
  generalize decide (c.2.1=9)=G at he⊢
  generalize s.ov=o at he⊢
  cases A<;>cases B<;>cases C<;>cases D<;>cases E<;>cases F<;>cases G<;>cases b<;>cases o<;>(cases he;rfl)
 ·have g:(decide (c.2.1≥1)&&decide (c.2.1≤14))=false:=by
   by_cases a:c.2.1≥1
   ·rw[aa a,ab (fun b=>hk ⟨a,b⟩)];rfl
   ·rw[ab a];rfl
  have e5:e=5:=by
   unfold tj at he
   rw[UF,UG,g] at he
   simp only[ae] at he
   cases hd:decide (c.1≥0)<;>rw[hd] at he<;>(cases he;rfl)
  subst e5
  unfold AJ
  rw[hA,g]
  rfl
structure Dlt (r:qP) (s:qD) (f:jG) (t:qD) (l:List yA):Prop where
 inv:yD r t
 ov:t.ov=s.ov
 few:l.length≤2
 kd:Kd l
 ids:∀x∈t.ids,x∈s.ids∨x=f.2.1
structure AK (r:qP) (s:qD) (f:jG) (t:qD) (o:List yA) (e:Int):Prop where
 inv:yD r t
 bad:e≠0→t=s∧o=[]
 ne:mL o
 few:o.length≤200
 ids:∀x∈t.ids,x∈s.ids∨x=f.2.1
theorem AK.none {r:qP}{s:qD}{f:jG}(h:yD r s)(e:Int):AK r s f s [] e:=⟨h,fun _=>⟨rfl,rfl⟩,fun x hx=>absurd hx List.not_mem_nil,Nat.zero_le _,fun _ h=>.inl h⟩
theorem kn (who a:Int)(kd:Int)(h:kd≠16∧kd≠23):Kd [lY who kd a]:=VB h
structure Fx (r:qP) (s:qD) (who:Int) (f:jG) (t:qD) (l l':List yA) (paid:Int):Prop where
 dealt:Dlt r s f t l
 told:l=(if who= -1 then l' else lY who 15 0::l')
 paid:paid=if f.1=1 then f.2.1 else 0
 pos:f.1=1→0<f.2.1
theorem vN2 {r:qP}{s:qD}{who:Int}{f:jG}(h:(gY r s who f).1=0):0<f.2.1:=by
 unfold gY at h
 cases h1:decide (f.2.2.1≥0)&&decide (f.2.2.1≤r.1-1) with
 |false=>rw[h1] at h;cases h
 |true=>
 cases h2:decide (f.2.2.2.2.1≥1)&&decide (f.2.2.2.2.1≤3) with
 |false=>rw[h1,h2] at h;cases h
 |true=>
 rw[h1,h2] at h
 simp only[ay,aj] at h
 by_cases hc:lX r s.t (fk who f)=0
 ·unfold lX at hc
  cases hb:iQ r.1 s.t (fk who f) with
  |false=>rw[hb] at hc;cases hc
  |true=>
   unfold iQ at hb
   simp only[aR,aN] at hb
   have:(fk who f).1≥1:=hb.2.2.1
   have e:(fk who f).1=f.2.1:=rfl
   omega
 ·rw[ab hc] at h
  exact absurd h hc
theorem VF {r:qP}(hr:jS r){s:qD}(h:yD r s)(ho:s.ov=false){who:Int}(hw:0≤who∧who<r.1){f:jG}(hf:1≤f.1∧f.1≤8):
  ∃e d d',NW 1000 (dk r s who [lY who 15 0]) f=some (e,d)∧wh 1000 (rk r s who) f=some (e,d')∧(e=0→∃t l l' paid,d=dk r t who l∧d'=qR r t who l' paid∧Fx r s who f t l l' paid):=by
 unfold NW wh
 have pR:¬who= -1:=by omega
 have kn:=kn who 0 15 (by decide)
 by_cases h1:f.1=1
 ·rw[aa h1]
  obtain⟨d,e1,e2⟩:=vZl (k:=1000) (by decide) hr h.waits who [lY who 15 0] f
  obtain⟨d',q1,q2⟩:=Vs (k:=1000) (by decide) hr h.waits who f
  simp only[ai]
  rw[e1,q1]
  exact⟨_,d,d',rfl,rfl,fun e=>⟨_,_,_,_,e2 e,q2 e,⟨h.queue ho (vQa hr h e),rfl,by simp,kn,vQm e⟩,(if_neg pR).symm,(if_pos h1).symm,fun _=>vN2 e⟩⟩
 rw[ab h1]
 by_cases hq:f.1=2∨f.1=3∨f.1=4
 ·obtain⟨d,e1,e2⟩:=vWg (k:=1000) (by decide) h.waits who (l:=[lY who 15 0]) (by simp) f
  obtain⟨d',q1,q2⟩:=Vt (k:=1000) (by decide) (r:=r) h.waits who f hq
  have g:∃e d d',(zv 1000 (dk r s who [lY who 15 0]) f).bind (fun x=>some (x.1,x.2))=some (e,d)∧(AF 1000 (rk r s who) f.1 f.2).bind (fun x=>some (x.1,x.2))=some (e,d')∧(e=0→∃t l l' paid,d=dk r t who l∧d'=qR r t who l' paid∧Fx r s who f t l l' paid):=by
   rw[e1,q1]
   refine⟨_,d,d',rfl,rfl,fun e=>⟨_,_,_,_,e2 e,q2 e,⟨h.queue ho (U1 h e),rfl,?_,kn.append vHd,fun _ h=>.inl h⟩,?_,(if_neg h1).symm,fun e'=>absurd e' h1⟩⟩
   ·have:=vSi (r:=r) (s:=s) (who:=who) (f:=f)
    rw[List.length_append]
    simp
    omega
   ·rw[if_neg pR];rfl
  rcases hq with e|e|e
  ·rw[aa e];exact g
  ·rw[ab (show¬f.1=2 by omega),aa e];exact g
  ·rw[ab (show¬f.1=2 by omega),ab (show¬f.1=3 by omega),aa e];exact g
 rw[ab (show¬f.1=2 by omega),ab (show¬f.1=3 by omega),ab (show¬f.1=4 by omega)]
 by_cases hq:f.1=5∨f.1=6∨f.1=7
 ·obtain⟨d,e1,e2⟩:=vJr (k:=1000) (by decide) hr h.bk h.n hw [lY who 15 0] f
  obtain⟨d',q1,q2⟩:=vDn (k:=1000) (by decide) hr h.bk h.n hw f
  have g:∃e d d',(zw 1000 (dk r s who [lY who 15 0]) f).bind (fun x=>some (x.1,x.2))=some (e,d)∧(AG 1000 (rk r s who) f.1 f.2).bind (fun x=>some (x.1,x.2))=some (e,d')∧(e=0→∃t l l' paid,d=dk r t who l∧d'=qR r t who l' paid∧Fx r s who f t l l' paid):=by
   rw[e1,q1]
   have bW:=vEz r s who f
   exact⟨_,d,d',rfl,rfl,fun e=>⟨_,_,_,_,e2 e,q2 e,⟨vCt h hw e,bW.2.1,by simp,kn,by rw[vLz];exact fun _ h=>.inl h⟩,(if_neg pR).symm,(if_neg h1).symm,fun e'=>absurd e' h1⟩⟩
  rcases hq with e|e|e
  ·rw[aa e];exact g
  ·rw[ab (show¬f.1=5 by omega),aa e];exact g
  ·rw[ab (show¬f.1=5 by omega),ab (show¬f.1=6 by omega),aa e];exact g
 rw[ab (show¬f.1=5 by omega),ab (show¬f.1=6 by omega),ab (show¬f.1=7 by omega),aa (show f.1=8 by omega)]
 obtain⟨d,e1,e2⟩:=vEm (k:=1000) (by decide) hr h hw [lY who 15 0] f.2.1 f.2.2.1
 obtain⟨d',q1,q2⟩:=vFh hr h hw f.2.1 f.2.2.1
 simp only[ai,aj]
 rw[e1,q1]
 have bW:=vN3 r s who f.2.1 f.2.2.1
 exact⟨_,d,d',rfl,rfl,fun e=>⟨_,_,_,_,e2 e,q2 e,⟨vPe hr h hw e,bW.2.1,by simp,kn,by rw[vZp];exact fun _ h=>.inl h⟩,(if_neg pR).symm,(if_neg h1).symm,fun e'=>absurd e' h1⟩⟩
theorem vOd {r:qP}(hr:jS r){s:qD}(h:yD r s){f:jG}(hf:10≤f.1∧f.1≤13):
  ∃e d d',Fy 1000 (fO r s (-1)) f=some (e,d)∧wh 1000 (rk r s (-1)) f=some (e,d')∧(e=0→∃t l l' paid,d=dk r t (-1) l∧d'=qR r t (-1) l' paid∧Fx r s (-1) f t l l' paid):=by
 unfold Fy wh
 have h1:¬f.1=1:=by omega
 rw[ab h1,ab (show¬f.1=2 by omega),ab (show¬f.1=3 by omega),ab (show¬f.1=4 by omega),ab (show¬f.1=5 by omega),ab (show¬f.1=6 by omega),ab (show¬f.1=7 by omega),ab (show¬f.1=8 by omega)]
 by_cases hq:f.1=10∨f.1=11
 ·obtain⟨d,e1,e2⟩:=vI7 (k:=1000) (by decide) hr h (-1) f.1 f.2.1 f.2.2.1
  obtain⟨d',q1,q2⟩:=vCy hr h (-1) f.1 f.2.1 f.2.2.1 hq
  have g:∃e d d',(EJ 1000 (fO r s (-1)) f.1 f.2.1 f.2.2.1).bind (fun x=>some (x.1,x.2))=some (e,d)∧(E9 1000 (rk r s (-1)) (decide (f.1=10)) f.2.1 f.2.2.1).bind (fun x=>some (x.1,x.2))=some (e,d')∧(e=0→∃t l l' paid,d=dk r t (-1) l∧d'=qR r t (-1) l' paid∧Fx r s (-1) f t l l' paid):=by
   rw[e1,q1]
   refine⟨_,d,d',rfl,rfl,fun e=>?_⟩
   obtain⟨g1,g2,g3,g4,g5⟩:=Vm h e
   exact⟨_,_,_,_,e2 e,q2 e,⟨g1,vMg,by simp,we,by rw[g4];exact fun _ h=>.inl h⟩,rfl,(if_neg h1).symm,fun e'=>absurd e' h1⟩
  rcases hq with e|e
  ·have e1:decide (f.1=10)=true:=aa e
   rw[e1] at g⊢
   exact g
  ·have e1:decide (f.1=10)=false:=ab (by omega)
   rw[e1] at g⊢
   rw[aa e];exact g
 rw[ab (show¬f.1=10 by omega),ab (show¬f.1=11 by omega)]
 by_cases hp:f.1=12
 ·rw[aa hp]
  obtain⟨d,e1,e2⟩:=UQ (k:=1000) (by decide) hr h (-1) f.2.1 f.2.2.1
  obtain⟨d',q1,q2⟩:=vQ3 hr h (-1) f.2.1 f.2.2.1
  simp only[ai,aj]
  rw[e1,q1]
  have bW:=vS6 r s f.2.1 f.2.2.1
  exact⟨_,d,d',rfl,rfl,fun e=>⟨_,_,_,_,e2 e,q2 e,⟨vDi h e,bW.2.1,by simp,we,by rw[vNa];exact fun _ h=>.inl h⟩,rfl,(if_neg h1).symm,fun e'=>absurd e' h1⟩⟩
 ·rw[ab hp]
  exact⟨_,_,_,rfl,rfl,fun _=>⟨s,[],[],0,rfl,rfl,⟨h,rfl,by simp,we,fun _ h=>.inl h⟩,rfl,(if_neg h1).symm,fun e'=>absurd e' h1⟩⟩
def NX (who kd:Int)(x4:Int×Vn):Option (qq×List yA×Int):=
  bif !(decide (who = (-1))) then ((fq 1000 15 []).bind fun x5=>
   (mK 1000 x4.2.2.2.2.2.2.1 x4.2.2.2.2.2.2.2.1 x4.2.2.2.2.2.2.2.2.1 x4.2.2.2.2.2.2.2.2.2.1 x4.2.2.2.2.2.2.2.2.2.2.1 x4.2.2.2.2.2.2.2.2.2.2.2.1 x4.2.2.2.2.2.2.2.2.2.2.2.2.1 x4.2.2.2.2.2.2.2.2.2.2.2.2.2.1 x4.2.2.2.2.2.2.2.2.2.2.2.2.2.2.1 x4.2.2.2.2.2.2.2.2.2.2.2.2.2.2.2.1 x4.2.2.2.2.2.2.2.2.2.2.2.2.2.2.2.2.1 (decide (kd=13))).bind fun x6=>
   bif zO (1 + x4.2.2.2.2.2.2.2.2.2.2.2.2.2.2.2.2.2.2.1.length) 64 then (let y0:List yA:=([(who,x5)]++x4.2.2.2.2.2.2.2.2.2.2.2.2.2.2.2.2.2.2.1)
    bif zO (y0.length + x6.2.2.2.2.2.2.2.2.2.2.2.length) 64 then (bif decide (x4.2.2.2.2.2.2.2.2.2.2.2.2.2.2.2.2.2.2.2 > 0) then ((lS 1000 x6.2.2.2.2.2.2.2.1 x4.2.2.2.2.2.2.2.2.2.2.2.2.2.2.2.2.2.2.2).bind fun x7=>
      bif decide (x7 ≥ 0) then ((fq 1000 19 [x4.2.2.2.2.2.2.2.2.2.2.2.2.2.2.2.2.2.2.2]).bind fun x8=>
       bif zO ((y0 ++ x6.2.2.2.2.2.2.2.2.2.2.2).length + 1) 64 then (let y1:List yA:=((y0++x6.2.2.2.2.2.2.2.2.2.2.2)++[(who,x8)])
        some ((qW x6),y1,0))
       else none)
      else some ((qW x6),(y0++x6.2.2.2.2.2.2.2.2.2.2.2),0))
     else some ((qW x6),(y0++x6.2.2.2.2.2.2.2.2.2.2.2),0))
    else none)
   else none)
  else(mK 1000 x4.2.2.2.2.2.2.1 x4.2.2.2.2.2.2.2.1 x4.2.2.2.2.2.2.2.2.1 x4.2.2.2.2.2.2.2.2.2.1 x4.2.2.2.2.2.2.2.2.2.2.1 x4.2.2.2.2.2.2.2.2.2.2.2.1 x4.2.2.2.2.2.2.2.2.2.2.2.2.1 x4.2.2.2.2.2.2.2.2.2.2.2.2.2.1 x4.2.2.2.2.2.2.2.2.2.2.2.2.2.2.1 x4.2.2.2.2.2.2.2.2.2.2.2.2.2.2.2.1 x4.2.2.2.2.2.2.2.2.2.2.2.2.2.2.2.2.1 (decide (kd=13))).bind fun x9=>
  bif zO x4.2.2.2.2.2.2.2.2.2.2.2.2.2.2.2.2.2.2.1.length 64 then (let y2:List yA:=x4.2.2.2.2.2.2.2.2.2.2.2.2.2.2.2.2.2.2.1
   bif zO (y2.length + x9.2.2.2.2.2.2.2.2.2.2.2.length) 64 then (bif decide (x4.2.2.2.2.2.2.2.2.2.2.2.2.2.2.2.2.2.2.2 > 0) then ((lS 1000 x9.2.2.2.2.2.2.2.1 x4.2.2.2.2.2.2.2.2.2.2.2.2.2.2.2.2.2.2.2).bind fun dC=>
     bif decide (dC ≥ 0) then ((fq 1000 19 [x4.2.2.2.2.2.2.2.2.2.2.2.2.2.2.2.2.2.2.2]).bind fun gg=>
      bif zO ((y2 ++ x9.2.2.2.2.2.2.2.2.2.2.2).length + 1) 64 then (let y3:List yA:=((y2++x9.2.2.2.2.2.2.2.2.2.2.2)++[(who,gg)])
       some ((qW x9),y3,0))
      else none)
     else some ((qW x9),(y2++x9.2.2.2.2.2.2.2.2.2.2.2),0))
    else some ((qW x9),(y2++x9.2.2.2.2.2.2.2.2.2.2.2),0))
   else none)
  else none
def AL (r:qP)(s:qq)(c:j8):Option (qq×List yA×Int):=
  bif decide (c.2.1 = 9) then (bif zC c.1 s.2.1.length then ((sQ 1000 s.2.2.2.2.2.2.2.1 c.1).bind fun x1=>
    (fq 1000 17 [(s.2.1.getD c.1.toNat (0,0,0)).1,(s.2.1.getD c.1.toNat (0,0,0)).2.1,(s.2.1.getD c.1.toNat (0,0,0)).2.2,(x1.length:Int),s.1]).bind fun x2=>
    some (s,[(c.1,x2)],0))
   else none)
  else bif decide (c.2.1 = 14) then ((Fw 1000 r s).bind fun x3=>
   some (x3.1,x3.2,0))
  else(wh 1000 (wS r (vU s (c.1,0))) c.2).bind fun x4=>
  bif !(decide (x4.1=0)) then some (s,[],x4.1)
  else NX c.1 c.2.1 x4
theorem vSm (r:qP)(s:qq)(c:j8):JC 1000 r s c=(AJ 1000 r c).bind fun x0=>
  bif !x0 then some (s,[],5) else bif s.2.2.2.2.2.2.2.2.2.2 then(bif !(decide (c.2.1=9)) then some (s,[],7) else AL r s c) else AL r s c:=rfl
theorem yZg {r:qP}(hr:jS r){s t:qD}(ho:s.ov=false){who:Int}{l l':List yA}{f:jG}{paid:Int}(hB:Fx r s who f t l l' paid):
    ∃ u o, ((td 1000 t.t t.B.1 t.B.2.1 t.B.2.2.1 t.B.2.2.2 t.pr t.ho t.m t.ids t.to t.ov (decide (f.1=13))).bind fun x5=>
      bif zO (l.length + x5.2.2.2.2.2.2.2.2.2.2.2.length) 64 then (let y0:List yA:=(l++x5.2.2.2.2.2.2.2.2.2.2.2)
       bif decide (f.1 = 1) then ((nD 1000 x5.2.2.2.2.2.2.2.1 f.2.1).bind fun x6=>
        bif decide (x6 ≥ 0) then ((vn 1000 (NY ((0:Int),dk r t who l) y0) 19 [f.2.1]).bind fun x7=>
         some ((qW x5),x7.2.2.2.2.2.2.2.2.2.2.2.2.2.2.2.2.2,(0:Int)))
        else some ((qW x5),y0,0))
       else some ((qW x5),y0,0))
      else none)=some (u.st,o,(0:Int))∧NX who f.1 (0,qR r t who l' paid)=some (u.st,o,(0:Int))∧yD r u∧mL o∧o.length≤200∧u.ids=t.ids:=by
  have h:=hB.dealt.inv
  have AM:=hB.dealt.ov.trans ho
  have hl:=hB.dealt.few
  have hm:=h.waits.len
  obtain⟨C,m',d,e1,Jt,e3,e4,e5,e6,e7⟩:=yBf h.bk h.waits.dist h.waits.may (by omega) t.t t.pr t.ho t.ids t.to t.ov (decide (f.1=13))
  have hd:d.length≤40:=by
    have:=e6.length_eq
    rw[List.length_append] at this
    omega
  have uD:=e5.length_le
  have BQ:=Eu d
  have hu:=h.settled AM e3 e4 e5
  have dG:l'.length≤2:=by
    have:=hB.told
    by_cases hw:who= -1
    · rw[if_pos hw] at this;rw[←this];exact hl
    · rw[if_neg hw] at this;rw[this,List.length_cons] at hl;omega
  have key:NX who f.1 (0,qR r t who l' paid)=bif decide (paid>0) then(bif decide (jy m' paid≥0) then some ((t.t,C.1,C.2.1,C.2.2.1,C.2.2.2,t.pr,t.ho,m',t.ids,t.to,t.ov),(l++vF d)++[lY who 19 paid],(0:Int)) else some ((t.t,C.1,C.2.1,C.2.2.1,C.2.2.2,t.pr,t.ho,m',t.ids,t.to,t.ov),l++vF d,0)) else some ((t.t,C.1,C.2.1,C.2.2.1,C.2.2.2,t.pr,t.ho,m',t.ids,t.to,t.ov),l++vF d,0):=by
    have es:mK 1000 (qR r t who l' paid).2.2.2.2.2.1 (qR r t who l' paid).2.2.2.2.2.2.1 (qR r t who l' paid).2.2.2.2.2.2.2.1 (qR r t who l' paid).2.2.2.2.2.2.2.2.1 (qR r t who l' paid).2.2.2.2.2.2.2.2.2.1 (qR r t who l' paid).2.2.2.2.2.2.2.2.2.2.1 (qR r t who l' paid).2.2.2.2.2.2.2.2.2.2.2.1 (qR r t who l' paid).2.2.2.2.2.2.2.2.2.2.2.2.1 (qR r t who l' paid).2.2.2.2.2.2.2.2.2.2.2.2.2.1 (qR r t who l' paid).2.2.2.2.2.2.2.2.2.2.2.2.2.2.1 (qR r t who l' paid).2.2.2.2.2.2.2.2.2.2.2.2.2.2.2.1 (decide (f.1=13))=_:=Jt
    have eo:(qR r t who l' paid).2.2.2.2.2.2.2.2.2.2.2.2.2.2.2.2.2.1=l':=rfl
    have ep:(qR r t who l' paid).2.2.2.2.2.2.2.2.2.2.2.2.2.2.2.2.2.2=paid:=rfl
    have ef:lS 1000 m' paid=some (jy m' paid):=Mz (by omega) (by omega) paid
    unfold NX
    simp only[es,eo,ep,Of0,NS,ae]
    have ht:=hB.told
    by_cases hw:who= -1
    · rw[if_pos hw] at ht
      rw[aa hw,qT (n:=l'.length) (by omega) (by omega),qT (n:=l'.length+(vF d).length) (by omega) (by omega),qT (n:=(l'++vF d).length+1) (by rw[List.length_append];omega) (by rw[List.length_append];omega),ht]
      simp only[ay,aj,ai]
      rw[ef]
      rfl
    · rw[if_neg hw] at ht
      have er:[((who,(15,0,0,0,0,0,0)):yA)]++l'=l:=ht.symm
      rw[ab hw,er,qT (n:=1+l'.length) (by omega) (by omega),qT (n:=l.length+(vF d).length) (by omega) (by omega),qT (n:=(l++vF d).length+1) (by rw[List.length_append];omega) (by rw[List.length_append];omega)]
      simp only[bx,ai]
      rw[ef]
      rfl
  rw[e1,key]
  simp only[ae]
  rw[qT (n:=l.length+(vF d).length) (by omega) (by omega)]
  simp only[ai]
  have fin:∀(o:List yA) {x:Option (qq×List yA×Int)},o.length≤200→mL o→x=some (({t with B:=C,m:=m'}:qD).st,o,(0:Int))→∃u o',some (({t with B:=C,m:=m'}:qD).st,o,(0:Int))=some (u.st,o',(0:Int))∧x=some (u.st,o',(0:Int))∧yD r u∧mL o'∧o'.length≤200∧u.ids=t.ids:=fun o _ hl hk hx=>⟨{t with B:=C,m:=m'},o,rfl,hx,hu,hk,hl,rfl⟩
  have k1:Kd (l++vF d):=hB.dealt.kd.append (VC _)
  have b1:(l++vF d).length≤199:=by rw[List.length_append];omega
  have b2:∀x:yA,(l++vF d++[x]).length≤200:=fun x=>by rw[List.length_append];simp;rw[List.length_append] at b1;omega
  have hp:=hB.paid
  by_cases h1:f.1=1
  · rw[if_pos h1] at hp
    subst hp
    rw[aa h1,aa (show f.2.1>0 from hB.pos h1)]
    simp only[ai]
    rw[Iq (by omega) (by omega)]
    simp only[ae]
    cases decide (jy m' f.2.1≥0) with
    |false=>exact fin _ (by omega) k1.ne rfl
    |true=>
      simp only[ai]
      have ej:NY ((0:Int),dk r t who l) (l++vF d)=dk r t who (l++vF d):=rfl
      rw[ej,qZ7 (by rw[List.length_append];omega)]
      exact fin _ (b2 _) (k1.append (kn _ _ _ (by decide))).ne rfl
  · rw[if_neg h1] at hp
    subst hp
    rw[ab h1,ab (show¬(0:Int)>0 by decide)]
    exact fin _ (by omega) k1.ne rfl
theorem vO7 {r:qP}{s:qD}(h:yD r s){who:Int}(hw:0≤who∧who<r.1)(c:j8)(hc:c.1=who)(h9:c.2.1=9):
  ∃o,Jc 1000 s.st who=some o∧AL r s.st c=some (s.st,o,0)∧o.length≤200∧mL o:=by
 have hm:=h.waits.len
 have hn:=h.n
 have hb:zC who s.B.1.length=true:=iM hw.1 (by omega)
 have e1:s.st.2.1=s.B.1:=rfl
 have e2:s.st.2.2.2.2.2.2.2.1=s.m:=rfl
 unfold Jc AL
 rw[aa h9,hc,e1,e2,hb,vAv (by omega) (by unfold qV;omega),Mt (by omega) (by unfold qV;omega)]
 simp only[ai,ae,Of5]
 exact⟨_,rfl,rfl,by simp,(VB ⟨by simp,by simp⟩).ne⟩
theorem NZ {r:qP}(hr:jS r){s:qD}(h:yD r s)(c:j8):
  ∃t o e,ky 1000 r s.st c=some (t.st,o,e)∧JC 1000 r s.st c=some (t.st,o,e)∧AK r s c.2 t o e:=by
 obtain⟨e,he,hm,hb⟩:=vGj r s c (fun e=>(some (s.st,[],e):Option (qq×List yA×Int))) (AL r s.st c)
 have hR:JC 1000 r s.st c=bif decide (e=0) then AL r s.st c else some (s.st,[],e):=by
  rw[vSm]
  have eo:s.st.2.2.2.2.2.2.2.2.2.2=s.ov:=rfl
  rw[eo]
  cases hx:AJ 1000 r c with
  |none=>rw[hx] at hb;cases hb
  |some x=>
   rw[hx] at hb
   simp only[ae,Option.some.injEq] at hb
   exact hb
 unfold ky
 rw[he,hR]
 simp only[ae]
 by_cases h0:e=0
 ·obtain⟨hw,AM⟩:=hm h0
  rw[aa h0]
  simp only[ay,aj,ai]
  by_cases h9:c.2.1=9
  ·have uv:0≤c.1∧c.1<r.1:=by omega
   obtain⟨o,ho,kH,hol,fc⟩:=vO7 h uv c rfl h9
   rw[aa h9,kH]
   simp only[ai]
   rw[ho]
   exact⟨s,o,0,rfl,rfl,h,fun e=>absurd rfl e,fc,hol,fun _ h=>.inl h⟩
  ·have ho:s.ov=false:=by
    cases g:s.ov with
    |false=>rfl
    |true=>exact absurd (AM g) h9
   have fin:∀{t:qD} {x y:Option (qq×List yA×Int)},(∀x∈t.ids,x∈s.ids∨x=c.2.2.1)→(∃u o,x=some (u.st,o,(0:Int))∧y=some (u.st,o,(0:Int))∧yD r u∧mL o∧o.length≤200∧u.ids=t.ids)→∃t o e,x=some (t.st,o,e)∧y=some (t.st,o,e)∧AK r s c.2 t o e:=by
    intro t x y hi ⟨u,o,g1,sS,g2,g3,g4,g5⟩
    exact⟨u,o,0,g1,sS,g2,fun e=>absurd rfl e,g3,g4,by rw[g5];exact hi⟩
   unfold AL
   rw[ab h9]
   simp only[aj]
   by_cases hp:c.1= -1
   ·rw[aa hp]
    have hf:10≤c.2.1∧c.2.1≤14:=by omega
    have ed:wS r (vU s.st c.1)=fO r s (-1):=by rw[hp];rfl
    have er:wS r (vU s.st (c.1,0))=rk r s (-1):=by rw[hp];rfl
    simp only[ay,aj]
    rw[ed,er]
    by_cases VG:c.2.1=14
    ·have g0:Fy 1000 (fO r s (-1)) c.2=some (0,dk r s (-1) []):=by
      unfold Fy
      rw[VG]
      rfl
     rw[g0]
     simp only[ae]
     rw[aa VG]
     have bg:=h.tk
     have BG:=hr.cl
     have IV:=hr.pe
     obtain⟨x,x1,x2⟩:=vZk r h.bk h.waits.dist h.waits.may (by have:=h.waits.len;omega) ⟨by omega,by omega⟩ (by omega) ho
     obtain⟨C,m',ov,o,y1,y2,_,_,y3,y4⟩:=vOf (k:=1000) (by decide) hr h ho
     rw[x1] at y1
     have y1:=Option.some.inj y1
     subst y1
     refine⟨_,o,0,(congrArg (fun z=>Option.bind z _) x1).trans rfl,(congrArg (fun z=>Option.bind z _) x2).trans rfl,y2,fun e=>absurd rfl e,?_,by omega,fun _ h=>.inl h⟩
     rcases y4 with⟨_,_,rfl,_⟩|⟨l,d,n,rfl,_,_,_⟩
     ·exact(yG6 (.inr rfl) _).ne.append (vC3 _ _)
     ·exact((yG6 (.inl rfl) _).append (VC _)).ne
    ·obtain⟨e,d,d',g1,sS,g2⟩:=vOd hr h (f:=c.2) (by omega)
     rw[g1,ab VG,sS]
     simp only[ae,aj]
     by_cases hz:e=0
     ·obtain⟨t,l,l',paid,rfl,rfl,hd⟩:=g2 hz
      rw[aa hz,hp]
      simp only[ay,aj]
      subst hz
      exact fin hd.dealt.ids (yZg hr ho hd)
     ·rw[ab hz]
      exact⟨s,[],e,rfl,rfl,AK.none h e⟩
   ·rw[ab hp,ab (show¬c.2.1=14 by omega)]
    have hf:1≤c.2.1∧c.2.1≤8:=by omega
    have uv:0≤c.1∧c.1<r.1:=by omega
    have ed:N0 1000 (wS r (vU s.st c.1)) 15 []=some (dk r s c.1 [lY c.1 15 0]):=rfl
    have er:wS r (vU s.st (c.1,0))=rk r s c.1:=rfl
    obtain⟨e,d,d',g1,sS,g2⟩:=VF hr h ho uv (f:=c.2) hf
    simp only[bx,ai,aj]
    rw[ed,er,sS]
    simp only[ae]
    rw[g1]
    simp only[ae]
    by_cases hz:e=0
    ·obtain⟨t,l,l',paid,rfl,rfl,hd⟩:=g2 hz
     rw[aa hz]
     simp only[ay,aj]
     subst hz
     exact fin hd.dealt.ids (yZg hr ho hd)
    ·rw[ab hz]
     exact⟨s,[],e,rfl,rfl,AK.none h e⟩
 ·rw[ab h0]
  exact⟨s,[],e,rfl,rfl,AK.none h e⟩
def tB (s t:qD):Prop:=∀i,i<s.B.1.length→(t.B.1.getD i ad).1<(s.B.1.getD i ad).1→0≤(t.B.1.getD i ad).1+(t.B.1.getD i ad).2.1
theorem tB.same {s t:qD}(h:∀i,i<s.B.1.length→(t.B.1.getD i ad).1=(s.B.1.getD i ad).1):tB s t:=fun i hi bg=>by rw[h i hi] at bg;omega
theorem tB.refl (s:qD):tB s s:=tB.same fun _ _=>rfl
theorem tB.set {s t:qD}{j:Nat}{a:qO}(h:t.B.1=s.B.1.set j a)(ha:a.1<(s.B.1.getD j ad).1→0≤a.1+a.2.1):tB s t:=fun i hi=>by
 rw[h,jM]
 split
 ·next h=>rw[←h.1];exact ha
 ·omega
structure abf (r:qP) (s:qD) (f:jG) (t:qD) (l:List yA):Prop where
 inv:yD r t
 tk:t.t=s.t
 ov:t.ov=s.ov
 few:l.length≤2
 to:t.to=s.to+(if f.1=10 then f.2.2.1 else if f.1=11 then-f.2.2.1 else 0)
 fell:tB s t
 kd:Kd l
 ids:∀x∈t.ids,x∈s.ids∨x=f.2.1
structure Did (k:Nat) (r:qP) (s:qD) (c:j8) (t:qD) (o:List yA) (e:Int):Prop where
 inv:yD r t
 bad:e≠0→t=s∧o=[]
 to:e=0→t.to=s.to+(if c.2.1=10 then c.2.2.2.1 else if c.2.1=11 then-c.2.2.2.1 else 0)
 still:t=s∨(t.ov=false→fh k t.B (vZ t.m t.t)=none)
 fell:tB s t
 ne:mL o
 few:o.length≤100
 ids:∀x∈t.ids,x∈s.ids∨x=c.2.2.1
instance AN:DecidableEq zE:=fun a b=>inferInstanceAs (Decidable (a=b))
theorem VH {k}{a b:List zE}(hk:a.length<k)(hl:a.length<9223372036854775808):JD k a b=some (decide (a=b)):=by
 unfold JD
 by_cases hlen:a.length=b.length
 case neg=>
  have e:decide (((a.length:Nat):Int)=((b.length:Nat):Int))=false:=by grind
  have:a≠b:=by grind
  simp_all
 have e:decide (((a.length:Nat):Int)=((b.length:Nat):Int))=true:=by grind
 have := lN (L := fun n i => JE k n a b i) (N := a.length) (fun i => decide (a.getD i pd = b.getD i pd)) (.inl ()) (.inr false) (fun n=>by
  show Fz k _ a b a.length=_
  unfold Fz
  simp) (fun n i hi=>by
  show Fz k _ a b i=_
  unfold Fz
  have e7:=eq7 (a.getD i pd) (b.getD i pd)
  simp only[qG,qK hi hl]
  simp_all) hk
 rw[this,LX pd hlen]
 grind
theorem vFi {r s}(hr:jS r)(h:yD r s):FA 1000 s.st s.st=some true:=by
 have hb:wM s.B.1 s.B.2.1 s.B.2.2.1 s.B.2.2.2:=h.bk
 have gW:=h.bk.n6
 have nv:=h.bk.n1
 have hm:=h.waits.len
 have hi:=h.waits.idl
 have h3:=hr.n3
 have hL:=h.laid 0 (by omega)
 have e1:HV 1000 s.B.1 s.B.2.1 s.B.2.2.1 s.B.2.2.2 s.B.1 s.B.2.1 s.B.2.2.1 s.B.2.2.2=some true:=by
  rw[vJe (by decide) hb.toSized]
  simp
 have e2:sJ 1000 s.pr s.pr=some true:=by rw[LY (by rw[hL.pl];omega) (by rw[hL.pl];omega),aa rfl]
 have e3:yt 1000 s.ho s.ho=some true:=by
  have hol:=h.hol
  rw [Ts (by omega) (by omega) (fun i hi=>by
   have:=(h.laid i (by omega)).hl
   omega),aa rfl]
 have e4:JD 1000 s.m s.m=some true:=by rw[VH (by omega) (by omega),aa rfl]
 have e5:sJ 1000 s.ids s.ids=some true:=by rw[LY (by omega) (by omega),aa rfl]
 unfold FA
 have f0:s.st.1=s.t:=rfl
 have f9:s.st.2.2.2.2.2.2.2.2.2.1=s.to:=rfl
 have f10:s.st.2.2.2.2.2.2.2.2.2.2=s.ov:=rfl
 have q:nR s.ov s.ov=true:=by cases s.ov<;>rfl
 rw[f0,f9,f10,aa rfl,aa rfl,q]
 refine(congrArg (fun z=>Option.bind z _) e1).trans ?_
 refine(congrArg (fun z=>Option.bind z _) e2).trans ?_
 refine(congrArg (fun z=>Option.bind z _) e3).trans ?_
 refine(congrArg (fun z=>Option.bind z _) e4).trans ?_
 refine(congrArg (fun z=>Option.bind z _) e5).trans ?_
 rfl
end Go.Ab.Gi
namespace Go.Ab.Gi
open Go.Ab Go.RowKit
theorem VI {r}(hr:jS r):UK 1000 r:=fun s hs c=>by
 obtain⟨t,o,e,h1,_,h2⟩:=NZ hr hs c
 exact⟨t,o,e,h1,h2.inv,fun h=>(h2.bad h).1⟩
theorem vLm {r}(hr:jS r):∀s,yD r s→∀c u o e,ky 1000 r (qD.st s) c=some (u,o,e)→o.length≤300:=fun s hs c u o e h=>by
 obtain⟨t,o',e',h1,_,h2⟩:=NZ hr hs c
 have:=h1.symm.trans h
 simp  at this
 rw[←this.2.1]
 have:=h2.few
 omega
def VJ (r:qP):Prop:=r=r0∨r=r1∨r=r2∨r=r3
theorem vR3 {r}(h:VJ r):JF 1000 r=some (fm r).st:=by
 rcases h with rfl|rfl|rfl|rfl<;>kernel_rfl
theorem vZq {r}(h:VJ r):Np 1000 r:=by
 rcases h with rfl|rfl|rfl|rfl
 ·exact⟨by kernel_rfl,fun ev h1 h2=>by
   unfold qw
   rw[show AO 1000 r0=some true by kernel_rfl,ae,ay,aj,ab (show¬ev<1 by omega),aj,ab (show¬ev>1000 by omega),aj]
   kernel_rfl,by kernel_rfl⟩
 ·exact⟨by kernel_rfl,fun ev h1 h2=>by
   unfold qw
   rw[show AO 1000 r1=some true by kernel_rfl,ae,ay,aj,ab (show¬ev<1 by omega),aj,ab (show¬ev>1000 by omega),aj]
   kernel_rfl,by kernel_rfl⟩
 ·exact⟨by kernel_rfl,fun ev h1 h2=>by
   unfold qw
   rw[show AO 1000 r2=some true by kernel_rfl,ae,ay,aj,ab (show¬ev<1 by omega),aj,ab (show¬ev>1000 by omega),aj]
   kernel_rfl,by kernel_rfl⟩
 ·exact⟨by kernel_rfl,fun ev h1 h2=>by
   unfold qw
   rw[show AO 1000 r3=some true by kernel_rfl,ae,ay,aj,ab (show¬ev<1 by omega),aj,ab (show¬ev>1000 by omega),aj]
   kernel_rfl,by kernel_rfl⟩
theorem vWb {k}(hk:10≤k)(f:yk):∃b,tA k f=some b∧(b=true→0≤jw f.1):=by
 have key:∀(c n i:Nat),i+c=6→c<n→∀x:Int,∃z,wg k n x (i:Int) f=some z∧(z=.inl x∨z=.inr false):=by
  intro c
  induction c with
  |zero=>
   intro n i h1 h2 x
   obtain⟨n,rfl⟩:∃m,n=m+1:=⟨n-1,by omega⟩
   obtain rfl:i=6:=by omega
   exact⟨_,rfl,.inl rfl⟩
  |succ c ih=>
   intro n i h1 h2 x
   obtain⟨n,rfl⟩:∃m,n=m+1:=⟨n-1,by omega⟩
   obtain⟨z,g1,g2⟩:=ih n (i+1) (by omega) (by omega) x
   have st:∀v:Int,∃z',(bif !decide (v=0) then some (.inr false) else wg k n x ((i+1:Nat):Int) f)=some z'∧(z'=.inl x∨z'=.inr false):=by grind
   have:i=0∨i=1∨i=2∨i=3∨i=4∨i=5:=by omega
   rcases this with rfl|rfl|rfl|rfl|rfl|rfl
   ·exact st f.2.1
   ·exact st f.2.2.1
   ·exact st f.2.2.2.1
   ·exact st f.2.2.2.2.1
   ·exact st f.2.2.2.2.2.1
   ·exact st f.2.2.2.2.2.2
 have hm:=yQj f.1
 have e:wJ false (jw f.1) 0=(((jw f.1).toNat:Nat):Int):=by
  grind
 obtain⟨z,g1,g2⟩:=key (6-(jw f.1).toNat) k (jw f.1).toNat (by omega) (by omega) (jw f.1)
 unfold tA
 rw[vBu,ae,e,g1,ae]
 rcases g2 with rfl|rfl
 all_goals simp
theorem vRp {k}(hk:10≤k){l}(hl:l.length≤6):∃b,N1 k l=some b∧b.length=8*l.length:=by
 have one:∀(j:Nat) (hj:j<l.length) (c n:Nat),c<n→c≤8→∀r:AC,r.length+c≤1000→∃b,FB k n l (j:Int) (8*(c:Int)-8) r=some (l,(j:Int),b)∧b.length=r.length+c:=by
  intro j hj c
  induction c with
  |zero=>
   intro n h1 _ r hr
   obtain⟨n,rfl⟩:∃m,n=m+1:=⟨n-1,by omega⟩
   exact⟨r,rfl,rfl⟩
  |succ c ih=>
   intro n h1 h2 r hr
   obtain⟨n,rfl⟩:∃m,n=m+1:=⟨n-1,by omega⟩
   obtain⟨b,g1,g2⟩:=ih n (by omega) (by omega) (r++[(IntKind.wrap .u8 ((shr .u64 (IntKind.wrap .u64 ((l.getD (j:Int).toNat 0))) (IntKind.wrap .u64 (8*((c+1:Nat):Int)-8)))))]) (by rw[List.length_append];simp;omega)
   refine⟨b,?_,by rw[g2,List.length_append];simp;omega⟩
   show N2 k (FB k n) l _ _ r=_
   unfold N2
   have w:IntKind.wrap .u64 (8*((c+1:Nat):Int)-8)=8*((c+1:Nat):Int)-8:=by
    unfold IntKind.wrap
    simp only[IntKind.bits,IntKind.signed,Bool.false_and]
    simp
    omega
   rw[aa (by omega),ai,iM (by omega) (by omega),ai]
   rw[show decide (IntKind.wrap .u64 (8*((c+1:Nat):Int)-8)<0)=false from ab (by rw[w];omega),bx,ai,qT (by omega) (by omega),ai]
   rw[show zA (8*((c+1:Nat):Int)-8-8)=8*(c:Int)-8 by rw[zQ (by omega) (by omega)];omega]
   exact g1
 have all:∀(c n j:Nat),j+c=l.length→c<n→∀r:AC,r.length=8*j→∃b,AP k n l (j:Int) r=some b∧b.length=8*l.length:=by
  intro c
  induction c with
  |zero=>
   intro n j h1 h2 r hr
   obtain⟨n,rfl⟩:∃m,n=m+1:=⟨n-1,by omega⟩
   refine⟨r,?_,by omega⟩
   show FC k (AP k n) l _ r=_
   unfold FC
   rw[ab (by omega)]
   rfl
  |succ c ih=>
   intro n j h1 h2 r hr
   obtain⟨n,rfl⟩:∃m,n=m+1:=⟨n-1,by omega⟩
   obtain⟨b,g1,g2⟩:=one j (by omega) 8 k (by omega) (by omega) r (by omega)
   obtain⟨b',p1,p2⟩:=ih n (j+1) (by omega) (by omega) b (by omega)
   refine⟨b',?_,p2⟩
   show FC k (AP k n) l _ r=_
   unfold FC
   rw[aa (by omega),ai]
   have g1:FB k k l (j:Int) 56 r=some (l,(j:Int),b):=g1
   rw[g1,ae]
   dsimp only
   rw[qK (show j<l.length by omega) (by omega)]
   exact p1
 obtain⟨b,g1,g2⟩:=all l.length k 0 (by omega) (by omega) [] rfl
 unfold N1
 have g1:AP k k l 0 []=some b:=g1
 rw[g1]
 exact⟨b,rfl,g2⟩
theorem VK {k}(hk:10≤k)(f:yk):∃b,N3 k f=some b∧b.length≤49:=by
 unfold N3
 obtain⟨b,h1,h2⟩:=vWb hk f
 rw[h1,ae]
 cases b with
 |false=>simp
 |true=>
  have hn:=h2 rfl
  have hm:=yQj f.1
  rw[ay,aj,vBu,ae,aa hn,aa hm]
  have hl:(qZ [f.2.1,f.2.2.1,f.2.2.2.1,f.2.2.2.2.1,f.2.2.2.2.2.1,f.2.2.2.2.2.2] 0 ((jw f.1).toNat-0)).length≤6:=by
   unfold qZ
   simp_all
  obtain⟨b,g1,g2⟩:=vRp hk hl
  rw[Bool.and_self,ai,g1,ae,qT (by omega) (by omega),ai]
  grind
end Go.Ab.Gi
namespace Go.Ab.Gi
open Go.Ab Go.RowKit
inductive nL (r:qP):qD→List j8→qD→Prop
 |nil (s:qD):nL r s [] s
 |cons {s t u:qD} {c:j8} {q:List j8} {o:List yA} (h:ky 1000 r s.st c=some (t.st,o,0)) (g:nL r t q u):nL r s (c::q) u
theorem nL.snoc {r}{s t u:qD}{c:j8}{q}{o:List yA}(g:nL r s q t)(h:ky 1000 r t.st c=some (u.st,o,0)):nL r s (q++[c]) u:=by
 induction g with
 |nil s=>exact .cons h (.nil _)
 |cons h' _ ih=>exact .cons h' (ih h)
theorem vNb {k}(hk:10≤k)(c:j8):∃b,N4 k c=some (1,c.1,b,0,0)∧b.length≤49:=by
 obtain⟨b,h1,h2⟩:=VK hk c.2
 unfold N4
 simp_all
theorem vQ0 ev (l:List j8)(hl:l.length≤60)(b0:Int×Int×Int×Int)(r1:List (Int×Int)):
  ∃A,FD 1000 1000 ev l 0 b0 r1 []=some (ev,l,b0,r1,A)∧A.length=l.length∧∀a∈A,a.1=1∧a.2.2.1.length≤49:=by
 obtain ⟨A, h1, h2, h3⟩ := vC (L := fun n i (A : List Cq) => FD 1000 n ev l i b0 r1 A) (N := l.length) (fun A => (ev, l, b0, r1, A)) (fun i A => A.length = i ∧ ∀ a ∈ A, a.1 = 1 ∧ a.2.2.1.length ≤ 49) (fun n A _=>by
  show FE 1000 _ ev l (l.length:Int) b0 r1 A=_
  unfold FE
  simp) (fun n i A hi hA=>by
  obtain⟨b,g1,g2⟩:=vNb (k:=1000) (by decide) (l.getD i (0,0,0,0,0,0,0,0))
  refine⟨A++[(1,(l.getD i (0,0,0,0,0,0,0,0)).1,b,0,0)],?_,by simp_all,fun a ha=>?_⟩
  ·show FE 1000 (FD 1000 n) ev l (i:Int) b0 r1 A=_
   unfold FE
   rw[aa (by grind),qG,aa hi,aq,g1]
   rw[qT (by omega) (by omega),qK hi (by omega)]
   rfl
  grind) (n:=1000) (s:=[]) (by omega) (by simp)
 grind
theorem vDd {k} a:∃r,AQ k a=some r∧z9 r∧VJ r:=by
 unfold AQ
 cases decide (yJ .i64 a 3=1) with
 |true=>exact⟨r1,rfl,vHc,.inr (.inl rfl)⟩
 |false=>
  cases decide (yJ .i64 a 3=2) with
  |true=>exact⟨r2,rfl,vP9,.inr (by simp)⟩
  |false=>
   cases decide (yJ .i64 a 3=3) with
   |true=>exact⟨r3,rfl,vQ9,.inr (by simp)⟩
   |false=>exact⟨r0,rfl,U3,.inl rfl⟩
theorem vL9 {r}(hr:jS r){s t q}(hs:yD r s)(g:nL r (fm r) q s){a m}{o:List yA}{x}(ha:I2 1000 r s a m t o)(hx:x=false↔∀y∈o,y.2.1≠16):nL r (fm r) (q++oT m x a) t:=by
 have bad:∀e:Int,o=[(a,16,e,0,0,0,0,0)]→t=s→nL r (fm r) (q++oT m x a) t:=fun e he ht=>by
  unfold oT
  simp_all
 rcases ha with⟨_,ht,ho⟩|⟨hm,u,p,e,p1,⟨_,ht,ho⟩|⟨he,p2,hp⟩⟩
 ·simp_all
 ·simp_all
 ·subst hp
  obtain⟨t',o',e',h1,_,h2⟩:=NZ hr hs (a,m.1)
  have:=h1.symm.trans p1
  simp  at this
  have mr:x=false:=hx.2 (by rw[←this.2.1];exact h2.ne)
  unfold oT
  rw[mr,aa hm]
  rw[he,p2] at p1
  exact g.snoc p1
theorem vF1 {r}(hr:jS r){q}(hq:q.length≤900){s t}(hs:yD r s)(g:nL r s q t)(l:List j8)(b2)(r3):
  FF 1000 1000 l 0 (r.1,r.2.2) r.2.1 b2 r3 q s.st=some (.inl (l,b2,r3,q,t.st)):=by
 obtain ⟨u, h1, h2, h3⟩ := vC (L := fun n i (s : qD) => FF 1000 n l i (r.1, r.2.2) r.2.1 b2 r3 q s.st) (N := q.length) (fun u => .inl (l, b2, r3, q, qD.st u)) (fun i u => yD r u ∧ nL r u (q.drop i) t) (fun n u _=>by
  show FG 1000 _ l (q.length:Int) (r.1,r.2.2) r.2.1 b2 r3 q u.st=_
  unfold FG
  rw[ab (by simp)]
  rfl) (fun n i u hi hu=>by
  obtain⟨rP,pC⟩:=hu
  have ed:q.drop i=q.getD i (0,0,0,0,0,0,0,0)::q.drop (i+1):=by
   simp_all
  rw[ed] at pC
  cases pC with
  |@cons _ v _ _ _ o h g=>
   obtain⟨t',o',e',p1,p2,p3⟩:=NZ hr rP (q.getD i (0,0,0,0,0,0,0,0))
   have:=p1.symm.trans h
   simp  at this
   have et:=vCl this.1
   subst et
   obtain⟨_,_,rfl⟩:=this
   refine⟨t',?_,p3.inv,g⟩
   show FG 1000 (FF 1000 n) l (i:Int) (r.1,r.2.2) r.2.1 b2 r3 q u.st=_
   unfold FG
   rw[aa (by grind),qG,aa hi,aq]
   rw[show((r.1,r.2.2).1,r.2.1,(r.1,r.2.2).2)=r from rfl,p2]
   simp only[ai,ae,decide_true,ay,aj]
   rw[qK hi (by omega)]) (n:=1000) (s:=s) (by omega) (by grind)
 rw[List.drop_length] at h3
 cases h3
 exact h1
theorem vGw a ev (l:List j8):N5 1000 a ev l=some true:=by
 unfold N5
 by_cases hl:(l.length:Int)>60
 ·rw[aa hl];rfl
 rw[ab hl]
 by_cases h1:ev<1
 ·rw[aa h1];rfl
 rw[ab h1]
 by_cases h2:ev>100
 ·rw[aa h2];rfl
 rw[ab h2]
 obtain⟨r,hr,w,hw⟩:=vDd (k:=1000) a
 simp only[aj]
 rw[hr]
 simp only[ae]
 obtain⟨A,a1,a2,a3⟩:=vQ0 ev l (by omega) (r.1,r.2.2) r.2.1
 rw[a1]
 simp only[ae]
 obtain⟨s,os,q,p1,p2,p3,p4,p5⟩:=vJy (k:=1000) (by decide) w (vZq hw) (VI w.ok) (fun s c u o e h h9=>Vb h h9) (ev:=ev) (by omega) A (by omega) (fun x hx=>(a3 x hx).1)
  (fun x hx=>⟨_,vTp (by decide) (by have:=(a3 x hx).2;omega) (by have:=(a3 x hx).2;omega)⟩) (vLm w.ok)
  (fun i s os q=>nL r (fm r) q s∧os.length=i∧q.length≤i) ⟨.nil _,rfl,Nat.le_refl 0⟩
  (fun i s os q t o m x hi hI hs _ ha hx=>by
   refine⟨vL9 w.ok hs hI.1 ha hx,by rw[List.length_append,hI.2.1];rfl,?_⟩
   have:=hI.2.2
   rw[List.length_append]
   unfold oT
   cases decide (m.2=0)&& !x
   ·simp;omega
   ·simp;omega)
 have JG:Av 1000 (r.1,r.2.1,r.2.2) 200000 ev A=_:=p1
 have rR:JF 1000 (r.1,r.2.1,r.2.2)=some (fm r).st:=vR3 hw
 rw[JG]
 simp only[ae]
 rw[rR]
 simp only[ae]
 rw[vF1 w.ok (by omega) w.inv p3]
 simp only[ae]
 have bX:FA 1000 s.st s.st=some true:=vFi w.ok p2
 have hk:VL 1000=some true:=by kernel_rfl
 rw[aa (show(os.length:Int)=(l.length:Int) by omega)]
 simp only[ai]
 refine(congrArg (fun z=>Option.bind z _) bX).trans ?_
 rw[hk]
 rfl
end Go.Ab.Gi
