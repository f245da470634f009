/- Plain proofs, part 1. -/
import Derived.Test.YtbejmoaalcabdaaGreatGiQA
set_option linter.unusedVariables false
set_option linter.unusedSimpArgs false
set_option maxRecDepth 100000
namespace Go.Ab.Gi
open Go.Ab
theorem vHp {l:List zE}{x:Nat}(hx:x<l.length):List.Perm (l.getD x pd::yB l x) l:=by
 unfold yB
 have h:List.Perm (l.getD x pd::(l.take x++l.drop (x+1))) (l.take x++l.getD x pd::l.drop (x+1)):=List.perm_middle.symm
 have e:=Io l x pd hx
 rw[←e] at h
 exact h
theorem MZ {l:List zE}(hd:qQ l){p:zE}(hp:p∈l):List.Perm (p::jT l p.1) l:=by
 obtain⟨x,hx⟩:=My hp
 have h:=jz hx
 have e:l.getD x pd=p:=hd.eq_of (jV h.1) hp h.2
 unfold jT gC
 rw[hx]
 have:=vHp h.1
 rw[e] at this
 exact this
theorem gd.perm {k:Nat}{t:Int}{B C:BT}{l done m:List zE}(h:gd k t B l done C m)(hd:qQ l):List.Perm (done++m) l:=by
 induction h with
 |stop _=>exact List.Perm.refl _
 |step h _ ih=>
  have hp:=D9 (zl h).1
  exact((ih (List.Pairwise.sublist (sX hp).2 hd)).cons _).trans (MZ hd hp)
theorem jI.perm {k:Nat}{t:Int}{B C:BT}{l done m:List zE}(h:jI k t B l done C m)(hd:qQ l):List.Perm (done++m) l:=by
 induction h with
 |stop _=>exact List.Perm.refl _
 |step h _ ih=>
  obtain⟨hp,hq,nH,_⟩:=Ed h
  obtain⟨h1,h2⟩:=Ee hd hp hq nH
  have uf:qQ (jT _ _):=List.Pairwise.sublist (sX hp).2 hd
  have nF:=Ud hp hq (yCh hd hp hq nH)
  exact(((ih (List.Pairwise.sublist h2 hd)).cons _).cons _).trans (((MZ uf nF).cons _).trans (MZ hd hp))
theorem gd.final {k:Nat}{t:Int}{B C:BT}{l done m:List zE}(h:gd k t B l done C m):fh k C (vZ m t)=none:=by
 induction h with
 |stop h=>exact h
 |step _ _ ih=>exact ih
theorem jI.final {k:Nat}{t:Int}{B C:BT}{l done m:List zE}(h:jI k t B l done C m):fa k C m t=none:=by
 induction h with
 |stop h=>exact h
 |step _ _ ih=>exact ih
theorem qQ.perm {l m:List zE}(h:qQ l)(hp:List.Perm m l):qQ m:=(List.Perm.pairwise_iff (R:=fun p q:zE=>p.1≠q.1) (fun tU=>Ne.symm tU) hp.symm).1 h
inductive lg (k:Nat) (t:Int):BT→List zE→List zE→BT→List zE→Prop
 |stop {B C:BT} {l m d:List zE} (h1:gd k t B l d C m) (h2:fa k C m t=none):lg k t B l d C m
 |step {B C D E:BT} {l m n o d e f:List zE} (h1:gd k t B l d C m) (h2:jI k t C m e D n) (ne:e≠[]) (h':lg k t D n f E o):lg k t B l (d++e++f) E o
theorem lg.perm {k:Nat}{t:Int}{B C:BT}{l done m:List zE}(h:lg k t B l done C m)(hd:qQ l):List.Perm (done++m) l:=by
 induction h with
 |stop h1 _=>exact h1.perm hd
 |@step B C D E l m n o d e f h1 h2 ne h' ih=>
  have p1:=h1.perm hd
  have hd1:=hd.perm p1
  have hm:qQ m:=(List.pairwise_append.1 hd1).2.1
  have p2:=h2.perm hm
  have hn:qQ n:=(List.pairwise_append.1 (hm.perm p2)).2.1
  have p3:=ih hn
  have e1:d++e++f++o=d++(e++(f++o)):=by simp
  rw[e1]
  exact((p3.append_left e).append_left d).trans ((p2.append_left d).trans p1)
theorem lg.final {k:Nat}{t:Int}{B C:BT}{l done m:List zE}(h:lg k t B l done C m):fh k C (vZ m t)=none∧fa k C m t=none:=by
 induction h with
 |stop h1 h2=>exact⟨h1.final,h2⟩
 |step _ _ _ _ ih=>exact ih
theorem gd.none {k:Nat}{t:Int}{B C:BT}{l done m:List zE}(h:gd k t B l done C m)(hn:fh k B (vZ l t)=none):done=[]∧C=B∧m=l:=by
 cases h with
 |stop _=>exact⟨rfl,rfl,rfl⟩
 |step h _=>rw[hn] at h;cases h
theorem jI.none {k:Nat}{t:Int}{B C:BT}{l done m:List zE}(h:jI k t B l done C m)(hn:fa k B l t=none):done=[]∧C=B∧m=l:=by
 cases h with
 |stop _=>exact⟨rfl,rfl,rfl⟩
 |step h _=>rw[hn] at h;cases h
theorem jI.nil {k:Nat}{t:Int}{B C:BT}{l m:List zE}(h:jI k t B l [] C m):fa k B l t=Option.none∧C=B∧m=l:=by
 cases h with
 |stop h=>exact⟨h,rfl,rfl⟩
theorem lg.none {k:Nat}{t:Int}{B C:BT}{l done m:List zE}(h:lg k t B l done C m)(h1:fh k B (vZ l t)=Option.none)(h2:fa k B l t=Option.none):done=[]∧C=B∧m=l:=by
 cases h with
 |stop g1 _=>exact g1.none h1
 |step g1 g2 ne _=>
  obtain⟨rfl,rfl,rfl⟩:=g1.none h1
  obtain⟨rfl,_,_⟩:=g2.none h2
  exact absurd rfl ne
theorem yIh {k:Nat}(hk:200≤k)(t:Int):∀(n:Nat) (B:BT) (l r:List zE),qU B→qQ l→l.length≤100→l.length<n→r.length+l.length≤900→
  ∃(C:BT) (m done:List zE),IQ k n t l B.1 B.2.1 B.2.2.1 B.2.2.2 r=some (m,C.1,C.2.1,C.2.2.1,C.2.2.2,r++done)∧lg k t B l done C m∧qU C∧C.1.length=B.1.length∧List.Sublist m l
 |0,_,_,_,_,_,_,h,_=>absurd h (Nat.not_lt_zero _)
 |n+1,B,l,r,hb,hd,hl,hn,hr=>by
  obtain⟨C,m,d,f1,f2,f3,f4,f5⟩:=vRq hk hb hd hl t
  have p1:=f2.perm hd
  have l1:=p1.length_eq
  rw[List.length_append] at l1
  have hm:qQ m:=List.Pairwise.sublist f5 hd
  obtain⟨D,o,e,g1,g2,g3,g4,g5⟩:=vQw hk f3 hm (by omega) t
  have p2:=g2.perm hm
  have l2:=p2.length_eq
  rw[List.length_append] at l2
  have r1:zO (r.length+d.length) 56=true:=qT (by omega) (by omega)
  have r2:zO ((r++d).length+e.length) 56=true:=qT (by rw[List.length_append];omega) (by rw[List.length_append];omega)
  show∃C' m' aa2,M3 k _ t l B.1 B.2.1 B.2.2.1 B.2.2.2 r=_∧_
  unfold M3
  rw[f1]
  simp only[ae]
  rw[g1]
  simp only[ae,r1,r2,ai]
  cases e with
  |nil=>
   obtain⟨h1,h2,h3⟩:=g2.nil
   subst h2;subst h3
   refine⟨D,o,d,?_,.stop f2 h1,f3,f4,f5⟩
   simp
  |cons p e=>
   have bg:o.length+(e.length+1)=m.length:=by simp at l2;omega
   obtain⟨E,q,f,k1,k2,k3,k4,k5⟩:=yIh hk t n D o (r++d++(p::e)) g3 (List.Pairwise.sublist g5 hm) (by omega) (by omega) (by simp;omega)
   refine⟨E,q,d++(p::e)++f,?_,.step f2 g2 (by simp) k2,k3,k4.trans (g4.trans f4),k5.trans (g5.trans f5)⟩
   have e1:decide ((((p::e).length:Nat):Int)=0)=false:=ab (by simp;omega)
   rw[e1]
   simp only[aj]
   rw[k1]
   simp
theorem Et {k:Nat}(hk:200≤k){B:BT}(hb:qU B){l:List zE}(hd:qQ l)(hl:l.length≤100)(t:Int):
  ∃(C:BT) (m done:List zE),IS k B.1 B.2.1 B.2.2.1 B.2.2.2 l t=some (C.1,C.2.1,C.2.2.1,C.2.2.2,m,done)∧lg k t B l done C m∧qU C∧C.1.length=B.1.length∧List.Sublist m l:=by
 obtain⟨C,m,done,h1,h3⟩:=yIh hk t k B l [] hb hd hl (by omega) (by simp;omega)
 refine⟨C,m,done,?_,h3⟩
 unfold IS
 rw[h1]
 rfl
theorem yNg:∀(hs l:List zE),qQ l→qQ hs→(∀q∈hs,q∈l)→List.Perm (hs++nJ l hs) l
 |[],l,_,_,_=>List.Perm.refl _
 |p::hs,l,hd,hh,eO=>by
  have hp:=eO p (List.mem_cons_self ..)
  obtain⟨h1,h2⟩:=sX hp
  have hc:=List.pairwise_cons.1 hh
  have:=yNg hs (jT l p.1) (List.Pairwise.sublist h2 hd) hc.2 (fun q hq=>Ud hp (eO q (List.mem_cons_of_mem _ hq)) (fun e=>hc.1 q hq e.symm))
  exact(this.cons p).trans (MZ hd hp)
theorem vJp {k:Nat}(hk:100<k){B:BT}(hb:qU B):oI k B.1 B.2.1 B.2.2.1 B.2.2.2 []=some (B.1,B.2.1,B.2.2.1,B.2.2.2,0):=by
  obtain⟨r,h1,h3⟩:=Mb hk hb (l:=[]) (by simp)
  have aW:vW B.1.length []:=⟨fun p hp=>(by cases hp),by simp⟩
  obtain⟨a',p',h4,h5⟩:=h3.1 aW
  have an:sM B.1.length B.1 B.2.2.2 [] B.1 B.2.2.2:={
    al:=rfl
    acct:=fun i hi=>by
      have hc:=hb.acct i hi
      have hr:0≤(B.1.getD i ad).2.2:=by
        have:=hb.nums.res i hi
        exact this.1
      show B.1.getD i ad=((B.1.getD i ad).1+0,(B.1.getD i ad).2.1,wN (B.1.getD i ad).2.2 0)
      have e:wN (B.1.getD i ad).2.2 0=(B.1.getD i ad).2.2:=by
        unfold wN
        split<;>omega
      rw[e,Int.add_zero]
    pl:=hb.pl
    pr:=hb.pr
    cell:=fun i hi j hj=>by show _=_+0-0;omega}
  obtain⟨e1,e2⟩:=h4.same an
  subst e1;subst e2
  rw[Tm.2 hb] at h5
  rw[h1,h5]
  rfl
theorem Uu {k:Nat}(hk:200≤k){B:BT}(hb:qU B){l:List zE}(hd:qQ l)(hl:∀q∈l,yG B.1.length q)(bU:l.length≤64)(t:Int):
  ∃(C:BT) (m done:List zE),zp k B.1 B.2.1 B.2.2.1 B.2.2.2 l t=some (C.1,C.2.1,C.2.2.1,C.2.2.2,m,done)∧qU C∧C.1.length=B.1.length∧List.Sublist m l∧List.Perm (done++m) l∧(done=[]→C=B∧m=l):=by
 obtain⟨f,n,h,hn⟩:=Uj hb hl bU t
 have ua:=vf l t
 have cm:=u9 (yU l t) f
 have MY:=cm.length_le
 obtain⟨r,h1,h2,h3⟩:=D8 (k:=k) (by omega) hb (l:=vA (yU l t) f) (by omega)
 have hs:=MM hb h3
 have g1:=Ut (k:=k) (by omega) hb hl bU t (by omega) h h1
 unfold Ei at g1
 cases c:decide (r.2.2.2.2=0) with
 |false=>
  rw[c] at g1
  exact⟨B,l,[],g1,hb,rfl,List.Sublist.refl _,List.Perm.refl _,fun _=>⟨rfl,rfl⟩⟩
 |true=>
  rw[c] at g1
  have eF:List.Sublist (vA (yU l t) f) l:=cm.trans List.filter_sublist
  have hal:r.1.length=B.1.length:=by
   by_cases c':vW B.1.length (vA (yU l t) f)
   ·obtain⟨a',p',x,e⟩:=h3.1 c'
    cases hi:lQ a' B.2.1 B.2.2.1 p' with
    |false=>rw[hi] at e;subst e;rfl
    |true=>rw[hi] at e;subst e;exact x.al
   ·rw[h3.2 c']
  refine⟨(r.1,r.2.1,r.2.2.1,r.2.2.2.1),nJ l (vA (yU l t) f),vA (yU l t) f,g1,hs.2.1,hal,(MW _ _).2,yNg _ _ hd (List.Pairwise.sublist eF hd) (fun q hq=>eF.subset hq),fun e=>?_⟩
  rw[e] at h1⊢
  rw[vJp (by omega) hb] at h1
  cases h1
  exact⟨rfl,rfl⟩
theorem Uv {k:Nat}(hk:200≤k){B:BT}(hb:qU B){l:List zE}(hd:qQ l)(hl:∀q∈l,yG B.1.length q)(bU:l.length≤64)(t:Int)(all:Bool):
  ∃(C:BT) (m done:List zE),vg k B.1 B.2.1 B.2.2.1 B.2.2.2 l t all=some (C.1,C.2.1,C.2.2.1,C.2.2.2,m,done)∧qU C∧C.1.length=B.1.length∧List.Sublist m l∧List.Perm (done++m) l∧fh k C (vZ m t)=none∧fa k C m t=none:=by
 obtain⟨C,m,d,f1,f2,f3,f4,f5⟩:=Et hk hb hd (by omega) t
 have p1:=f2.perm hd
 have l1:=p1.length_eq
 rw[List.length_append] at l1
 unfold vg
 rw[f1]
 simp only[ae]
 cases all with
 |false=>exact⟨C,m,d,rfl,f3,f4,f5,p1,f2.final⟩
 |true=>
  simp only[ay,aj]
  have hm:qQ m:=List.Pairwise.sublist f5 hd
  obtain⟨D,n,x,g1,g2,g3,g4,g5,g6⟩:=Uu hk f3 hm (fun q hq=>by rw[f4];exact hl q (f5.subset hq)) (by omega) t
  have l2:=g5.length_eq
  rw[List.length_append] at l2
  rw[g1]
  simp only[ae]
  cases x with
  |nil=>
   obtain⟨rfl,rfl⟩:=g6 rfl
   exact⟨D,n,d,rfl,f3,f4,f5,p1,f2.final⟩
  |cons p x=>
   have e1:decide ((((p::x).length:Nat):Int)=0)=false:=ab (by simp;omega)
   rw[e1]
   simp only[aj]
   have hn:qQ n:=List.Pairwise.sublist g4 hm
   obtain⟨E,o,y,k1,k2,k3,k4,k5⟩:=Et hk g2 hn (by omega) t
   have p3:=k2.perm hn
   have l3:=p3.length_eq
   rw[List.length_append] at l3
   have r1:zO (d.length+(p::x).length) 56=true:=qT (by simp at l2⊢;omega) (by simp at l2⊢;omega)
   have r2:zO ((d++(p::x)).length+y.length) 56=true:=qT (by simp at l2⊢;omega) (by simp at l2⊢;omega)
   rw[k1]
   simp only[ae,r1,r2,ai]
   refine⟨E,o,d++(p::x)++y,rfl,k3,k4.trans (g3.trans f4),k5.trans (g4.trans f5),?_,k2.final⟩
   have e2:d++(p::x)++y++o=d++((p::x)++(y++o)):=by simp
   rw[e2]
   exact((p3.append_left (p::x)).append_left d).trans ((g5.append_left d).trans p1)
abbrev yA:=Int×Int×Int×Int×Int×Int×Int×Int
instance zq:DecidableEq yA:=@instDecidableEqProd Int (Int×Int×Int×Int×Int×Int×Int) inferInstance (@instDecidableEqProd Int (Int×Int×Int×Int×Int×Int) inferInstance inferInstance)
def jZ (to:Int)(p:zE):yA:=(to,18,p.1,p.2.1,p.2.2.1,p.2.2.2.1,0,0)
def qo (p:zE):List yA:=[jZ p.2.1 p,jZ p.2.2.1 p]
def vF:List zE→List yA
 |[]=>[]
 |p::l=>qo p++vF l
theorem vAc:∀l m,vF (l++m)=vF l++vF m
 |[],_=>rfl
 |p::l,m=>by
  show qo p++vF (l++m)=qo p++vF l++vF m
  rw[vAc l m,List.append_assoc]
theorem Eu:∀l,(vF l).length=2*l.length
 |[]=>rfl
 |p::l=>by
  show(qo p++vF l).length=_
  rw[List.length_append,Eu l]
  simp[qo]
  omega
theorem yWw (l:List zE) i (hi:i<l.length):vF (l.take (i+1))=vF (l.take i)++qo (l.getD i pd):=by
 rw[←fL l i pd hi,vAc]
 rfl
theorem vh {n}(h:n≤1000):zO (n+1) 64=true:=qT (by omega) (by omega)
theorem vUb {k}(hk:3≤k)(s8:List zE) s9 aw (r:List yA)(hr:r.length≤900) p:
  vi k k s8 s9 aw 2 0 r p.1 p.2.1 p.2.2.1 p.2.2.2.1 p.2.2.2.2.1 p.2.2.2.2.2.1 p.2.2.2.2.2.2 [p.2.1,p.2.2.1]=some (s8,s9,aw,r++qo p):=by
 obtain⟨n,rfl⟩:∃n,k=n+3:=⟨k-3,by omega⟩
 have e1:zO (r.length+1) 64=true:=vh (by omega)
 have e2:zO ((r++[jZ p.2.1 p]).length+1) 64=true:=vh (by grind)
 have h1:oP (n+3) p.2.1 18 [p.1,p.2.1,p.2.2.1,p.2.2.2.1]=some (jZ p.2.1 p):=rfl
 have h2:oP (n+3) p.2.2.1 18 [p.1,p.2.1,p.2.2.1,p.2.2.2.1]=some (jZ p.2.2.1 p):=rfl
 have w0:zA (0+1)=1:=by decide
 have w1:zA (1+1)=2:=by decide
 show vj (n+3) (vi (n+3) (n+2)) s8 s9 aw 2 0 r p.1 p.2.1 p.2.2.1 p.2.2.2.1 p.2.2.2.2.1 p.2.2.2.2.2.1 p.2.2.2.2.2.2 [p.2.1,p.2.2.1]=_
 unfold vj
 have g0:[p.2.1,p.2.2.1].getD (Int.toNat 0) 0=p.2.1:=rfl
 have b0:zC 0 [p.2.1,p.2.2.1].length=true:=rfl
 have d0:decide ((0:Int)<2)=true:=rfl
 simp[e1]
 show vj (n+3) (vi (n+3) (n+1)) s8 s9 aw 2 1 (r++[jZ p.2.1 p]) p.1 p.2.1 p.2.2.1 p.2.2.2.1 p.2.2.2.2.1 p.2.2.2.2.2.1 p.2.2.2.2.2.2 [p.2.1,p.2.2.1]=_
 unfold vj
 have g1:[p.2.1,p.2.2.1].getD (Int.toNat 1) 0=p.2.2.1:=rfl
 have b1:zC 1 [p.2.1,p.2.2.1].length=true:=rfl
 have d1:decide ((1:Int)<2)=true:=rfl
 simp only[ai,ae,e2]
 show vj (n+3) (vi (n+3) n) s8 s9 aw 2 2 (r++[jZ p.2.1 p]++[jZ p.2.2.1 p]) p.1 p.2.1 p.2.2.1 p.2.2.2.1 p.2.2.2.2.1 p.2.2.2.2.2.1 p.2.2.2.2.2.2 [p.2.1,p.2.2.1]=_
 unfold vj
 have d2:decide ((2:Int)<2)=false:=rfl
 rw[d2,List.append_assoc]
 rfl
theorem yH7 {k}{l:List zE}(hk:l.length+3≤k)(hl:l.length≤400):M4 k l=some (vF l):=by
 unfold M4
 obtain ⟨s', h1, h2⟩ := vC (L := fun n i (s : List yA) => IT k n l l.length i s) (N := l.length) (fun s => s) (fun i s => s = vF (l.take i)) (fun n s _=>by
  show Ev k _ l l.length l.length s=_
  unfold Ev
  simp) (fun n i s hi hs=>by
  refine⟨_,?_,(yWw l i hi).symm⟩
  show Ev k _ l l.length i s=_
  unfold Ev
  have eF:s.length≤900:=by
   rw[hs,Eu,List.length_take];omega
  have h2:=vUb (k:=k) (by omega) l l.length i s eF (l.getD i pd)
  simp only[qG,qB,aq,aa hi,ai]
  rw[h2]
  simp[qK hi (by grind)]
  rw[hs]) (s:=[]) (show l.length<k by omega) rfl
 simp_all
theorem vRa {k}{l:List zE}(hk:l.length+5≤k)(hl:l.length≤400):M5 k l=some (vF l):=by
 unfold M5
 obtain ⟨s', h1, h2⟩ := vC (L := fun n i (s : List yA) => IU k n l i s) (N := l.length) (fun s => s) (fun i s => s = vF (l.take i)) (fun n s _=>by
  show Ew k _ l l.length s=_
  unfold Ew
  simp) (fun n i s hi hs=>by
  refine⟨_,?_,(yWw l i hi).symm⟩
  show Ew k _ l i s=_
  unfold Ew
  have eF:s.length≤900:=by
   rw[hs,Eu,List.length_take];omega
  obtain⟨j,rfl⟩:∃j,k=j+5:=⟨k-5,by omega⟩
  have e2:zO (s.length+2) 64=true:=qT (by omega) (by omega)
  simp[qG,aa hi,e2,qK hi (by grind)]
  rw[hs]
  rfl) (s:=[]) (show l.length<k by omega) rfl
 simp_all
def fi (q:zE)(o:yA):Bool:=decide (o.2.2.1=q.1)&&(decide (o.1=q.2.1)&&(decide (o.2.1=21)||(decide (o.2.1=22)||decide (o.2.1=18))))
def j4 (q:zE)(o:List yA):Nat:=o.countP (fi q)
theorem zr (q:zE)(a b:List yA):j4 q (a++b)=j4 q a+j4 q b:=List.countP_append
theorem Uw {f:zE→Bool}{q:zE}:∀{ps:List zE},qQ ps→q∈ps→f q=true→(∀p∈ps,f p=true→p.1=q.1)→ps.countP f=1
 |[],_,h,_,_=>by cases h
 |p::ps,hd,hq,hf,hu=>by
  have hc:=List.pairwise_cons.1 hd
  rw[List.countP_cons]
  rcases List.mem_cons.1 hq with rfl|hq
  ·rw[hf,if_pos rfl]
   have:ps.countP f=0:=by
    rw[List.countP_eq_zero]
    intro r hr xV
    exact hc.1 r hr (hu r (List.mem_cons_of_mem _ hr) xV).symm
   omega
  ·have:f p=false:=by
    cases h:f p with
    |false=>rfl
    |true=>exact absurd (hu p (List.mem_cons_self ..) h) (hc.1 q hq)
   rw[this,Uw hc.2 hq hf (fun r hr=>hu r (List.mem_cons_of_mem _ hr))]
   rfl
def vT (kd:Int)(p:zE):yA:=(p.2.1,kd,p.1,0,0,0,0,0)
theorem Ey {kd:Int}(hk:kd=21∨kd=22){q:zE}{ps:List zE}(hd:qQ ps):(q∈ps→j4 q (ps.map (vT kd))=1)∧((∀p∈ps,p.1≠q.1)→j4 q (ps.map (vT kd))=0):=by
 unfold j4
 rw[List.countP_map]
 constructor
 ·intro h
  apply Uw hd h
  ·show fi q (vT kd q)=true
   unfold fi vT
   rcases hk with rfl|rfl<;>simp
  ·intro p hp hf
   have dP:fi q (vT kd p)=true:=hf
   unfold fi vT at dP
   rw[aR,aN] at dP
   exact dP.1
 ·intro h
  rw[List.countP_eq_zero]
  intro p hp hf
  have dP:fi q (vT kd p)=true:=hf
  unfold fi vT at dP
  rw[aR,aN] at dP
  exact h p hp dP.1
theorem yTn (q:zE):∀(d:List zE),j4 q (vF d)=d.countP (fun p=>fi q (jZ p.2.1 p))+d.countP (fun p=>fi q (jZ p.2.2.1 p))
 |[]=>rfl
 |p::d=>by
  show j4 q (qo p++vF d)=_
  rw[zr,yTn q d,List.countP_cons,List.countP_cons]
  have e:j4 q (qo p)=(if fi q (jZ p.2.1 p)=true then 1 else 0)+(if fi q (jZ p.2.2.1 p)=true then 1 else 0):=by
   unfold j4 qo
   rw[List.countP_cons,List.countP_cons,List.countP_nil]
   omega
  rw[e]
  omega
theorem M6 {n:Nat}{q:zE}{d:List zE}(hd:qQ d)(hm:∀p∈d,yG n p):(q∈d→j4 q (vF d)=1)∧((∀p∈d,p.1≠q.1)→j4 q (vF d)=0):=by
 have h2:∀(l:List zE),qQ l→(∀p∈l,yG n p)→(q∈l∨∀p∈l,p.1≠q.1)→l.countP (fun p=>fi q (jZ p.2.2.1 p))=0:=by
  intro l qp Eb hq
  rw[List.countP_eq_zero]
  intro p hp hf
  have dP:fi q (jZ p.2.2.1 p)=true:=hf
  unfold fi jZ at dP
  rw[aR,aR,aN,aN] at dP
  rcases hq with hq|hq
  ·have:=qp.eq_of hp hq dP.1
   subst this
   exact(Eb p hp).ne dP.2.1.symm
  ·exact hq p hp dP.1
 rw[yTn]
 constructor
 ·intro h
  rw[h2 d hd hm (.inl h),Uw hd h]
  ·show fi q (jZ q.2.1 q)=true
   unfold fi jZ
   simp
  ·intro p hp hf
   have dP:fi q (jZ p.2.1 p)=true:=hf
   unfold fi jZ at dP
   rw[aR,aN] at dP
   exact dP.1
 ·intro h
  rw[h2 d hd hm (.inr h)]
  have:d.countP (fun p=>fi q (jZ p.2.1 p))=0:=by
   rw[List.countP_eq_zero]
   intro p hp hf
   have dP:fi q (jZ p.2.1 p)=true:=hf
   unfold fi jZ at dP
   rw[aR,aN] at dP
   exact h p hp dP.1
  omega
def vk (B:BT)(i:Nat):yA:=((i:Int),23,(B.1.getD i ad).1,0,0,0,0,0)
def gX (B:BT)(n:Nat):List yA:=(List.range n).map (vk B)
theorem vBo (q:zE)(B:BT)(n:Nat):j4 q (gX B n)=0:=by
 unfold j4 gX
 rw[List.countP_map,List.countP_eq_zero]
 intro i _ hf
 have dP:fi q (vk B i)=true:=hf
 unfold fi vk at dP
 simp at dP
theorem yCf (B:BT)(i:Nat):gX B (i+1)=gX B i++[vk B i]:=by
 unfold gX
 rw[List.range_succ,List.map_append];rfl
theorem yJq {α β:Type}(f:α→β)(l:List α)(i:Nat)(d:α)(h:i<l.length):(l.take (i+1)).map f=(l.take i).map f++[f (l.getD i d)]:=by
 rw[←fL l i d h,List.map_append];rfl
theorem yZs {k:Nat}{B:BT}(hB:B.1.length≤6)(hk:200≤k){m:List zE}(hm:m.length≤100)(t:Int)(pr:AC)(ho:EQ)(ids:AC)(to:Int)(ov:Bool):
  M7 k t B.1 B.2.1 B.2.2.1 B.2.2.2 pr ho m ids to ov=some (t,B.1,B.2.1,B.2.2.1,B.2.2.2,pr,ho,[],ids,to,true,m.map (vT 22)++gX B B.1.length):=by
 unfold M7
 obtain ⟨s', h1, h2⟩ := vC (L := fun n i (s : List yA) => Ez k n m m.length i t B.1 B.2.1 B.2.2.1 B.2.2.2 pr ho m ids to ov 0 0 false s) (N := m.length) (fun s => (t, B.1, B.2.1, B.2.2.1, B.2.2.2, pr, ho, m, ids, to, ov, 0, 0, false, s)) (fun i s => s = (m.take i).map (vT 22)) (fun n s _=>by
  show EA k _ m m.length m.length t B.1 B.2.1 B.2.2.1 B.2.2.2 pr ho m ids to ov 0 0 false s=_
  unfold EA
  simp only [qB, ab (Nat.lt_irrefl _), aj]) (fun n i s hi hs=>by
  refine⟨_,?_,(yJq (vT 22) m i pd hi).symm⟩
  show EA k _ m m.length i t B.1 B.2.1 B.2.2.1 B.2.2.2 pr ho m ids to ov 0 0 false s=_
  unfold EA
  have eF:s.length≤900:=by rw[hs,List.length_map,List.length_take];omega
  have zt:oP k (m.getD i pd).2.1 22 [(m.getD i pd).1]=some (vT 22 (m.getD i pd)):=rfl
  simp only[pd] at zt
  simp only[qG,qB,aq,aa hi,ai,zt,ae,vh (show s.length≤1000 by omega),qK hi (show m.length<9223372036854775808 by omega)]
  rw[hs]) (s:=[]) (show m.length<k by omega) rfl
 have df:Ez k k m m.length 0 t B.1 B.2.1 B.2.2.1 B.2.2.2 pr ho m ids to ov 0 0 false []=_:=h1
 rw[df,h2,List.take_length]
 simp only[ae]
 obtain ⟨s2, g1, g2⟩ := vC (L := fun n i (s : List yA) => EB k n B.1 B.1.length i t B.1 B.2.1 B.2.2.1 B.2.2.2 pr ho m ids to ov 0 0 false s) (N := B.1.length) (fun s => (t, B.1, B.2.1, B.2.2.1, B.2.2.2, pr, ho, m, ids, to, ov, 0, 0, false, s)) (fun i s => s = m.map (vT 22) ++ gX B i) (fun n s _=>by
  show EC k _ B.1 B.1.length B.1.length t B.1 B.2.1 B.2.2.1 B.2.2.2 pr ho m ids to ov 0 0 false s=_
  unfold EC
  simp only [qB, ab (Nat.lt_irrefl _), aj]) (fun n i s hi hs=>by
  refine⟨_,?_,(show m.map (vT 22)++gX B i++[vk B i]=m.map (vT 22)++gX B (i+1) by rw[yCf,List.append_assoc])⟩
  show EC k _ B.1 B.1.length i t B.1 B.2.1 B.2.2.1 B.2.2.2 pr ho m ids to ov 0 0 false s=_
  unfold EC
  have eF:s.length≤900:=by
   rw[hs,List.length_append,List.length_map]
   unfold gX
   rw[List.length_map,List.length_range]
   omega
  have zt:oP k i 23 [(B.1.getD i ad).1]=some (vk B i):=rfl
  have ho3:oP k i 23 [(B.1.getD i (0,0,0)).1]=some (vk B i):=zt
  simp only[qG,qB,aq,aa hi,ai,ho3,ae,vh (show s.length≤1000 by omega),qK hi (show B.1.length<9223372036854775808 by omega)]
  rw[hs]) (s:=m.map (vT 22)) (show B.1.length<k by omega) (by show _=_++[];rw[List.append_nil])
 have sS:EB k k B.1 B.1.length 0 t B.1 B.2.1 B.2.2.1 B.2.2.2 pr ho m ids to ov 0 0 false (m.map (vT 22))=_:=g1
 rw[sS,g2]
 rfl
def yV (t:Int)(p:zE):Bool:=decide (t>p.2.2.2.2.2.2)
theorem yUn {k:Nat}(hk:200≤k){m:List zE}(hm:m.length≤100)(pa:Int)(as:List (Int×Int))(cu cl pe t:Int)(B:BT)(pr:AC)(ho:EQ)(ids:AC)(to:Int)(ov:Bool):
  ED k k m m.length 0 pa as cu cl pe t B.1 B.2.1 B.2.2.1 B.2.2.2 pr ho m ids to ov 0 0 false [] []=some (pa,as,cu,cl,pe,t,B.1,B.2.1,B.2.2.1,B.2.2.2,pr,ho,m,ids,to,ov,0,0,false,(m.filter (yV t)).map (vT 21),m.filter (fun p=> !yV t p)):=by
 obtain ⟨s', h1, h2, h3⟩ := vC (L := fun n i (s : List yA × List zE) => ED k n m m.length i pa as cu cl pe t B.1 B.2.1 B.2.2.1 B.2.2.2 pr ho m ids to ov 0 0 false s.1 s.2) (N := m.length) (fun s => (pa, as, cu, cl, pe, t, B.1, B.2.1, B.2.2.1, B.2.2.2, pr, ho, m, ids, to, ov, 0, 0, false, s.1, s.2)) (fun i s => s.1 = ((m.take i).filter (yV t)).map (vT 21) ∧ s.2 = (m.take i).filter (fun p => !yV t p)) (fun n s _=>by
  show EE k _ m m.length m.length pa as cu cl pe t B.1 B.2.1 B.2.2.1 B.2.2.2 pr ho m ids to ov 0 0 false s.1 s.2=_
  unfold EE
  simp only [qB, ab (Nat.lt_irrefl _), aj]) (fun n i s hi hs=>by
  have rO:s.1.length≤900:=by
   rw[hs.1,List.length_map]
   have:=List.length_filter_le (yV t) (m.take i)
   rw[List.length_take] at this
   omega
  have mo:s.2.length≤900:=by
   rw[hs.2]
   have:=List.length_filter_le (fun p=> !yV t p) (m.take i)
   rw[List.length_take] at this
   omega
  show∃s',EE k _ m m.length i pa as cu cl pe t B.1 B.2.1 B.2.2.1 B.2.2.2 pr ho m ids to ov 0 0 false s.1 s.2=_∧_
  unfold EE Ux
  have zt:oP k (m.getD i pd).2.1 21 [(m.getD i pd).1]=some (vT 21 (m.getD i pd)):=rfl
  simp only[pd] at zt
  simp only[qG,qB,aq,aa hi,ai,zt,ae,vh (show s.1.length≤1000 by omega),lR (show s.2.length≤1000 by omega),qK hi (show m.length<9223372036854775808 by omega)]
  have f1:=zd (yV t) m i pd hi
  have f2:=zd (fun p=> !yV t p) m i pd hi
  cases hb:yV t (m.getD i pd) with
  |true=>
   have bB:decide (t>(m.getD i (0,0,0,0,0,0,0)).2.2.2.2.2.2)=true:=hb
   rw[bB]
   refine⟨(s.1++[vT 21 (m.getD i pd)],s.2),rfl,?_,?_⟩
   ·show s.1++_=_
    rw[f1,hb,hs.1]
    simp
   ·show s.2=_
    rw[f2,hb,hs.2]
    simp
  |false=>
   have bB:decide (t>(m.getD i (0,0,0,0,0,0,0)).2.2.2.2.2.2)=false:=hb
   rw[bB]
   refine⟨(s.1,s.2++[m.getD i pd]),rfl,?_,?_⟩
   ·show s.1=_
    rw[f1,hb,hs.1]
    simp
   ·show s.2++_=_
    rw[f2,hb,hs.2]
    simp) (s:=([],[])) (show m.length<k by omega) ⟨rfl,rfl⟩
 have:=h1.trans (by rw[h2,h3,List.take_length])
 exact this
structure vM8 (t cl:Int) (B C:BT) (m m':List zE) (ov:Bool) (o:List yA):Prop where
 bk:qU C
 bl:C.1.length=B.1.length
 sub:List.Sublist m' m
 over:ov=decide (t+1=cl)
 none:ov=true→m'=[]
 late:ov=false→∀p∈m',yV (t+1) p=false
 MM:∀p∈m',j4 p o=0
 gD:∀p∈m,p∉m'→j4 p o=1
 quiet:∀q:zE,(∀p∈m,p.1≠q.1)→j4 q o=0
 room:o.length+2*m'.length≤2*m.length+(if ov=true then 6 else 0)
theorem qQ.not_in {l m d:List zE}(hd:qQ (d++m)){p}(hp:p∈m):∀q∈d,q.1≠p.1:=fun q hq=>(List.pairwise_append.1 hd).2.2 q hq p hp
structure fj (B C:BT):Prop where
 len:C.1.length=B.1.length
 sum:qJ (fun i=>(C.1.getD i ad).1) B.1.length=qJ (fun i=>(B.1.getD i ad).1) B.1.length
 cred:∀i,i<B.1.length→(C.1.getD i ad).2.1=(B.1.getD i ad).2.1
 bil:C.2.1=B.2.1
 mul:C.2.2.1=B.2.2.1
 fell:∀i,i<B.1.length→(C.1.getD i ad).1<(B.1.getD i ad).1→0≤(C.1.getD i ad).1+(C.1.getD i ad).2.1
theorem fj.refl (B:BT):fj B B:=⟨rfl,rfl,fun _ _=>rfl,rfl,rfl,fun _ _ h=>absurd h (Int.lt_irrefl _)⟩
theorem fj.trans {B C D:BT}(h:fj B C)(g:fj C D):fj B D:=
 ⟨g.len.trans h.len,by have:=g.sum;rw[h.len] at this;exact this.trans h.sum,fun i hi=>(g.cred i (by rw[h.len];exact hi)).trans (h.cred i hi),g.bil.trans h.bil,g.mul.trans h.mul,fun i hi=>by
  have h1:=h.fell i hi
  have h2:=g.fell i (by rw[h.len];exact hi)
  have h3:=g.cred i (by rw[h.len];exact hi)
  omega⟩
theorem vBi (i:Nat):∀{l:List zE},(∀p∈l,0≤p.2.2.2.1)→0≤zP (gB i) l+(zP (gN i) l+zP (gR i) l)
 |[],_=>Int.le_refl _
 |p::l,h=>by
  have h1:=vBi i fun q hq=>h q (List.mem_cons_of_mem _ hq)
  have h2:=h p (List.mem_cons_self ..)
  have h3:0≤gB i p+(gN i p+gR i p):=by
   unfold gB gN gR
   repeat' split
   all_goals omega
  show 0≤gB i p+zP (gB i) l+(gN i p+zP (gN i) l+(gR i p+zP (gR i) l))
  omega
theorem vM5 {a a':List qO}{b p p':EQ}{m:AC}{l:List zE}(x:sM a.length a p l a' p')(hf:uU a b m p l=true)(hl:∀q∈l,yG a.length q){i:Nat}(hi:i<a.length):
  (a'.getD i ad).1<(a.getD i ad).1→0≤(a'.getD i ad).1+(a'.getD i ad).2.1:=by
 have h1:=vBi i (l:=l) fun q hq=>by have:=(hl q hq).a1;omega
 unfold uU at hf
 rw[aR] at hf
 have h2:=fZ.1 hf.2 i hi
 unfold wX at h2
 simp only[Bool.not_eq_true',Bool.and_eq_false_iff,Bool.or_eq_false_iff,Bool.not_eq_false',aN,decide_eq_false_iff_not] at h2
 rw[x.acct i hi]
 show(a.getD i ad).1+zP (gB i) l<_→0≤(a.getD i ad).1+zP (gB i) l+(a.getD i ad).2.1
 omega
theorem yBv {B:BT}(h:qU B){l:List zE}(hf:sW B l=true){r:List qO×EQ×AC×EQ×Int}(hp:qd B.1 B.2.1 B.2.2.1 B.2.2.2 l r):fj B (r.1,r.2.1,r.2.2.1,r.2.2.2.1):=by
 have hs:=(MM h hp).1
 by_cases c:vW B.1.length l
 ·obtain⟨a',p',x,e⟩:=hp.1 c
  cases hi:lQ a' B.2.1 B.2.2.1 p' with
  |false=>rw[hi] at e;subst e;exact fj.refl B
  |true=>
   rw[hi] at e;subst e
   exact⟨x.al,hs,fun i bV=>by show(a'.getD i ad).2.1=_;rw[x.acct i bV],rfl,rfl,fun i bV=>vM5 x hf c.1 bV⟩
 ·rw[hp.2 c];exact fj.refl B
theorem yX8 {k:Nat}(hk:100<k){B C:BT}(h:qU B){l:List zE}(hl:l.length≤80)(hg:gD k B l=some C):fj B C:=by
 obtain⟨r,h1,h3⟩:=Mb hk h hl
 unfold gD at hg
 rw[h1] at hg
 simp only at hg
 cases hc:decide (r.2.2.2.2=0)&&sW B l with
 |false=>rw[hc] at hg;cases hg
 |true=>
  rw[hc] at hg
  simp only[ai,Option.some.injEq] at hg
  subst hg
  rw[aR] at hc
  exact yBv h hc.2 h3
theorem gd.keptC {k:Nat}(hk:100<k){t:Int}{B C:BT}{l done m:List zE}(h:gd k t B l done C m)(hb:qU B):fj B C:=by
 induction h with
 |stop _=>exact fj.refl _
 |@step B C D l m done p h h' ih=>
  have hg:=(zl h).2
  exact(yX8 hk hb (by simp) hg).trans (ih (ql hk hb (by simp) hg).1)
theorem jI.keptC {k:Nat}(hk:100<k){t:Int}{B C:BT}{l done m:List zE}(h:jI k t B l done C m)(hb:qU B):fj B C:=by
 induction h with
 |stop _=>exact fj.refl _
 |@step B C D l m done p q h h' ih=>
  have hg:=(MQ h).2.2.2
  exact(yX8 hk hb (by simp) hg).trans (ih (ql hk hb (by simp) hg).1)
theorem gd.bk {k:Nat}(hk:100<k){t:Int}{B C:BT}{l done m:List zE}(h:gd k t B l done C m)(hb:qU B):qU C:=by
 induction h with
 |stop _=>exact hb
 |step h h' ih=>exact ih (ql hk hb (by simp) (zl h).2).1
theorem jI.bk {k:Nat}(hk:100<k){t:Int}{B C:BT}{l done m:List zE}(h:jI k t B l done C m)(hb:qU B):qU C:=by
 induction h with
 |stop _=>exact hb
 |step h h' ih=>exact ih (ql hk hb (by simp) (MQ h).2.2.2).1
theorem lg.keptC {k:Nat}(hk:100<k){t:Int}{B C:BT}{l done m:List zE}(h:lg k t B l done C m)(hb:qU B):fj B C:=by
 induction h with
 |stop h1 _=>exact h1.keptC hk hb
 |step h1 h2 ne h' ih=>
  have b1:=h1.bk hk hb
  exact((h1.keptC hk hb).trans (h2.keptC hk b1)).trans (ih (h2.bk hk b1))
theorem Uy {k:Nat}(hk:200≤k){B:BT}(hb:qU B){l:List zE}(hl:∀q∈l,yG B.1.length q)(bU:l.length≤64)(t:Int){C:BT}{m done:List zE}(hr:zp k B.1 B.2.1 B.2.2.1 B.2.2.2 l t=some (C.1,C.2.1,C.2.2.1,C.2.2.2,m,done)):fj B C:=by
 obtain⟨f,n,h,hn⟩:=Uj hb hl bU t
 have ua:=vf l t
 have cm:=u9 (yU l t) f
 have MY:=cm.length_le
 obtain⟨r,h1,h3⟩:=Mb (k:=k) (by omega) hb (l:=vA (yU l t) f) (by omega)
 have g1:=Ut (k:=k) (by omega) hb hl bU t (by omega) h h1
 unfold Ei at g1
 rw[g1] at hr
 cases c:decide (r.2.2.2.2=0) with
 |false=>
  rw[c] at hr
  simp only[bx,ai,Option.some.injEq,Prod.mk.injEq] at hr
  obtain⟨e1,e2,e3,e4,_⟩:=hr
  have:B=C:=Prod.ext e1 (Prod.ext e2 (Prod.ext e3 e4))
  rw[←this]
  exact fj.refl B
 |true=>
  rw[c] at hr
  simp only[ay,aj,Option.some.injEq,Prod.mk.injEq] at hr
  obtain⟨e1,e2,e3,e4,_⟩:=hr
  have:(r.1,r.2.1,r.2.2.1,r.2.2.2.1)=C:=Prod.ext e1 (Prod.ext e2 (Prod.ext e3 e4))
  rw[←this]
  refine yBv hb ?_ h3
  have hw:=IK (IL (t:=t) hl) (by omega) f
  have hs:=vK9.1 h.final
  unfold sW uU
  rw[yu.2 hw.1,aa hw.2]
  simp only[Bool.and_self,Bool.true_and]
  rw[fZ]
  intro j hj
  have:=hs j hj
  unfold tc at this
  rw[this]
  rfl
theorem Uz {C D:BT}{m n d e:List zE}(h:(C.1,C.2.1,C.2.2.1,C.2.2.2,m,d)=(D.1,D.2.1,D.2.2.1,D.2.2.2,n,e)):C=D∧m=n∧d=e:=by
 simp only[Prod.mk.injEq] at h
 obtain⟨e1,e2,e3,e4,e5,e6⟩:=h
 exact⟨Prod.ext e1 (Prod.ext e2 (Prod.ext e3 e4)),e5,e6⟩
theorem yYj {k:Nat}(hk:200≤k){B:BT}(hb:qU B){l:List zE}(hd:qQ l)(hl:∀q∈l,yG B.1.length q)(bU:l.length≤64)(t:Int)(all:Bool){X:BT}{mx dx:List zE}
  (hr:vg k B.1 B.2.1 B.2.2.1 B.2.2.2 l t all=some (X.1,X.2.1,X.2.2.1,X.2.2.2,mx,dx)):fj B X:=by
 obtain⟨C,m,d,f1,f2,f3,f4,f5⟩:=Et hk hb hd (by omega) t
 have q1:=f2.keptC (by omega) hb
 have p1:=f2.perm hd
 have l1:=p1.length_eq
 rw[List.length_append] at l1
 unfold vg at hr
 rw[f1] at hr
 simp only[ae] at hr
 cases all with
 |false=>
  simp only[bx,ai,Option.some.injEq] at hr
  rw[←(Uz hr).1];exact q1
 |true=>
  simp only[ay,aj] at hr
  have hm:qQ m:=List.Pairwise.sublist f5 hd
  have KS:∀q∈m,yG C.1.length q:=fun q hq=>by rw[f4];exact hl q (f5.subset hq)
  obtain⟨D,n,x,g1,g2,g3,g4,g5,g6⟩:=Uu hk f3 hm KS (by omega) t
  have q2:=Uy hk f3 KS (by omega) t g1
  have l2:=g5.length_eq
  rw[List.length_append] at l2
  rw[g1] at hr
  simp only[ae] at hr
  cases x with
  |nil=>
   obtain⟨rfl,rfl⟩:=g6 rfl
   have nh:some (D.1,D.2.1,D.2.2.1,D.2.2.2,n,d)=some (X.1,X.2.1,X.2.2.1,X.2.2.2,mx,dx):=hr
   rw[←(Uz (Option.some.inj nh)).1];exact q1
  |cons p x=>
   have e1:decide ((((p::x).length:Nat):Int)=0)=false:=ab (by simp;omega)
   rw[e1] at hr
   simp only[aj] at hr
   have hn:qQ n:=List.Pairwise.sublist g4 hm
   obtain⟨E,o,y,k1,k2,k3,k4,k5⟩:=Et hk g2 hn (by omega) t
   have q3:=k2.keptC (by omega) g2
   have p3:=k2.perm hn
   have l3:=p3.length_eq
   rw[List.length_append] at l3
   have r1:zO (d.length+(p::x).length) 56=true:=qT (by simp at l2⊢;omega) (by simp at l2⊢;omega)
   have r2:zO ((d++(p::x)).length+y.length) 56=true:=qT (by simp at l2⊢;omega) (by simp at l2⊢;omega)
   rw[k1] at hr
   simp only[ae,r1,r2,ai] at hr
   have nh:some (E.1,E.2.1,E.2.2.1,E.2.2.2,o,d++(p::x)++y)=some (X.1,X.2.1,X.2.2.1,X.2.2.2,mx,dx):=hr
   rw[←(Uz (Option.some.inj nh)).1]
   exact(q1.trans q2).trans q3
theorem UA {k}(hk:200≤k){B}(hb:qU B){m}(hd:qQ m)(hm:∀q∈m,yG B.1.length q)(bU:m.length≤64) pa (sa:List (Int×Int)) cu cl pe t (ht:0≤t∧t<1099511627776)(IV:pe≠0) pr ho ids to:
  ∃(C:BT) (m':List zE) (ov:Bool) (o:List yA),vl k pa sa cu cl pe t B.1 B.2.1 B.2.2.1 B.2.2.2 pr ho m ids to false=some (t+1,C.1,C.2.1,C.2.2.1,C.2.2.2,pr,ho,m',ids,to,ov,o)∧vM8 t cl B C m m' ov o∧fj B C∧(ov=false→fh k C (vZ m' (t+1))=none)∧
   ((ov=true∧m'=[]∧o=m.map (vT 22)++gX B B.1.length∧C=B)∨∃l d n,o=l.map (vT 21)++vF d∧List.Perm (l++n) m∧List.Perm (d++m') n∧ov=false):=by
 have gW:=hb.n6
 have w:zA (t+1)=t+1:=zQ (by omega) (by omega)
 unfold vl IW
 simp only[w,aj,ae]
 cases hc:decide (t+1=cl) with
 |true=>
  simp only[ai]
  rw[yZs gW hk (by omega)]
  simp only[ae]
  refine⟨B,[],true,_,rfl,⟨hb,rfl,List.nil_sublist m,hc.symm,fun _=>rfl,(fun e=>by cases e),(fun p hp=>by cases hp),fun p hp _=>?_,fun q hq=>?_,?_⟩,fj.refl B,(fun e=>by cases e),.inl ⟨rfl,rfl,rfl,rfl⟩⟩
  ·rw[zr,(Ey (.inr rfl) hd).1 hp,vBo]
  ·rw[zr,(Ey (.inr rfl) hd).2 hq,vBo]
  ·rw[List.length_append,List.length_map]
   unfold gX
   rw[List.length_map,List.length_range]
   simp
   omega
 |false=>
  simp only[aj]
  rw[yUn hk (by omega)]
  simp only[ae]
  have hs:∃x,EF k pa sa cu cl pe (t+1)=some x:=by
   unfold EF
   cases decide (t+1>0) with
   |false=>exact⟨_,rfl⟩
   |true=>
    cases decide (t+1<cl) with
    |false=>exact⟨_,rfl⟩
    |true=>
     have:decide (pe=0)=false:=ab IV
     rw[this]
     exact⟨_,rfl⟩
  obtain⟨x,hx⟩:=hs
  rw[hx]
  simp only[ae]
  have cm:List.Sublist (m.filter (fun p=> !yV (t+1) p)) m:=List.filter_sublist
  have eF:=cm.length_le
  have qp:qQ (m.filter (fun p=> !yV (t+1) p)):=List.Pairwise.sublist cm hd
  obtain⟨C,m',d,f1,f2,f3,f4,f5,f6,f7⟩:=Uv hk hb qp (fun q hq=>hm q (cm.subset hq)) (by omega) (t+1) x
  have hlen:=f5.length_eq
  rw[List.length_append] at hlen
  have hSt:td k (t+1) B.1 B.2.1 B.2.2.1 B.2.2.2 pr ho (m.filter (fun p=> !yV (t+1) p)) ids to false x=some (t+1,C.1,C.2.1,C.2.2.1,C.2.2.2,pr,ho,m',ids,to,false,vF d):=by
   unfold td
   rw[f1]
   simp only[ae]
   rw[yH7 (by omega) (by omega)]
   rfl
  rw[hSt]
  have aa3:(m.filter (yV (t+1))).length+(m.filter (fun p=> !yV (t+1) p)).length=m.length:=by
   rw[←List.countP_eq_length_filter,←List.countP_eq_length_filter]
   have:=List.length_eq_countP_add_countP (yV (t+1)) (l:=m)
   simp only[Bool.not_eq_true,Bool.decide_eq_false] at this
   exact this.symm
  have BQ:=Eu d
  have hr:zO (((m.filter (yV (t+1))).map (vT 21)).length+(vF d).length) 64=true:=qT (by rw[List.length_map];omega) (by rw[List.length_map];omega)
  simp only[ae,hr,ai]
  have hdd:qQ (d++m'):=qp.perm f5
  have tf:qQ d:=(List.pairwise_append.1 hdd).1
  have hdm:∀p∈d,p∈m.filter (fun p=> !yV (t+1) p):=by grind
  have lW:∀p∈d,yG B.1.length p:=fun p hp=>hm p (cm.subset (hdm p hp))
  have tg:qQ (m.filter (yV (t+1))):=hd.filter _
  have vm:∀p∈m,yV (t+1) p=false→∀q∈m.filter (yV (t+1)),q.1≠p.1:=by
   intro p hp hl q hq e
   have h1:=List.mem_filter.1 hq
   have:=hd.eq_of h1.1 hp e
   subst this
   rw[hl] at h1
   exact absurd h1.2 (by simp)
  refine⟨C,m',false,_,rfl,⟨f2,f3,f4.trans cm,hc.symm,(fun e=>by cases e),fun _ p hp=>?_,fun p hp=>?_,fun p hp hn=>?_,fun q hq=>?_,?_⟩,yYj hk hb qp (fun q hq=>hm q (cm.subset hq)) (by omega) (t+1) x f1,(fun _=>f6),.inr ⟨m.filter (yV (t+1)),d,m.filter (fun p=> !yV (t+1) p),rfl,List.filter_append_perm _ _,f5,rfl⟩⟩
  ·have:=(List.mem_filter.1 (f4.subset hp)).2
   simpa using this
  ·have h1:=List.mem_filter.1 (f4.subset hp)
   have hl:yV (t+1) p=false:=by simpa using h1.2
   rw[zr,(Ey (.inl rfl) tg).2 (vm p h1.1 hl),(M6 tf lW).2 (hdd.not_in (l:=d) hp)]
  ·cases hl:yV (t+1) p with
   |true=>
    have h1:p∈m.filter (yV (t+1)):=List.mem_filter.2 ⟨hp,hl⟩
    have h2:∀q∈d,q.1≠p.1:=by
     grind
    rw[zr,(Ey (.inl rfl) tg).1 h1,(M6 tf lW).2 h2]
   |false=>
    have h1:p∈m.filter (fun p=> !yV (t+1) p):=List.mem_filter.2 ⟨hp,by rw[hl];rfl⟩
    have h2:p∈d:=by
     rcases List.mem_append.1 (f5.symm.subset h1) with h|h
     ·exact h
     ·exact absurd h hn
    rw[zr,(Ey (.inl rfl) tg).2 (vm p hp hl),(M6 tf lW).1 h2]
  ·rw[zr,(Ey (.inl rfl) tg).2 (by grind),(M6 tf lW).2 (fun p hp=>hq p (cm.subset (hdm p hp)))]
  ·rw[List.length_append,List.length_map]
   simp
   omega
abbrev wR:=EQ
abbrev qP:=Int×List gV×Int×Int×Int
abbrev jG:=Int×Int×Int×Int×Int×Int×Int
abbrev vYi:=Int×List gV×Int×Int×Int×Int×List qO×wR×AC×wR×AC×wR×List zE×AC×Int×Bool×Int×List yA
structure qD where
 t:Int
 B:BT
 pr:AC
 ho:wR
 m:List zE
 ids:AC
 to:Int
 ov:Bool
abbrev qq:=Int×List qO×wR×AC×wR×AC×wR×List zE×AC×Int×Bool
def qD.st (s:qD):qq:=(s.t,s.B.1,s.B.2.1,s.B.2.2.1,s.B.2.2.2,s.pr,s.ho,s.m,s.ids,s.to,s.ov)
def dk (r:qP)(s:qD)(who:Int)(l:List yA):vYi:=(r.1,r.2.1,r.2.2.1,r.2.2.2.1,r.2.2.2.2,s.t,s.B.1,s.B.2.1,s.B.2.2.1,s.B.2.2.2,s.pr,s.ho,s.m,s.ids,s.to,s.ov,who,l)
structure jS (r:qP):Prop where
 pa:1≤r.1∧r.1≤6
 n3:r.2.1.length≤3
 price:∀i,i<r.2.1.length→0≤(r.2.1.getD i sV).1∧(r.2.1.getD i sV).1≤1048576
 cut:∀i,i<r.2.1.length→0≤(r.2.1.getD i sV).2∧(r.2.1.getD i sV).2≤10000
 cu:0≤r.2.2.1∧r.2.2.1≤r.2.2.2.1
 cl:1≤r.2.2.2.1∧r.2.2.2.1≤1048576
 pe:1≤r.2.2.2.2∧r.2.2.2.2≤1048576
def nK (m:List zE):Prop:=List.Pairwise (fun p q=>wV p q=true) m
structure gE (n:Nat) (m:List zE) (ids:AC):Prop where
 dist:qQ m
 len:m.length≤40
 sort:nK m
 may:∀p∈m,yG n p
 time:∀p∈m,0≤p.2.2.2.2.2.1∧p.2.2.2.2.2.1≤p.2.2.2.2.2.2∧p.2.2.2.2.2.2≤1048576
 were:∀p∈m,p.1∈ids
 asc:uY ids
 pos:∀x∈ids,1≤x
 idl:ids.length≤200
structure yD (r:qP) (s:qD):Prop where
 tk:0≤s.t∧s.t≤r.2.2.2.1
 bk:qU s.B
 n:(s.B.1.length:Int)=r.1
 hol:s.ho.length=s.B.1.length
 laid:∀i,i<s.B.1.length→j0 r.2.1 s.pr (s.ho.getD i [])
 cred:∀i,i<s.B.1.length→(s.B.1.getD i ad).2.1=lT r.2.1 s.pr (s.ho.getD i [])
 most:∀i,i<s.B.1.length→(s.B.1.getD i ad).2.1≤1152921504606846976
 waits:gE s.B.1.length s.m s.ids
 sum:qJ (fun i=>(s.B.1.getD i ad).1) s.B.1.length=s.to
 tot:0≤s.to∧s.to≤1152921504606846976
 over:s.ov=decide (s.t=r.2.2.2.1)
 none:s.ov=true→s.m=[]
theorem qs (k:Nat)(a b c:Int):vE k a b c=some (decide (a≥b)&&decide (a≤c)):=by
 unfold vE
 cases decide (a≥b)<;>rfl
theorem mw {α:Type}(c:Bool)(a b:α):(bif c then some a else some b)=some (bif c then a else b):=by cases c<;>rfl
theorem vP8 (c a:Bool):(bif c then a else false)=(c&&a):=by cases c<;>rfl
theorem vFs {α:Type}(c:Bool)(a:α):(bif c then a else a)=a:=by cases c<;>rfl
def iQ (pa t:Int)(p:zE):Bool:=
 decide (p.2.1≥0)&&decide (p.2.1<pa)&&(decide (p.2.2.1≥0)&&decide (p.2.2.1<pa)&&(decide (p.1≥1)&&(decide (p.2.2.2.1≥1)&&(decide (p.2.2.2.1≤1099511627776)&&(decide (p.2.2.2.2.1≥1)&&(!decide (p.2.1=p.2.2.1)&&(decide (p.2.2.2.2.1≤3)&&(decide (p.2.2.2.2.2.1≥0)&&(decide (p.2.2.2.2.2.1≤p.2.2.2.2.2.2)&&(decide (p.2.2.2.2.2.2≥t)&&decide (p.2.2.2.2.2.2≤1048576)))))))))))
theorem vK4 (k:Nat)(r:qP)(w:Int):IX k r w=some (decide (w≥0)&&decide (w<r.1)):=by
 unfold IX
 cases decide (w≥0)<;>rfl
theorem vMc (k:Nat)(r:qP)(t:Int)(p:zE):M8 k r t p=some (iQ r.1 t p):=by
 unfold M8 iQ
 simp only[vK4,ae,vFs,mw,vP8]
def oQ (cu cl t c:Int):Int:=bif decide (t≥cl) then 7 else bif decide (c=3)&&decide (t≥cu) then 7 else 0
theorem yUg (k:Nat)(r:qP)(t c:Int):zu k r t c=some (oQ r.2.2.1 r.2.2.2.1 t c):=by
 unfold zu oQ
 cases decide (t≥r.2.2.2.1)<;>cases decide (c=3)<;>cases decide (t≥r.2.2.1)<;>rfl
def lX (r:qP)(t:Int)(p:zE):Int:=bif !iQ r.1 t p then 1 else oQ r.2.2.1 r.2.2.2.1 t p.2.2.2.2.1
theorem vZ2 (k:Nat)(r:qP)(t:Int)(p:zE):EG k r t p=some (lX r t p):=by
 unfold EG lX
 rw[vMc]
 simp only[ae,yUg]
 cases iQ r.1 t p<;>rfl
def fk (who:Int)(f:jG):zE:=(f.2.1,who,f.2.2)
def gY (r:qP)(s:qD)(who:Int)(f:jG):Int×List zE×AC:=
 bif !(decide (f.2.2.1≥0)&&decide (f.2.2.1≤r.1-1)) then(1,s.m,s.ids)
 else bif !(decide (f.2.2.2.2.1≥1)&&decide (f.2.2.2.2.1≤3)) then(1,s.m,s.ids)
 else bif !decide (lX r s.t (fk who f)=0) then(lX r s.t (fk who f),s.m,s.ids)
 else bif decide (f.2.1∈s.ids) then(6,s.m,s.ids)
 else bif decide (200≤s.ids.length) then(3,s.m,s.ids)
 else bif (vN s.m f.2.1).isSome then(6,s.m,s.ids)
 else bif decide (40≤s.m.length) then(3,s.m,s.ids)
 else(0,nE s.m (fk who f),oL s.ids f.2.1)
theorem vZl {k:Nat}(hk:1000≤k){r:qP}(hr:jS r){s:qD}(h:gE s.B.1.length s.m s.ids)(who:Int)(l:List yA)(f:jG):
  ∃d,M9 k (dk r s who l) f.2=some ((gY r s who f).1,d)∧((gY r s who f).1=0→d=dk r {s with m:=(gY r s who f).2.1,ids:=(gY r s who f).2.2} who l):=by
 have hp:=hr.pa
 have hi:=h.idl
 have hm:=h.len
 have w1:zA (r.1-1)=r.1-1:=zQ (by omega) (by omega)
 have eD:M9 k (dk r s who l) f.2=(vE k f.2.2.1 0 (zA (r.1-1))).bind fun x0=>
  bif !x0 then some (1,dk r s who l)
  else(vE k f.2.2.2.2.1 1 3).bind fun x1=>
  bif !x1 then some (1,dk r s who l)
  else(EG k r s.t (fk who f)).bind fun x2=>
  bif !(decide (x2=0)) then some (x2,dk r s who l)
  else(DY k s.ids f.2.1).bind fun x3=>
  bif !(decide (x3.2=0)) then some (x3.2,dk r s who l)
  else(uX k s.m (fk who f)).bind fun x4=>
  bif !(decide (x4.2=0)) then some (x4.2,dk r s who l)
  else some (0,dk r {s with m:=x4.1,ids:=x3.1} who l):=rfl
 rw[eD,qs,qs,vZ2,w1,vMx (by omega) (by omega) h.asc,T3 (by omega) (by omega) (by unfold qV;omega)]
 simp only[ae]
 unfold gY
 cases decide (f.2.2.1≥0)&&decide (f.2.2.1≤r.1-1) with
 |false=>exact⟨_,rfl,fun e=>by cases e⟩
 |true=>
 cases decide (f.2.2.2.2.1≥1)&&decide (f.2.2.2.2.1≤3) with
 |false=>exact⟨_,rfl,fun e=>by cases e⟩
 |true=>
 simp only[ay,aj]
 by_cases hc:lX r s.t (fk who f)=0
 ·rw[aa hc]
  simp only[ay,aj]
  by_cases h1:f.2.1∈s.ids
  ·rw[aa h1];exact⟨_,rfl,fun e=>by cases e⟩
  ·rw[ab h1]
   by_cases h2:200≤s.ids.length
   ·rw[aa h2];exact⟨_,rfl,fun e=>by cases e⟩
   ·rw[ab h2]
    have e1:(fk who f).1=f.2.1:=rfl
    have e0:decide ((0:Int)=0)=true:=aa rfl
    rw[e1]
    cases(vN s.m f.2.1).isSome with
    |true=>exact⟨_,rfl,fun e=>by cases e⟩
    |false=>
     by_cases h3:40≤s.m.length
     ·rw[aa h3];exact⟨_,rfl,fun e=>by cases e⟩
     ·rw[ab h3];exact⟨_,rfl,fun _=>rfl⟩
 ·rw[ab hc]
  exact⟨_,rfl,fun e=>absurd e hc⟩
def lY (who kd a:Int):yA:=(who,kd,a,0,0,0,0,0)
theorem qZ7 {k:Nat}{l:List yA}(hl:l.length≤1000)(r:qP)(s:qD)(who kd a:Int):vn k (dk r s who l) kd [a]=some (dk r s who (l++[lY who kd a])):=by
 have e:vn k (dk r s who l) kd [a]=bif zO (l.length+1) 64 then some (dk r s who (l++[lY who kd a])) else none:=rfl
 rw[e,qT (by omega) (by omega)]
 rfl
def j5 (r:qP)(s:qD)(who:Int)(f:jG):Int×List zE×List yA:=match vN s.m f.2.1 with
 |none=>(4,s.m,[])
 |some x=>
  bif !decide ((s.m.getD x pd).2.1=who) then(4,s.m,[])
  else bif decide (f.1=2) then(0,yB s.m x,[lY who 20 f.2.1])
  else bif decide (f.1 = 4) then (bif !(decide (f.2.2.1≥1)&&decide (f.2.2.1≤3)) then(1,s.m,[])
   else bif !decide (oQ r.2.2.1 r.2.2.2.1 s.t f.2.2.1=0) then(oQ r.2.2.1 r.2.2.2.1 s.t f.2.2.1,s.m,[])
   else(0,nE (yB s.m x) ((s.m.getD x pd).1,(s.m.getD x pd).2.1,(s.m.getD x pd).2.2.1,(s.m.getD x pd).2.2.2.1,f.2.2.1,(s.m.getD x pd).2.2.2.2.2.1,(s.m.getD x pd).2.2.2.2.2.2),[]))
  else bif decide (f.2.2.1=0) then(0,Iv (yB s.m x) (s.m.getD x pd),[])
  else bif decide (f.2.2.1=1) then(0,nE (yB s.m x) (s.m.getD x pd),[])
  else(1,s.m,[])
theorem vWg {k:Nat}(hk:1000≤k){r:qP}{s:qD}(h:gE s.B.1.length s.m s.ids)(who:Int){l:List yA}(hl:l.length≤1000)(f:jG):
  ∃d,zv k (dk r s who l) f=some ((j5 r s who f).1,d)∧((j5 r s who f).1=0→d=dk r {s with m:=(j5 r s who f).2.1} who (l++(j5 r s who f).2.2)):=by
 have hm:=h.len
 have nk:qV s.m:=by unfold qV;omega
 have eD : zv k (dk r s who l) f = ((nD k s.m f.2.1).bind fun x0=>
   bif decide (x0<0) then some (((0,0,0,0,0,0,0):zE),(4:Int))
   else bif zC x0 s.m.length then (bif !(decide ((s.m.getD x0.toNat (0,0,0,0,0,0,0)).2.1=who)) then some ((0,0,0,0,0,0,0),4)
    else bif zC x0 s.m.length then some ((s.m.getD x0.toNat (0,0,0,0,0,0,0)),0)
    else none)
   else none).bind fun x0=>
  bif !(decide (x0.2=0)) then some (x0.2,dk r s who l)
  else bif decide (f.1 = 2) then ((oK k s.m f.2.1).bind fun x1=>
   (vn k (dk r {s with m:=x1.1} who l) 20 [f.2.1]).bind fun x2=>
   some (x1.2.2.2.2.2.2.2.2,x2))
  else bif decide (f.1 = 4) then ((vE k f.2.2.1 1 3).bind fun x3=>
   bif !x3 then some (1,dk r s who l)
   else(zu k r s.t f.2.2.1).bind fun x4=>
   bif !(decide (x4=0)) then some (x4,dk r s who l)
   else(DR k s.m f.2.1 f.2.2.1).bind fun x5=>
   some (x5.2,dk r {s with m:=x5.1} who l))
  else bif decide (f.2.2.1 = 0) then ((DW k s.m f.2.1).bind fun x6=>
   some (x6.2,dk r {s with m:=x6.1} who l))
  else bif decide (f.2.2.1 = 1) then ((DS k s.m f.2.1).bind fun x7=>
   some (x7.2,dk r {s with m:=x7.1} who l))
  else some (1,dk r s who l):=rfl
 rw[eD,Iq (by omega) (by omega)]
 unfold j5 jy
 cases hx:vN s.m f.2.1 with
 |none=>exact⟨_,rfl,fun e=>by cases e⟩
 |some x=>
  have cM:=jz hx
  have e1:decide ((x:Int)<0)=false:=ab (by omega)
  simp only[ae,e1,aj,qG,aa cM.1,ai,aq]
  by_cases hw:(s.m.getD x (0,0,0,0,0,0,0)).2.1=who
  ·have uv:(s.m.getD x pd).2.1=who:=hw
   rw[aa hw]
   simp only[ay,aj,ae,decide_true]
   by_cases h2:f.1=2
   ·rw[aa h2]
    simp only[ai,zh (show s.m.length<k by omega) nk,ae,qZ7 hl]
    unfold gC
    rw[hx]
    exact⟨_,rfl,fun _=>rfl⟩
   ·rw[ab h2]
    simp only[aj]
    by_cases h4:f.1=4
    ·rw[aa h4]
     simp only[ai,qs,ae,yUg,vWv (show 3≤k by omega) (show s.m.length<k by omega) nk h.dist hm hx]
     cases decide (f.2.2.1≥1)&&decide (f.2.2.1≤3) with
     |false=>exact⟨_,rfl,fun e=>by cases e⟩
     |true=>
      simp only[ay,aj]
      by_cases hc:oQ r.2.2.1 r.2.2.2.1 s.t f.2.2.1=0
      ·rw[aa hc]
       exact⟨_,rfl,fun _=>by show dk r _ who l=dk r _ who (l++[]);rw[List.append_nil];rfl⟩
      ·rw[ab hc]
       exact⟨_,rfl,fun e=>absurd e hc⟩
    ·rw[ab h4]
     simp only[aj]
     by_cases h0:f.2.2.1=0
     ·rw[aa h0]
      simp only[ai,vOm (show 3≤k by omega) (show s.m.length<k by omega) nk hx,ae]
      exact⟨_,rfl,fun _=>by show dk r _ who l=dk r _ who (l++[]);rw[List.append_nil]⟩
     ·rw[ab h0]
      simp only[aj]
      by_cases h1:f.2.2.1=1
      ·rw[aa h1]
       simp only[ai,vG3 (show 3≤k by omega) (show s.m.length<k by omega) nk h.dist hm hx,ae]
       exact⟨_,rfl,fun _=>by show dk r _ who l=dk r _ who (l++[]);rw[List.append_nil]⟩
      ·rw[ab h1]
       exact⟨_,rfl,fun e=>by cases e⟩
  ·have uv:¬(s.m.getD x pd).2.1=who:=hw
   rw[ab hw]
   exact⟨_,rfl,fun e=>by cases e⟩
def UB (s:qD)(a:List qO)(b:wR)(m:AC):qD:={s with B:=(a,b,m,s.B.2.2.2)}
def j6 (r:qP)(s:qD)(who:Int)(f:jG):Int×qD:=
 bif decide (f.1 = 5) then (bif !((decide (f.2.1≥0)&&decide (f.2.1≤r.1-1))&& !decide (f.2.1=who)) then(1,s)
  else bif !(decide (f.2.2.1≥-1)&&decide (f.2.2.1≤1152921504606846976)) then(1,s)
  else(0,UB s s.B.1 (s.B.2.1.set who.toNat ((s.B.2.1.getD who.toNat []).set f.2.1.toNat f.2.2.1)) s.B.2.2.1))
 else bif decide (f.1 = 6) then (bif !(decide (f.2.1≥-1)&&decide (f.2.1≤1152921504606846976)) then(1,s)
  else(0,UB s s.B.1 s.B.2.1 (s.B.2.2.1.set who.toNat f.2.1)))
 else bif !(decide (f.2.1≥0)&&decide (f.2.1≤1152921504606846976)) then(1,s)
 else(0,UB s (s.B.1.set who.toNat ((s.B.1.getD who.toNat ad).1,(s.B.1.getD who.toNat ad).2.1,f.2.1)) s.B.2.1 s.B.2.2.1)
theorem vJr {k:Nat}(hk:1000≤k){r:qP}(hr:jS r){s:qD}(hb:qU s.B)(hn:(s.B.1.length:Int)=r.1){who:Int}(hw:0≤who∧who<r.1)(l:List yA)(f:jG):
    ∃d,zw k (dk r s who l) f=some ((j6 r s who f).1,d)∧((j6 r s who f).1=0→d=dk r (j6 r s who f).2 who l):=by
  have hp:=hr.pa
  have w1:zA (r.1-1)=r.1-1:=zQ (by omega) (by omega)
  obtain⟨w,rfl⟩:=Int.eq_ofNat_of_zero_le hw.1
  have eH:w<s.B.1.length:=by omega
  have eD:zw k (dk r s w l) f=(fM k s.B.1 s.B.2.1 s.B.2.2.1 s.B.2.2.2).bind fun x0=>
    bif decide (f.1 = 5) then (((vE k f.2.1 0 (zA (r.1-1))).bind fun x0=>bif x0 then some (!(decide (f.2.1=(w:Int)))) else some false).bind fun x1=>
      bif !x1 then some (1,dk r s w l)
      else(vE k f.2.2.1 (-1) 1152921504606846976).bind fun x2=>
      bif !x2 then some (1,dk r s w l)
      else bif zC (w : Int) x0.2.1.length then (bif zC f.2.1 (x0.2.1.getD (w:Int).toNat []).length then
        some (0,dk r {s with B:=(x0.1,(x0.2.1.set (w:Int).toNat ((x0.2.1.getD (w:Int).toNat []).set f.2.1.toNat f.2.2.1)),x0.2.2.1,x0.2.2.2)} w l)
       else none)
      else none)
    else bif decide (f.1 = 6) then ((vE k f.2.1 (-1) 1152921504606846976).bind fun x3=>
      bif !x3 then some (1,dk r s w l)
      else bif zC (w:Int) x0.2.2.1.length then some (0,dk r {s with B:=(x0.1,x0.2.1,(x0.2.2.1.set (w:Int).toNat f.2.1),x0.2.2.2)} w l)
      else none)
    else(vE k f.2.1 0 1152921504606846976).bind fun x4=>
    bif !x4 then some (1,dk r s w l)
    else bif zC (w:Int) x0.1.length then some (0,dk r {s with B:=((x0.1.set (w:Int).toNat ((x0.1.getD (w:Int).toNat (0,0,0)).1,(x0.1.getD (w:Int).toNat (0,0,0)).2.1,f.2.1)),x0.2.1,x0.2.2.1,x0.2.2.2)} w l)
    else none:=rfl
  rw[eD,HS (by omega) hb.toSized,w1]
  simp only[ae,qs,qG,aq]
  unfold j6
  rw[aq]
  by_cases h5:f.1=5
  · rw[aa h5]
    simp only[ai]
    cases hc:decide (f.2.1≥0)&&decide (f.2.1≤r.1-1) with
    |false=>exact⟨_,rfl,fun e=>by cases e⟩
    |true=>
      simp only[aR,aN] at hc
      cases decide (f.2.1=(w:Int)) with
      |true=>exact⟨_,rfl,fun e=>by cases e⟩
      |false=>
        cases decide (f.2.2.1≥-1)&&decide (f.2.2.1≤1152921504606846976) with
        |false=>exact⟨_,rfl,fun e=>by cases e⟩
        |true=>
          have b1:decide (w<s.B.2.1.length)=true:=aa (by rw[hb.bl];exact eH)
          have b2:zC f.2.1 (s.B.2.1.getD w []).length=true:=iM hc.1 (by rw[hb.br w eH];omega)
          simp only[ai,ae,bx,ay,aj,b1,b2,Bool.and_self]
          exact⟨_,rfl,fun _=>rfl⟩
  · rw[ab h5]
    simp only[aj]
    by_cases h6:f.1=6
    · rw[aa h6]
      cases decide (f.2.1≥-1)&&decide (f.2.1≤1152921504606846976) with
      |false=>exact⟨_,rfl,fun e=>by cases e⟩
      |true=>
        have b1:decide (w<s.B.2.2.1.length)=true:=aa (by rw[hb.ml];exact eH)
        simp only[ai,ay,aj,b1]
        exact⟨_,rfl,fun _=>rfl⟩
    · rw[ab h6]
      cases decide (f.2.1≥0)&&decide (f.2.1≤1152921504606846976) with
      |false=>exact⟨_,rfl,fun e=>by cases e⟩
      |true=>
        have b1:decide (w<s.B.1.length)=true:=aa eH
        simp only[ai,ay,aj,b1]
        exact⟨_,rfl,fun _=>rfl⟩
def EH (s:qD)(w:Nat)(h:AC)(n:Int):Int×qD:=
 bif decide (n>1152921504606846976) then(8,s)
 else bif decide (n<(s.B.1.getD w ad).2.1)&&decide ((s.B.1.getD w ad).1+n<0) then(9,s)
 else(0,{s with B:=(s.B.1.set w ((s.B.1.getD w ad).1,n,(s.B.1.getD w ad).2.2),s.B.2.1,s.B.2.2.1,s.B.2.2.2),ho:=s.ho.set w h})
def j7 (r:qP)(s:qD)(who a many:Int):Int×qD:=
 bif !(decide (a≥0)&&decide (a≤(r.2.1.length:Int)-1)) then(1,s)
 else bif !(decide (many≥0)&&decide (many≤1099511627776)) then(1,s)
 else EH s who.toNat ((s.ho.getD who.toNat []).set a.toNat many) (lT r.2.1 s.pr ((s.ho.getD who.toNat []).set a.toNat many))
theorem j0.set {sa:List gV}{pr h:AC}(L:j0 sa pr h){i:Nat}(hi:i<sa.length){v:Int}(hv:0≤v∧v≤1099511627776):j0 sa pr (h.set i v):=
 ⟨L.n3,L.pl,by rw[List.length_set];exact L.hl,L.cut,L.price,fun j hj=>by
  rw[jM]
  split
  ·exact hv
  ·exact L.hold j hj⟩
theorem j0.setP {sa:List gV}{pr h:AC}(L:j0 sa pr h){i:Nat}(hi:i<sa.length){v:Int}(hv:0≤v∧v≤1048576):j0 sa (pr.set i v) h:=
 ⟨L.n3,by rw[List.length_set];exact L.pl,L.hl,L.cut,fun j hj=>by
  rw[jM]
  split
  ·exact hv
  ·exact L.price j hj,L.hold⟩
theorem vLj {k:Nat}{l:wR}(hl:l.length≤1000):EI k l=some l:=by
 unfold EI
 rw[qT (by omega) (by omega)]
 rfl
theorem vEm {k:Nat}(hk:1000≤k){r:qP}(hr:jS r){s:qD}(h:yD r s){who:Int}(hw:0≤who∧who<r.1)(l:List yA)(a many:Int):
    ∃d,Na k (dk r s who l) a many=some ((j7 r s who a many).1,d)∧((j7 r s who a many).1=0→d=dk r (j7 r s who a many).2 who l):=by
  have hp:=hr.pa
  have h3:=hr.n3
  have hn:=h.n
  have gW:=h.bk.n6
  have hol:=h.hol
  have w1:zA ((r.2.1.length:Int)-1)=(r.2.1.length:Int)-1:=zQ (by omega) (by omega)
  obtain⟨w,rfl⟩:=Int.eq_ofNat_of_zero_le hw.1
  have eH:w<s.B.1.length:=by omega
  have eD:Na k (dk r s w l) a many=((vE k a 0 (zA ((r.2.1.length:Int)-1))).bind fun x0=>some x0).bind fun x0=>
    bif !x0 then some (1,dk r s w l)
    else(vE k many 0 1099511627776).bind fun x1=>
    bif !x1 then some (1,dk r s w l)
    else(EI k s.ho).bind fun x2=>
    bif zC (w : Int) x2.length then ((oN k (x2.getD (w:Int).toNat []) a many).bind fun x3=>
      bif zC (w:Int) x2.length then(
       bif zC (w : Int) (x2.set (w : Int).toNat x3).length then ((qi k r.2.1 s.pr ((x2.set (w:Int).toNat x3).getD (w:Int).toNat [])).bind fun x4=>
        bif zC (w : Int) s.B.1.length then (bif !x4.2 then some (8,dk r s w l)
         else bif decide (x4.1>1152921504606846976) then some (8,dk r s w l)
         else bif decide (x4.1 < (s.B.1.getD (w : Int).toNat (0, 0, 0)).2.1) then (bif decide ((zA ((s.B.1.getD (w:Int).toNat (0,0,0)).1+x4.1))<0) then some (9,dk r s w l)
          else(fM k s.B.1 s.B.2.1 s.B.2.2.1 s.B.2.2.2).bind fun x5=>
          bif zC (w:Int) x5.1.length then
           some (0,dk r {s with B:=((x5.1.set (w:Int).toNat ((x5.1.getD (w:Int).toNat (0,0,0)).1,x4.1,(x5.1.getD (w:Int).toNat (0,0,0)).2.2)),x5.2.1,x5.2.2.1,x5.2.2.2),ho:=x2.set (w:Int).toNat x3} w l)
          else none)
         else(fM k s.B.1 s.B.2.1 s.B.2.2.1 s.B.2.2.2).bind fun x6=>
         bif zC (w:Int) x6.1.length then
          some (0,dk r {s with B:=((x6.1.set (w:Int).toNat ((x6.1.getD (w:Int).toNat (0,0,0)).1,x4.1,(x6.1.getD (w:Int).toNat (0,0,0)).2.2)),x6.2.1,x6.2.2.1,x6.2.2.2),ho:=x2.set (w:Int).toNat x3} w l)
         else none)
        else none)
       else none)
      else none)
    else none:=rfl
  rw[eD,w1,qs,qs,HS (by omega) h.bk.toSized,vLj (by omega)]
  simp only[ae,qG,aq]
  unfold j7
  simp only[aq]
  cases hc:decide (a≥0)&&decide (a≤(r.2.1.length:Int)-1) with
  |false=>exact⟨_,rfl,fun e=>by cases e⟩
  |true=>
  simp only[aR,aN] at hc
  cases hm:decide (many≥0)&&decide (many≤1099511627776) with
  |false=>exact⟨_,rfl,fun e=>by cases e⟩
  |true=>
  simp only[aR,aN] at hm
  obtain⟨i,rfl⟩:=Int.eq_ofNat_of_zero_le hc.1
  have hi:i<r.2.1.length:=by omega
  have L:=h.laid w eH
  have L2:=L.set hi (v:=many) ⟨by omega,by omega⟩
  have b1:decide (w<s.ho.length)=true:=aa (by omega)
  have b2:decide (w<s.B.1.length)=true:=aa eH
  have lh:oN k (s.ho.getD w []) (i:Int) many=some ((s.ho.getD w []).set i many):=by
    have:=yA3 (k:=k) (l:=s.ho.getD w []) (by rw[L.hl];omega) (i:=(i:Int)) (by omega) (by rw[L.hl];omega) many
    rw[aq] at this
    exact this
  have IY:(s.ho.set w ((s.ho.getD w []).set i many)).getD w []=(s.ho.getD w []).set i many:=by
    rw[jM,if_pos ⟨rfl,by omega⟩]
  have hv:=yOh (k:=k) L2 (by omega)
  have hb:=h.bk.nums.bal w eH
  have xC:=D7 L2
  simp only[ay,aj,b1,ai,lh,ae,List.length_set,IY,hv,b2,aq]
  clear hv L2 IY eD
  generalize lT r.2.1 s.pr ((s.ho.getD w []).set i many)=n at xC⊢
  unfold EH
  cases UC:decide (n>1152921504606846976) with
  |true=>exact⟨_,rfl,fun e=>by cases e⟩
  |false=>
    have h8:¬n>1152921504606846976:=di UC
    have w2:zA ((s.B.1.getD w (0,0,0)).1+n)=(s.B.1.getD w (0,0,0)).1+n:=zQ (by have:=hb.1;simp only[ad] at this;omega) (by have:=hb.2;simp only[ad] at this;omega)
    simp only[w2,aj]
    cases decide (n<(s.B.1.getD w (0,0,0)).2.1) with
    |false=>exact⟨_,rfl,fun _=>rfl⟩
    |true=>
      cases decide ((s.B.1.getD w (0,0,0)).1+n<0) with
      |true=>exact⟨_,rfl,fun e=>by cases e⟩
      |false=>exact⟨_,rfl,fun _=>rfl⟩
def jB (a:qO)(n:Int):qO×Int:=bif jU (a.1+n,a.2.1,a.2.2) then((a.1+n,a.2.1,a.2.2),0) else(a,8)
theorem yBc {k:Nat}{a:qO}(ha:-4611686018427387904<a.1∧a.1<4611686018427387904){n:Int}(hn:-1099511627776≤n∧n≤1099511627776):IZ k a n=some (jB a n):=by
 have UD:Nb k a.1 n=some (a.1+n,true):=by
  unfold Nb
  have w1:n>0→zA (9223372036854775807-n)=9223372036854775807-n:=fun h=>zQ (by omega) (by omega)
  have w2:n<0→zA (-9223372036854775808-n)= -9223372036854775808-n:=fun h=>zQ (by omega) (by omega)
  have w3:zA (a.1+n)=a.1+n:=zQ (by omega) (by omega)
  rw[w3]
  by_cases h1:n>0
  ·rw[aa h1,w1 h1,ab (show¬a.1>9223372036854775807-n by omega),ab (show¬n<0 by omega)];rfl
  ·rw[ab h1]
   by_cases h2:n<0
   ·rw[aa h2,w2 h2,ab (show¬a.1< -9223372036854775808-n by omega)];rfl
   ·rw[ab h2];rfl
 unfold IZ jB
 rw[UD]
 simp only[ae,ay,aj,yOn]
 cases jU (a.1+n,a.2.1,a.2.2)<;>rfl
abbrev j8:=Int×jG
theorem yTy k kd:∃n,sE k kd=some n∧-1≤n∧n≤6:=by
 have c:∀(b:Bool) (x y:Option Int),(∃n,x=some n∧-1≤n∧n≤6)→(∃n,y=some n∧-1≤n∧n≤6)→∃n,(bif b then x else y)=some n∧-1≤n∧n≤6:=by
  simp_all
 iterate 23 (refine c _ _ _ (by simp) ?_)
 simp
theorem yYh {k}{s:AC}(hs:s.length≤6):∀n i,s.length<i+n→i≤s.length→∃x,th k n s (s.length:Int) (i:Int)=some x
 |0,i,h,g=>by omega
 |n+1,i,h,g=>by
  show∃x,vp k (th k n) s (s.length:Int) (i:Int)=some x
  unfold vp
  by_cases hi:i<s.length
  ·simp only[qB,aa hi,qG,aq]
   cases decide (s.getD i 0=0) with
   |false=>simp
   |true=>
    rw[qK hi (by omega)]
    exact yYh hs n (i+1) (by omega) hi
  ·simp only[qB,ab hi]
   simp
theorem UE {k}(hk:10≤k)(f:jG):∃b,qt k f=some b:=by
 unfold qt
 obtain⟨n,h1,h2,h3⟩:=yTy k f.1
 rw[h1]
 simp
 by_cases h0:n<0
 ·simp_all
 ·rw[ab h0,aa (by grind),aa h3]
  have hl:(qZ [f.2.1,f.2.2.1,f.2.2.2.1,f.2.2.2.2.1,f.2.2.2.2.2.1,f.2.2.2.2.2.2] n.toNat (6-n.toNat)).length≤6:=by
   unfold qZ
   simp
  obtain⟨x,hx⟩:=yYh (k:=k) hl k 0 (by omega) (by simp)
  rw[show((0:Nat):Int)=0 from rfl] at hx
  rw[hx]
  cases x<;>exact by simp
theorem UF k a:Nc k a=some (decide (a≥10)&&decide (a≤14)):=by
 unfold Nc;grind
theorem UG k a:I1 k a=some (decide (a≥1)&&decide (a≤14)):=by
 unfold I1;grind
def yPi (A B C D E F G b o:Bool):Int:=
 bif !(D&&C) then 5 else bif !b then 5 else bif B&&C then(bif !E then 5 else bif o&& !G then 7 else 0) else bif !(A&&F) then 5 else bif o&& !G then 7 else 0
theorem vIq:∀{A B C D E F G b o},yPi A B C D E F G b o=0→(D&&C&&((B&&E)||(!B&&A&&F))&&(!o||G))=true:=by
 intro A B C D E F G b o h
 cases A<;>cases B<;>cases C<;>cases D<;>cases E<;>cases F<;>cases G<;>cases b<;>cases o<;>first|rfl|exact absurd h (by decide)
theorem vSs {k}(hk:10≤k)(r:qP)(s:qD)(c:j8):∃b,tj k r s.st c=some (yPi (decide (c.1≥0)) (decide (c.2.1≥10)) (decide (c.2.1≤14)) (decide (c.2.1≥1)) (decide (c.1= -1)) (decide (c.1<r.1)) (decide (c.2.1=9)) b s.ov):=by
 unfold tj
 rw[UF,UG]
 obtain⟨b,hb⟩:=UE hk c.2
 rw[hb]
 have eo:s.st.2.2.2.2.2.2.2.2.2.2=s.ov:=rfl
 rw[eo]
 refine⟨b,?_⟩
 generalize decide (c.1≥0)=A
 generalize decide (c.2.1≥10)=B
 generalize decide (c.2.1≤14)=C
 generalize decide (c.2.1≥1)=D
 generalize decide (c.1= -1)=E
 generalize decide (c.1<r.1)=F
 generalize decide (c.2.1=9)=G
 generalize s.ov=o
 cases A<;>cases B<;>cases C<;>cases D<;>cases E<;>cases F<;>cases G<;>cases b<;>cases o<;>rfl
theorem UH {k}(hk:10≤k)(r:qP)(s:qD)(c:j8):∃e,tj k r s.st c=some e∧
  (e=0→((10≤c.2.1∧c.2.1≤14∧c.1= -1)∨(1≤c.2.1∧c.2.1≤9∧0≤c.1∧c.1<r.1))∧(s.ov=true→c.2.1=9)):=by
 obtain⟨b,hb⟩:=vSs hk r s c
 refine⟨_,hb,fun e=>?_⟩
 have:=vIq e
 grind
theorem vK2 {c:Nat}{l:EQ}(h:∀x∈l,x.length≤c):(kt l).length≤8*(c+1)*l.length:=by
 induction l with
 |nil=>simp[kt]
 |cons x l ih=>
  have h1:=ih fun y hy=>h y (List.mem_cons_of_mem _ hy)
  have h2:=h x (List.mem_cons_self ..)
  have h3:8*(c+1)*(l.length+1)=8*(c+1)*l.length+8*(c+1):=Nat.mul_succ _ _
  simp only[kt,List.flatMap_cons,List.length_append,Hz,List.length_cons] at h1⊢
  rw[h3]
  omega
theorem UI {l:EQ}{n:Nat}(h:∀i,i<l.length→(l.getD i []).length=n){x:AC}(hx:x∈l):x.length=n:=by
 obtain⟨i,hi,e⟩:=List.mem_iff_getElem.1 hx
 have:=h i hi
 rw[List.getD_eq_getElem?_getD,List.getElem?_eq_getElem hi] at this
 rw[←e]
 exact this
theorem vQf {r:qP}(hr:jS r){s:qD}(h:yD r s):∃l,yo s.st=l++[s.ids]∧l.length≤67∧∀x∈l,x.length≤9:=by
 have n6:=h.bk.n6
 have n1:=h.bk.n1
 have hm:=h.waits.len
 have h3:=hr.n3
 have hb:wM s.B.1 s.B.2.1 s.B.2.2.1 s.B.2.2.2:=h.bk
 have hL:=h.laid 0 (by omega)
 have hol:=h.hol
 refine⟨_,rfl,?_,fun x hx=>?_⟩
 ·simp only[List.length_append,List.length_cons,List.length_nil,List.length_map]
  show 0+1+s.B.1.length+s.B.2.1.length+(0+1)+s.B.2.2.2.length+(0+1)+s.ho.length+s.m.length≤67
  have:=hb.bl
  have:=hb.pl
  omega
 ·simp only[List.mem_append,List.mem_singleton,List.mem_map] at hx
  rcases hx with(((((((rfl|⟨a,_,rfl⟩)|hx)|rfl)|hx)|rfl)|hx)|⟨a,_,rfl⟩)
  ·simp
  ·simp[Cv]
  ·have:=UI (l:=s.B.2.1) (fun i hi=>hb.br i (by have:=hb.bl;omega)) hx
   omega
  ·show s.B.2.2.1.length≤9
   have:=hb.ml
   omega
  ·have:=UI (l:=s.B.2.2.2) (fun i hi=>hb.pr i (by have:=hb.pl;omega)) hx
   omega
  ·show s.pr.length≤9
   rw[hL.pl]
   omega
  ·have:=UI (l:=s.ho) (fun i hi=>(h.laid i (by omega)).hl) hx
   omega
  ·simp[Cw]
theorem vJb {k:Nat}(hk:1000≤k){r:qP}(hr:jS r){s:qD}(h:yD r s):∃b,ku k s.st=some b∧b=kt (yo s.st)∧b.length≤7000:=by
 obtain⟨l,e,h1,h2⟩:=vQf hr h
 have hi:=h.waits.idl
 have hf:eS (yo s.st):=by
  rw[e]
  refine⟨by rw[List.length_append];simp;omega,fun x hx=>?_⟩
  rcases List.mem_append.1 hx with hx|hx
  ·have:=h2 x hx;omega
  ·rw[List.mem_singleton.1 hx];omega
 refine⟨_,S6 hk hf,rfl,?_⟩
 rw[e]
 have:=vK2 h2
 have e2:kt (l++[s.ids])=kt l++yn s.ids:=by simp[kt]
 rw[e2,List.length_append,Hz]
 omega
theorem vDf {k:Nat}(hk:10≤k)(w:Int)(f:jG):∃b,Nd k (w,f)=some b∧b.length≤57:=by
 unfold Nd UJ
 obtain⟨b,hb⟩:=UE hk f
 obtain⟨n,h1,h2,h3⟩:=yTy k f.1
 dsimp only
 rw[hb]
 cases b with
 |false=>exact⟨[],rfl,by decide⟩
 |true=>
  have hn:0≤n:=by
   unfold qt at hb
   rw[h1] at hb
   simp only[ae] at hb
   by_cases h0:n<0
   ·rw[aa h0] at hb;cases hb
   ·omega
  have hl:(qZ [f.2.1,f.2.2.1,f.2.2.2.1,f.2.2.2.2.1,f.2.2.2.2.2.1,f.2.2.2.2.2.2] 0 (n.toNat-0)).length≤6:=by
   unfold qZ
   rw[List.length_take,List.length_drop]
   simp
   omega
  simp only[ae,ay,aj]
  rw[h1]
  simp only[ae]
  rw[aa hn,aa h3]
  simp only[Bool.and_self,ai]
  generalize qZ [f.2.1,f.2.2.1,f.2.2.2.1,f.2.2.2.2.1,f.2.2.2.2.2.1,f.2.2.2.2.2.2] 0 (n.toNat-0)=L at hl⊢
  rw[Hw (by omega) L (by omega) (by omega)]
  have e1:=sH L
  simp only[ae]
  rw[qT (by omega) (by omega)]
  simp only[ai,ae]
  rw[ab (by rw[List.length_append];simp;omega)]
  simp only[aj]
  rw[Hw (by omega) [w] (by simp) (by simp;omega)]
  have e2:=sH [w]
  simp only[List.length_singleton] at e2
  simp only[ae]
  rw[qT (by rw[List.length_append,List.length_singleton];omega) (by rw[List.length_append,List.length_singleton];omega)]
  refine⟨_,rfl,?_⟩
  rw[List.length_append,List.length_append,List.length_singleton]
  omega
def j9 (r:qP)(s:qD)(ev:Int):sF:=(r.1,r.2.1,r.2.2.1,r.2.2.2.1,r.2.2.2.2,s.t,s.B.1,s.B.2.1,s.B.2.2.1,s.B.2.2.2,s.pr,s.ho,s.m,s.ids,s.to,s.ov,ev,false)
structure oR (r:qP) (ev:Int) (N:Nat) (s:qD) (G:sF) (L:qb) (D:kq):Prop where
 g:G=j9 r s ev
 inv:yD r s
 calm:oD D
 room:D.1=200000
 x:(wW D 0).length≤20000+100*N
 y:(wW D 1).length≤20000+100*N
 tk:Tk L N
theorem yTh {D:kq}{i:Int}{n:Nat}(hi:i=0∨i=1)(hx:(wW D i).length≤n)(hy:(wW D (1-i)).length≤n):(wW D 0).length≤n∧(wW D 1).length≤n:=by
 rcases hi with rfl|rfl
 ·exact⟨hx,hy⟩
 ·exact⟨hy,hx⟩
theorem oR.more {r:qP}{ev:Int}{N M:Nat}{s:qD}{G:sF}{L:qb}{D:kq}(h:oR r ev N s G L D)(hM:N≤M):oR r ev M s G L D:=
 ⟨h.g,h.inv,h.calm,h.room,by have:=h.x;omega,by have:=h.y;omega,h.tk.more hM⟩
def UK (k:Nat)(r:qP):Prop:=∀s,yD r s→∀c,∃t o e,ky k r (qD.st s) c=some (qD.st t,o,e)∧yD r t∧(e≠0→t=s)
def I2 (k:Nat)(r:qP)(s:qD)(a:Int)(m:yk×Int)(t:qD)(o:List lO):Prop:=
 (m.2≠0∧t=s∧o=[(a,16,m.2,0,0,0,0,0)])∨
 (m.2=0∧∃u p e,ky k r s.st (a,m.1)=some (u,p,e)∧((e≠0∧t=s∧o=[(a,16,e,0,0,0,0,0)])∨(e=0∧u=t.st∧o=p)))
theorem UL {k:Nat}(hk:1000≤k){r:qP}(hr:jS r)(hd:UK k r)(hq:∀s c u o e,ky k r (qD.st s) c=some (u,o,e)→c.2.1=9→u=s.st){ev:Int}{N:Nat}(hN:N≤1000){s:qD}{G:sF}{L:qb}{D:kq}(h:oR r ev N s G L D)
  {a:Int} {b:AC} {m:yk×Int} (hm:nA k b=some m):
  ∃t o L' D',I3 k G L D a b=some (o,j9 r t ev,L',D')∧oR r ev (N+1) t (j9 r t ev) L' D'∧I2 k r s a m t o:=by
 obtain⟨rfl,hi,hc,uA,hx,hy,ht⟩:=h
 unfold I3
 rw[show zx k (j9 r s ev) L D=some (false,j9 r s ev,L,D) from rfl]
 simp only[ae,aj]
 rw[hm]
 simp only[ae]
 have same:oR r ev (N+1) s (j9 r s ev) L D:=(oR.mk rfl hi hc uA hx hy ht:oR r ev N s (j9 r s ev) L D).more (by omega)
 by_cases h0:m.2=0
 case neg=>
  rw[ab h0]
  exact⟨s,_,L,D,rfl,same,.inl ⟨h0,rfl,rfl⟩⟩
 rw[aa h0]
 simp only[ay,aj]
 obtain⟨t,o,e,h1,h2,h3⟩:=hd s hi (a,m.1)
 have e1:yF (j9 r s ev)=r:=rfl
 have e2:qu (j9 r s ev)=s.st:=rfl
 rw[e1,e2,h1]
 simp only[ae]
 by_cases he:e=0
 case neg=>
  rw[ab he]
  exact⟨s,_,L,D,rfl,same,.inr ⟨h0,_,_,_,h1,.inl ⟨he,rfl,rfl⟩⟩⟩
 subst he
 rw[show decide ((0:Int)=0)=true from rfl]
 simp only[ay,aj]
 have act:I2 k r s a m t o:=.inr ⟨h0,_,_,_,h1,.inr ⟨rfl,rfl,rfl⟩⟩
 by_cases h9:m.1.1=9
 ·rw[aa h9]
  have eq:=hq _ _ _ _ _ h1 h9
  have UM:I2 k r s a m s o:=.inr ⟨h0,_,_,_,h1,.inr ⟨rfl,eq,rfl⟩⟩
  exact⟨s,_,L,D,rfl,same,UM⟩
 rw[ab h9]
 simp only[aj]
 obtain⟨c,SU,BG⟩:=vDf (k:=k) (by omega) a m.1
 rw[SU]
 simp only[ae]
 have hk1:∃D1,yr k L D c=some (0,(L.1,L.2.1,zA (L.2.2.1+1),L.2.2.2),D1)∧oD D1∧D1.1=200000∧(wW D1 0).length≤20000+100*(N+1)∧(wW D1 1).length≤20000+100*(N+1):=by
  have hs:=ht.side
  have eF:(wW D L.1).length≤20000+100*N∧(wW D (1-L.1)).length≤20000+100*N:=by
   rcases hs with e|e<;>rw[e]
   ·exact⟨hx,hy⟩
   ·exact⟨hy,hx⟩
  rcases vRf (k:=k) hc (ht.takes (by omega)) (b:=c) (by omega) with⟨g1,_⟩|⟨_,D1,g1,g2,g3,g4,g5⟩
  ·omega
  ·refine⟨D1,g1,g2,g3.trans uA,?_⟩
   exact yTh hs (by rw[g4,List.length_append,yB7];omega) (by rw[g5];omega)
 obtain⟨D1,g1,g2,g3,g4,g5⟩:=hk1
 have hkp:Nf k (j9 r s ev) L D c=some (0,j9 r s ev,(L.1,L.2.1,zA (L.2.2.1+1),L.2.2.2),D1):=by
  unfold Nf
  rw[g1]
  rfl
 have hrw:=ht.rows
 have kj:=ht.gen
 have wr:zA (L.2.2.1+1)=L.2.2.1+1:=zQ (by omega) (by omega)
 have tk1:Tk (L.1,L.2.1,zA (L.2.2.1+1),L.2.2.2) (N+1):=⟨ht.side,⟨kj.1,by show L.2.1≤_;omega⟩,by show 0≤zA (L.2.2.1+1)∧zA (L.2.2.1+1)≤_;rw[wr];omega,ht.stale⟩
 rw[hkp]
 simp only[ae,decide_true,ai]
 show∃t o L' D',(Ng k (L.1,L.2.1,zA (L.2.2.1+1),L.2.2.2) D1).bind _=_∧_
 rw[show Ng k (L.1,L.2.1,zA (L.2.2.1+1),L.2.2.2) D1=some (zA (L.2.2.1+1),(L.1,L.2.1,zA (L.2.2.1+1),L.2.2.2),D1) from rfl]
 simp only[ae]
 cases decide (zA (L.2.2.1+1)≥(j9 r s ev).2.2.2.2.2.2.2.2.2.2.2.2.2.2.2.2.1) with
 |false=>exact⟨t,o,_,D1,rfl,⟨rfl,h2,g2,g3,g4,g5,tk1⟩,act⟩
 |true=>
  obtain⟨q,q1,_,q3⟩:=vJb hk hr h2
  simp only[ai]
  rw[q1]
  simp only[ae]
  obtain⟨D2,p1,p2,p3,p4,p5⟩:=vD4 (k:=k) (by omega) g2 (tk1.takes (by omega)) (by show L.2.1<_;omega) (b:=q) (by omega) (by omega)
  rw[p1]
  simp only[ae]
  have p4:wW D2 (1-L.1)=uN (qc (L.2.1+1)++q):=p4
  have p5:wW D2 L.1=wW D1 L.1:=p5
  have hs:=ht.side
  have l4:(wW D2 (1-L.1)).length≤20000+100*(N+1):=by
   rw[p4,yB7,List.length_append]
   show 8+q.length+2≤_
   omega
  have l5:(wW D2 L.1).length≤20000+100*(N+1):=by
   rw[p5]
   rcases hs with e|e<;>rw[e]<;>assumption
  have l6:=yTh hs l5 l4
  refine⟨t,o,_,D2,rfl,⟨rfl,h2,p2,p3.trans g3,l6.1,l6.2,?_,⟨by show 1≤L.2.1+1;omega,by show L.2.1+1≤_;omega⟩,⟨Int.le_refl _,by show(0:Int)≤_;omega⟩,rfl⟩,act⟩
  show 1-L.1=0∨1-L.1=1
  omega
abbrev vEp:=Int×List gV×Int×Int×Int×Int×List qO×wR×AC×wR×AC×wR×List zE×AC×Int×Bool×Int
def fO (r:qP)(s:qD)(who:Int):vEp:=(r.1,r.2.1,r.2.2.1,r.2.2.2.1,r.2.2.2.2,s.t,s.B.1,s.B.2.1,s.B.2.2.1,s.B.2.2.2,s.pr,s.ho,s.m,s.ids,s.to,s.ov,who)
def Nh (s:qD)(i:Nat)(a:qO)(to:Int):qD:={s with B:=(s.B.1.set i a,s.B.2.1,s.B.2.2.1,s.B.2.2.2),to:=to}
def I4 (s:qD)(i:Nat)(n:Int):Int×qD:=
 bif decide ((s.B.1.getD i ad).1+(s.B.1.getD i ad).2.1-(s.B.1.getD i ad).2.2<n) then(9,s)
 else bif decide (s.to-n<0) then(9,s)
 else bif !decide ((jB (s.B.1.getD i ad) (-n)).2=0) then((jB (s.B.1.getD i ad) (-n)).2,s)
 else bif decide (s.to-n>1152921504606846976) then(8,s)
 else(0,Nh s i (jB (s.B.1.getD i ad) (-n)).1 (s.to-n))
def I5 (s:qD)(i:Nat)(n:Int):Int×qD:=
 bif !decide ((jB (s.B.1.getD i ad) n).2=0) then((jB (s.B.1.getD i ad) n).2,s)
 else bif decide (s.to+n>1152921504606846976) then(8,s)
 else(0,Nh s i (jB (s.B.1.getD i ad) n).1 (s.to+n))
def ka (r:qP)(s:qD)(kd to n:Int):Int×qD:=
 bif !(decide (to≥0)&&decide (to≤r.1-1)) then(1,s)
 else bif !(decide (n≥1)&&decide (n≤1099511627776)) then(1,s)
 else bif decide (kd=11) then I4 s to.toNat n else I5 s to.toNat n
theorem vI7 {k:Nat}(hk:1000≤k){r:qP}(hr:jS r){s:qD}(h:yD r s)(who kd to n:Int):
    ∃d,EJ k (fO r s who) kd to n=some ((ka r s kd to n).1,d)∧((ka r s kd to n).1=0→d=dk r (ka r s kd to n).2 who []):=by
  have hp:=hr.pa
  have hn:=h.n
  have ht:=h.tot
  have w1:zA (r.1-1)=r.1-1:=zQ (by omega) (by omega)
  have eD:EJ k (fO r s who) kd to n=(vE k to 0 (zA (r.1-1))).bind fun x0=>
    bif !x0 then some (1,dk r s who [])
    else(vE k n 1 1099511627776).bind fun x1=>
    bif !x1 then some (1,dk r s who [])
    else bif zC to s.B.1.length then ((EK k (s.B.1.getD to.toNat (0,0,0)) n).bind fun x2=>
      bif decide (kd = 11) then ((EL k (s.B.1.getD to.toNat (0,0,0)) n 3).bind fun x3=>
       (EM k (s.B.1.getD to.toNat (0,0,0)) 3).bind fun x4=>
       bif decide (x4<n) then some (9,dk r s who [])
       else bif decide ((zA (s.to-n))<0) then some (9,dk r s who [])
       else bif !(decide (x3.2=0)) then some (x3.2,dk r s who [])
       else bif decide ((zA (s.to-n))>1152921504606846976) then some (8,dk r s who [])
       else(fM k s.B.1 s.B.2.1 s.B.2.2.1 s.B.2.2.2).bind fun x5=>
       bif zC to x5.1.length then some (0,dk r {s with B:=(x5.1.set to.toNat x3.1,x5.2.1,x5.2.2.1,x5.2.2.2),to:=zA (s.to-n)} who [])
       else none)
      else bif !(decide (x2.2=0)) then some (x2.2,dk r s who [])
      else bif decide ((zA (s.to+n))>1152921504606846976) then some (8,dk r s who [])
      else(fM k s.B.1 s.B.2.1 s.B.2.2.1 s.B.2.2.2).bind fun x6=>
      bif zC to x6.1.length then some (0,dk r {s with B:=(x6.1.set to.toNat x2.1,x6.2.1,x6.2.2.1,x6.2.2.2),to:=zA (s.to+n)} who [])
      else none)
    else none:=rfl
  rw[eD,w1,qs,qs,HS (by omega) h.bk.toSized]
  simp only[ae]
  unfold ka
  cases hc:decide (to≥0)&&decide (to≤r.1-1) with
  |false=>exact⟨_,rfl,fun e=>by cases e⟩
  |true=>
  simp only[aR,aN] at hc
  cases hm:decide (n≥1)&&decide (n≤1099511627776) with
  |false=>exact⟨_,rfl,fun e=>by cases e⟩
  |true=>
  simp only[aR,aN] at hm
  obtain⟨i,rfl⟩:=Int.eq_ofNat_of_zero_le hc.1
  have hi:i<s.B.1.length:=by omega
  have hb:=h.bk.nums.bal i hi
  have jo:=h.bk.nums.res i hi
  have hcr:=h.most i hi
  have UN:0≤(s.B.1.getD i ad).2.1:=by rw[h.cred i hi];exact D7 (h.laid i hi)
  have b0:zC (i:Int) s.B.1.length=true:=by rw[qG,aa hi]
  have I6:EK k (s.B.1.getD i (0,0,0)) n=some (jB (s.B.1.getD i ad) n):=by
    unfold EK
    rw[yBc hb (by omega)]
    rfl
  have I7:EL k (s.B.1.getD i (0,0,0)) n 3=some (jB (s.B.1.getD i ad) (-n)):=by
    unfold EL
    rw[show zA (0-n)= -n by rw[zQ (by omega) (by omega)];omega,yBc hb (by omega)]
    simp only[ae]
    have d1:decide ((3:Int)=1)=false:=rfl
    have d2:decide ((3:Int)=2)=false:=rfl
    rw[d1,d2]
    cases decide ((jB (s.B.1.getD i ad) (-n)).2=0)<;>rfl
  have vq:EM k (s.B.1.getD i (0,0,0)) 3=some ((s.B.1.getD i ad).1+(s.B.1.getD i ad).2.1-(s.B.1.getD i ad).2.2):=by
    unfold EM
    have d1:decide ((3:Int)=3)=true:=rfl
    rw[d1,ai]
    have q1:zA ((s.B.1.getD i (0,0,0)).1+(s.B.1.getD i (0,0,0)).2.1)=(s.B.1.getD i ad).1+(s.B.1.getD i ad).2.1:=zQ (by simp only[ad] at*;omega) (by simp only[ad] at*;omega)
    rw[q1]
    exact congrArg some (zQ (by simp only[ad] at*;omega) (by simp only[ad] at*;omega))
  have q2:zA (s.to-n)=s.to-n:=zQ (by omega) (by omega)
  have q3:zA (s.to+n)=s.to+n:=zQ (by omega) (by omega)
  simp only[ay,aj,b0,ai,aq,I6,I7,vq,ae,q2,q3]
  clear I6 I7 vq eD
  cases decide (kd=11) with
  |true=>
    simp only[ai]
    unfold I4
    cases decide ((s.B.1.getD i ad).1+(s.B.1.getD i ad).2.1-(s.B.1.getD i ad).2.2<n) with
    |true=>exact⟨_,rfl,fun e=>by cases e⟩
    |false=>
    cases decide (s.to-n<0) with
    |true=>exact⟨_,rfl,fun e=>by cases e⟩
    |false=>
    cases hz:decide ((jB (s.B.1.getD i ad) (-n)).2=0) with
    |false=>exact⟨_,rfl,fun e=>absurd e (di hz)⟩
    |true=>
    cases decide (s.to-n>1152921504606846976) with
    |true=>exact⟨_,rfl,fun e=>by cases e⟩
    |false=>exact⟨_,rfl,fun _=>rfl⟩
  |false=>
    simp only[aj]
    unfold I5
    cases hz:decide ((jB (s.B.1.getD i ad) n).2=0) with
    |false=>exact⟨_,rfl,fun e=>absurd e (di hz)⟩
    |true=>
    cases decide (s.to+n>1152921504606846976) with
    |true=>exact⟨_,rfl,fun e=>by cases e⟩
    |false=>exact⟨_,rfl,fun _=>rfl⟩
def fl (sa:List gV)(pr:AC)(ho:wR)(j:Nat):Int:=lT sa pr (ho.getD j [])
def gZ (sa:List gV)(pr:AC)(ho:wR)(a:List qO):List qO:=(List.range a.length).map fun j=>((a.getD j ad).1,fl sa pr ho j,(a.getD j ad).2.2)
def EN (r:qP)(s:qD)(pr:AC):Int×qD:=
 bif qH (fun j=> !decide (fl r.2.1 pr s.ho j>1152921504606846976)) s.B.1.length 0 then(0,{s with B:=(gZ r.2.1 pr s.ho s.B.1,s.B.2.1,s.B.2.2.1,s.B.2.2.2),pr:=pr}) else(8,s)
def kb (r:qP)(s:qD)(a p:Int):Int×qD:=
 bif !(decide (a≥0)&&decide (a≤(r.2.1.length:Int)-1)) then(1,s)
 else bif !(decide (p≥0)&&decide (p≤1048576)) then(1,s)
 else EN r s (s.pr.set a.toNat p)
theorem UO (sa:List gV)(pr:AC)(ho:wR)(a:List qO):(gZ sa pr ho a).length=a.length:=by simp[gZ]
theorem UP (sa:List gV)(pr:AC)(ho:wR)(a:List qO){j:Nat}(hj:j<a.length):(gZ sa pr ho a).getD j ad=((a.getD j ad).1,fl sa pr ho j,(a.getD j ad).2.2):=by
 unfold gZ
 rw[List.getD_eq_getElem?_getD,List.getElem?_map,List.getElem?_range hj]
 rfl
theorem vWd {k:Nat}(hk:1000≤k){r:qP}{s:qD}(who:Int){pr:AC}(hL:∀i,i<s.B.1.length→j0 r.2.1 pr (s.ho.getD i []))(hol:s.ho.length=s.B.1.length)(gW:s.B.1.length≤6):
  (qH (fun j=> !decide (fl r.2.1 pr s.ho j>1152921504606846976)) s.B.1.length 0=true∧tl k k s.ho s.ho.length 0 (fO r s who) pr s.B.1 s.B.2.1 s.B.2.2.1 s.B.2.2.2=some (.inl (fO r s who,pr,gZ r.2.1 pr s.ho s.B.1,s.B.2.1,s.B.2.2.1,s.B.2.2.2)))∨
  (qH (fun j=> !decide (fl r.2.1 pr s.ho j>1152921504606846976)) s.B.1.length 0=false∧tl k k s.ho s.ho.length 0 (fO r s who) pr s.B.1 s.B.2.1 s.B.2.2.1 s.B.2.2.2=some (.inr (8,fO r s who))):=by
 rw[hol]
 have:=Mh (L:=fun n i (a:List qO)=>tl k n s.ho s.B.1.length i (fO r s who) pr a s.B.2.1 s.B.2.2.1 s.B.2.2.2) (N:=s.B.1.length) (fun j=> !decide (fl r.2.1 pr s.ho j>1152921504606846976))
  (fun a=>.inl (fO r s who,pr,a,s.B.2.1,s.B.2.2.1,s.B.2.2.2)) (.inr (8,fO r s who))
  (fun i a => a.length = s.B.1.length ∧ ∀ j, j < s.B.1.length → a.getD j ad = if j < i then ((s.B.1.getD j ad).1, fl r.2.1 pr s.ho j, (s.B.1.getD j ad).2.2) else s.B.1.getD j ad) (fun n a _=>by
   show EO k _ s.ho s.B.1.length s.B.1.length (fO r s who) pr a s.B.2.1 s.B.2.2.1 s.B.2.2.2=_
   unfold EO
   simp only [qB, ab (Nat.lt_irrefl _), aj]) (fun n i a hi ha=>by
   have hv:=yOh (k:=k) (hL i hi) (by omega)
   have aM:tl k (n+1) s.ho s.B.1.length i (fO r s who) pr a s.B.2.1 s.B.2.2.1 s.B.2.2.2=bif decide (fl r.2.1 pr s.ho i>1152921504606846976) then some (.inr (8,fO r s who)) else tl k n s.ho s.B.1.length ((i+1:Nat):Int) (fO r s who) pr (a.set i ((a.getD i ad).1,fl r.2.1 pr s.ho i,(a.getD i ad).2.2)) s.B.2.1 s.B.2.2.1 s.B.2.2.2:=by
    show EO k _ s.ho s.B.1.length i (fO r s who) pr a s.B.2.1 s.B.2.2.1 s.B.2.2.2=_
    unfold EO
    have gL:qi k (fO r s who).2.1 pr (s.ho.getD i [])=some (fl r.2.1 pr s.ho i,true):=hv
    simp only[qB,qG,aq,aa hi,aa (show i<s.ho.length by omega),aa (show i<a.length by rw[ha.1];exact hi),ai,gL,ae,ay,aj,qK hi (show s.B.1.length<9223372036854775808 by omega)]
    rfl
   refine⟨fun ho=>?_,fun ho=>?_⟩
   ·have h1:decide (fl r.2.1 pr s.ho i>1152921504606846976)=false:=by simpa using ho
    refine⟨_,by rw[aM,h1];rfl,by rw[List.length_set];exact ha.1,fun j hj=>?_⟩
    rw[jM]
    by_cases e:i=j
    ·subst e
     rw[if_pos ⟨rfl,by rw[ha.1];exact hi⟩,if_pos (by omega),ha.2 i hi,if_neg (Nat.lt_irrefl _)]
    ·rw[if_neg (by omega),ha.2 j hj]
     by_cases h:j<i
     ·rw[if_pos h,if_pos (by omega)]
     ·rw[if_neg h,if_neg (by omega)]
   ·have h1:decide (fl r.2.1 pr s.ho i>1152921504606846976)=true:=by simpa using ho
    rw[aM,h1];rfl) s.B.1.length 0 k s.B.1 (by omega) (by omega) ⟨rfl,fun j _=>by rw[if_neg (Nat.not_lt_zero _)]⟩
 rcases this with⟨h1,a,h2,h3,h4⟩|⟨h1,h2⟩
 ·refine .inl ⟨h1,?_⟩
  have e:a=gZ r.2.1 pr s.ho s.B.1:=Cl ad (by rw[h3,UO]) fun j hj=>by
   rw[h3] at hj
   rw[h4 j hj,if_pos hj,UP _ _ _ _ hj]
  rw[←e]
  exact h2
 ·exact .inr ⟨h1,h2⟩
theorem UQ {k:Nat}(hk:1000≤k){r:qP}(hr:jS r){s:qD}(h:yD r s)(who a p:Int):
  ∃d,Ni k (fO r s who) a p=some ((kb r s a p).1,d)∧((kb r s a p).1=0→d=dk r (kb r s a p).2 who []):=by
 have h3:=hr.n3
 have gW:=h.bk.n6
 have nv:=h.bk.n1
 have w1:zA ((r.2.1.length:Int)-1)=(r.2.1.length:Int)-1:=zQ (by omega) (by omega)
 have eD:Ni k (fO r s who) a p=((vE k a 0 (zA ((r.2.1.length:Int)-1))).bind fun x0=>some x0).bind fun x0=>
  bif !x0 then some (1,dk r s who [])
  else(vE k p 0 1048576).bind fun x1=>
  bif !x1 then some (1,dk r s who [])
  else(oN k s.pr a p).bind fun x2=>
  (fM k s.B.1 s.B.2.1 s.B.2.2.1 s.B.2.2.2).bind fun x3=>
  (tl k k s.ho (s.ho.length:Int) 0 (fO r s who) x2 x3.1 x3.2.1 x3.2.2.1 x3.2.2.2).bind fun z=>
  match z with
  |.inl z1=>some (0,(wY z1.1 (zy z1 (z1.2.1,(UR z1.1 [])))))
  |.inr z2=>some (wZ z2 []):=rfl
 rw[eD,w1,qs,qs,HS (by omega) h.bk.toSized]
 simp only[ae]
 unfold kb
 cases hc:decide (a≥0)&&decide (a≤(r.2.1.length:Int)-1) with
 |false=>exact⟨_,rfl,fun e=>by cases e⟩
 |true=>
 simp only[aR,aN] at hc
 cases hm:decide (p≥0)&&decide (p≤1048576) with
 |false=>exact⟨_,rfl,fun e=>by cases e⟩
 |true=>
 simp only[aR,aN] at hm
 obtain⟨i,rfl⟩:=Int.eq_ofNat_of_zero_le hc.1
 have hi:i<r.2.1.length:=by omega
 have L0:=h.laid 0 (by omega)
 have lh:oN k s.pr (i:Int) p=some (s.pr.set i p):=by
  have:=yA3 (k:=k) (l:=s.pr) (by rw[L0.pl];omega) (i:=(i:Int)) (by omega) (by rw[L0.pl];omega) p
  rw[aq] at this
  exact this
 simp only[ay,aj,lh,ae,aq]
 unfold EN
 rcases vWd (r:=r) (s:=s) hk who (pr:=s.pr.set i p) (fun j hj=>(h.laid j hj).setP hi ⟨by omega,by omega⟩) h.hol gW with⟨g1,g2⟩|⟨g1,g2⟩
 ·rw[g2,g1]
  exact⟨_,rfl,fun _=>rfl⟩
 ·rw[g2,g1]
  exact⟨_,rfl,fun e=>by cases e⟩
theorem Nj {q p:zE}:wV q p=true↔q.2.1<p.2.1∨(q.2.1=p.2.1∧q.2.2.2.2.1≤p.2.2.2.2.1):=by
 unfold wV;simp
theorem yNx {q p:zE}:iP q p=true↔q.2.1<p.2.1∨(q.2.1=p.2.1∧q.2.2.2.2.1<p.2.2.2.2.1):=by
 unfold iP;simp
theorem US {a b c:zE}(h:wV a b=true)(g:wV b c=true):wV a c=true:=by
 rw[Nj] at*;omega
theorem vO0 {a b:zE}(h:¬wV a b=true):wV b a=true:=by
 rw[Nj] at*;omega
theorem vHt {a b:zE}(h:iP a b=true):wV a b=true:=by
 rw[yNx] at h;rw[Nj];omega
theorem UT {a b:zE}(h:¬iP a b=true):wV b a=true:=by
 rw[yNx] at h;rw[Nj];omega
theorem vAn (f:zE→Bool)(l:List zE)(p:zE):List.Perm (l.takeWhile f++(p::l.dropWhile f)) (p::l):=by
 have:=List.perm_middle (a:=p) (l₁:=l.takeWhile f) (l₂:=l.dropWhile f)
 rwa [List.takeWhile_append_dropWhile] at this
theorem ySv {l:List zE}(hs:nK l)(p:zE)(f:zE→Bool)(h1:∀q,f q=true→wV q p=true)(h2:∀q,¬f q=true→wV p q=true):nK (l.takeWhile f++(p::l.dropWhile f)):=by
 have ue:=hs
 unfold nK at hs ue⊢
 rw[←List.takeWhile_append_dropWhile (p:=f) (l:=l)] at hs
 obtain⟨a1,a2,a3⟩:=List.pairwise_append.1 hs
 have UU:∀q∈l.takeWhile f,f q=true:=fun q hq=>List.all_eq_true.1 (List.all_takeWhile (p:=f) (l:=l)) q hq
 have UW:∀q∈l.dropWhile f,wV p q=true:=by
  cases hd:l.dropWhile f with
  |nil=>intro q hq;cases hq
  |cons x m=>
   have hx:¬f x=true:=by
    have bm:l.dropWhile f≠[]:=by rw[hd];simp
    have:=List.head_dropWhile_not f bm
    have e:(l.dropWhile f).head bm=x:=by simp only[hd,List.head_cons]
    rw[e] at this
    simp[this]
   intro q hq
   rcases List.mem_cons.1 hq with rfl|hq
   ·exact h2 _ hx
   ·rw[hd] at a2
    exact US (h2 x hx) ((List.pairwise_cons.1 a2).1 q hq)
 refine List.pairwise_append.2 ⟨a1,List.pairwise_cons.2 ⟨UW,a2⟩,fun a ha b hb=>?_⟩
 rcases List.mem_cons.1 hb with rfl|hb
 ·exact h1 a (UU a ha)
 ·exact a3 a ha b hb
theorem UX {l:List zE}(hs:nK l)(p:zE):nK (nE l p):=ySv hs p _ (fun _ h=>h) (fun _ h=>vO0 h)
theorem UY {l:List zE}(hs:nK l)(p:zE):nK (Iv l p):=ySv hs p _ (fun _ h=>vHt h) (fun _ h=>UT h)
theorem UZ (l:List zE)(p:zE):List.Perm (nE l p) (p::l):=vAn _ l p
theorem vTj (l:List zE)(p:zE):List.Perm (Iv l p) (p::l):=vAn _ l p
theorem nK.cut {l:List zE}(h:nK l)(x:Nat):nK (yB l x):=List.Pairwise.sublist (sR l x) h
theorem vP1 {l:AC}(ha:uY l){id:Int}(hn:id∉l):uY (oL l id):=by
 unfold oL
 have nf:=ha
 unfold uY at ha nf⊢
 rw[←List.takeWhile_append_dropWhile (p:=fun x=>decide (x<id)) (l:=l)] at ha
 obtain⟨a1,a2,a3⟩:=List.pairwise_append.1 ha
 have UU:∀q∈l.takeWhile (fun x=>decide (x<id)),q<id:=fun q hq=>by simpa using List.all_eq_true.1 (List.all_takeWhile (p:=fun x=>decide (x<id)) (l:=l)) q hq
 have UW:∀q∈l.dropWhile (fun x=>decide (x<id)),id<q:=by
  cases hd:l.dropWhile (fun x=>decide (x<id)) with
  |nil=>intro q hq;cases hq
  |cons x m=>
   have xI:x∈l:=(List.dropWhile_sublist _).subset (by rw[hd];exact List.mem_cons_self ..)
   have hx:¬x<id:=by
    have bm:l.dropWhile (fun x=>decide (x<id))≠[]:=by rw[hd];simp
    have:=List.head_dropWhile_not (fun x=>decide (x<id)) bm
    have e:(l.dropWhile (fun x=>decide (x<id))).head bm=x:=by simp only[hd,List.head_cons]
    rw[e] at this
    simpa using this
   have bm:x≠id:=fun e=>hn (e▸xI)
   intro q hq
   rcases List.mem_cons.1 hq with rfl|hq
   ·omega
   ·rw[hd] at a2
    have:=(List.pairwise_cons.1 a2).1 q hq
    omega
 refine List.pairwise_append.2 ⟨a1,List.pairwise_cons.2 ⟨UW,a2⟩,fun a ha b hb=>?_⟩
 rcases List.mem_cons.1 hb with rfl|hb
 ·exact UU a ha
 ·exact a3 a ha b hb
theorem vI5 (l:AC)(id:Int):List.Perm (oL l id) (id::l):=by
 have:=List.perm_middle (a:=id) (l₁:=l.takeWhile (fun x=>decide (x<id))) (l₂:=l.dropWhile (fun x=>decide (x<id)))
 rwa [List.takeWhile_append_dropWhile] at this
theorem gE.sub {n:Nat}{m m':List zE}{ids:AC}(h:gE n m ids)(hs:List.Sublist m' m):gE n m' ids:=
 ⟨List.Pairwise.sublist hs h.dist,by have:=hs.length_le;have:=h.len;omega,List.Pairwise.sublist hs h.sort,fun p hp=>h.may p (hs.subset hp),fun p hp=>h.time p (hs.subset hp),fun p hp=>h.were p (hs.subset hp),h.asc,h.pos,h.idl⟩
theorem gE.turn {n:Nat}{m:List zE}{ids:AC}(h:gE n m ids){x:Nat}(hx:x<m.length){p:zE}{m':List zE}(hp:List.Perm m' (p::yB m x))(hs:nK m')(h1:p.1=(m.getD x pd).1)
  (h2:yG n p) (h3:0≤p.2.2.2.2.2.1∧p.2.2.2.2.2.1≤p.2.2.2.2.2.2∧p.2.2.2.2.2.2≤1048576):gE n m' ids:=by
 have hc:=sR m x
 have hl:=mH hx
 have hd:qQ (p::yB m x):=by
  refine List.pairwise_cons.2 ⟨fun q hq=>?_,h.dist.cut x⟩
  rw[h1]
  have hd:=h.dist
  unfold qQ at hd
  rw[Io m x pd hx] at hd
  have Ix:=List.pairwise_append.1 hd
  have T5:=List.pairwise_cons.1 Ix.2.1
  unfold yB at hq
  rcases List.mem_append.1 hq with hq|hq
  ·exact fun e=>Ix.2.2 _ hq _ (List.mem_cons_self ..) e.symm
  ·exact T5.1 _ hq
 have hlen:=hp.length_eq
 rw[List.length_cons] at hlen
 refine⟨hd.perm hp,by have:=h.len;omega,hs,fun q hq=>?_,fun q hq=>?_,fun q hq=>?_,h.asc,h.pos,h.idl⟩
 all_goals rcases List.mem_cons.1 (hp.subset hq) with rfl|nF
 ·exact h2
 ·exact h.may q (hc.subset nF)
 ·exact h3
 ·exact h.time q (hc.subset nF)
 ·rw[h1];exact h.were _ (jV hx)
 ·exact h.were q (hc.subset nF)
theorem vQa {r:qP}{s:qD}(hr:jS r)(h:yD r s){who:Int}{f:jG}(h0:(gY r s who f).1=0):gE s.B.1.length (gY r s who f).2.1 (gY r s who f).2.2:=by
 have hw:=h.waits
 have hn:=h.n
 have ht:=h.tk
 unfold gY at h0⊢
 cases hc:decide (f.2.2.1≥0)&&decide (f.2.2.1≤r.1-1) with
 |false=>rw[hc] at h0;cases h0
 |true=>
 cases cJ:decide (f.2.2.2.2.1≥1)&&decide (f.2.2.2.2.1≤3) with
 |false=>rw[hc,cJ] at h0;cases h0
 |true=>
 cases cL:decide (lX r s.t (fk who f)=0) with
 |false=>rw[hc,cJ,cL] at h0;exact absurd h0 (di cL)
 |true=>
 cases dO:decide (f.2.1∈s.ids) with
 |true=>rw[hc,cJ,cL,dO] at h0;cases h0
 |false=>
 cases gU:decide (200≤s.ids.length) with
 |true=>rw[hc,cJ,cL,dO,gU] at h0;cases h0
 |false=>
 cases Cb:(vN s.m f.2.1).isSome with
 |true=>rw[hc,cJ,cL,dO,gU,Cb] at h0;cases h0
 |false=>
 cases Cc:decide (40≤s.m.length) with
 |true=>rw[hc,cJ,cL,dO,gU,Cb,Cc] at h0;cases h0
 |false=>
 show gE s.B.1.length (nE s.m (fk who f)) (oL s.ids f.2.1)
 have KQ:f.2.1∉s.ids:=di dO
 have hi:=di gU
 have hm:=di Cc
 have zz:=sC cL
 have U0:iQ r.1 s.t (fk who f)=true:=by
  unfold lX at zz
  cases hb:iQ r.1 s.t (fk who f) with
  |true=>rfl
  |false=>rw[hb] at zz;cases zz
 unfold iQ at U0
 simp only[aR,aN,Bool.not_eq_true',decide_eq_false_iff_not] at U0
 obtain⟨⟨p1,p2⟩,⟨p3,p4⟩,p5,p6,p7,p8,p9,sv,p11,p12,p13,p14⟩:=U0
 have vr:=UZ s.m (fk who f)
 have Nk:=vI5 s.ids f.2.1
 have hlen:=vr.length_eq
 have oz:=Nk.length_eq
 rw[List.length_cons] at hlen oz
 have bS:yG s.B.1.length (fk who f):=⟨p1,by omega,p3,by omega,p9,p6,p7,p8,sv⟩
 have eO:∀x,x∈s.ids→x∈oL s.ids f.2.1:=fun x hx=>Nk.symm.subset (List.mem_cons_of_mem _ hx)
 have I8:qQ (fk who f::s.m):=List.pairwise_cons.2 ⟨fun q hq e=>KQ (by have:=hw.were q hq;rw[←e] at this;exact this),hw.dist⟩
 refine⟨I8.perm vr,by omega,UX hw.sort _,fun q hq=>?_,fun q hq=>?_,fun q hq=>?_,vP1 hw.asc KQ,fun x hx=>?_,by omega⟩
 ·rcases List.mem_cons.1 (vr.subset hq) with rfl|nF
  ·exact bS
  ·exact hw.may q nF
 ·rcases List.mem_cons.1 (vr.subset hq) with rfl|nF
  ·exact⟨p11,p12,p14⟩
  ·exact hw.time q nF
 ·rcases List.mem_cons.1 (vr.subset hq) with rfl|nF
  ·exact Nk.symm.subset (List.mem_cons_self ..)
  ·exact eO _ (hw.were q nF)
 ·rcases List.mem_cons.1 (Nk.subset hx) with rfl|mr
  ·exact p5
  ·exact hw.pos x mr
theorem U1 {r:qP}{s:qD}(h:yD r s){who:Int}{f:jG}(h0:(j5 r s who f).1=0):gE s.B.1.length (j5 r s who f).2.1 s.ids:=by
 have hw:=h.waits
 unfold j5 at h0⊢
 cases hx:vN s.m f.2.1 with
 |none=>rw[hx] at h0;cases h0
 |some x=>
 rw[hx] at h0
 have cM:=(jz hx).1
 have eE:s.m.getD x pd∈s.m:=jV cM
 have hm:=hw.may _ eE
 have ht:=hw.time _ eE
 simp only at h0⊢
 cases hc:decide ((s.m.getD x pd).2.1=who) with
 |false=>rw[hc] at h0;cases h0
 |true=>
 rw[hc] at h0
 simp only[ay,aj] at h0⊢
 cases cJ:decide (f.1=2) with
 |true=>exact hw.sub (sR _ _)
 |false=>
 rw[cJ] at h0
 simp only[aj] at h0⊢
 cases cL:decide (f.1=4) with
 |true=>
  rw[cL] at h0
  simp only[ai] at h0⊢
  cases dO:decide (f.2.2.1≥1)&&decide (f.2.2.1≤3) with
  |false=>rw[dO] at h0;cases h0
  |true=>
  cases gU:decide (oQ r.2.2.1 r.2.2.2.1 s.t f.2.2.1=0) with
  |false=>rw[dO,gU] at h0;exact absurd h0 (di gU)
  |true=>
  simp only[aR,aN] at dO
  obtain⟨m1,m2,m3,m4,m5,m6,m7,m8,m9⟩:=hm
  exact hw.turn cM (UZ _ _) (UX (hw.sort.cut x) _) rfl ⟨m1,m2,m3,m4,m5,m6,m7,dO.1,dO.2⟩ ht
 |false=>
  rw[cL] at h0
  simp only[aj] at h0⊢
  cases dO:decide (f.2.2.1=0) with
  |true=>exact hw.turn cM (vTj _ _) (UY (hw.sort.cut x) _) rfl hm ht
  |false=>
   cases gU:decide (f.2.2.1=1) with
   |true=>exact hw.turn cM (UZ _ _) (UX (hw.sort.cut x) _) rfl hm ht
   |false=>rw[dO,gU] at h0;cases h0
def fm (r:qP):qD where
 t:=0
 B:=(List.replicate r.1.toNat (0,0,0),List.replicate r.1.toNat (List.replicate r.1.toNat (-1)),List.replicate r.1.toNat (-1),List.replicate r.1.toNat (List.replicate r.1.toNat 0))
 pr:=r.2.1.map Prod.fst
 ho:=List.replicate r.1.toNat (List.replicate r.2.1.length 0)
 m:=[]
 ids:=[]
 to:=0
 ov:=false
structure z9 (r:qP):Prop where
 ok:jS r
 inv:yD r (fm r)
 new:oS 1000 r=some (fm r).st
 cl:r.2.2.2.1≤20
 aa4:oS 20000 r=some (fm r).st
theorem Nl n:gE n [] [] where
 dist:=List.Pairwise.nil
 len:=by decide
 sort:=List.Pairwise.nil
 may:=by simp
 time:=by simp
 were:=by simp
 asc:=List.Pairwise.nil
 pos:=by simp
 idl:=by decide
def r0:qP:=(3,[(100,1000),(7,0)],12,20,4)
def r1:qP:=(4,[(100,1000),(7,0)],12,20,100)
def r2:qP:=(3,[],20,20,4)
def r3:qP:=(3,[(100,1000),(7,0)],0,6,1)
theorem U2 {pr h}(h1:pr=[100,7])(h2:h=[0,0]):j0 [(100,1000),(7,0)] pr h:=by
 subst h1;subst h2
 exact⟨by decide,rfl,rfl,by decide,by decide,by decide⟩
theorem Nm {B}(h:lQ B.1 B.2.1 B.2.2.1 B.2.2.2=true):qU B:=Tm.1 h
theorem U3:z9 r0:=⟨⟨by decide,by decide,by decide,by decide,by decide,by decide,by decide⟩,
  { tk:=by decide,bk:=Nm (by rfl),n:=rfl,hol:=rfl,
    laid:=fun i hi=>by
      have e:∀i,i<(fm r0).B.1.length→(fm r0).ho.getD i []=[0,0]:=by decide
      exact U2 rfl (e i hi)
    cred:=by decide,most:=by decide,waits:=Nl _,sum:=by decide,tot:=by decide,over:=by decide,none:=nofun},by rfl,by decide,by rfl⟩
theorem vHc:z9 r1:=⟨⟨by decide,by decide,by decide,by decide,by decide,by decide,by decide⟩,
  { tk:=by decide,bk:=Nm (by rfl),n:=rfl,hol:=rfl,
    laid:=fun i hi=>by
      have e:∀i,i<(fm r1).B.1.length→(fm r1).ho.getD i []=[0,0]:=by decide
      exact U2 rfl (e i hi)
    cred:=by decide,most:=by decide,waits:=Nl _,sum:=by decide,tot:=by decide,over:=by decide,none:=nofun},by rfl,by decide,by rfl⟩
theorem vP9:z9 r2:=⟨⟨by decide,by decide,by decide,by decide,by decide,by decide,by decide⟩,
  { tk:=by decide,bk:=Nm (by rfl),n:=rfl,hol:=rfl,
    laid:=fun i hi=>by
      have e:∀i,i<(fm r2).B.1.length→(fm r2).ho.getD i []=[]:=by decide
      rw[e i hi]
      exact⟨by decide,rfl,rfl,by decide,by decide,by decide⟩
    cred:=by decide,most:=by decide,waits:=Nl _,sum:=by decide,tot:=by decide,over:=by decide,none:=nofun},by rfl,by decide,by rfl⟩
theorem vQ9:z9 r3:=⟨⟨by decide,by decide,by decide,by decide,by decide,by decide,by decide⟩,
  { tk:=by decide,bk:=Nm (by rfl),n:=rfl,hol:=rfl,
    laid:=fun i hi=>by
      have e:∀i,i<(fm r3).B.1.length→(fm r3).ho.getD i []=[0,0]:=by decide
      exact U2 rfl (e i hi)
    cred:=by decide,most:=by decide,waits:=Nl _,sum:=by decide,tot:=by decide,over:=by decide,none:=nofun},by rfl,by decide,by rfl⟩
end Go.Ab.Gi
namespace Go.Ab.Gi
open Go.Ab Go.RowKit
theorem vCg {k:Nat}{o:List lO}(hk:o.length<k)(ho:o.length≤1000000):∃b,EP k o=some b∧(b=false↔∀x∈o,x.2.1≠16):=by
 obtain⟨e,h⟩:∃e,e=qH (fun i=> !decide ((o.getD i (0,0,0,0,0,0,0,0)).2.1=16)) o.length 0:=⟨_,rfl⟩
 have key:∀(c:Nat) (n i:Nat),i+c=o.length→c<n→∃x,I9 k n o (o.length:Int) (i:Int)=some x∧((∃j:Nat,x=.inr (j:Int)∧∃y∈o,y.2.1=16)∨(x=.inl ()∧∀j,i≤j→j<o.length→(o.getD j (0,0,0,0,0,0,0,0)).2.1≠16)):=by
  intro c
  induction c with
  |zero=>
   intro n i h1 h2
   obtain⟨n,rfl⟩:∃m,n=m+1:=⟨n-1,by omega⟩
   refine⟨.inl (),?_,.inr ⟨rfl,fun j h3 h4=>by omega⟩⟩
   show vt k _ o _ _=_
   unfold vt
   rw[ab (by omega)]
   rfl
  |succ c ih=>
   intro n i h1 h2
   obtain⟨n,rfl⟩:∃m,n=m+1:=⟨n-1,by omega⟩
   have hi:i<o.length:=by omega
   by_cases e:(o.getD i (0,0,0,0,0,0,0,0)).2.1=16
   ·refine⟨.inr (i:Int),?_,.inl ⟨i,rfl,_,jV hi,e⟩⟩
    show vt k _ o _ _=_
    unfold vt Nn
    rw[aa (by omega),iM (by omega) (by omega),aq,aa e]
    rfl
   ·obtain⟨x,g1,g2⟩:=ih n (i+1) (by omega) (by omega)
    refine⟨x,?_,?_⟩
    ·show vt k _ o _ _=_
     unfold vt Nn
     rw[aa (by omega),iM (by omega) (by omega),aq,ab e,qK hi (by omega)]
     exact g1
    ·rcases g2 with g|⟨rfl,g⟩
     ·exact .inl g
     ·refine .inr ⟨rfl,fun j h3 h4=>?_⟩
      rcases Nat.lt_or_ge i j with h|h
      ·exact g j h h4
      ·have:j=i:=by omega
       rw[this];exact e
 obtain⟨x,g1,g2⟩:=key o.length k 0 (by omega) hk
 unfold EP U4 U5
 have g1:I9 k k o (o.length:Int) 0=some x:=g1
 rw[g1]
 rcases g2 with⟨j,rfl,y,hy,e⟩|⟨rfl,g⟩
 ·refine⟨true,?_,fun e'=>(by cases e'),fun h'=>absurd e (h' y hy)⟩
  show some (decide ((j:Int)≥0))=_
  rw[aa (by omega)]
 ·refine⟨false,rfl,fun _ y hy=>?_,fun _=>rfl⟩
  obtain⟨j,hj,e⟩:=List.mem_iff_getElem.1 hy
  have:=g j (Nat.zero_le _) hj
  rw[List.getD_eq_getElem?_getD,List.getElem?_eq_getElem hj] at this
  rw[←e]
  exact this
theorem yDu (k n:Nat)(z):Au k (n+1) z=yl k (Au k n) z:=rfl
def oT (m:yk×Int)(x:Bool)(a:Int):List lO:=bif decide (m.2=0)&& !x then[(a,m.1)] else[]
section
variable {k:Nat} {rec:Hu} {ev n i:Int} {bG:List Cq} {R:S2} {c c2:LD} {D:kq} {G:sF} {L:qb} {outs:List (List lO)} {asked:List lO}
theorem U6 {a:Int}{b:AC}{e:Int×Int}{o:List lO}{G':sF}{L':qb}{D':kq}{m:yk×Int}{x:Bool}(hi:i<n)(h0:0≤i)(hl:i<bG.length)(ha:bG.getD i.toNat d0=(1,a,b,e))
  (hdo:I3 k G L D a b=some (o,G',L',D')) (hm:nA k b=some m) (hx:EP k o=some x) (hd:zx k G' L' D'=some (false,G',L',D')) (ho:outs.length≤1000000) (hq:asked.length≤1000000):
  yl k rec (.inl (zI ev bG n i R c D G L c2 outs asked))=rec (.inl (zI ev bG n (zA (i+1)) R c D' G' L' c2 (outs++[o]) (asked++oT m x a))):=by
 have r1:zO (asked.length+1) 64=true:=qT (by omega) (by omega)
 have hz:((D.1,D.2.1,D.2.2.1,D.2.2.2.1,D.2.2.2.2):kq)=D:=rfl
 have hz':((D'.1,D'.2.1,D'.2.2.1,D'.2.2.2.1,D'.2.2.2.2):kq)=D':=rfl
 unfold yl oT
 dsimp only[zI]
 rw[aa hi,ai,iM h0 hl,ai]
 rw[show List.getD bG i.toNat (0,0,[],0,0)=(1,a,b,e) from ha]
 dsimp only
 rw[aa rfl,ai,hdo,ae,hm,ae]
 cases decide (m.2=0) with
 |false=>
  simp only[aj,Bool.false_and,List.append_nil]
  rw[LF ho,ai]
 |true=>
  simp only[ai,Bool.true_and]
  rw[hx,ae]
  cases x with
  |true=>
   simp only[ay,aj,List.append_nil]
   rw[LF ho,ai]
  |false=>
   simp only[bx,ai]
   cases decide ((o.length:Int)>0) with
   |true=>
    simp only[ai]
    rw[r1,ai,LF ho,ai]
   |false=>
    simp only[aj]
    rw[hd,ae]
    simp only[bx,ai]
    rw[r1,ai,LF ho,ai]
end
def No:kq:=(200000,[],0,[],0,0,0,false,false,0)
def vu (k:Nat)(r:qP):kq:=match qw k r No 1 with
 |some (.inl x)=>x.2.1
 |_=>No
structure Np (k:Nat) (r:qP):Prop where
 new:U7 k 200000=some (.inl No)
 is:∀ev,1≤ev→ev≤1000→qw k r No ev=some (.inl (0,vu k r,j9 r (fm r) ev,(0,1,0,false)))
 calm:(!(vu k r).2.2.2.2.2.2.2.1&& !(vu k r).2.2.2.2.2.2.2.2.1&&decide ((vu k r).1=200000)&&decide ((vu k r).2.1.length≤20000)&&decide ((vu k r).2.2.2.1.length≤20000))=true
theorem Np.roomy {k:Nat}{r:qP}(h:Np k r)(w:z9 r)(ev:Int):oR r ev 0 (fm r) (j9 r (fm r) ev) (0,1,0,false) (vu k r):=by
 have c:=h.calm
 simp only[aR,Bool.not_eq_true',aN] at c
 obtain⟨⟨⟨⟨c1,c2⟩,c3⟩,c4⟩,c5⟩:=c
 exact⟨rfl,w.inv,⟨c1,c2,by omega,by omega,by omega⟩,c3,c4,c5,⟨.inl rfl,by decide,by decide,rfl⟩⟩
theorem vJy {k:Nat}(hk:1000≤k){r:qP}(w:z9 r)(n9:Np k r)(hd:UK k r)(hq:∀s c u o e,ky k r (qD.st s) c=some (u,o,e)→c.2.1=9→u=s.st){ev:Int}(aT:1≤ev∧ev≤1000)
  (bG:List Cq) (hl:bG.length≤200) (Ja:∀a∈bG,a.1=1) (Jb:∀a∈bG,∃m,nA k a.2.2.1=some m) (U8:∀s,yD r s→∀c u o e,ky k r (qD.st s) c=some (u,o,e)→o.length≤300)
  (I:Nat→qD→List (List lO)→List lO→Prop) (h0:I 0 (fm r) [] [])
  (hI:∀i s os q t o m x,i<bG.length→I i s os q→yD r s→nA k (bG.getD i d0).2.2.1=some m→I2 k r s (bG.getD i d0).2.1 m t o→(x=false↔∀y∈o,y.2.1≠16)→I (i+1) t (os++[o]) (q++oT m x (bG.getD i d0).2.1)):
  ∃s os q,Av k r 200000 ev bG=some (os,q,s.t,s.B.1,s.B.2.1,s.B.2.2.1,s.B.2.2.2,s.pr,s.ho,s.m,s.ids,s.to,s.ov,true)∧yD r s∧I bG.length s os q:=by
 obtain⟨x,h1,h2⟩:=vC (L:=fun n i (x:qD×sF×qb×kq×List (List lO)×List lO)=>Au k n (.inl (zI ev bG (bG.length:Int) i r (0,0,false,false) x.2.2.2.1 x.2.1 x.2.2.1 (0,0,false,false) x.2.2.2.2.1 x.2.2.2.2.2))) (N:=bG.length)
  (fun x=>.inr ((0,0,false,false),x.2.1,x.2.2.1,(x.2.2.2.1.1,x.2.2.2.1.2.2.1,x.2.2.2.1.2.2.2.2),x.2.2.2.1.2.1,x.2.2.2.1.2.2.2.1,(0,0,false,false),x.2.2.2.2.1,x.2.2.2.2.2))
  (fun i x => oR r ev i x.1 x.2.1 x.2.2.1 x.2.2.2.1 ∧ I i x.1 x.2.2.2.2.1 x.2.2.2.2.2 ∧ x.2.2.2.2.1.length = i ∧ x.2.2.2.2.2.length ≤ i) (fun n x _=>by
  exact (yDu k n _).trans (vFr (by omega))) (fun n i x hi hx=>by
  obtain⟨s,G,L,D,os,q⟩:=x
  obtain⟨hR,U9,Va,hql⟩:=hx
  have hR:oR r ev i s G L D:=hR
  have Va:os.length=i:=Va
  have hql:q.length≤i:=hql
  have eE:=jV (d:=d0) hi
  obtain⟨m,hm⟩:=Jb _ eE
  have zj:=Ja _ eE
  obtain⟨a,ha⟩:∃a,bG.getD i d0=a:=⟨_,rfl⟩
  rw[ha] at hm zj
  obtain⟨t,o,L',D',g1,g2,g3⟩:=UL hk w.ok hd hq (N:=i) (by omega) hR (a:=a.2.1) (b:=a.2.2.1) hm
  have hol:o.length≤300:=by
   rcases g3 with⟨_,_,rfl⟩|⟨_,u,p,e,p1,⟨_,_,rfl⟩|⟨_,_,rfl⟩⟩
   ·simp
   ·simp
   ·exact U8 s hR.inv _ _ _ _ p1
  obtain⟨x,x1,x2⟩:=vCg (k:=k) (o:=o) (by omega) (by omega)
  have nf:bG.getD ((i:Nat):Int).toNat d0=(1,a.2.1,a.2.2.1,a.2.2.2):=by
   rw[aq,ha,←zj]
  have hIn:=hI i s os q t o m x hi U9 hR.inv (by rw[ha];exact hm) (by rw[ha];exact g3) x2
  rw[ha] at hIn
  refine⟨(t,j9 r t ev,L',D',os++[o],q++oT m x a.2.1),?_,g2,hIn,?_,?_⟩
  ·refine(yDu k n _).trans ?_
   refine(U6 (k:=k) (n:=(bG.length:Int)) (i:=(i:Int)) (by omega) (by omega) (by omega) nf g1 hm x1 rfl (by omega) (by omega)).trans ?_
   rw[qK hi (by omega)]
  ·show(os++[o]).length=i+1
   rw[List.length_append,Va];rfl
  ·show(q++oT m x a.2.1).length≤i+1
   rw[List.length_append]
   unfold oT
   cases(decide (m.2=0)&& !x)
   ·simp;omega
   ·simp;omega) (n:=k) (s:=(fm r,j9 r (fm r) ev,(0,1,0,false),vu k r,[],[])) (by omega) ⟨n9.roomy w ev,h0,rfl,Nat.le_refl 0⟩
 obtain⟨s,G,L,D,os,q⟩:=x
 obtain⟨hR,U9,_,_⟩:=h2
 have hg:G=j9 r s ev:=hR.g
 subst hg
 refine⟨s,os,q,?_,hR.inv,U9⟩
 unfold Av
 rw[n9.new,ae]
 dsimp only
 rw[n9.is ev aT.1 aT.2,ae]
 dsimp only
 rw[aa rfl,ay,aj]
 refine(congrArg (fun z=>Option.bind z _) h1).trans ?_
 rfl
end Go.Ab.Gi
namespace Go.Ab.Gi
open Go.Ab Go.RowKit
theorem Vb {k}{r:qP}{s u:qq}{c:j8}{o:List yA}{e}(h:ky k r s c=some (u,o,e))(h9:c.2.1=9):u=s:=by
 unfold ky at h
 cases hm:tj k r s c with
 |none=>simp_all
 |some x=>
  cases hx:decide (x=0) with
  |false=>
   simp_all
  |true=>
   cases hq:Jc k s c.1 with
   |none=>simp_all
   |some y=>
    simp_all
theorem vCl {s t:qD}(h:s.st=t.st):s=t:=by
 obtain⟨a,⟨b1,b2,b3,b4⟩,c,d,e,f,g,i⟩:=s
 unfold qD.st at h
 simp_all
theorem Vc x (s:Nat)(h:s≤62):shr .i64 x (s:Int)=x/2^s:=by
 have e:shr .i64 x (s:Int)=x.fdiv (2^(min (s:Int).toNat 64)):=rfl
 grind
theorem qx x:shr .i64 x 16=x/65536:=Vc x 16 (by decide)
theorem yEo x:shr .i64 x 32=x/4294967296:=Vc x 32 (by decide)
theorem yI2 x:shr .i64 x 48=x/281474976710656:=Vc x 48 (by decide)
theorem vW7 x:shr .i64 x 0=x:=by grind
theorem tm x:yJ .i64 x 65535=x%65536:=vK0 16 (by decide) x
theorem Vd m (hm:m≤62){x y}(hx:0≤x)(hy:0≤y∧y<2^m)(hs:x*2^m+y<9223372036854775808):wO .i64 (x*2^m) y=x*2^m+y:=by
 obtain⟨a,rfl⟩:=Int.eq_ofNat_of_zero_le hx
 obtain⟨b,rfl⟩:=Int.eq_ofNat_of_zero_le hy.1
 have hp:(2:Int)^m=((2^m:Nat):Int):=by simp
 rw[hp] at hs hy⊢
 have e1:(a:Int)*((2^m:Nat):Int)=((a*2^m:Nat):Int):=by simp
 rw[e1] at hs⊢
 have hb:b<2^m:=by omega
 unfold wO rC
 have Jd:IntKind.i64.bits=64:=rfl
 have e2:(BitVec.ofInt IntKind.i64.bits ((a*2^m:Nat):Int)|||BitVec.ofInt IntKind.i64.bits (b:Int)).toNat=a*2^m+b:=by
  rw[BitVec.toNat_or,BitVec.ofInt_natCast,BitVec.ofInt_natCast,BitVec.toNat_ofNat,BitVec.toNat_ofNat,Jd,Nat.mod_eq_of_lt (by omega),Nat.mod_eq_of_lt (by omega)]
  have:=Nat.shiftLeft_add_eq_or_of_lt hb a
  rw[Nat.shiftLeft_eq] at this
  exact this.symm
 rw[e2]
 exact zQ (by omega) (by omega)
def V9 (l0 l1 l2 l3 l4 l5 l6 l7 l8:Int):Int:=l0+65536*(l1+65536*(l2+65536*(l3+65536*(l4+65536*(l5+65536*(l6+65536*(l7+65536*l8)))))))
theorem vT1 (l0 l1 l2 l3 l4 l5 l6 l7 l8:Int){c1 c2 c3 c4 c5 c6 c7 c8:Int}(h1:c1=zA (l1+shr .i64 l0 16))(h2:c2=zA (l2+shr .i64 c1 16))(h3:c3=zA (l3+shr .i64 c2 16))(h4:c4=zA (l4+shr .i64 c3 16))(h5:c5=zA (l5+shr .i64 c4 16))(h6:c6=zA (l6+shr .i64 c5 16))(h7:c7=zA (l7+shr .i64 c6 16))(h8:c8=zA (l8+shr .i64 c7 16)):
  ER 1000 [l0,l1,l2,l3,l4,l5,l6,l7,l8]=some [yJ .i64 l0 65535,yJ .i64 c1 65535,yJ .i64 c2 65535,yJ .i64 c3 65535,yJ .i64 c4 65535,yJ .i64 c5 65535,yJ .i64 c6 65535,yJ .i64 c7 65535,c8]:=by
 subst h8;subst h7;subst h6;subst h5;subst h4;subst h3;subst h2;subst h1
 kernel_rfl
theorem yTv {l0 l1 l2 l3 l4 l5 l6 l7 l8:Int}(g0:0≤l0∧l0≤1099511627776)(g1:0≤l1∧l1≤1099511627776)(g2:0≤l2∧l2≤1099511627776)(g3:0≤l3∧l3≤1099511627776)(g4:0≤l4∧l4≤1099511627776)(g5:0≤l5∧l5≤1099511627776)(g6:0≤l6∧l6≤1099511627776)(g7:0≤l7∧l7≤1099511627776)(g8:0≤l8∧l8≤1099511627776):∃d0 d1 d2 d3 d4 d5 d6 d7 d8,
  ER 1000 [l0,l1,l2,l3,l4,l5,l6,l7,l8]=some [d0,d1,d2,d3,d4,d5,d6,d7,d8]∧V9 d0 d1 d2 d3 d4 d5 d6 d7 d8=V9 l0 l1 l2 l3 l4 l5 l6 l7 l8∧(0≤d0∧d0<65536)∧(0≤d1∧d1<65536)∧(0≤d2∧d2<65536)∧(0≤d3∧d3<65536)∧(0≤d4∧d4<65536)∧(0≤d5∧d5<65536)∧(0≤d6∧d6<65536)∧(0≤d7∧d7<65536)∧0≤d8:=by
 obtain⟨c1,ot⟩:∃c,c=l1+l0/65536:=⟨_,rfl⟩
 have b1:0≤c1∧c1≤2199023255552:=by omega
 have h1:c1=zA (l1+shr .i64 l0 16):=by rw[qx,←ot,zQ (by omega) (by omega)]
 obtain⟨c2,cJ⟩:∃c,c=l2+c1/65536:=⟨_,rfl⟩
 have b2:0≤c2∧c2≤2199023255552:=by omega
 have h2:c2=zA (l2+shr .i64 c1 16):=by rw[qx,←cJ,zQ (by omega) (by omega)]
 obtain⟨c3,cL⟩:∃c,c=l3+c2/65536:=⟨_,rfl⟩
 have b3:0≤c3∧c3≤2199023255552:=by omega
 have h3:c3=zA (l3+shr .i64 c2 16):=by rw[qx,←cL,zQ (by omega) (by omega)]
 obtain⟨c4,dO⟩:∃c,c=l4+c3/65536:=⟨_,rfl⟩
 have b4:0≤c4∧c4≤2199023255552:=by omega
 have h4:c4=zA (l4+shr .i64 c3 16):=by rw[qx,←dO,zQ (by omega) (by omega)]
 obtain⟨c5,gU⟩:∃c,c=l5+c4/65536:=⟨_,rfl⟩
 have b5:0≤c5∧c5≤2199023255552:=by omega
 have h5:c5=zA (l5+shr .i64 c4 16):=by rw[qx,←gU,zQ (by omega) (by omega)]
 obtain⟨c6,Cb⟩:∃c,c=l6+c5/65536:=⟨_,rfl⟩
 have b6:0≤c6∧c6≤2199023255552:=by omega
 have h6:c6=zA (l6+shr .i64 c5 16):=by rw[qx,←Cb,zQ (by omega) (by omega)]
 obtain⟨c7,Cc⟩:∃c,c=l7+c6/65536:=⟨_,rfl⟩
 have b7:0≤c7∧c7≤2199023255552:=by omega
 have h7:c7=zA (l7+shr .i64 c6 16):=by rw[qx,←Cc,zQ (by omega) (by omega)]
 obtain⟨c8,hc8⟩:∃c,c=l8+c7/65536:=⟨_,rfl⟩
 have b8:0≤c8∧c8≤2199023255552:=by omega
 have h8:c8=zA (l8+shr .i64 c7 16):=by rw[qx,←hc8,zQ (by omega) (by omega)]
 have run:=vT1 l0 l1 l2 l3 l4 l5 l6 l7 l8 h1 h2 h3 h4 h5 h6 h7 h8
 simp only[tm] at run
 refine⟨_,_,_,_,_,_,_,_,_,run,?_,⟨Int.emod_nonneg _ (by decide),Int.emod_lt_of_pos _ (by decide)⟩,⟨Int.emod_nonneg _ (by decide),Int.emod_lt_of_pos _ (by decide)⟩,⟨Int.emod_nonneg _ (by decide),Int.emod_lt_of_pos _ (by decide)⟩,⟨Int.emod_nonneg _ (by decide),Int.emod_lt_of_pos _ (by decide)⟩,⟨Int.emod_nonneg _ (by decide),Int.emod_lt_of_pos _ (by decide)⟩,⟨Int.emod_nonneg _ (by decide),Int.emod_lt_of_pos _ (by decide)⟩,⟨Int.emod_nonneg _ (by decide),Int.emod_lt_of_pos _ (by decide)⟩,⟨Int.emod_nonneg _ (by decide),Int.emod_lt_of_pos _ (by decide)⟩,b8.1⟩
 unfold V9
 clear run h1 h2 h3 h4 h5 h6 h7 h8
 omega
theorem vYf l0 l1 l2 l3 l4 l5 l6 l7 l8 n:Nq 1000 [l0,l1,l2,l3,l4,l5,l6,l7,l8] n=ER 1000 [zA (l0*n),zA (l1*n),zA (l2*n),zA (l3*n),zA (l4*n),zA (l5*n),zA (l6*n),zA (l7*n),zA (l8*n)]:=by
 have e:Nr 1000 1000 n 0 [l0,l1,l2,l3,l4,l5,l6,l7,l8]=some [zA (l0*n),zA (l1*n),zA (l2*n),zA (l3*n),zA (l4*n),zA (l5*n),zA (l6*n),zA (l7*n),zA (l8*n)]:=by kernel_rfl
 unfold Nq
 simp_all
theorem vX2 l0 l1 l2 l3 l4 l5 l6 l7 l8 n:V9 l0 l1 l2 l3 l4 l5 l6 l7 l8*n=V9 (l0*n) (l1*n) (l2*n) (l3*n) (l4*n) (l5*n) (l6*n) (l7*n) (l8*n):=by
 unfold V9
 grind
theorem vYh l0 l1 l2 l3 l4 l5 l6 l7 l8 {x0 x1 x2 x3 x4 x5 x6 x7 x8 r0 r1 r2 r3 r4 r5 r6 r7 r8 r9}(h8:x8=zA (shl .i64 r9 16+l8))(h7:x7=zA (shl .i64 r8 16+l7))(h6:x6=zA (shl .i64 r7 16+l6))(h5:x5=zA (shl .i64 r6 16+l5))(h4:x4=zA (shl .i64 r5 16+l4))(h3:x3=zA (shl .i64 r4 16+l3))(h2:x2=zA (shl .i64 r3 16+l2))(h1:x1=zA (shl .i64 r2 16+l1))(h0:x0=zA (shl .i64 r1 16+l0))(h9:r9=0)(k8:r8=Int.tmod x8 10000)(k7:r7=Int.tmod x7 10000)(k6:r6=Int.tmod x6 10000)(k5:r5=Int.tmod x5 10000)(k4:r4=Int.tmod x4 10000)(k3:r3=Int.tmod x3 10000)(k2:r2=Int.tmod x2 10000)(k1:r1=Int.tmod x1 10000)(k0:r0=Int.tmod x0 10000):
  Je 1000 1000 10000 0 8 [l0,l1,l2,l3,l4,l5,l6,l7,l8]=some [zA (Int.tdiv x0 10000),zA (Int.tdiv x1 10000),zA (Int.tdiv x2 10000),zA (Int.tdiv x3 10000),zA (Int.tdiv x4 10000),zA (Int.tdiv x5 10000),zA (Int.tdiv x6 10000),zA (Int.tdiv x7 10000),zA (Int.tdiv x8 10000)]:=by
 subst h0;subst k1;subst h1;subst k2;subst h2;subst k3;subst h3;subst k4;subst h4;subst k5;subst h5;subst k6;subst h6;subst k7;subst h7;subst k8;subst h8;subst h9
 kernel_rfl
theorem tn (x:Int):shl .i64 x 16=zA (x*65536):=rfl
theorem vOk (q0 q1 q2 q3 : Int) (h : decide (q3 ≥ 32768) = false) : ((ES 1000 1000 4 [q0,q1,q2,q3,0,0,0,0,0]).bind fun z1=>
 match z1 with
 | .inl z2 => bif zC 3 z2.length then (bif decide ((z2.getD 3 0)≥32768) then some ((0:Int),false)
   else bif zC 3 z2.length then (bif zC 2 z2.length then (bif zC 1 z2.length then (bif zC 0 z2.length then some ((wO .i64 (wO .i64 (wO .i64 (shl .i64 (z2.getD 3 0) 48) (shl .i64 (z2.getD 2 0) 32)) (shl .i64 (z2.getD 1 0) 16)) (z2.getD 0 0)),true)
      else none)
     else none)
    else none)
   else none)
  else none
 |.inr z3=>some (z3.1,z3.2))=some (wO .i64 (wO .i64 (wO .i64 (shl .i64 q3 48) (shl .i64 q2 32)) (shl .i64 q1 16)) q0,true):=by
  have e:ES 1000 1000 4 [q0,q1,q2,q3,0,0,0,0,0]=some (.inl [q0,q1,q2,q3,0,0,0,0,0]):=by kernel_rfl
  rw[e]
  simp only[ae]
  have e3:([q0,q1,q2,q3,0,0,0,0,0]:AC).getD 3 0=q3:=rfl
  rw[e3,h]
  rfl
theorem vHu {q0 q1 q2 q3:Int}(h0:0≤q0∧q0<65536)(h1:0≤q1∧q1<65536)(h2:0≤q2∧q2<65536)(h3:0≤q3∧q3<32768):
  wO .i64 (wO .i64 (wO .i64 (shl .i64 q3 48) (shl .i64 q2 32)) (shl .i64 q1 16)) q0=q0+65536*(q1+65536*(q2+65536*q3)):=by
 have s3:shl .i64 q3 48=zA (q3*281474976710656):=rfl
 have s2:shl .i64 q2 32=zA (q2*4294967296):=rfl
 have s1:shl .i64 q1 16=zA (q1*65536):=rfl
 rw[s3,s2,s1,zQ (x:=q3*281474976710656) (by omega) (by omega),zQ (x:=q2*4294967296) (by omega) (by omega),zQ (x:=q1*65536) (by omega) (by omega)]
 have b1:=Vd 48 (by decide) (x:=q3) (y:=q2*4294967296) h3.1 (by have:(2:Int)^48=281474976710656:=rfl;rw[this];omega) (by have:(2:Int)^48=281474976710656:=rfl;rw[this];omega)
 have p48:(2:Int)^48=281474976710656:=rfl
 rw[p48] at b1
 rw[b1]
 have e1:q3*281474976710656+q2*4294967296=(q3*65536+q2)*4294967296:=by omega
 have b2:=Vd 32 (by decide) (x:=q3*65536+q2) (y:=q1*65536) (by omega) (by have:(2:Int)^32=4294967296:=rfl;rw[this];omega) (by have:(2:Int)^32=4294967296:=rfl;rw[this];omega)
 have p32:(2:Int)^32=4294967296:=rfl
 rw[p32] at b2
 rw[e1,b2]
 have e2:(q3*65536+q2)*4294967296+q1*65536=((q3*65536+q2)*65536+q1)*65536:=by omega
 have b3:=Vd 16 (by decide) (x:=(q3*65536+q2)*65536+q1) (y:=q0) (by omega) (by have:(2:Int)^16=65536:=rfl;rw[this];omega) (by have:(2:Int)^16=65536:=rfl;rw[this];omega)
 have p16:(2:Int)^16=65536:=rfl
 rw[p16] at b3
 rw[e2,b3]
 omega
theorem Ve {l0 l1 l2 l3 l4 l5 l6 l7 l8:Int}(g0:0≤l0∧l0<65536)(g1:0≤l1∧l1<65536)(g2:0≤l2∧l2<65536)(g3:0≤l3∧l3<65536)(g4:0≤l4∧l4<65536)(g5:0≤l5∧l5<65536)(g6:0≤l6∧l6<65536)(g7:0≤l7∧l7<65536)(g8:0≤l8∧l8≤0)(hV:V9 l0 l1 l2 l3 l4 l5 l6 l7 l8/10000≤1152921504606846976):Ns 1000 [l0,l1,l2,l3,l4,l5,l6,l7,l8] 10000=some (V9 l0 l1 l2 l3 l4 l5 l6 l7 l8/10000,true):=by
  obtain⟨r9,h9⟩:∃r:Int,r=0:=⟨_,rfl⟩
  obtain⟨x8,hx8⟩:∃x,x=r9*65536+l8:=⟨_,rfl⟩
  obtain⟨r8,hr8⟩:∃r,r=x8%10000:=⟨_,rfl⟩
  obtain⟨q8,hq8⟩:∃q,q=x8/10000:=⟨_,rfl⟩
  have v8:x8=10000*q8+r8∧0≤r8∧r8<10000∧0≤x8∧x8<655360000:=by omega
  have h8:x8=zA (shl .i64 r9 16+l8):=by rw[tn,zQ (x:=r9*65536) (by omega) (by omega),←hx8,zQ (by omega) (by omega)]
  have k8:r8=Int.tmod x8 10000:=by rw[Int.tmod_eq_emod_of_nonneg (by omega)];exact hr8
  have t8:zA (Int.tdiv x8 10000)=q8:=by rw[Int.tdiv_eq_ediv_of_nonneg (by omega),←hq8,zQ (by omega) (by omega)]
  obtain⟨x7,hx7⟩:∃x,x=r8*65536+l7:=⟨_,rfl⟩
  obtain⟨r7,hr7⟩:∃r,r=x7%10000:=⟨_,rfl⟩
  obtain⟨q7,hq7⟩:∃q,q=x7/10000:=⟨_,rfl⟩
  have v7:x7=10000*q7+r7∧0≤r7∧r7<10000∧0≤x7∧x7<655360000:=by omega
  have h7:x7=zA (shl .i64 r8 16+l7):=by rw[tn,zQ (x:=r8*65536) (by omega) (by omega),←hx7,zQ (by omega) (by omega)]
  have k7:r7=Int.tmod x7 10000:=by rw[Int.tmod_eq_emod_of_nonneg (by omega)];exact hr7
  have t7:zA (Int.tdiv x7 10000)=q7:=by rw[Int.tdiv_eq_ediv_of_nonneg (by omega),←hq7,zQ (by omega) (by omega)]
  obtain⟨x6,Lm⟩:∃x,x=r7*65536+l6:=⟨_,rfl⟩
  obtain⟨r6,hr6⟩:∃r,r=x6%10000:=⟨_,rfl⟩
  obtain⟨q6,hq6⟩:∃q,q=x6/10000:=⟨_,rfl⟩
  have v6:x6=10000*q6+r6∧0≤r6∧r6<10000∧0≤x6∧x6<655360000:=by omega
  have h6:x6=zA (shl .i64 r7 16+l6):=by rw[tn,zQ (x:=r7*65536) (by omega) (by omega),←Lm,zQ (by omega) (by omega)]
  have k6:r6=Int.tmod x6 10000:=by rw[Int.tmod_eq_emod_of_nonneg (by omega)];exact hr6
  have t6:zA (Int.tdiv x6 10000)=q6:=by rw[Int.tdiv_eq_ediv_of_nonneg (by omega),←hq6,zQ (by omega) (by omega)]
  obtain⟨x5,hx5⟩:∃x,x=r6*65536+l5:=⟨_,rfl⟩
  obtain⟨r5,hr5⟩:∃r,r=x5%10000:=⟨_,rfl⟩
  obtain⟨q5,hq5⟩:∃q,q=x5/10000:=⟨_,rfl⟩
  have v5:x5=10000*q5+r5∧0≤r5∧r5<10000∧0≤x5∧x5<655360000:=by omega
  have h5:x5=zA (shl .i64 r6 16+l5):=by rw[tn,zQ (x:=r6*65536) (by omega) (by omega),←hx5,zQ (by omega) (by omega)]
  have k5:r5=Int.tmod x5 10000:=by rw[Int.tmod_eq_emod_of_nonneg (by omega)];exact hr5
  have t5:zA (Int.tdiv x5 10000)=q5:=by rw[Int.tdiv_eq_ediv_of_nonneg (by omega),←hq5,zQ (by omega) (by omega)]
  obtain⟨x4,hx4⟩:∃x,x=r5*65536+l4:=⟨_,rfl⟩
  obtain⟨r4,hr4⟩:∃r,r=x4%10000:=⟨_,rfl⟩
  obtain⟨q4,hq4⟩:∃q,q=x4/10000:=⟨_,rfl⟩
  have v4:x4=10000*q4+r4∧0≤r4∧r4<10000∧0≤x4∧x4<655360000:=by omega
  have h4:x4=zA (shl .i64 r5 16+l4):=by rw[tn,zQ (x:=r5*65536) (by omega) (by omega),←hx4,zQ (by omega) (by omega)]
  have k4:r4=Int.tmod x4 10000:=by rw[Int.tmod_eq_emod_of_nonneg (by omega)];exact hr4
  have t4:zA (Int.tdiv x4 10000)=q4:=by rw[Int.tdiv_eq_ediv_of_nonneg (by omega),←hq4,zQ (by omega) (by omega)]
  obtain⟨x3,Vf⟩:∃x,x=r4*65536+l3:=⟨_,rfl⟩
  obtain⟨r3,hr3⟩:∃r,r=x3%10000:=⟨_,rfl⟩
  obtain⟨q3,hq3⟩:∃q,q=x3/10000:=⟨_,rfl⟩
  have v3:x3=10000*q3+r3∧0≤r3∧r3<10000∧0≤x3∧x3<655360000:=by omega
  have h3:x3=zA (shl .i64 r4 16+l3):=by rw[tn,zQ (x:=r4*65536) (by omega) (by omega),←Vf,zQ (by omega) (by omega)]
  have k3:r3=Int.tmod x3 10000:=by rw[Int.tmod_eq_emod_of_nonneg (by omega)];exact hr3
  have t3:zA (Int.tdiv x3 10000)=q3:=by rw[Int.tdiv_eq_ediv_of_nonneg (by omega),←hq3,zQ (by omega) (by omega)]
  obtain⟨x2,BF⟩:∃x,x=r3*65536+l2:=⟨_,rfl⟩
  obtain⟨r2,pI⟩:∃r,r=x2%10000:=⟨_,rfl⟩
  obtain⟨q2,hq2⟩:∃q,q=x2/10000:=⟨_,rfl⟩
  have v2:x2=10000*q2+r2∧0≤r2∧r2<10000∧0≤x2∧x2<655360000:=by omega
  have h2:x2=zA (shl .i64 r3 16+l2):=by rw[tn,zQ (x:=r3*65536) (by omega) (by omega),←BF,zQ (by omega) (by omega)]
  have k2:r2=Int.tmod x2 10000:=by rw[Int.tmod_eq_emod_of_nonneg (by omega)];exact pI
  have t2:zA (Int.tdiv x2 10000)=q2:=by rw[Int.tdiv_eq_ediv_of_nonneg (by omega),←hq2,zQ (by omega) (by omega)]
  obtain⟨x1,cM⟩:∃x,x=r2*65536+l1:=⟨_,rfl⟩
  obtain⟨r1,rV⟩:∃r,r=x1%10000:=⟨_,rfl⟩
  obtain⟨q1,hq1⟩:∃q,q=x1/10000:=⟨_,rfl⟩
  have v1:x1=10000*q1+r1∧0≤r1∧r1<10000∧0≤x1∧x1<655360000:=by omega
  have h1:x1=zA (shl .i64 r2 16+l1):=by rw[tn,zQ (x:=r2*65536) (by omega) (by omega),←cM,zQ (by omega) (by omega)]
  have k1:r1=Int.tmod x1 10000:=by rw[Int.tmod_eq_emod_of_nonneg (by omega)];exact rV
  have t1:zA (Int.tdiv x1 10000)=q1:=by rw[Int.tdiv_eq_ediv_of_nonneg (by omega),←hq1,zQ (by omega) (by omega)]
  obtain⟨x0,Vg⟩:∃x,x=r1*65536+l0:=⟨_,rfl⟩
  obtain⟨r0,nY⟩:∃r,r=x0%10000:=⟨_,rfl⟩
  obtain⟨q0,hq0⟩:∃q,q=x0/10000:=⟨_,rfl⟩
  have v0:x0=10000*q0+r0∧0≤r0∧r0<10000∧0≤x0∧x0<655360000:=by omega
  have h0:x0=zA (shl .i64 r1 16+l0):=by rw[tn,zQ (x:=r1*65536) (by omega) (by omega),←Vg,zQ (by omega) (by omega)]
  have k0:r0=Int.tmod x0 10000:=by rw[Int.tmod_eq_emod_of_nonneg (by omega)];exact nY
  have t0:zA (Int.tdiv x0 10000)=q0:=by rw[Int.tdiv_eq_ediv_of_nonneg (by omega),←hq0,zQ (by omega) (by omega)]
  have run:=vYh l0 l1 l2 l3 l4 l5 l6 l7 l8 h8 h7 h6 h5 h4 h3 h2 h1 h0 h9 k8 k7 k6 k5 k4 k3 k2 k1 k0
  rw[t0,t1,t2,t3,t4,t5,t6,t7,t8] at run
  clear h0 k0 t0 h1 k1 t1 h2 k2 t2 h3 k3 t3 h4 k4 t4 h5 k5 t5 h6 k6 t6 h7 k7 t7 h8 k8 t8
  have hv:10000*V9 q0 q1 q2 q3 q4 q5 q6 q7 q8+r0=V9 l0 l1 l2 l3 l4 l5 l6 l7 l8:=by unfold V9;omega
  have hq:V9 q0 q1 q2 q3 q4 q5 q6 q7 q8=V9 l0 l1 l2 l3 l4 l5 l6 l7 l8/10000:=by omega
  rw[←hq] at hV⊢
  unfold V9 at hV
  have z8:q8=0:=by omega
  have z7:q7=0:=by omega
  have z6:q6=0:=by omega
  have z5:q5=0:=by omega
  have z4:q4=0:=by omega
  have z3:q3<32768:=by omega
  rw[z4,z5,z6,z7,z8] at run
  have eU:Ns 1000 [l0,l1,l2,l3,l4,l5,l6,l7,l8] 10000=(Je 1000 1000 10000 0 8 [l0,l1,l2,l3,l4,l5,l6,l7,l8]).bind fun z=>(ES 1000 1000 4 z).bind fun z1=>
   match z1 with
   | .inl z2 => bif zC 3 z2.length then (bif decide ((z2.getD 3 0)≥32768) then some ((0:Int),false)
     else bif zC 3 z2.length then (bif zC 2 z2.length then (bif zC 1 z2.length then (bif zC 0 z2.length then some ((wO .i64 (wO .i64 (wO .i64 (shl .i64 (z2.getD 3 0) 48) (shl .i64 (z2.getD 2 0) 32)) (shl .i64 (z2.getD 1 0) 16)) (z2.getD 0 0)),true)
        else none)
       else none)
      else none)
     else none)
    else none
   |.inr z3=>some (z3.1,z3.2):=rfl
  rw[eU,run]
  simp only[ae]
  refine(vOk q0 q1 q2 q3 (ab (by omega))).trans ?_
  rw[vHu ⟨by omega,by omega⟩ ⟨by omega,by omega⟩ ⟨by omega,by omega⟩ ⟨by omega,z3⟩]
  unfold V9
  rw[z4,z5,z6,z7,z8]
  exact congrArg (fun z=>some (z,true)) (by clear hV hv hq run eU;omega)
theorem vWx (a b x0 x1 x2 x3:Int):Nt 1000 1000 b 0 [x0,x1,x2,x3] [0,0,0,0,0,0,0,0,0]=some [zA (0+zA (x0*yJ .i64 (shr .i64 b 0) 65535)),zA (zA (0+zA (x0*yJ .i64 (shr .i64 b 16) 65535))+zA (x1*yJ .i64 (shr .i64 b 0) 65535)),zA (zA (zA (0+zA (x0*yJ .i64 (shr .i64 b 32) 65535))+zA (x1*yJ .i64 (shr .i64 b 16) 65535))+zA (x2*yJ .i64 (shr .i64 b 0) 65535)),zA (zA (zA (zA (0+zA (x0*yJ .i64 (shr .i64 b 48) 65535))+zA (x1*yJ .i64 (shr .i64 b 32) 65535))+zA (x2*yJ .i64 (shr .i64 b 16) 65535))+zA (x3*yJ .i64 (shr .i64 b 0) 65535)),zA (zA (zA (0+zA (x1*yJ .i64 (shr .i64 b 48) 65535))+zA (x2*yJ .i64 (shr .i64 b 32) 65535))+zA (x3*yJ .i64 (shr .i64 b 16) 65535)),zA (zA (0+zA (x2*yJ .i64 (shr .i64 b 48) 65535))+zA (x3*yJ .i64 (shr .i64 b 32) 65535)),zA (0+zA (x3*yJ .i64 (shr .i64 b 48) 65535)),0,0]:=by kernel_rfl
theorem Vh {x0 x1 x2 x3 y0 y1 y2 y3:Int}:(x0+65536*x1+4294967296*x2+281474976710656*x3)*(y0+65536*y1+4294967296*y2+281474976710656*y3)=V9 (x0*y0) (x0*y1+x1*y0) (x0*y2+x1*y1+x2*y0) (x0*y3+x1*y2+x2*y1+x3*y0) (x1*y3+x2*y2+x3*y1) (x2*y3+x3*y2) (x3*y3) 0 0:=by
 have row:∀x:Int,x*(y0+65536*y1+4294967296*y2+281474976710656*y3)=x*y0+65536*(x*y1)+4294967296*(x*y2)+281474976710656*(x*y3):=fun x=>by
  rw[Int.mul_add,Int.mul_add,Int.mul_add,Int.mul_left_comm x 65536,Int.mul_left_comm x 4294967296,Int.mul_left_comm x 281474976710656]
 rw[Int.add_mul,Int.add_mul,Int.add_mul,Int.mul_assoc,Int.mul_assoc,Int.mul_assoc,row,row,row,row]
 unfold V9
 generalize x0*y0=Nu
 generalize x0*y1=Jf
 generalize x0*y2=ET
 generalize x0*y3=Aw
 generalize x1*y0=Nv
 generalize x1*y1=Jg
 generalize x1*y2=EU
 generalize x1*y3=EV
 generalize x2*y0=Nw
 generalize x2*y1=Jh
 generalize x2*y2=Ji
 generalize x2*y3=Jj
 generalize x3*y0=Nx
 generalize x3*y1=Ny
 generalize x3*y2=Nz
 generalize x3*y3=NA
 omega
theorem vZ5 {a b:Int}(ha:0≤a∧a≤1048576)(hb:0≤b∧b≤1099511627776):∃d0 d1 d2 d3 d4 d5 d6 d7 d8,
  NB 1000 a b=some [d0,d1,d2,d3,d4,d5,d6,d7,d8]∧V9 d0 d1 d2 d3 d4 d5 d6 d7 d8=a*b∧(0≤d0∧d0<65536)∧(0≤d1∧d1<65536)∧(0≤d2∧d2<65536)∧(0≤d3∧d3<65536)∧(0≤d4∧d4<65536)∧(0≤d5∧d5<65536)∧(0≤d6∧d6<65536)∧(0≤d7∧d7<65536)∧d8=0:=by
 obtain⟨x0,Vg⟩:∃z,z=a%65536:=⟨_,rfl⟩
 have vv:0≤x0∧x0≤65535:=by omega
 obtain⟨x1,cM⟩:∃z,z=a/65536%65536:=⟨_,rfl⟩
 have vw:0≤x1∧x1≤65535:=by omega
 obtain⟨x2,BF⟩:∃z,z=a/4294967296%65536:=⟨_,rfl⟩
 have vx:0≤x2∧x2≤65535:=by omega
 obtain⟨x3,Vf⟩:∃z,z=a/281474976710656%65536:=⟨_,rfl⟩
 have vy:0≤x3∧x3≤65535:=by omega
 obtain⟨y0,Rh⟩:∃z,z=b%65536:=⟨_,rfl⟩
 have vz:0≤y0∧y0≤65535:=by omega
 obtain⟨y1,RN⟩:∃z,z=b/65536%65536:=⟨_,rfl⟩
 have v9:0≤y1∧y1≤65535:=by omega
 obtain⟨y2,RO⟩:∃z,z=b/4294967296%65536:=⟨_,rfl⟩
 have wa:0≤y2∧y2≤65535:=by omega
 obtain⟨y3,hy3⟩:∃z,z=b/281474976710656%65536:=⟨_,rfl⟩
 have wb:0≤y3∧y3≤65535:=by omega
 have ea:a=x0+65536*x1+4294967296*x2+281474976710656*x3:=by omega
 have eb:b=y0+65536*y1+4294967296*y2+281474976710656*y3:=by omega
 have dg:NC 1000 a=some [x0,x1,x2,x3]:=by
  unfold NC
  rw[qx,yEo,yI2,tm,tm,tm,tm,←Vg,←cM,←BF,←Vf]
 have run:=vWx a b x0 x1 x2 x3
 rw[vW7,qx,yEo,yI2,tm,tm,tm,tm,←Rh,←RN,←RO,←hy3] at run
 have tU:=Vh (x0:=x0) (x1:=x1) (x2:=x2) (x3:=x3) (y0:=y0) (y1:=y1) (y2:=y2) (y3:=y3)
 rw[←ea,←eb] at tU
 have hm:=vY ha.1 ha.2 hb.1 hb.2
 have m00:=vY vv.1 vv.2 vz.1 vz.2
 have m01:=vY vv.1 vv.2 v9.1 v9.2
 have m02:=vY vv.1 vv.2 wa.1 wa.2
 have m03:=vY vv.1 vv.2 wb.1 wb.2
 have m10:=vY vw.1 vw.2 vz.1 vz.2
 have m11:=vY vw.1 vw.2 v9.1 v9.2
 have m12:=vY vw.1 vw.2 wa.1 wa.2
 have m13:=vY vw.1 vw.2 wb.1 wb.2
 have m20:=vY vx.1 vx.2 vz.1 vz.2
 have m21:=vY vx.1 vx.2 v9.1 v9.2
 have m22:=vY vx.1 vx.2 wa.1 wa.2
 have m23:=vY vx.1 vx.2 wb.1 wb.2
 have m30:=vY vy.1 vy.2 vz.1 vz.2
 have m31:=vY vy.1 vy.2 v9.1 v9.2
 have m32:=vY vy.1 vy.2 wa.1 wa.2
 have m33:=vY vy.1 vy.2 wb.1 wb.2
 generalize x0*y0=Nu at*
 generalize x0*y1=Jf at*
 generalize x0*y2=ET at*
 generalize x0*y3=Aw at*
 generalize x1*y0=Nv at*
 generalize x1*y1=Jg at*
 generalize x1*y2=EU at*
 generalize x1*y3=EV at*
 generalize x2*y0=Nw at*
 generalize x2*y1=Jh at*
 generalize x2*y2=Ji at*
 generalize x2*y3=Jj at*
 generalize x3*y0=Nx at*
 generalize x3*y1=Ny at*
 generalize x3*y2=Nz at*
 generalize x3*y3=NA at*
 rw[zQ (x:=Nu) (by omega) (by omega)] at run
 rw[zQ (x:=Jf) (by omega) (by omega)] at run
 rw[zQ (x:=ET) (by omega) (by omega)] at run
 rw[zQ (x:=Aw) (by omega) (by omega)] at run
 rw[zQ (x:=Nv) (by omega) (by omega)] at run
 rw[zQ (x:=Jg) (by omega) (by omega)] at run
 rw[zQ (x:=EU) (by omega) (by omega)] at run
 rw[zQ (x:=EV) (by omega) (by omega)] at run
 rw[zQ (x:=Nw) (by omega) (by omega)] at run
 rw[zQ (x:=Jh) (by omega) (by omega)] at run
 rw[zQ (x:=Ji) (by omega) (by omega)] at run
 rw[zQ (x:=Jj) (by omega) (by omega)] at run
 rw[zQ (x:=Nx) (by omega) (by omega)] at run
 rw[zQ (x:=Ny) (by omega) (by omega)] at run
 rw[zQ (x:=Nz) (by omega) (by omega)] at run
 rw[zQ (x:=NA) (by omega) (by omega)] at run
 rw[zQ (x:=0+Nu) (by omega) (by omega)] at run
 rw[zQ (x:=0+Jf) (by omega) (by omega)] at run
 rw[zQ (x:=0+ET) (by omega) (by omega)] at run
 rw[zQ (x:=0+Aw) (by omega) (by omega)] at run
 rw[zQ (x:=0+Jf+Nv) (by omega) (by omega)] at run
 rw[zQ (x:=0+ET+Jg) (by omega) (by omega)] at run
 rw[zQ (x:=0+Aw+EU) (by omega) (by omega)] at run
 rw[zQ (x:=0+EV) (by omega) (by omega)] at run
 rw[zQ (x:=0+ET+Jg+Nw) (by omega) (by omega)] at run
 rw[zQ (x:=0+Aw+EU+Jh) (by omega) (by omega)] at run
 rw[zQ (x:=0+EV+Ji) (by omega) (by omega)] at run
 rw[zQ (x:=0+Jj) (by omega) (by omega)] at run
 rw[zQ (x:=0+Aw+EU+Jh+Nx) (by omega) (by omega)] at run
 rw[zQ (x:=0+EV+Ji+Ny) (by omega) (by omega)] at run
 rw[zQ (x:=0+Jj+Nz) (by omega) (by omega)] at run
 rw[zQ (x:=0+NA) (by omega) (by omega)] at run
 obtain⟨d0,d1,d2,d3,d4,d5,d6,d7,d8,c1,c2,n0,n1,n2,n3,n4,n5,n6,n7,n8⟩:=yTv (l0:=0+Nu) (l1:=0+Jf+Nv) (l2:=0+ET+Jg+Nw) (l3:=0+Aw+EU+Jh+Nx) (l4:=0+EV+Ji+Ny) (l5:=0+Jj+Nz) (l6:=0+NA) (l7:=0) (l8:=0) (by omega) (by omega) (by omega) (by omega) (by omega) (by omega) (by omega) (by omega) (by omega)
 refine⟨d0,d1,d2,d3,d4,d5,d6,d7,d8,?_,?_,n0,n1,n2,n3,n4,n5,n6,n7,?_⟩
 ·unfold NB
  rw[dg]
  simp only[ae]
  rw[run]
  simp only[ae]
  rw[c1]
  rfl
 ·rw[c2,tU]
  unfold V9
  omega
 ·have:V9 d0 d1 d2 d3 d4 d5 d6 d7 d8=a*b:=by
   rw[c2,tU]
   unfold V9
   omega
  unfold V9 at this
  omega
theorem vDt {p m c:Int}(hp:0≤p∧p≤1048576)(hm:0≤m∧m≤1099511627776)(hc:0≤c∧c≤10000):ND 1000 p m c=some (sU p m c,true):=by
 obtain⟨d0,d1,d2,d3,d4,d5,d6,d7,d8,e1,e2,n0,n1,n2,n3,n4,n5,n6,n7,n8⟩:=vZ5 hp hm
 have vr:=vY hp.1 hp.2 hm.1 hm.2
 have hn:0≤10000-c∧10000-c≤10000:=by omega
 have wn:zA (10000-c)=10000-c:=zQ (by omega) (by omega)
 have hw:=yAn hp hm hc
 unfold sU at hw⊢
 have hpn:=vY vr.1 vr.2 hn.1 hn.2
 have eV:=vX2 d0 d1 d2 d3 d4 d5 d6 d7 d8 (10000-c)
 rw[e2] at eV
 unfold ND
 rw[ab (show¬p<0 by omega),ab (show¬m<0 by omega),ab (show¬c<0 by omega),ab (show¬c>10000 by omega),e1,wn]
 simp only[aj,ae]
 rw[vYf]
 generalize 10000-c=n at*
 have u0:=vY n0.1 (show d0≤65535 by omega) hn.1 hn.2
 have u1:=vY n1.1 (show d1≤65535 by omega) hn.1 hn.2
 have u2:=vY n2.1 (show d2≤65535 by omega) hn.1 hn.2
 have u3:=vY n3.1 (show d3≤65535 by omega) hn.1 hn.2
 have u4:=vY n4.1 (show d4≤65535 by omega) hn.1 hn.2
 have u5:=vY n5.1 (show d5≤65535 by omega) hn.1 hn.2
 have u6:=vY n6.1 (show d6≤65535 by omega) hn.1 hn.2
 have u7:=vY n7.1 (show d7≤65535 by omega) hn.1 hn.2
 have u8:0≤d8*n∧d8*n≤0:=by rw[n8,Int.zero_mul];omega
 generalize d0*n=t0 at*
 generalize d1*n=t1 at*
 generalize d2*n=t2 at*
 generalize d3*n=t3 at*
 generalize d4*n=t4 at*
 generalize d5*n=t5 at*
 generalize d6*n=t6 at*
 generalize d7*n=t7 at*
 generalize d8*n=t8 at*
 rw[zQ (x:=t0) (by omega) (by omega),zQ (x:=t1) (by omega) (by omega),zQ (x:=t2) (by omega) (by omega),zQ (x:=t3) (by omega) (by omega),zQ (x:=t4) (by omega) (by omega),zQ (x:=t5) (by omega) (by omega),zQ (x:=t6) (by omega) (by omega),zQ (x:=t7) (by omega) (by omega),zQ (x:=t8) (by omega) (by omega)]
 obtain⟨e0,e1,e2,e3,e4,e5,e6,e7,e8,f1,f2,k0,k1,k2,k3,k4,k5,k6,k7,k8⟩:=yTv (l0:=t0) (l1:=t1) (l2:=t2) (l3:=t3) (l4:=t4) (l5:=t5) (l6:=t6) (l7:=t7) (l8:=t8) (by omega) (by omega) (by omega) (by omega) (by omega) (by omega) (by omega) (by omega) (by omega)
 rw[f1]
 simp only[ae]
 rw[←eV] at f2
 have z8:e8≤0:=by unfold V9 at f2;omega
 rw[Ve k0 k1 k2 k3 k4 k5 k6 k7 ⟨k8,z8⟩ (by rw[f2];exact hw.2),f2]
 rfl
theorem yM8 k x y:Jk k x.1 x.2.1 x.2.2.1 x.2.2.2.1 x.2.2.2.2.1 x.2.2.2.2.2.1 x.2.2.2.2.2.2 y.1 y.2.1 y.2.2.1 y.2.2.2.1 y.2.2.2.2.1 y.2.2.2.2.2.1 y.2.2.2.2.2.2=some (wV x y):=by
 unfold Jk wV
 grind
theorem vHl k {a b}(ha:0≤a∧a≤4611686018427387904)(hb:0≤b∧b≤1152921504606846976):EW k a b=some (a+b,true):=by
 unfold EW
 rw[zQ (x:=a+b) (by omega) (by omega),zQ (x:=9223372036854775807-b) (by omega) (by omega),ab (show¬a>9223372036854775807-b by omega),ab (show¬b<0 by omega)]
 simp
theorem yJf {sa pr h}(L:j0 sa pr h):Ax 1000 sa pr h=some (lT sa pr h,true):=by
 have h3:=L.n3
 obtain ⟨s', g1, g2⟩ := vC (L := fun n i (v : Int) => Jl 1000 n sa pr h v i) (N := sa.length) (fun v => (.inl v : Int ⊕ Int × Bool)) (fun i v => v = qJ (ld sa pr h) i) (fun n v _=>by
  show EX 1000 _ sa pr h v (sa.length:Int)=_
  unfold EX
  simp) (fun n i v hi hv=>by
  refine⟨v+ld sa pr h i,?_,by rw[hv];rfl⟩
  show EX 1000 (Jl 1000 n) sa pr h v (i:Int)=_
  unfold EX
  have hw:=IC L hi
  have hb:=ML (g:=ld sa pr h) (n:=i) (fun j hj=>IC L (by omega))
  have ed:sa.getD i (0,0)=sa.getD i sV:=rfl
  rw[aa (by grind),qG,qG,qG,aa hi,aa (show i<pr.length by rw[L.pl];exact hi),aa (show i<h.length by rw[L.hl];exact hi),aq,ed,vDt (L.price i hi) (L.hold i hi) (L.cut i hi)]
  simp only[ae]
  have e:sU (pr.getD i 0) (h.getD i 0) (sa.getD i sV).2=ld sa pr h i:=rfl
  rw[e,vHl _ (by omega) hw,qK hi (by omega)]
  rfl) (n:=1000) (s:=0) (by omega) rfl
 unfold Ax
 rw[aa (show(pr.length:Int)=(sa.length:Int) by rw[L.pl]),aa (show(h.length:Int)=(sa.length:Int) by rw[L.hl]),g1,g2]
 rfl
theorem Vi {α:Type}{d}(l:List α){i} h:l.getD i d=l[i]:=by
 simp_all
theorem tp {k l}(hk:l.length<k)(hl:qV l) id:mJ k l id=some (gC l id):=by
 unfold qV at hl
 unfold mJ
 rw[Mz hk (by omega)]
 unfold jy gC
 cases hp:vN l id with
 |none=>rfl
 |some x=>
  have hx:=(jz hp).1
  have e1:decide ((x:Int)<0)=false:=ab (by omega)
  have e2:decide ((0:Int)≤(x:Int))=true:=by simp
  have e3:decide ((x:Int)≤(l.length:Int))=true:=aa (by omega)
  have e4:decide ((0:Int)≤((x+1:Nat):Int))=true:=aa (by omega)
  have e5:decide (((x+1:Nat):Int)≤(l.length:Int))=true:=aa (by omega)
  have l1:=List.length_take_le x l
  have l2:(l.drop (x+1)).length≤l.length:=by rw[List.length_drop];omega
  have e6:zO (0+(l.take x).length) 56=true:=qT (by omega) (by omega)
  have e7:zO ((l.take x).length+(l.drop (x+1)).length) 56=true:=qT (by omega) (by omega)
  simp only[ae,e3,e5,qK hx (show l.length<9223372036854775808 by omega),qG,aa hx,aq,e6,e7]
  rfl
theorem vHm (q p:zE):iP q p= !wV p q:=by
 unfold iP wV
 rcases Int.lt_trichotomy q.2.1 p.2.1 with h|h|h
 ·have h1:¬p.2.1<q.2.1:=by omega
  have h2:¬p.2.1=q.2.1:=by omega
  simp[h,h1,h2]
 ·rcases Int.lt_trichotomy q.2.2.2.2.1 p.2.2.2.2.1 with g|g|g
  ·have g1:¬p.2.2.2.2.1≤q.2.2.2.2.1:=by omega
   simp[h,g,g1]
  ·simp[h,g]
  ·have g1:¬q.2.2.2.2.1<p.2.2.2.2.1:=by omega
   have g2:p.2.2.2.2.1≤q.2.2.2.2.1:=by omega
   simp[h,g1,g2]
 ·have h1:¬q.2.1<p.2.1:=by omega
  have h2:¬q.2.1=p.2.1:=by omega
  simp[h,h1,h2]
theorem NF {k:Nat}{l:List zE}(hl:l.length≤1000){x:Nat}(hx:x≤l.length)(y:zE):Ay k l x y.1 y.2.1 y.2.2.1 y.2.2.2.1 y.2.2.2.2.1 y.2.2.2.2.2.1 y.2.2.2.2.2.2=some (l.take x++(y::l.drop x)):=by
 unfold Ay
 have e1:(decide (0≤(x:Int))&&decide ((x:Int)≤((l.length:Nat):Int)))=true:=by simp;exact hx
 have e2:zO (0+(l.take x).length) 56=true:=qT (by rw[List.length_take];omega) (by rw[List.length_take];omega)
 have e3:zO ((l.take x).length+1) 56=true:=qT (by rw[List.length_take];omega) (by rw[List.length_take];omega)
 rw[e1,aq,e2,e3]
 simp only[ai]
 have e4:zO ((l.take x++[(y.1,(y.2.1,(y.2.2.1,(y.2.2.2.1,(y.2.2.2.2.1,(y.2.2.2.2.2.1,y.2.2.2.2.2.2))))))]).length+(l.drop x).length) 56=true:=qT (by simp only[List.length_append,List.length_take,List.length_drop,List.length_cons,List.length_nil];omega) (by simp only[List.length_append,List.length_take,List.length_drop,List.length_cons,List.length_nil];omega)
 rw[e4]
 simp
theorem Vj {k:Nat}{l:List zE}(hk:l.length<k)(hl:l.length≤1000)(y:zE):EY k l y.1 y.2.1 y.2.2.1 y.2.2.2.1 y.2.2.2.2.1 y.2.2.2.2.2.1 y.2.2.2.2.2.2=some (((l.takeWhile (fun q=>wV q y)).length:Nat):Int):=by
 have := DN (L := fun n i => EZ k n l i y.1 y.2.1 y.2.2.1 y.2.2.2.1 y.2.2.2.2.1 y.2.2.2.2.2.1 y.2.2.2.2.2.2) (N := l.length) (fun x => wV (l.getD x pd) y) (fun i => (i : Int)) (fun n=>by
  show E0 k _ l l.length _ _ _ _ _ _ _=_
  unfold E0
  simp only [qB, ab (Nat.lt_irrefl _), aj]) (fun n i hi=>by
  show E0 k _ l i _ _ _ _ _ _ _=_
  unfold E0
  have h1:=yM8 k (l.getD i pd) y
  simp only[pd] at h1
  simp only[qG,qB,aq,aa hi,ai,h1,ae,qK hi (show l.length<9223372036854775808 by omega)]
  ) l.length 0 k (by omega) hk
 have e:((0:Nat):Int)=0:=rfl
 rw[e] at this
 unfold EY
 have h':EZ k k l 0 y.1 y.2.1 y.2.2.1 y.2.2.2.1 y.2.2.2.2.1 y.2.2.2.2.2.1 y.2.2.2.2.2.2=_:=this
 rw[h',DO (fun q=>wV q y) l pd l.length 0 (by omega),List.drop_zero,Nat.zero_add]
 rfl
theorem vOp {k:Nat}{l:List zE}(hk:l.length<k)(hl:l.length≤1000)(p:zE):
  Az k l p.1 p.2.1 p.2.2.1 p.2.2.2.1 p.2.2.2.2.1 p.2.2.2.2.2.1 p.2.2.2.2.2.2=some (bif (vN l p.1).isSome then(l,6) else bif decide (40≤l.length) then(l,3) else(nE l p,0)):=by
 unfold Az
 rw[Mz hk (by omega)]
 unfold jy
 cases hp:vN l p.1 with
 |some x=>
  have e1:decide ((x:Int)≥0)=true:=aa (by omega)
  simp only[ae,e1,ai,Option.isSome_some]
 |none=>
  have e1:decide ((-1:Int)≥0)=false:=rfl
  simp only[ae,e1,aj,Option.isSome_none]
  by_cases h:40≤l.length
  ·rw[aa h,aa (show(l.length:Int)≥40 by omega)];rfl
  ·rw[ab h,ab (show¬(l.length:Int)≥40 by omega)]
   simp only[aj]
   rw[Vj hk hl p]
   simp only[ae]
   rw[NF hl (zi _ l) p,(mI _ l).1,(mI _ l).2]
   rfl
theorem vMp {k:Nat}{l:List zE}(bI:l.length<k)(hl:qV l){id:Int}{x:Nat}(hx:vN l id=some x)(c:Int):
  Jm k l id c=some (nE (yB l x) ((l.getD x pd).1,(l.getD x pd).2.1,(l.getD x pd).2.2.1,(l.getD x pd).2.2.2.1,c,(l.getD x pd).2.2.2.2.2.1,(l.getD x pd).2.2.2.2.2.2),0):=by
 have cM:=jz hx
 have hlen:=mH cM.1
 have dG:=hl
 unfold qV at dG
 unfold Jm
 rw[tp bI hl]
 unfold gC
 rw[hx]
 simp only[ae,decide_true,ay,aj]
 have h1:=Vj (k:=k) (l:=yB l x) (by omega) (by omega) ((l.getD x pd).1,(l.getD x pd).2.1,(l.getD x pd).2.2.1,(l.getD x pd).2.2.2.1,c,(l.getD x pd).2.2.2.2.2.1,(l.getD x pd).2.2.2.2.2.2)
 simp only at h1
 rw[h1]
 simp only[ae]
 have h2:=NF (k:=k) (l:=yB l x) (by omega) (zi (fun q=>wV q ((l.getD x pd).1,(l.getD x pd).2.1,(l.getD x pd).2.2.1,(l.getD x pd).2.2.2.1,c,(l.getD x pd).2.2.2.2.2.1,(l.getD x pd).2.2.2.2.2.2)) (yB l x)) ((l.getD x pd).1,(l.getD x pd).2.1,(l.getD x pd).2.2.1,(l.getD x pd).2.2.2.1,c,(l.getD x pd).2.2.2.2.2.1,(l.getD x pd).2.2.2.2.2.2)
 simp only at h2
 rw[h2,(mI _ (yB l x)).1,(mI _ (yB l x)).2]
 rfl
theorem vQk {k:Nat}{l:List zE}(bI:l.length<k)(hl:qV l){id:Int}{x:Nat}(hx:vN l id=some x):
  Jn k l id=some (nE (yB l x) (l.getD x pd),0):=by
 have cM:=jz hx
 have hlen:=mH cM.1
 have dG:=hl
 unfold qV at dG
 unfold Jn
 rw[tp bI hl]
 unfold gC
 rw[hx]
 simp only[ae,decide_true,ay,aj]
 rw[Vj (k:=k) (l:=yB l x) (by omega) (by omega) (l.getD x pd)]
 simp only[ae]
 rw[NF (k:=k) (l:=yB l x) (by omega) (zi (fun q=>wV q (l.getD x pd)) (yB l x)) (l.getD x pd),(mI _ (yB l x)).1,(mI _ (yB l x)).2]
 rfl
theorem vGx {k:Nat}{l:List zE}(bI:l.length<k)(hl:qV l){id:Int}{x:Nat}(hx:vN l id=some x):
  Jo k l id=some (Iv (yB l x) (l.getD x pd),0):=by
 have cM:=jz hx
 have hlen:=mH cM.1
 have dG:=hl
 unfold qV at dG
 have Jp:∀(l:List zE),l.length<k→l.length≤1000→∀p:zE,E1 k k l 0 p=some (l,(((l.takeWhile (fun q=>iP q p)).length:Nat):Int),p):=by
  intro l bI hl p
  have := DN (L := fun n i => E1 k n l i p) (N := l.length) (fun x => iP (l.getD x pd) p) (fun i => (l, (i : Int), p)) (fun n=>by
   show E2 k _ l l.length p=_
   unfold E2
   simp only [qB, ab (Nat.lt_irrefl _), aj]) (fun n i hi=>by
   show E2 k _ l i p=_
   unfold E2
   have h1:=yM8 k p (l.getD i pd)
   simp only[pd] at h1
   simp only[qG,qB,aq,aa hi,ai,h1,ae,qK hi (show l.length<9223372036854775808 by omega),vHm]
   rfl) l.length 0 k (by omega) bI
  have e:((0:Nat):Int)=0:=rfl
  rw[e] at this
  show E1 k k l 0 p=_
  rw[this,DO (fun q=>iP q p) l pd l.length 0 (by omega),List.drop_zero,Nat.zero_add]
 unfold Jo
 rw[tp bI hl]
 unfold gC
 rw[hx]
 simp only[ae,decide_true,ay,aj]
 have h1:=Jp (yB l x) (by omega) (by omega) (l.getD x pd)
 refine(congrArg (fun z=>Option.bind z _) h1).trans ?_
 simp only[ae]
 rw[NF (k:=k) (l:=yB l x) (by omega) (zi (fun q=>iP q (l.getD x pd)) (yB l x)) (l.getD x pd),(mI _ (yB l x)).1,(mI _ (yB l x)).2]
 rfl
theorem Vk {k:Nat}{l:AC}(hk:l.length<k)(hl:l.length≤1000)(id:Int):NG k l id=some (decide (id∈l)):=by
 have := lN (L := fun n i => E3 k n l id i) (N := l.length) (fun i => !decide (l.getD i 0 = id)) (.inl ()) (.inr true) (fun n=>by
  show E4 k _ l id l.length=_
  unfold E4
  rw [ab (Int.lt_irrefl _)]; rfl) (fun n i hi=>by
  show E4 k (E3 k n) l id i=_
  unfold E4
  rw[aa (show(i:Int)<l.length by omega),qG,aa hi,aq,qK hi (by omega)]
  cases decide (l.getD i 0=id)<;>rfl) hk
 unfold NG
 have h':E3 k k l id 0=_:=this
 rw[h']
 have e:qH (fun i=> !decide (l.getD i 0=id)) l.length 0= !decide (id∈l):=by
  by_cases hm:id∈l
  ·rw[aa hm]
   cases ha:qH (fun i=> !decide (l.getD i 0=id)) l.length 0 with
   |false=>rfl
   |true=>
    obtain⟨i,hi,e⟩:=List.getElem_of_mem hm
    have:=fZ.1 ha i hi
    rw[Vi l hi,e] at this
    simp at this
  ·rw[ab hm]
   refine fZ.2 fun i hi=>?_
   rw[ab (show¬l.getD i 0=id from fun e=>hm (by rw[←e];exact jV hi))];rfl
 rw[e]
 cases decide (id∈l)<;>rfl
theorem vB0 {k:Nat}{l:AC}(hk:l.length<k)(hl:l.length≤1000)(id:Int):
  AA k l id=some (bif decide (id∈l) then(l,6) else bif decide (200≤l.length) then(l,3) else(oL l id,0)):=by
 unfold AA
 rw[Vk hk hl]
 simp only[ae]
 by_cases hm:id∈l
 ·rw[aa hm];rfl
 ·rw[ab hm]
  simp only[aj]
  by_cases h:200≤l.length
  ·rw[aa h,aa (show(l.length:Int)≥200 by omega)];rfl
  ·rw[ab h,ab (show¬(l.length:Int)≥200 by omega)]
   have := DN (L := fun n i => Jq k n l id i) (N := l.length) (fun x => decide (l.getD x 0 < id)) (fun i => (l, id, (i : Int))) (fun n=>by
    show E5 k _ l id l.length=_
    unfold E5
    simp only [qB, ab (Nat.lt_irrefl _), aj]) (fun n i hi=>by
    show E5 k _ l id i=_
    unfold E5
    simp only[qG,qB,aq,aa hi,ai,qK hi (show l.length<9223372036854775808 by omega)]
    rfl) l.length 0 k (by omega) hk
   have e:((0:Nat):Int)=0:=rfl
   rw[e,DO (fun x=>decide (x<id)) l 0 l.length 0 (by omega),List.drop_zero,Nat.zero_add] at this
   have h':Jq k k l id 0=_:=this
   simp only[aj]
   rw[h']
   have hn:=zi (fun x=>decide (x<id)) l
   obtain⟨t1,t2⟩:=mI (fun x=>decide (x<id)) l
   have e1:(decide (0≤(((l.takeWhile (fun x=>decide (x<id))).length:Nat):Int))&&decide ((((l.takeWhile (fun x=>decide (x<id))).length:Nat):Int)≤((l.length:Nat):Int)))=true:=by simp;exact hn
   have hd:=(List.dropWhile_sublist (fun x=>decide (x<id)) (l:=l)).length_le
   simp only[ae,e1,ai,aq,t1,t2]
   rw[qT (n:=0+(l.takeWhile (fun x=>decide (x<id))).length) (by omega) (by omega),qT (n:=(l.takeWhile (fun x=>decide (x<id))).length+1) (by omega) (by omega),qT (n:=(l.takeWhile (fun x=>decide (x<id))++[id]).length+(l.dropWhile (fun x=>decide (x<id))).length) (by rw[List.length_append];simp;omega) (by rw[List.length_append];simp;omega)]
   simp only[ai]
   unfold oL
   simp
theorem yEl {n:Int}(h:-1≤n∧n≤1152921504606846976):wP n=true:=by
 unfold wP;simp;omega
theorem wc {a:qO}:jU a=true↔(-4611686018427387904<a.1∧a.1<4611686018427387904)∧(0≤a.2.1∧a.2.1≤2305843009213693952)∧(0≤a.2.2∧a.2.2≤2305843009213693952):=by
 unfold jU;simp only[aR,aN];omega
theorem wM.setBil {a:List qO}{b:wR}{m:AC}{p:wR}(h:wM a b m p){w i:Nat}(hw:w<a.length)(hi:i<a.length){n:Int}(hn:-1≤n∧n≤1152921504606846976):wM a (b.set w ((b.getD w []).set i n)) m p:=
  { h with
    bl:=by rw[List.length_set];exact h.bl
    br:=fun j hj=>by
      rw[jM]
      split
      · rw[List.length_set];exact h.br w hw
      · exact h.br j hj
    bil:=fun j hj k hk=>by
      unfold cell
      rw[jM]
      split
      · rename_i e
        rw[jM]
        split
        · exact yEl hn
        · exact h.bil w hw k hk
      · exact h.bil j hj k hk}
theorem wM.setMul {a:List qO}{b:wR}{m:AC}{p:wR}(h:wM a b m p)(w:Nat){n:Int}(hn:-1≤n∧n≤1152921504606846976):wM a b (m.set w n) p:=
  { h with
    ml:=by rw[List.length_set];exact h.ml
    mul:=fun j hj=>by
      rw[jM]
      split
      · exact yEl hn
      · exact h.mul j hj}
theorem wM.setAcct {a:List qO}{b:wR}{m:AC}{p:wR}(h:wM a b m p){a':List qO}(hl:a'.length=a.length)(ha:∀i,i<a.length→jU (a'.getD i ad)=true):wM a' b m p where
 n1:=by rw[hl];exact h.n1
 n6:=by rw[hl];exact h.n6
 bl:=by rw[hl];exact h.bl
 br:=by rw[hl];exact h.br
 ml:=by rw[hl];exact h.ml
 pl:=by rw[hl];exact h.pl
 pr:=by rw[hl];exact h.pr
 mul:=by rw[hl];exact h.mul
 bil:=by rw[hl];exact h.bil
 acct:=by rw[hl];exact ha
 net:=by rw[hl];exact h.net
 turn:=by rw[hl];exact h.turn
theorem vVx {n:Nat}{g:Nat→Int}{i:Nat}(hi:i<n)(d:Int):qJ (fun j=>if j=i then g j+d else g j) n=qJ g n+d:=by
 have e:qJ (fun j=>if j=i then g j+d else g j) n=qJ (fun j=>g j+(if j=i then d else 0)) n:=oB fun j _=>by
  by_cases h:j=i
  ·rw[if_pos h,if_pos h]
  ·rw[if_neg h,if_neg h];omega
 rw[e,Ck,yi,if_pos hi]
theorem yD.books {r:qP}{s:qD}(h:yD r s){B:BT}(hb:qU B)(hl:B.1.length=s.B.1.length)(oJ:∀i,i<s.B.1.length→(B.1.getD i ad).1=(s.B.1.getD i ad).1)(hc:∀i,i<s.B.1.length→(B.1.getD i ad).2.1=(s.B.1.getD i ad).2.1):yD r {s with B:=B} where
 tk:=h.tk
 bk:=hb
 n:=by show((B.1.length:Nat):Int)=r.1;rw[hl];exact h.n
 hol:=by show s.ho.length=B.1.length;rw[hl];exact h.hol
 laid:=by show∀i,i<B.1.length→_;rw[hl];exact h.laid
 cred:=by show∀i,i<B.1.length→_;rw[hl];intro i hi;show(B.1.getD i ad).2.1=_;rw[hc i hi];exact h.cred i hi
 most:=by show∀i,i<B.1.length→_;rw[hl];intro i hi;show(B.1.getD i ad).2.1≤_;rw[hc i hi];exact h.most i hi
 waits:=by show gE B.1.length s.m s.ids;rw[hl];exact h.waits
 sum:=by show qJ (fun i=>(B.1.getD i ad).1) B.1.length=s.to;rw[hl,oB oJ];exact h.sum
 tot:=h.tot
 over:=h.over
 none:=h.none
theorem yD.queue {r:qP}{s:qD}(h:yD r s)(ho:s.ov=false){m:List zE}{ids:AC}(hw:gE s.B.1.length m ids):yD r {s with m:=m,ids:=ids} where
 tk:=h.tk
 bk:=h.bk
 n:=h.n
 hol:=h.hol
 laid:=h.laid
 cred:=h.cred
 most:=h.most
 waits:=hw
 sum:=h.sum
 tot:=h.tot
 over:=h.over
 none:=fun e=>by rw[show s.ov=true from e] at ho;cases ho
theorem Vl {a:List qO}{w i:Nat}{x:qO}(hw:w<a.length):(a.set w x).getD i ad=if i=w then x else a.getD i ad:=by
 rw[jM]
 by_cases e:i=w
 ·rw[if_pos e,if_pos ⟨e.symm,hw⟩]
 ·rw[if_neg e,if_neg (fun h=>e h.1.symm)]
theorem vCt {r:qP}{s:qD}(h:yD r s){who:Int}(hw:0≤who∧who<r.1){f:jG}(h0:(j6 r s who f).1=0):yD r (j6 r s who f).2:=by
 have hn:=h.n
 have hb:wM s.B.1 s.B.2.1 s.B.2.2.1 s.B.2.2.2:=h.bk
 obtain⟨w,rfl⟩:=Int.eq_ofNat_of_zero_le hw.1
 have eH:w<s.B.1.length:=by omega
 unfold j6 at h0⊢
 simp only[aq] at h0⊢
 cases hc:decide (f.1=5) with
 |true=>
  rw[hc] at h0
  simp only[ai] at h0⊢
  cases cJ:decide (f.2.1≥0)&&decide (f.2.1≤r.1-1) with
  |false=>rw[cJ] at h0;cases h0
  |true=>
  cases cL:decide (f.2.1=(w:Int)) with
  |true=>rw[cJ,cL] at h0;cases h0
  |false=>
  cases dO:decide (f.2.2.1≥-1)&&decide (f.2.2.1≤1152921504606846976) with
  |false=>rw[cJ,cL,dO] at h0;cases h0
  |true=>
  simp only[aR,aN] at cJ dO
  exact h.books (B:=(s.B.1,s.B.2.1.set w ((s.B.2.1.getD w []).set f.2.1.toNat f.2.2.1),s.B.2.2.1,s.B.2.2.2)) (hb.setBil eH (by omega) ⟨by omega,by omega⟩) rfl (fun _ _=>rfl) (fun _ _=>rfl)
 |false=>
  rw[hc] at h0
  simp only[aj] at h0⊢
  cases cJ:decide (f.1=6) with
  |true=>
   rw[cJ] at h0
   simp only[ai] at h0⊢
   cases cL:decide (f.2.1≥-1)&&decide (f.2.1≤1152921504606846976) with
   |false=>rw[cL] at h0;cases h0
   |true=>
   simp only[aR,aN] at cL
   exact h.books (B:=(s.B.1,s.B.2.1,s.B.2.2.1.set w f.2.1,s.B.2.2.2)) (hb.setMul w ⟨by omega,by omega⟩) rfl (fun _ _=>rfl) (fun _ _=>rfl)
  |false=>
   rw[cJ] at h0
   simp only[aj] at h0⊢
   cases cL:decide (f.2.1≥0)&&decide (f.2.1≤1152921504606846976) with
   |false=>rw[cL] at h0;cases h0
   |true=>
   simp only[aR,aN] at cL
   have hg:∀i,(s.B.1.set w ((s.B.1.getD w ad).1,(s.B.1.getD w ad).2.1,f.2.1)).getD i ad=if i=w then((s.B.1.getD w ad).1,(s.B.1.getD w ad).2.1,f.2.1) else s.B.1.getD i ad:=fun i=>Vl eH
   refine h.books (B:=(s.B.1.set w ((s.B.1.getD w ad).1,(s.B.1.getD w ad).2.1,f.2.1),s.B.2.1,s.B.2.2.1,s.B.2.2.2)) (hb.setAcct (by rw[List.length_set]) fun i hi=>?_) (by show(s.B.1.set _ _).length=_;rw[List.length_set]) (fun i hi=>?_) (fun i hi=>?_)
   ·rw[hg]
    split
    ·have:=wc.1 (hb.acct w eH)
     rw[wc]
     exact⟨this.1,this.2.1,by show 0≤f.2.1∧f.2.1≤2305843009213693952;omega⟩
    ·exact hb.acct i hi
   ·show((s.B.1.set w _).getD i ad).1=_
    rw[hg]
    split
    ·rename_i e;rw[e]
    ·rfl
   ·show((s.B.1.set w _).getD i ad).2.1=_
    rw[hg]
    split
    ·rename_i e;rw[e]
    ·rfl
theorem vPe {r:qP}(hr:jS r){s:qD}(h:yD r s){who:Int}(hw:0≤who∧who<r.1){a many:Int}(h0:(j7 r s who a many).1=0):yD r (j7 r s who a many).2:=by
  have hn:=h.n
  have hb:wM s.B.1 s.B.2.1 s.B.2.2.1 s.B.2.2.2:=h.bk
  obtain⟨w,rfl⟩:=Int.eq_ofNat_of_zero_le hw.1
  have eH:w<s.B.1.length:=by omega
  have hol:=h.hol
  unfold j7 at h0⊢
  simp only[aq] at h0⊢
  cases hc:decide (a≥0)&&decide (a≤(r.2.1.length:Int)-1) with
  |false=>rw[hc] at h0;cases h0
  |true=>
  cases cJ:decide (many≥0)&&decide (many≤1099511627776) with
  |false=>rw[hc,cJ] at h0;cases h0
  |true=>
  rw[hc,cJ] at h0
  simp only[ay,aj] at h0⊢
  simp only[aR,aN] at hc cJ
  have L2:=(h.laid w eH).set (i:=a.toNat) (by omega) (v:=many) ⟨by omega,by omega⟩
  have xC:=D7 L2
  obtain⟨n,bm⟩:∃n,n=lT r.2.1 s.pr ((s.ho.getD w []).set a.toNat many):=⟨_,rfl⟩
  rw[←bm] at h0 xC⊢
  unfold EH at h0⊢
  cases cL:decide (n>1152921504606846976) with
  |true=>rw[cL] at h0;cases h0
  |false=>
  cases dO:decide (n<(s.B.1.getD w ad).2.1)&&decide ((s.B.1.getD w ad).1+n<0) with
  |true=>rw[cL,dO] at h0;cases h0
  |false=>
  have cL:=di cL
  have hg:∀i,(s.B.1.set w ((s.B.1.getD w ad).1,n,(s.B.1.getD w ad).2.2)).getD i ad=if i=w then((s.B.1.getD w ad).1,n,(s.B.1.getD w ad).2.2) else s.B.1.getD i ad:=fun i=>Vl eH
  have hgh:∀i,(s.ho.set w ((s.ho.getD w []).set a.toNat many)).getD i []=if i=w then(s.ho.getD w []).set a.toNat many else s.ho.getD i []:=fun i=>by
    rw[jM]
    by_cases e:i=w
    · rw[if_pos e,if_pos ⟨e.symm,by omega⟩]
    · rw[if_neg e,if_neg (fun h=>e h.1.symm)]
  simp only[aj]
  have eA:(s.B.1.set w ((s.B.1.getD w ad).1,n,(s.B.1.getD w ad).2.2)).length=s.B.1.length:=List.length_set ..
  exact{
    tk:=h.tk
    bk:=hb.setAcct eA fun i hi=>by
      rw[hg]
      split
      · have:=wc.1 (hb.acct w eH)
        rw[wc]
        exact⟨this.1,by show 0≤n∧n≤2305843009213693952;omega,this.2.2⟩
      · exact hb.acct i hi
    n:=by show(((s.B.1.set w _).length:Nat):Int)=r.1;rw[eA];exact h.n
    hol:=by show(s.ho.set w _).length=(s.B.1.set w _).length;rw[eA,List.length_set];exact hol
    laid:=by
      show∀i,i<(s.B.1.set w _).length→j0 r.2.1 s.pr ((s.ho.set w _).getD i [])
      rw[eA]
      intro i hi
      rw[hgh]
      split
      · exact L2
      · exact h.laid i hi
    cred:=by
      show∀i,i<(s.B.1.set w _).length→((s.B.1.set w _).getD i ad).2.1=lT r.2.1 s.pr ((s.ho.set w _).getD i [])
      rw[eA]
      intro i hi
      rw[hg,hgh]
      split
      · exact bm
      · exact h.cred i hi
    most:=by
      show∀i,i<(s.B.1.set w _).length→((s.B.1.set w _).getD i ad).2.1≤_
      rw[eA]
      intro i hi
      rw[hg]
      split
      · show n≤_;omega
      · exact h.most i hi
    waits:=by show gE (s.B.1.set w _).length s.m s.ids;rw[eA];exact h.waits
    sum:=by
      show qJ (fun i=>((s.B.1.set w _).getD i ad).1) (s.B.1.set w _).length=s.to
      rw[eA,oB (h:=fun i=>(s.B.1.getD i ad).1) fun i _=>by
        rw[hg]
        split
        · rename_i e;rw[e]
        · rfl]
      exact h.sum
    tot:=h.tot
    over:=h.over
    none:=h.none}
theorem yK8 {r:qP}{s:qD}(h:yD r s){i:Nat}(hi:i<s.B.1.length){n:Int}(hz:(jB (s.B.1.getD i ad) n).2=0)(ht:0≤s.to+n∧s.to+n≤1152921504606846976):
    yD r (Nh s i (jB (s.B.1.getD i ad) n).1 (s.to+n)):=by
  have hb:wM s.B.1 s.B.2.1 s.B.2.2.1 s.B.2.2.2:=h.bk
  unfold jB at hz⊢
  cases hc:jU ((s.B.1.getD i ad).1+n,(s.B.1.getD i ad).2.1,(s.B.1.getD i ad).2.2) with
  |false=>rw[hc] at hz;cases hz
  |true=>
  simp only[ai]
  have hg:∀j,(s.B.1.set i ((s.B.1.getD i ad).1+n,(s.B.1.getD i ad).2.1,(s.B.1.getD i ad).2.2)).getD j ad=if j=i then((s.B.1.getD i ad).1+n,(s.B.1.getD i ad).2.1,(s.B.1.getD i ad).2.2) else s.B.1.getD j ad:=fun j=>Vl hi
  have eA:(s.B.1.set i ((s.B.1.getD i ad).1+n,(s.B.1.getD i ad).2.1,(s.B.1.getD i ad).2.2)).length=s.B.1.length:=List.length_set ..
  unfold Nh
  exact{
    tk:=h.tk
    bk:=hb.setAcct eA fun j hj=>by
      rw[hg]
      split
      · exact hc
      · exact hb.acct j hj
    n:=by show(((s.B.1.set i _).length:Nat):Int)=r.1;rw[eA];exact h.n
    hol:=by show s.ho.length=(s.B.1.set i _).length;rw[eA];exact h.hol
    laid:=by show∀j,j<(s.B.1.set i _).length→_;rw[eA];exact h.laid
    cred:=by
      show∀j,j<(s.B.1.set i _).length→((s.B.1.set i _).getD j ad).2.1=_
      rw[eA]
      intro j hj
      rw[hg]
      split
      · rename_i e;rw[e];exact h.cred i hi
      · exact h.cred j hj
    most:=by
      show∀j,j<(s.B.1.set i _).length→((s.B.1.set i _).getD j ad).2.1≤_
      rw[eA]
      intro j hj
      rw[hg]
      split
      · exact h.most i hi
      · exact h.most j hj
    waits:=by show gE (s.B.1.set i _).length s.m s.ids;rw[eA];exact h.waits
    sum:=by
      show qJ (fun j=>((s.B.1.set i _).getD j ad).1) (s.B.1.set i _).length=s.to+n
      rw[eA,oB (h:=fun j=>if j=i then(s.B.1.getD j ad).1+n else(s.B.1.getD j ad).1) fun j _=>by
        rw[hg]
        by_cases e:j=i
        · rw[if_pos e,if_pos e,e]
        · rw[if_neg e,if_neg e],vVx hi,h.sum]
    tot:=ht
    over:=h.over
    none:=h.none}
theorem Vm {r:qP}{s:qD}(h:yD r s){kd to n:Int}(h0:(ka r s kd to n).1=0):yD r (ka r s kd to n).2∧(ka r s kd to n).2.to=s.to+(if kd=11 then-n else n)∧(ka r s kd to n).2.m=s.m∧(ka r s kd to n).2.ids=s.ids∧(ka r s kd to n).2.t=s.t:=by
 have hn:=h.n
 have ht:=h.tot
 unfold ka at h0⊢
 cases hc:decide (to≥0)&&decide (to≤r.1-1) with
 |false=>rw[hc] at h0;cases h0
 |true=>
 cases cJ:decide (n≥1)&&decide (n≤1099511627776) with
 |false=>rw[hc,cJ] at h0;cases h0
 |true=>
 rw[hc,cJ] at h0
 simp only[ay,aj] at h0⊢
 simp only[aR,aN] at hc cJ
 have hi:to.toNat<s.B.1.length:=by omega
 by_cases hk:kd=11
 ·rw[aa hk] at h0⊢
  simp only[ai] at h0⊢
  rw[if_pos hk]
  unfold I4 at h0⊢
  cases cL:decide ((s.B.1.getD to.toNat ad).1+(s.B.1.getD to.toNat ad).2.1-(s.B.1.getD to.toNat ad).2.2<n) with
  |true=>rw[cL] at h0;cases h0
  |false=>
  cases dO:decide (s.to-n<0) with
  |true=>rw[cL,dO] at h0;cases h0
  |false=>
  cases hz:decide ((jB (s.B.1.getD to.toNat ad) (-n)).2=0) with
  |false=>rw[cL,dO,hz] at h0;exact absurd h0 (di hz)
  |true=>
  cases gU:decide (s.to-n>1152921504606846976) with
  |true=>rw[cL,dO,hz,gU] at h0;cases h0
  |false=>
  have dO:=di dO
  have:=yK8 h hi (n:= -n) (sC hz) (by omega)
  exact⟨this,rfl,rfl,rfl,rfl⟩
 ·rw[ab hk] at h0⊢
  simp only[aj] at h0⊢
  rw[if_neg hk]
  unfold I5 at h0⊢
  cases hz:decide ((jB (s.B.1.getD to.toNat ad) n).2=0) with
  |false=>rw[hz] at h0;exact absurd h0 (di hz)
  |true=>
  cases gU:decide (s.to+n>1152921504606846976) with
  |true=>rw[hz,gU] at h0;cases h0
  |false=>
  have gU:=di gU
  exact⟨yK8 h hi (sC hz) (by omega),rfl,rfl,rfl,rfl⟩
theorem vDi {r:qP}{s:qD}(h:yD r s){a p:Int}(h0:(kb r s a p).1=0):yD r (kb r s a p).2:=by
  have hb:wM s.B.1 s.B.2.1 s.B.2.2.1 s.B.2.2.2:=h.bk
  unfold kb at h0⊢
  cases hc:decide (a≥0)&&decide (a≤(r.2.1.length:Int)-1) with
  |false=>rw[hc] at h0;cases h0
  |true=>
  cases cJ:decide (p≥0)&&decide (p≤1048576) with
  |false=>rw[hc,cJ] at h0;cases h0
  |true=>
  rw[hc,cJ] at h0
  simp only[ay,aj] at h0⊢
  simp only[aR,aN] at hc cJ
  have hL:∀i,i<s.B.1.length→j0 r.2.1 (s.pr.set a.toNat p) (s.ho.getD i []):=fun i hi=>(h.laid i hi).setP (by omega) ⟨by omega,by omega⟩
  generalize s.pr.set a.toNat p=pr at*
  unfold EN at h0⊢
  cases cL:qH (fun j=> !decide (fl r.2.1 pr s.ho j>1152921504606846976)) s.B.1.length 0 with
  |false=>rw[cL] at h0;cases h0
  |true=>
  simp only[ai]
  have hle:∀i,i<s.B.1.length→fl r.2.1 pr s.ho i≤1152921504606846976:=fun i hi=>by
    have:=fZ.1 cL i hi
    simp only[Bool.not_eq_true',decide_eq_false_iff_not] at this
    omega
  have eA:=UO r.2.1 pr s.ho s.B.1
  have hg:=fun(j:Nat) (hj:j<s.B.1.length)=>UP r.2.1 pr s.ho s.B.1 hj
  exact{
    tk:=h.tk
    bk:=hb.setAcct eA fun i hi=>by
      rw[hg i hi]
      have:=wc.1 (hb.acct i hi)
      have h1:=D7 (hL i hi)
      have h2:=hle i hi
      rw[wc]
      exact⟨this.1,⟨h1,by show fl r.2.1 pr s.ho i≤_;omega⟩,this.2.2⟩
    n:=by show(((gZ r.2.1 pr s.ho s.B.1).length:Nat):Int)=r.1;rw[eA];exact h.n
    hol:=by show s.ho.length=(gZ r.2.1 pr s.ho s.B.1).length;rw[eA];exact h.hol
    laid:=by show∀i,i<(gZ r.2.1 pr s.ho s.B.1).length→_;rw[eA];exact hL
    cred:=by
      show∀i,i<(gZ r.2.1 pr s.ho s.B.1).length→((gZ r.2.1 pr s.ho s.B.1).getD i ad).2.1=lT r.2.1 pr (s.ho.getD i [])
      rw[eA]
      intro i hi
      rw[hg i hi];rfl
    most:=by
      show∀i,i<(gZ r.2.1 pr s.ho s.B.1).length→((gZ r.2.1 pr s.ho s.B.1).getD i ad).2.1≤_
      rw[eA]
      intro i hi
      rw[hg i hi];exact hle i hi
    waits:=by show gE (gZ r.2.1 pr s.ho s.B.1).length s.m s.ids;rw[eA];exact h.waits
    sum:=by
      show qJ (fun i=>((gZ r.2.1 pr s.ho s.B.1).getD i ad).1) (gZ r.2.1 pr s.ho s.B.1).length=s.to
      rw[eA,oB (h:=fun i=>(s.B.1.getD i ad).1) fun i hi=>by rw[hg i hi]]
      exact h.sum
    tot:=h.tot
    over:=h.over
    none:=h.none}
abbrev MT:=Int×List gV×Int×Int×Int×Int×List qO×wR×AC×wR×AC×wR×List zE×AC×Int×Bool×Int×Int
abbrev Vn:=Int×List gV×Int×Int×Int×Int×List qO×wR×AC×wR×AC×wR×List zE×AC×Int×Bool×Int×List yA×Int
def rk (r:qP)(s:qD)(who:Int):MT:=(r.1,r.2.1,r.2.2.1,r.2.2.2.1,r.2.2.2.2,s.t,s.B.1,s.B.2.1,s.B.2.2.1,s.B.2.2.2,s.pr,s.ho,s.m,s.ids,s.to,s.ov,who,0)
def qR (r:qP)(s:qD)(who:Int)(l:List yA)(paid:Int):Vn:=(r.1,r.2.1,r.2.2.1,r.2.2.2.1,r.2.2.2.2,s.t,s.B.1,s.B.2.1,s.B.2.2.1,s.B.2.2.2,s.pr,s.ho,s.m,s.ids,s.to,s.ov,who,l,paid)
def E6 (pa n:Int):Int:=bif decide (n<0) then-1 else bif decide (n≥pa) then-1 else n
theorem Vo k r s who l p n:tq k (qR r s who l p) n=some (E6 r.1 n):=by
 unfold tq E6
 have e:(qR r s who l p).1=r.1:=rfl
 grind
theorem Vp {pa n}(h:0≤n∧n<pa):E6 pa n=n:=by
 unfold E6
 grind
theorem Vq {pa n}(h:¬(0≤n∧n<pa)):E6 pa n= -1:=by
 unfold E6
 grind
theorem yAq k (r:qP) t c:E7 k r t c=some (oQ r.2.2.1 r.2.2.2.1 t c):=by
 unfold E7 oQ
 grind
theorem yS6 k (r:qP) t (p:zE):AB k r t p=some (lX r t p):=by
 unfold AB lX
 rw[yAq]
 simp only[ae]
 have no:¬(p.2.1≥0∧p.2.1<r.1∧p.2.2.1≥0∧p.2.2.1<r.1∧p.1≥1∧p.2.2.2.1≥1∧p.2.2.2.1≤1099511627776∧p.2.2.2.2.1≥1∧¬p.2.1=p.2.2.1∧p.2.2.2.2.1≤3∧p.2.2.2.2.2.1≥0∧p.2.2.2.2.2.1≤p.2.2.2.2.2.2∧p.2.2.2.2.2.2≥t∧p.2.2.2.2.2.2≤1048576)→iQ r.1 t p=false:=by
  intro h
  cases e:iQ r.1 t p with
  |false=>rfl
  |true=>
   unfold iQ at e
   grind
 by_cases c1:p.1<1
 ·rw[aa c1,no (fun⟨_,_,_,_,h,_⟩=>by omega)];rfl
 by_cases c2:p.2.1<0
 ·rw[ab c1,aa c2,no (fun⟨h,_⟩=>by omega)];rfl
 by_cases c3:p.2.1≥r.1
 ·rw[ab c1,ab c2,aa c3,no (fun⟨_,h,_⟩=>by omega)];rfl
 by_cases c4:p.2.2.1<0
 ·rw[ab c1,ab c2,ab c3,aa c4,no (fun⟨_,_,h,_⟩=>by omega)];rfl
 by_cases c5:p.2.2.1≥r.1
 ·rw[ab c1,ab c2,ab c3,ab c4,aa c5,no (fun⟨_,_,_,h,_⟩=>by omega)];rfl
 rw[ab c1,ab c2,ab c3,ab c4,ab c5]
 simp only[aj]
 by_cases c6:p.2.1=p.2.2.1
 ·rw[aa c6,no (fun⟨_,_,_,_,_,_,_,_,h,_⟩=>h c6)];rfl
 by_cases c7:p.2.2.2.1<1
 ·rw[ab c6,aa c7,no (fun⟨_,_,_,_,_,h,_⟩=>by omega)];rfl
 by_cases c8:p.2.2.2.1>1099511627776
 ·rw[ab c6,ab c7,aa c8,no (fun⟨_,_,_,_,_,_,h,_⟩=>by omega)];rfl
 by_cases c9:p.2.2.2.2.1<1
 ·rw[ab c6,ab c7,ab c8,aa c9,no (fun⟨_,_,_,_,_,_,_,h,_⟩=>by omega)];rfl
 by_cases MA:p.2.2.2.2.1>3
 ·rw[ab c6,ab c7,ab c8,ab c9,aa MA,no (by grind)];rfl
 rw[ab c6,ab c7,ab c8,ab c9,ab MA]
 simp only[aj]
 by_cases zg:p.2.2.2.2.2.1<0
 ·rw[aa zg,no (by grind)];rfl
 by_cases NH:p.2.2.2.2.2.1>p.2.2.2.2.2.2
 ·rw[ab zg,aa NH,no (by grind)];rfl
 by_cases Vr:p.2.2.2.2.2.2<t
 ·rw[ab zg,ab NH,aa Vr,no (by grind)];rfl
 by_cases c14:p.2.2.2.2.2.2>1048576
 ·rw[ab zg,ab NH,ab Vr,aa c14,no (by grind)];rfl
 rw[ab zg,ab NH,ab Vr,ab c14]
 have e:iQ r.1 t p=true:=by
  unfold iQ
  simp_all
 rw[e]
 rfl
def AE (k:Nat)(r:qP)(s:qD)(who:Int)(p:zE):Option (Int×Vn):=
 (AB k r s.t p).bind fun x1=>
 bif !(decide (x1=0)) then some (x1,qR r s who [] 0)
 else(AA k s.ids p.1).bind fun x2=>
 bif !(decide (x2.2=0)) then some (x2.2,qR r s who [] 0)
 else(Az k s.m p.1 p.2.1 p.2.2.1 p.2.2.2.1 p.2.2.2.2.1 p.2.2.2.2.2.1 p.2.2.2.2.2.2).bind fun x3=>
 bif !(decide (x3.2=0)) then some (x3.2,qR r s who [] 0)
 else some (0,qR r {s with m:=x3.1,ids:=x2.1} who [] p.1)
theorem Vs {k}(hk:1000≤k){r}(hr:jS r){s}(h:gE s.B.1.length s.m s.ids) who f:
  ∃d,NI k (rk r s who) f.2=some ((gY r s who f).1,d)∧((gY r s who f).1=0→d=qR r {s with m:=(gY r s who f).2.1,ids:=(gY r s who f).2.2} who [] f.2.1):=by
 have hp:=hr.pa
 have hi:=h.idl
 have hm:=h.len
 have eD:NI k (rk r s who) f.2=(tq k (qR r s who [] 0) f.2.2.1).bind fun x0=>
  bif decide (f.2.2.2.2.1 ≥ 1) then (bif decide (f.2.2.2.2.1≤3) then AE k r s who (f.2.1,who,x0,f.2.2.2)
   else AE k r s who (f.2.1,who,x0,f.2.2.2.1,0,f.2.2.2.2.2))
  else AE k r s who (f.2.1,who,x0,f.2.2.2.1,0,f.2.2.2.2.2):=rfl
 have bad:∀p:zE,iQ r.1 s.t p=false→AE k r s who p=some (1,qR r s who [] 0):=by
  intro p hp
  unfold AE
  rw[yS6]
  unfold lX
  rw[hp]
  rfl
 have abe:∀p:zE,¬(p.2.2.1≥0∧p.2.2.2.2.1≥1)→iQ r.1 s.t p=false:=by
  intro p hn
  cases e:iQ r.1 s.t p with
  |false=>rfl
  |true=>
   unfold iQ at e
   simp  at e
   obtain⟨_,⟨a3,_⟩,_,_,_,a8,_⟩:=e
   exact absurd ⟨a3,a8⟩ hn
 rw[eD,Vo]
 simp only[ae]
 unfold gY
 by_cases hto:0≤f.2.2.1∧f.2.2.1<r.1
 ·rw[Vp hto,aa (show f.2.2.1≥0 by omega),aa (show f.2.2.1≤r.1-1 by omega)]
  by_cases hc:f.2.2.2.2.1≥1∧f.2.2.2.2.1≤3
  ·rw[aa hc.1,aa hc.2]
   simp only[Bool.and_self,ay,aj,ai]
   have ep:((f.2.1,who,f.2.2.1,f.2.2.2):zE)=fk who f:=rfl
   rw[ep]
   unfold AE
   rw[yS6]
   simp only[ae]
   by_cases hz:lX r s.t (fk who f)=0
   ·rw[aa hz]
    have e1:(fk who f).1=f.2.1:=rfl
    simp only[ay,aj]
    rw[e1,vB0 (by omega) (by omega)]
    simp only[ae]
    by_cases h1:f.2.1∈s.ids
    ·rw[aa h1];exact⟨_,rfl,fun e=>by cases e⟩
    ·rw[ab h1]
     by_cases h2:200≤s.ids.length
     ·rw[aa h2];exact⟨_,rfl,fun e=>by cases e⟩
     ·rw[ab h2]
      have e3:=vOp (k:=k) (l:=s.m) (by omega) (by omega) (fk who f)
      rw[e1] at e3
      simp only[aj,decide_true,ay]
      rw[e3]
      simp only[ae]
      cases(vN s.m f.2.1).isSome with
      |true=>exact⟨_,rfl,fun e=>by cases e⟩
      |false=>
       by_cases h3:40≤s.m.length
       ·rw[aa h3];exact⟨_,rfl,fun e=>by cases e⟩
       ·rw[ab h3];exact⟨_,rfl,fun _=>rfl⟩
   ·rw[ab hz]
    exact⟨_,rfl,fun e=>absurd e hz⟩
  ·have e0:=bad (f.2.1,who,f.2.2.1,f.2.2.2.1,0,f.2.2.2.2.2) (by grind)
   rw[e0]
   have g:(!(decide (f.2.2.2.2.1≥1)&&decide (f.2.2.2.2.1≤3)))=true:=by
    by_cases a:f.2.2.2.2.1≥1
    ·rw[aa a,ab (fun b=>hc ⟨a,b⟩)];rfl
    ·rw[ab a];rfl
   rw[g]
   refine⟨qR r s who [] 0,?_,fun e=>by cases e⟩
   by_cases a:f.2.2.2.2.1≥1
   ·rw[aa a,ab (fun b=>hc ⟨a,b⟩)];rfl
   ·rw[ab a];rfl
 ·have g:(!(decide (f.2.2.1≥0)&&decide (f.2.2.1≤r.1-1)))=true:=by
   by_cases a:f.2.2.1≥0
   ·rw[aa a,ab (show¬f.2.2.1≤r.1-1 by omega)];rfl
   ·rw[ab a];rfl
  have q:∀x:Int×Int×Int×Int,AE k r s who (f.2.1,who,-1,x)=some (1,qR r s who [] 0):=by grind
  rw[g,Vq hto,q,q]
  refine⟨qR r s who [] 0,?_,fun e=>by cases e⟩
  cases decide (f.2.2.2.2.1≥1)<;>cases decide (f.2.2.2.2.1≤3)<;>rfl
theorem Vt {k}(hk:1000≤k){r s}(h:gE s.B.1.length s.m s.ids) who f (hf:f.1=2∨f.1=3∨f.1=4):
    ∃d,AF k (rk r s who) f.1 f.2=some ((j5 r s who f).1,d)∧((j5 r s who f).1=0→d=qR r {s with m:=(j5 r s who f).2.1} who (j5 r s who f).2.2 0):=by
  have hm:=h.len
  have nk:qV s.m:=by unfold qV;omega
  have eD : AF k (rk r s who) f.1 f.2 = ((lS k s.m f.2.1).bind fun x0=>
      bif decide (x0<0) then some (((0,0,0,0,0,0,0):zE),false)
      else bif zC x0 s.m.length then (bif !(decide ((s.m.getD x0.toNat (0,0,0,0,0,0,0)).2.1=who)) then some ((0,0,0,0,0,0,0),false)
        else bif zC x0 s.m.length then some ((s.m.getD x0.toNat (0,0,0,0,0,0,0)),true)
        else none)
      else none).bind fun x0=>
    bif !x0.2 then some (4,qR r s who [] 0)
    else bif decide (f.1 = 2) then ((mJ k s.m f.2.1).bind fun x1=>
      (fq k 20 [f.2.1]).bind fun x2=>
      some (0,qR r {s with m:=x1.1} who [(who,x2)] 0))
    else bif decide (f.1 = 3) then (bif decide (f.2.2.1 = 0) then ((Jo k s.m f.2.1).bind fun x3=>
       some (0,qR r {s with m:=x3.1} who [] 0))
      else bif decide (f.2.2.1 = 1) then ((Jn k s.m f.2.1).bind fun x4=>
       some (0,qR r {s with m:=x4.1} who [] 0))
      else some (1,qR r s who [] 0))
    else bif decide (f.2.2.1<1) then some (1,qR r s who [] 0)
    else bif decide (f.2.2.1>3) then some (1,qR r s who [] 0)
    else(E7 k r s.t f.2.2.1).bind fun x5=>
    bif !(decide (x5=0)) then some (x5,qR r s who [] 0)
    else(Jm k s.m f.2.1 f.2.2.1).bind fun x6=>
    some (0,qR r {s with m:=x6.1} who [] 0):=rfl
  rw[eD,Mz (by omega) (by omega)]
  unfold j5 jy
  cases hx:vN s.m f.2.1 with
  |none=>exact by simp
  |some x=>
    have cM:=jz hx
    have e1:decide ((x:Int)<0)=false:=ab (by omega)
    simp only[ae,e1,aj,qG,aa cM.1,ai,aq]
    by_cases hw:(s.m.getD x (0,0,0,0,0,0,0)).2.1=who
    · have uv:(s.m.getD x pd).2.1=who:=hw
      rw[aa hw]
      simp only[ay,aj,ae]
      by_cases h2:f.1=2
      · rw[aa h2]
        obtain⟨n,rfl⟩:∃n,k=n+5:=⟨k-5,by omega⟩
        have eo:fq (n+5) 20 [f.2.1]=some (20,f.2.1,0,0,0,0,0):=by kernel_rfl
        simp only[ai,tp (show s.m.length<n+5 by omega) nk,ae,eo]
        unfold gC
        rw[hx]
        exact⟨_,rfl,fun _=>rfl⟩
      · rw[ab h2]
        simp only[aj]
        by_cases h3:f.1=3
        · rw[aa h3,ab (show¬f.1=4 by omega)]
          simp only[ai,aj]
          by_cases h0:f.2.2.1=0
          · rw[aa h0]
            simp only[ai,vGx (show s.m.length<k by omega) nk hx,ae]
            exact⟨_,rfl,fun _=>rfl⟩
          · rw[ab h0]
            simp only[aj]
            by_cases h1:f.2.2.1=1
            · rw[aa h1]
              simp only[ai,vQk (show s.m.length<k by omega) nk hx,ae]
              exact⟨_,rfl,fun _=>rfl⟩
            · rw[ab h1]
              exact by simp
        · rw[ab h3,aa (show f.1=4 by omega)]
          simp only[aj,ai,yAq,ae,vMp (show s.m.length<k by omega) nk hx]
          by_cases c1:f.2.2.1<1
          · rw[aa c1,ab (show¬f.2.2.1≥1 by omega)]
            exact⟨_,rfl,fun e=>by cases e⟩
          · rw[ab c1,aa (show f.2.2.1≥1 by omega)]
            by_cases c2:f.2.2.1>3
            · rw[aa c2,ab (show¬f.2.2.1≤3 by omega)]
              exact⟨_,rfl,fun e=>by cases e⟩
            · rw[ab c2,aa (show f.2.2.1≤3 by omega)]
              simp only[Bool.and_self,ay,aj]
              by_cases hc:oQ r.2.2.1 r.2.2.2.1 s.t f.2.2.1=0
              · rw[aa hc]
                exact⟨_,rfl,fun _=>rfl⟩
              · rw[ab hc]
                exact by simp
    · rw[ab hw]
      exact⟨_,rfl,fun e=>by cases e⟩
theorem vDn {k}(hk:1000≤k){r}(hr:jS r){s}(hb:qU s.B)(hn:(s.B.1.length:Int)=r.1){who}(hw:0≤who∧who<r.1) f:
    ∃d,AG k (rk r s who) f.1 f.2=some ((j6 r s who f).1,d)∧((j6 r s who f).1=0→d=qR r (j6 r s who f).2 who [] 0):=by
  obtain⟨w,rfl⟩:=Int.eq_ofNat_of_zero_le hw.1
  have eH:w<s.B.1.length:=by omega
  have eD:AG k (rk r s w) f.1 f.2=(nC k s.B.1 s.B.2.1 s.B.2.2.1 s.B.2.2.2).bind fun x0=>
    bif decide (f.1 = 5) then ((tq k (qR r s w [] 0) f.2.1).bind fun x1=>
      bif decide (x1<0) then some (1,qR r s w [] 0)
      else bif decide (x1=(w:Int)) then some (1,qR r s w [] 0)
      else bif decide (f.2.2.1<(-1)) then some (1,qR r s w [] 0)
      else bif decide (f.2.2.1>1152921504606846976) then some (1,qR r s w [] 0)
      else bif zC (w : Int) x0.2.1.length then (bif zC x1 (x0.2.1.getD (w:Int).toNat []).length then
        some (0,qR r {s with B:=(x0.1,(x0.2.1.set (w:Int).toNat ((x0.2.1.getD (w:Int).toNat []).set x1.toNat f.2.2.1)),x0.2.2.1,x0.2.2.2)} w [] 0)
       else none)
      else none)
    else bif decide (f.1 = 6) then (bif decide (f.2.1<(-1)) then some (1,qR r s w [] 0)
      else bif decide (f.2.1>1152921504606846976) then some (1,qR r s w [] 0)
      else bif zC (w:Int) x0.2.2.1.length then some (0,qR r {s with B:=(x0.1,x0.2.1,(x0.2.2.1.set (w:Int).toNat f.2.1),x0.2.2.2)} w [] 0)
      else none)
    else bif decide (f.2.1<0) then some (1,qR r s w [] 0)
    else bif decide (f.2.1>1152921504606846976) then some (1,qR r s w [] 0)
    else bif zC (w:Int) x0.1.length then some (0,qR r {s with B:=((x0.1.set (w:Int).toNat ((x0.1.getD (w:Int).toNat (0,0,0)).1,(x0.1.getD (w:Int).toNat (0,0,0)).2.1,f.2.1)),x0.2.1,x0.2.2.1,x0.2.2.2)} w [] 0)
    else none:=rfl
  rw[eD,HR (by omega) hb.toSized,Vo]
  simp only[ae,qG,aq]
  have two:∀a b:Int,∀x:Int,decide (x<a)= !decide (x≥a)∧decide (x>b)= !decide (x≤b):=by
    intro a b x
    constructor
    · by_cases h:x<a
      · rw[aa h,ab (show¬x≥a by omega)];rfl
      · rw[ab h,aa (show x≥a by omega)];rfl
    · by_cases h:x>b
      · rw[aa h,ab (show¬x≤b by omega)];rfl
      · rw[ab h,aa (show x≤b by omega)];rfl
  unfold j6
  rw[aq,(two (-1) 1152921504606846976 f.2.2.1).1,(two (-1) 1152921504606846976 f.2.2.1).2,(two (-1) 1152921504606846976 f.2.1).1,(two (-1) 1152921504606846976 f.2.1).2,(two 0 0 f.2.1).1]
  by_cases h5:f.1=5
  · rw[aa h5]
    simp only[ai]
    by_cases hc:0≤f.2.1∧f.2.1<r.1
    · rw[Vp hc,aa (show f.2.1≥0 by omega),aa (show f.2.1≤r.1-1 by omega),ab (show¬f.2.1<0 by omega)]
      have b1:decide (w<s.B.2.1.length)=true:=aa (by rw[hb.bl];exact eH)
      have b2:zC f.2.1 (s.B.2.1.getD w []).length=true:=iM hc.1 (by rw[hb.br w eH];omega)
      rw[b1,b2]
      cases decide (f.2.1=(w:Int)) with
      |true=>exact⟨_,rfl,fun e=>by cases e⟩
      |false=>
        cases decide (f.2.2.1≥-1) with
        |false=>exact⟨_,rfl,fun e=>by cases e⟩
        |true=>
          cases decide (f.2.2.1≤1152921504606846976) with
          |false=>exact⟨_,rfl,fun e=>by cases e⟩
          |true=>exact⟨_,rfl,fun _=>rfl⟩
    · rw[Vq hc]
      have g:(decide (f.2.1≥0)&&decide (f.2.1≤r.1-1))=false:=by
        by_cases a:f.2.1≥0
        · rw[aa a,ab (show¬f.2.1≤r.1-1 by omega)];rfl
        · rw[ab a];rfl
      rw[g]
      exact⟨_,rfl,fun e=>by cases e⟩
  · rw[ab h5]
    by_cases h6:f.1=6
    · rw[aa h6]
      have b1:decide (w<s.B.2.2.1.length)=true:=aa (by rw[hb.ml];exact eH)
      rw[b1]
      cases decide (f.2.1≥-1) with
      |false=>exact⟨_,rfl,fun e=>by cases e⟩
      |true=>
        cases decide (f.2.1≤1152921504606846976) with
        |false=>exact⟨_,rfl,fun e=>by cases e⟩
        |true=>exact⟨_,rfl,fun _=>rfl⟩
    · rw[ab h6]
      have b1:decide (w<s.B.1.length)=true:=aa eH
      rw[b1]
      cases decide (f.2.1≥0) with
      |false=>exact⟨_,rfl,fun e=>by cases e⟩
      |true=>
        cases decide (f.2.1≤1152921504606846976) with
        |false=>exact⟨_,rfl,fun e=>by cases e⟩
        |true=>exact⟨_,rfl,fun _=>rfl⟩
theorem yXm {k l}(hl:l.length≤1000){i:Nat}(h1:i<l.length) v:tt k l i v=some (l.set i v):=by
 unfold tt
 rw[qT (n:=0+l.length) (by omega) (by omega),aa (by simp),aa (by grind),qG,aa h1,aq]
 rfl
theorem vFh {r}(hr:jS r){s}(h:yD r s){who}(hw:0≤who∧who<r.1) a many:
    ∃d,NJ 1000 (rk r s who) a many=some ((j7 r s who a many).1,d)∧((j7 r s who a many).1=0→d=qR r (j7 r s who a many).2 who [] 0):=by
  have h3:=hr.n3
  have hn:=h.n
  have gW:=h.bk.n6
  have hol:=h.hol
  obtain⟨w,rfl⟩:=Int.eq_ofNat_of_zero_le hw.1
  have eH:w<s.B.1.length:=by omega
  have eD:NJ 1000 (rk r s w) a many=
    bif decide (a<0) then some (1,qR r s w [] 0)
    else bif decide (a≥(r.2.1.length:Int)) then some (1,qR r s w [] 0)
    else bif decide (many<0) then some (1,qR r s w [] 0)
    else bif decide (many>1099511627776) then some (1,qR r s w [] 0)
    else bif zC (w : Int) s.ho.length then ((tt 1000 (s.ho.getD (w:Int).toNat []) a many).bind fun x0=>
      (Ax 1000 r.2.1 s.pr x0).bind fun x1=>
      bif !x1.2 then some (8,qR r s w [] 0)
      else bif decide (x1.1>1152921504606846976) then some (8,qR r s w [] 0)
      else(nC 1000 s.B.1 s.B.2.1 s.B.2.2.1 s.B.2.2.2).bind fun x2=>
      bif zC (w : Int) x2.1.length then (bif decide (x1.1 < (x2.1.getD (w : Int).toNat (0, 0, 0)).2.1) then (bif decide ((zA ((x2.1.getD (w:Int).toNat (0,0,0)).1+x1.1))<0) then some (9,qR r s w [] 0)
         else bif zC (w:Int) x2.1.length then(
          bif zO (0 + s.ho.length) 24 then (bif zC (w:Int) s.ho.length then
           some (0,qR r {s with B:=((x2.1.set (w:Int).toNat ((x2.1.getD (w:Int).toNat (0,0,0)).1,x1.1,(x2.1.getD (w:Int).toNat (0,0,0)).2.2)),x2.2.1,x2.2.2.1,x2.2.2.2),ho:=s.ho.set (w:Int).toNat x0} w [] 0)
           else none)
          else none)
         else none)
        else bif zC (w:Int) x2.1.length then(
         bif zO (0 + s.ho.length) 24 then (bif zC (w:Int) s.ho.length then
           some (0,qR r {s with B:=((x2.1.set (w:Int).toNat ((x2.1.getD (w:Int).toNat (0,0,0)).1,x1.1,(x2.1.getD (w:Int).toNat (0,0,0)).2.2)),x2.2.1,x2.2.2.1,x2.2.2.2),ho:=s.ho.set (w:Int).toNat x0} w [] 0)
          else none)
         else none)
        else none)
      else none)
    else none:=rfl
  rw[eD,HR (by omega) h.bk.toSized]
  simp only[ae,qG,aq]
  unfold j7
  simp only[aq]
  by_cases c1:a<0
  · rw[aa c1,ab (show¬a≥0 by omega)]
    exact⟨_,rfl,fun e=>by cases e⟩
  rw[ab c1,aa (show a≥0 by omega)]
  by_cases c2:a≥(r.2.1.length:Int)
  · rw[aa c2,ab (show¬a≤(r.2.1.length:Int)-1 by omega)]
    exact⟨_,rfl,fun e=>by cases e⟩
  rw[ab c2,aa (show a≤(r.2.1.length:Int)-1 by omega)]
  by_cases c3:many<0
  · rw[aa c3,ab (show¬many≥0 by omega)]
    exact⟨_,rfl,fun e=>by cases e⟩
  rw[ab c3,aa (show many≥0 by omega)]
  by_cases c4:many>1099511627776
  · rw[aa c4,ab (show¬many≤1099511627776 by omega)]
    exact⟨_,rfl,fun e=>by cases e⟩
  rw[ab c4,aa (show many≤1099511627776 by omega)]
  obtain⟨i,rfl⟩:=Int.eq_ofNat_of_zero_le (show 0≤a by omega)
  have hi:i<r.2.1.length:=by omega
  have L:=h.laid w eH
  have L2:=L.set hi (v:=many) ⟨by omega,by omega⟩
  have b1:decide (w<s.ho.length)=true:=aa (by omega)
  have b2:decide (w<s.B.1.length)=true:=aa eH
  have lh:tt 1000 (s.ho.getD w []) (i:Int) many=some ((s.ho.getD w []).set i many):=yXm (by rw[L.hl];omega) (by rw[L.hl];omega) many
  have hv:=yJf L2
  have hb:=h.bk.nums.bal w eH
  have xC:=D7 L2
  have e24:zO (0+s.ho.length) 24=true:=qT (by omega) (by omega)
  simp only[Bool.and_self,ay,aj,b1,ai,lh,ae,hv,b2,aq,e24]
  clear hv L2 eD
  generalize lT r.2.1 s.pr ((s.ho.getD w []).set i many)=n at xC⊢
  unfold EH
  cases UC:decide (n>1152921504606846976) with
  |true=>exact⟨_,rfl,fun e=>by cases e⟩
  |false=>
    have h8:¬n>1152921504606846976:=di UC
    have w2:zA ((s.B.1.getD w (0,0,0)).1+n)=(s.B.1.getD w (0,0,0)).1+n:=zQ (by have:=hb.1;simp only[ad] at this;omega) (by have:=hb.2;simp only[ad] at this;omega)
    simp only[w2,aj]
    cases decide (n<(s.B.1.getD w (0,0,0)).2.1) with
    |false=>exact⟨_,rfl,fun _=>rfl⟩
    |true=>
      cases decide ((s.B.1.getD w (0,0,0)).1+n<0) with
      |true=>exact⟨_,rfl,fun e=>by cases e⟩
      |false=>exact⟨_,rfl,fun _=>rfl⟩
theorem In9 {k}{a:qO}(ha:-4611686018427387904<a.1∧a.1<4611686018427387904){n}(hn:1≤n∧n≤1099511627776):E8 k a n=some (jB a n):=by
 unfold E8 jB EW
 rw[aa (by grind),zQ (x:=9223372036854775807-n) (by omega) (by omega),ab (by grind),ab (by grind),zQ (x:=a.1+n) (by omega) (by omega)]
 simp[S9]
 grind
theorem vCy {r}(hr:jS r){s}(h:yD r s) who kd to n (Ln:kd=10∨kd=11):
    ∃d,E9 1000 (rk r s who) (decide (kd=10)) to n=some ((ka r s kd to n).1,d)∧((ka r s kd to n).1=0→d=qR r (ka r s kd to n).2 who [] 0):=by
  have hn:=h.n
  have ht:=h.tot
  have eD:E9 1000 (rk r s who) (decide (kd=10)) to n=(tq 1000 (qR r s who [] 0) to).bind fun x0=>
    bif decide (x0<0) then some (1,qR r s who [] 0)
    else bif decide (n<1) then some (1,qR r s who [] 0)
    else bif decide (n>1099511627776) then some (1,qR r s who [] 0)
    else(nC 1000 s.B.1 s.B.2.1 s.B.2.2.1 s.B.2.2.2).bind fun x1=>
    bif decide (kd = 10) then (bif zC x0 x1.1.length then ((E8 1000 (x1.1.getD x0.toNat (0,0,0)) n).bind fun x2=>
      bif decide ((zA (s.to+n))>1152921504606846976) then some (8,qR r s who [] 0)
      else bif !(decide (x2.2=0)) then some (8,qR r s who [] 0)
      else bif zC x0 x1.1.length then some (0,qR r {s with B:=((x1.1.set x0.toNat x2.1),x1.2.1,x1.2.2.1,x1.2.2.2),to:=zA (s.to+n)} who [] 0)
      else none)
     else none)
    else bif zC x0 x1.1.length then (bif decide ((zA ((zA ((x1.1.getD x0.toNat (0,0,0)).1+(x1.1.getD x0.toNat (0,0,0)).2.1))-(x1.1.getD x0.toNat (0,0,0)).2.2))<n) then some (9,qR r s who [] 0)
     else bif decide (s.to<n) then some (9,qR r s who [] 0)
     else bif zC x0 x1.1.length then
      some (0,qR r {s with B:=((x1.1.set x0.toNat ((zA ((x1.1.getD x0.toNat (0,0,0)).1-n)),(x1.1.getD x0.toNat (0,0,0)).2)),x1.2.1,x1.2.2.1,x1.2.2.2),to:=zA (s.to-n)} who [] 0)
     else none)
    else none:=rfl
  rw[eD,Vo,HR (by omega) h.bk.toSized]
  simp only[ae]
  unfold ka
  by_cases hc:0≤to∧to<r.1
  · rw[Vp hc,ab (show¬to<0 by omega),aa (show to≥0 by omega),aa (show to≤r.1-1 by omega)]
    by_cases c1:n<1
    · rw[aa c1,ab (show¬n≥1 by omega)]
      exact⟨_,rfl,fun e=>by cases e⟩
    rw[ab c1,aa (show n≥1 by omega)]
    by_cases c2:n>1099511627776
    · rw[aa c2,ab (show¬n≤1099511627776 by omega)]
      exact⟨_,rfl,fun e=>by cases e⟩
    rw[ab c2,aa (show n≤1099511627776 by omega)]
    obtain⟨i,rfl⟩:=Int.eq_ofNat_of_zero_le hc.1
    have hi:i<s.B.1.length:=by omega
    have hb:=h.bk.nums.bal i hi
    have jo:=h.bk.nums.res i hi
    have hcr:=h.most i hi
    have UN:0≤(s.B.1.getD i ad).2.1:=by rw[h.cred i hi];exact D7 (h.laid i hi)
    have Vu:=wc.1 (h.bk.acct i hi)
    have b0:zC (i:Int) s.B.1.length=true:=by rw[qG,aa hi]
    have q2:zA (s.to-n)=s.to-n:=zQ (by omega) (by omega)
    have q3:zA (s.to+n)=s.to+n:=zQ (by omega) (by omega)
    have I6:E8 1000 (s.B.1.getD i (0,0,0)) n=some (jB (s.B.1.getD i ad) n):=In9 hb ⟨by omega,by omega⟩
    simp only[Bool.and_self,ay,aj,b0,ai,aq,I6,ae,q2,q3]
    clear I6 eD
    rcases Ln with e|e
    · rw[aa e,ab (show¬kd=11 by omega)]
      simp only[ai,aj]
      unfold I5
      cases hz:decide ((jB (s.B.1.getD i ad) n).2=0) with
      |false=>
        have e8:(jB (s.B.1.getD i ad) n).2=8:=by
          have:=di hz
          unfold jB at this⊢
          cases hx:jU ((s.B.1.getD i ad).1+n,(s.B.1.getD i ad).2.1,(s.B.1.getD i ad).2.2) with
          |true=>rw[hx] at this;exact absurd rfl this
          |false=>rfl
        rw[e8]
        cases decide (s.to+n>1152921504606846976)<;>exact⟨_,rfl,fun e=>by cases e⟩
      |true=>
        cases decide (s.to+n>1152921504606846976) with
        |true=>exact⟨_,rfl,fun e=>by cases e⟩
        |false=>exact⟨_,rfl,fun _=>rfl⟩
    · rw[ab (show¬kd=10 by omega),aa e]
      simp only[ai,aj]
      unfold I4
      have q1:zA ((s.B.1.getD i (0,0,0)).1+(s.B.1.getD i (0,0,0)).2.1)=(s.B.1.getD i ad).1+(s.B.1.getD i ad).2.1:=zQ (by simp only[ad] at*;omega) (by simp only[ad] at*;omega)
      have q4:zA ((s.B.1.getD i ad).1+(s.B.1.getD i ad).2.1-(s.B.1.getD i (0,0,0)).2.2)=(s.B.1.getD i ad).1+(s.B.1.getD i ad).2.1-(s.B.1.getD i ad).2.2:=zQ (by simp only[ad] at*;omega) (by simp only[ad] at*;omega)
      have q5:zA ((s.B.1.getD i (0,0,0)).1-n)=(s.B.1.getD i ad).1+-n:=by rw[zQ (by simp only[ad] at*;omega) (by simp only[ad] at*;omega)];rfl
      simp only[q1,q4,q5]
      by_cases c5:(s.B.1.getD i ad).1+(s.B.1.getD i ad).2.1-(s.B.1.getD i ad).2.2<n
      · rw[aa c5];exact⟨_,rfl,fun e=>by cases e⟩
      rw[ab c5]
      by_cases c6:s.to<n
      · rw[aa c6,aa (show s.to-n<0 by omega)];exact⟨_,rfl,fun e=>by cases e⟩
      rw[ab c6,ab (show¬s.to-n<0 by omega),ab (show¬s.to-n>1152921504606846976 by omega)]
      have em:jB (s.B.1.getD i ad) (-n)=(((s.B.1.getD i ad).1+-n,(s.B.1.getD i ad).2.1,(s.B.1.getD i ad).2.2),0):=by
        unfold jB
        have:jU ((s.B.1.getD i ad).1+-n,(s.B.1.getD i ad).2.1,(s.B.1.getD i ad).2.2)=true:=wc.2 ⟨by simp only;omega,Vu.2⟩
        rw[this];rfl
      rw[em]
      exact⟨_,rfl,fun _=>rfl⟩
  · rw[Vq hc]
    have g:(decide (to≥0)&&decide (to≤r.1-1))=false:=by
      by_cases a:to≥0
      · rw[aa a,ab (show¬to≤r.1-1 by omega)];rfl
      · rw[ab a];rfl
    rw[g]
    exact⟨_,rfl,fun e=>by cases e⟩
theorem vE1 {r s} who {pr}(hL:∀i,i<s.B.1.length→j0 r.2.1 pr (s.ho.getD i []))(hol:s.ho.length=s.B.1.length)(gW:s.B.1.length≤6):
  (qH (fun j=> !decide (fl r.2.1 pr s.ho j>1152921504606846976)) s.B.1.length 0=true∧tu 1000 1000 0 (rk r s who) pr s.B.1 s.B.2.1 s.B.2.2.1 s.B.2.2.2=some (.inl (rk r s who,pr,gZ r.2.1 pr s.ho s.B.1,s.B.2.1,s.B.2.2.1,s.B.2.2.2)))∨
  (qH (fun j=> !decide (fl r.2.1 pr s.ho j>1152921504606846976)) s.B.1.length 0=false∧tu 1000 1000 0 (rk r s who) pr s.B.1 s.B.2.1 s.B.2.2.1 s.B.2.2.2=some (.inr (8,rk r s who))):=by
 have:=Mh (L:=fun n i (a:List qO)=>tu 1000 n i (rk r s who) pr a s.B.2.1 s.B.2.2.1 s.B.2.2.2) (N:=s.B.1.length) (fun j=> !decide (fl r.2.1 pr s.ho j>1152921504606846976))
  (fun a=>.inl (rk r s who,pr,a,s.B.2.1,s.B.2.2.1,s.B.2.2.2)) (.inr (8,rk r s who))
  (fun i a => a.length = s.B.1.length ∧ ∀ j, j < s.B.1.length → a.getD j ad = if j < i then ((s.B.1.getD j ad).1, fl r.2.1 pr s.ho j, (s.B.1.getD j ad).2.2) else s.B.1.getD j ad) (fun n a ha=>by
   show Fa 1000 _ s.B.1.length (rk r s who) pr a s.B.2.1 s.B.2.2.1 s.B.2.2.2=_
   unfold Fa
   simp_all) (fun n i a hi ha=>by
   have hv:=yJf (hL i hi)
   have aM:tu 1000 (n+1) i (rk r s who) pr a s.B.2.1 s.B.2.2.1 s.B.2.2.2=bif decide (fl r.2.1 pr s.ho i>1152921504606846976) then some (.inr (8,rk r s who)) else tu 1000 n ((i+1:Nat):Int) (rk r s who) pr (a.set i ((a.getD i ad).1,fl r.2.1 pr s.ho i,(a.getD i ad).2.2)) s.B.2.1 s.B.2.2.1 s.B.2.2.2:=by
    show Fa 1000 _ i (rk r s who) pr a s.B.2.1 s.B.2.2.1 s.B.2.2.2=_
    unfold Fa
    have gL:Ax 1000 (rk r s who).2.1 pr (s.ho.getD i [])=some (fl r.2.1 pr s.ho i,true):=hv
    have eh:(rk r s who).2.2.2.2.2.2.2.2.2.2.2.1=s.ho:=rfl
    simp only[eh,qB,qG,aq,aa (show i<s.ho.length by omega),aa (show i<a.length by omega),ai,gL,ay,aj,qK hi (by grind)]
    rfl
   grind) s.B.1.length 0 1000 s.B.1 (by omega) (by omega) (by simp)
 rcases this with⟨h1,a,h2,h3,h4⟩|⟨h1,h2⟩
 ·have e:a=gZ r.2.1 pr s.ho s.B.1:=Cl ad (by rw[h3,UO]) fun j hj=>by
   rw[h3] at hj
   rw[h4 j hj,if_pos hj,UP _ _ _ _ hj]
  simp_all
 simp_all
theorem vQ3 {r}(hr:jS r){s}(h:yD r s) who a p:
  ∃d,NK 1000 (rk r s who) a p=some ((kb r s a p).1,d)∧((kb r s a p).1=0→d=qR r (kb r s a p).2 who [] 0):=by
 have h3:=hr.n3
 have gW:=h.bk.n6
 have nv:=h.bk.n1
 have eD:NK 1000 (rk r s who) a p=
  bif decide (a<0) then some (1,qR r s who [] 0)
  else bif decide (a≥(r.2.1.length:Int)) then some (1,qR r s who [] 0)
  else bif decide (p<0) then some (1,qR r s who [] 0)
  else bif decide (p>1048576) then some (1,qR r s who [] 0)
  else(tt 1000 s.pr a p).bind fun x0=>
  (nC 1000 s.B.1 s.B.2.1 s.B.2.2.1 s.B.2.2.2).bind fun x1=>
  (tu 1000 1000 0 (rk r s who) x0 x1.1 x1.2.1 x1.2.2.1 x1.2.2.2).bind fun z=>
  match z with
  |.inl z1=>some (0,(wY z1.1 (zy z1 (z1.2.1,(yO6 z1.1 ([],z1.1.2.2.2.2.2.2.2.2.2.2.2.2.2.2.2.2.2))))))
  |.inr z2=>some (yM4 z2 ([],z2.2.2.2.2.2.2.2.2.2.2.2.2.2.2.2.2.2.2)):=rfl
 rw[eD,HR (by omega) h.bk.toSized]
 simp only[ae]
 unfold kb
 by_cases c1:a<0
 ·rw[aa c1,ab (show¬a≥0 by omega)]
  exact by simp
 rw[ab c1,aa (show a≥0 by omega)]
 by_cases c2:a≥(r.2.1.length:Int)
 ·grind
 rw[ab c2,aa (show a≤(r.2.1.length:Int)-1 by omega)]
 by_cases c3:p<0
 ·rw[aa c3,ab (show¬p≥0 by omega)]
  exact by simp
 rw[ab c3,aa (show p≥0 by omega)]
 by_cases c4:p>1048576
 ·rw[aa c4,ab (show¬p≤1048576 by omega)]
  exact by simp
 rw[ab c4,aa (show p≤1048576 by omega)]
 obtain⟨i,rfl⟩:=Int.eq_ofNat_of_zero_le (show 0≤a by omega)
 have hi:i<r.2.1.length:=by omega
 have L0:=h.laid 0 (by omega)
 have lh:tt 1000 s.pr (i:Int) p=some (s.pr.set i p):=yXm (by rw[L0.pl];omega) (by rw[L0.pl];omega) p
 simp only[Bool.and_self,ay,aj,lh,ae,aq]
 unfold EN
 rcases vE1 (r:=r) (s:=s) who (pr:=s.pr.set i p) (fun j hj=>(h.laid j hj).setP hi ⟨by omega,by omega⟩) h.hol gW with⟨g1,g2⟩|⟨g1,g2⟩
 ·rw[g2,g1]
  exact⟨_,rfl,fun _=>rfl⟩
 ·rw[g2,g1]
  exact⟨_,rfl,fun e=>by cases e⟩
theorem vIy {m}(hd:qQ m){i}(hi:i<m.length):jy m (m.getD i pd).1=(i:Int):=by
 obtain⟨x,hx⟩:=My (jV (d:=pd) hi)
 have h:=jz hx
 unfold jy
 have:x=i:=by
  rcases Nat.lt_trichotomy x i with g|g|g
  ·have:=List.pairwise_iff_getElem.1 hd x i h.1 hi g
   grind
  ·exact g
  ·have:=List.pairwise_iff_getElem.1 hd i x hi h.1 g
   grind
 simp_all
theorem vSv {k}(hk:100<k){B}(h:qU B){l:List zE}(hl:l.length≤80):H5 k B.1 B.2.1 B.2.2.1 B.2.2.2 l=some (sW B l):=vI2 hk h hl
theorem NL {k}(hk:100<k){B}(h:qU B){l:List zE}(hl:l.length≤80):
  ∃C:BT,tv k B.1 B.2.1 B.2.2.1 B.2.2.2 l=some (C.1,C.2.1,C.2.2.1,C.2.2.2,(gD k B l).isSome)∧(∀D,gD k B l=some D→D=C):=by
 obtain⟨r,h1,h2,h3⟩:=D8 hk h hl
 unfold tv gD
 rw[h2,h1,vSv hk h hl]
 refine⟨(r.1,r.2.1,r.2.2.1,r.2.2.2.1),?_,?_⟩
 all_goals grind
theorem ySr {k}(hk:100<k){B}(h:qU B)(m:List zE)(hm:m.length≤1000):∀c i n,i+c=m.length→c<n→
  Jr k n i B.1 B.2.1 B.2.2.1 B.2.2.2 0 0 0 0 0 0 0 m = some (match fh k B (m.drop i) with
   |some (p,C)=>.inr (true,p.1,p.2.1,p.2.2.1,p.2.2.2.1,p.2.2.2.2.1,p.2.2.2.2.2.1,p.2.2.2.2.2.2)
   |none=>.inl (0,0,0,0,0,0,0))
 |0,i,n,e,hn=>by
  obtain⟨n,rfl⟩:∃x,n=x+1:=⟨n-1,by omega⟩
  have:i=m.length:=by omega
  subst this
  show Fc k _ m.length B.1 B.2.1 B.2.2.1 B.2.2.2 0 0 0 0 0 0 0 m=_
  unfold Fc
  simp
  rfl
 |c+1,i,n,e,hn=>by
  obtain⟨n,rfl⟩:∃x,n=x+1:=⟨n-1,by omega⟩
  have hi:i<m.length:=by omega
  have ih:=ySr hk h m hm c (i+1) n (by omega) (by omega)
  show Fc k _ i B.1 B.2.1 B.2.2.1 B.2.2.2 0 0 0 0 0 0 0 m=_
  unfold Fc
  obtain⟨C,h1,h2⟩:=NL hk h (l:=[m.getD i pd]) (by simp)
  have c1:decide ((0:Int)≤(i:Int))=true:=by simp
  have c2:decide ((i:Int)≤((i+1:Nat):Int))=true:=by grind
  have c3:decide (((i+1:Nat):Int)≤(m.length:Int))=true:=by grind
  simp only[qG,qK hi (by grind),aq,vQh m i hi]
  rw[yLu k B hi]
  grind
theorem yPy {k} (hk : 100 < k) {B} (h : qU B) {l} (bI : l.length < k) (hl : qV l) t : NM k B.1 B.2.1 B.2.2.1 B.2.2.2 l t = some (match fh k B (vZ l t) with
   |some (p,C)=>(p.1,p.2.1,p.2.2.1,p.2.2.2.1,p.2.2.2.2.1,p.2.2.2.2.2.1,p.2.2.2.2.2.2,true)
   |none=>(0,0,0,0,0,0,0,false)):=by
 unfold NM
 rw[yPw bI hl]
 have Eb:=MN l t
 unfold qV at hl
 have:=ySr hk h (vZ l t) (by omega) (vZ l t).length 0 k (by omega) (by omega)
 grind
theorem vJw {k}(hk:100<k) t {B C l m done}(h:gd k t B l done C m):∀n (r:List zE),qU B→l.length≤100→l.length<n→r.length+l.length≤1000→
  Js k n l t B.1 B.2.1 B.2.2.1 B.2.2.2 r=some (m,C.1,C.2.1,C.2.2.1,C.2.2.2,r++done):=by
 induction h with
 |@stop B l hx=>
  intro n r hb hl hn hr
  obtain⟨n,rfl⟩:∃x,n=x+1:=⟨n-1,by omega⟩
  have h2:=yPy hk hb (l:=l) (by omega) (by show l.length≤1000;omega) t
  rw[hx] at h2
  show Fe k _ l t B.1 B.2.1 B.2.2.1 B.2.2.2 r=_
  unfold Fe
  simp_all
 |@step B C D l m done p hx _ ih=>
  intro n r hb hl hn hr
  obtain⟨n,rfl⟩:∃x,n=x+1:=⟨n-1,by omega⟩
  have h2:=yPy hk hb (l:=l) (by omega) (by show l.length≤1000;omega) t
  rw[hx] at h2
  obtain⟨hp,hg⟩:=zl hx
  have BJ:=D9 hp
  obtain⟨rO,mo⟩:=sX BJ
  obtain⟨ot,cJ⟩:=ql hk hb (by simp) hg
  have g2:=ih n (r++[p]) ot (by omega) (by omega) (by grind)
  show Fe k _ l t B.1 B.2.1 B.2.2.1 B.2.2.2 r=_
  unfold Fe
  rw[h2]
  obtain⟨C',e1,e2⟩:=NL hk hb (l:=[p]) (by simp)
  have:=e2 C hg
  subst this
  simp[tp (show l.length<k by omega) (show qV l by show l.length≤1000;omega),lR (show r.length≤1000 by omega)]
  rw[List.append_cons r p done,←g2]
  have Jt:tv k B.1 B.2.1 B.2.2.1 B.2.2.2 [(p.1,p.2.1,p.2.2.1,p.2.2.2.1,p.2.2.2.2.1,p.2.2.2.2.2.1,p.2.2.2.2.2.2)]=_:=e1
  rw[Jt]
  rfl
theorem yHq {k}(hk:200≤k){B C}(hb:qU B){l m done}(hl:l.length≤100){t}(h:gd k t B l done C m):NN k B.1 B.2.1 B.2.2.1 B.2.2.2 l t=some (C.1,C.2.1,C.2.2.1,C.2.2.2,m,done):=by
 unfold NN
 rw[vJw (by omega) t h k [] hb hl (by omega) (by grind)]
 rfl
def Vv (x:Option (zE×zE×BT)):Int×Int×Int×Int×Int×Int×Int×Int×Int×Int×Int×Int×Int×Int×Bool:=match x with
 |some (p,q,C)=>(p.1,p.2.1,p.2.2.1,p.2.2.2.1,p.2.2.2.2.1,p.2.2.2.2.2.1,p.2.2.2.2.2.2,q.1,q.2.1,q.2.2.1,q.2.2.2.1,q.2.2.2.2.1,q.2.2.2.2.2.1,q.2.2.2.2.2.2,true)
 |none=>(0,0,0,0,0,0,0,0,0,0,0,0,0,0,false)
theorem yAe {k}(hk:100<k){B}(h:qU B)(m:List zE)(hm:m.length≤1000){j}(hj:j<m.length):∀c i n,i+c=m.length→c<n→
  Ju k n j i B.1 B.2.1 B.2.2.1 B.2.2.2 0 0 0 0 0 0 0 0 0 0 0 0 0 0 m = some (match nG k B (m.getD j pd) (m.drop i) with
   |some (q,C)=>.inr (true,(m.getD j pd).1,(m.getD j pd).2.1,(m.getD j pd).2.2.1,(m.getD j pd).2.2.2.1,(m.getD j pd).2.2.2.2.1,(m.getD j pd).2.2.2.2.2.1,(m.getD j pd).2.2.2.2.2.2,q.1,q.2.1,q.2.2.1,q.2.2.2.1,q.2.2.2.2.1,q.2.2.2.2.2.1,q.2.2.2.2.2.2)
   |none=>.inl ((j:Int),B.1,B.2.1,B.2.2.1,B.2.2.2,0,0,0,0,0,0,0,0,0,0,0,0,0,0,m))
 |0,i,n,e,hn=>by
  obtain⟨n,rfl⟩:∃x,n=x+1:=⟨n-1,by omega⟩
  have:i=m.length:=by omega
  subst this
  show Ff k _ j m.length B.1 B.2.1 B.2.2.1 B.2.2.2 0 0 0 0 0 0 0 0 0 0 0 0 0 0 m=_
  unfold Ff
  simp
  rfl
 |c+1,i,n,e,hn=>by
  obtain⟨n,rfl⟩:∃x,n=x+1:=⟨n-1,by omega⟩
  have hi:i<m.length:=by omega
  have ih:=yAe hk h m hm hj c (i+1) n (by omega) (by omega)
  show Ff k _ j i B.1 B.2.1 B.2.2.1 B.2.2.2 0 0 0 0 0 0 0 0 0 0 0 0 0 0 m=_
  unfold Ff
  obtain⟨C,h1,h2⟩:=NL hk h (l:=[m.getD j pd,m.getD i pd]) (by simp)
  simp[qG,qK hi (by grind),h1]
  rw[yHh k B _ hi]
  unfold oO
  grind
theorem ySt {k}(hk:100<k){B}(h:qU B)(m:List zE)(hm:m.length≤1000)(IG:m.length<k):∀c i n,i+c=m.length→c<n→
  Jv k n i B.1 B.2.1 B.2.2.1 B.2.2.2 0 0 0 0 0 0 0 0 0 0 0 0 0 0 m = some (match qm k B m (m.drop i) with
   |some (p,q,C)=>.inr (true,p.1,p.2.1,p.2.2.1,p.2.2.2.1,p.2.2.2.2.1,p.2.2.2.2.2.1,p.2.2.2.2.2.2,q.1,q.2.1,q.2.2.1,q.2.2.2.1,q.2.2.2.2.1,q.2.2.2.2.2.1,q.2.2.2.2.2.2)
   |none=>.inl (0,0,0,0,0,0,0,0,0,0,0,0,0,0))
 |0,i,n,e,hn=>by
  obtain⟨n,rfl⟩:∃x,n=x+1:=⟨n-1,by omega⟩
  have:i=m.length:=by omega
  subst this
  show Fg k _ m.length B.1 B.2.1 B.2.2.1 B.2.2.2 0 0 0 0 0 0 0 0 0 0 0 0 0 0 m=_
  unfold Fg
  simp
  rfl
 |c+1,i,n,e,hn=>by
  obtain⟨n,rfl⟩:∃x,n=x+1:=⟨n-1,by omega⟩
  have hi:i<m.length:=by omega
  have ih:=ySt hk h m hm IG c (i+1) n (by omega) (by omega)
  show Fg k _ i B.1 B.2.1 B.2.2.1 B.2.2.2 0 0 0 0 0 0 0 0 0 0 0 0 0 0 m=_
  unfold Fg
  have eO:=yAe hk h m hm hi m.length 0 k (by omega) IG
  have e0:((0:Nat):Int)=0:=rfl
  rw[e0,List.drop_zero] at eO
  simp[aa hi]
  rw[eO]
  rw[yBz k B m hi]
  cases nG k B (m.getD i pd) m with
  |none=>
   simp[qK hi (by grind)]
   exact ih
  |some x=>rfl
theorem yN3 {k}(hk:100<k){B}(h:qU B){l}(bI:l.length<k)(hl:qV l) t:NO k B.1 B.2.1 B.2.2.1 B.2.2.2 l t=some (Vv (fa k B l t)):=by
 unfold NO fa
 rw[yPw bI hl]
 have Eb:=MN l t
 unfold qV at hl
 have:=ySt hk h (vZ l t) (by omega) (by omega) (vZ l t).length 0 k (by omega) (by omega)
 have e:((0:Nat):Int)=0:=rfl
 rw[e,List.drop_zero] at this
 simp
 rw[this]
 cases qm k B (vZ l t) (vZ l t) with
 |none=>rfl
 |some x=>rfl
theorem vW0 {k}(hk:100<k) t {B C l m done}(h:jI k t B l done C m):∀n (r:List zE),qU B→qQ l→l.length≤100→l.length<n→r.length+l.length≤900→
  Jw k n l t B.1 B.2.1 B.2.2.1 B.2.2.2 r=some (m,C.1,C.2.1,C.2.2.1,C.2.2.2,r++done):=by
 induction h with
 |@stop B l hx=>
  intro n r hb hd hl hn hr
  obtain⟨n,rfl⟩:∃x,n=x+1:=⟨n-1,by omega⟩
  have h2:=yN3 hk hb (l:=l) (by omega) (by show l.length≤1000;omega) t
  rw[hx] at h2
  show Fh k _ l t B.1 B.2.1 B.2.2.1 B.2.2.2 r=_
  unfold Fh
  rw[h2]
  simp only[ae,Vv,bx,ai,List.append_nil]
 |@step B C D l m done p q hx _ ih=>
  intro n r hb hd hl hn hr
  obtain⟨n,rfl⟩:∃x,n=x+1:=⟨n-1,by omega⟩
  have h2:=yN3 hk hb (l:=l) (by omega) (by show l.length≤1000;omega) t
  rw[hx] at h2
  obtain⟨hp,hq,nH,hg⟩:=Ed hx
  obtain⟨rO,mo⟩:=Ee hd hp hq nH
  obtain⟨ot,cJ⟩:=ql hk hb (by simp) hg
  have qp:(jT l p.1).length≤l.length:=(sX hp).2.length_le
  have g2:=ih n (r++[p,q]) ot (List.Pairwise.sublist mo hd) (by omega) (by omega) (by grind)
  have e2:r++[p,q]++done=r++p::q::done:=by rw[List.append_assoc];rfl
  show Fh k _ l t B.1 B.2.1 B.2.2.1 B.2.2.2 r=_
  unfold Fh
  rw[h2]
  obtain⟨C',e1,e2'⟩:=NL hk hb (l:=[p,q]) (by simp)
  have:=e2' C hg
  subst this
  have Jt:tv k B.1 B.2.1 B.2.2.1 B.2.2.2 [(p.1,p.2.1,p.2.2.1,p.2.2.2.1,p.2.2.2.2.1,p.2.2.2.2.2.1,p.2.2.2.2.2.2),(q.1,q.2.1,q.2.2.1,q.2.2.2.1,q.2.2.2.2.1,q.2.2.2.2.2.1,q.2.2.2.2.2.2)]=_:=e1
  have d1:=tp (show l.length<k by omega) (show qV l by show l.length≤1000;omega) p.1
  have d2:=tp (k:=k) (l:=(gC l p.1).1) (Nat.lt_of_le_of_lt qp (by omega)) (Nat.le_trans qp (by omega)) q.1
  have e3:zO (r.length+2) 56=true:=qT (by omega) (by omega)
  simp only[ae,Vv,Jt,d1,d2,e3]
  rw[←e2,←g2]
  rfl
theorem yY0 {k}(hk:200≤k){B C}(hb:qU B){l m done}(hd:qQ l)(hl:l.length≤100){t}(h:jI k t B l done C m):NP k B.1 B.2.1 B.2.2.1 B.2.2.2 l t=some (C.1,C.2.1,C.2.2.1,C.2.2.2,m,done):=by
 unfold NP
 rw[vW0 (by omega) t h k [] hb hd hl (by omega) (by grind)]
 rfl
theorem Vw {k l}(hk:l.length<k)(hl:qV l) many:Fi k l many=some (vA l many):=by
 unfold qV at hl
 unfold Fi
 obtain ⟨s', h1, h2⟩ := vC (L := fun n i s => Fj k n l many i s) (N := l.length) (fun s => s) (fun i s => s = lU l many i) (fun n s _=>by
  show Fk k _ l many l.length s=_
  unfold Fk
  simp) (fun n i s hi hs=>by
  have eF:s.length≤i:=by rw[hs];exact Uh l many i
  refine⟨bif qn l many i then s++[l.getD i pd] else s,?_,?_⟩
  ·show Fk k _ l many i s=_
   unfold Fk
   have c1:decide ((0:Int)≤(i:Int))=true:=by simp
   have c2:decide ((i:Int)≤(l.length:Int))=true:=by grind
   have Mw:=Mt (k:=k) (l:=l.take i) (by grind) (by show(l.take i).length≤1000;grind) (l.getD i pd).2.1
   simp only[qG,qK hi (by grind),qB,aq,aa hi,lR (show s.length≤1000 by omega),c2,Mw]
   unfold qn jK
   cases e1:decide ((l.getD i (0,(0,(0,(0,(0,(0,0))))))).2.1≥0) with
   |false=>rfl
   |true=>
    cases e2:decide ((l.getD i (0,(0,(0,(0,(0,(0,0))))))).2.1<(many.length:Int)) with
    |false=>rfl
    |true=>
     rw[aN] at e1 e2
     have hb:zC (l.getD i (0,(0,(0,(0,(0,(0,0))))))).2.1 many.length=true:=iM e1 (by omega)
     grind
  ·show _=lU l many i++_
   grind) (s:=[]) hk rfl
 have df:Fj k k l many 0 []=some s':=h1
 rw[df,h2]
 rfl
theorem vU4 {k}{B:BT}{l}(hk:l.length<k)(hl:qV l)(hn:B.1.length<k)(hn':B.1.length≤1000):
  AH k k 0 B.1 B.2.1 B.2.2.1 B.2.2.2 l []=some (B.1,B.2.1,B.2.2.1,B.2.2.2,l,gf l B.1.length):=by
 obtain ⟨s', h1, h2⟩ := vC (L := fun n i (s : AC) => AH k n i B.1 B.2.1 B.2.2.1 B.2.2.2 l s) (N := B.1.length) (fun s => (B.1, B.2.1, B.2.2.1, B.2.2.2, l, s)) (fun i s => s = gf l i) (fun n s _=>by
  show Fl k _ B.1.length B.1 B.2.1 B.2.2.1 B.2.2.2 l s=_
  unfold Fl
  simp) (fun n i s hi hs=>by
  refine⟨_,?_,(yA4 l i).symm⟩
  show Fl k _ i B.1 B.2.1 B.2.2.1 B.2.2.2 l s=_
  unfold Fl
  have hr:zO (s.length+1) 8=true:=by rw[hs,vd];exact qT (by omega) (by omega)
  simp[aa hi,Mt hk hl,hr,qK hi (by grind)]
  rw[hs]
  rfl) (s:=[]) hn rfl
 simp_all
theorem vCv {k}{B:BT}{l:List zE}{s m}(hk:s.length<k)(hs:s.length≤1000)(eO:∀x∈s,0≤x∧x<(m.length:Int))(h0:nI m)(hm:∀i,m.getD i 0≤1000) aP:
  Fm k k aP 0 B.1 B.2.1 B.2.2.1 B.2.2.2 l m s=some (aP,B.1,B.2.1,B.2.2.1,B.2.2.2,l,jX s m):=by
 obtain ⟨s', h1, h2⟩ := vC (L := fun n i (r : AC) => Fm k n aP i B.1 B.2.1 B.2.2.1 B.2.2.2 l r s) (N := s.length) (fun r => (aP, B.1, B.2.1, B.2.2.1, B.2.2.2, l, r)) (fun i r => r = jX (s.take i) m) (fun n r _=>by
  show Fo k _ aP s.length B.1 B.2.1 B.2.2.1 B.2.2.2 l r s=_
  unfold Fo
  simp) (fun n i r hi hr=>by
  refine⟨_,?_,(yGc s m i hi).symm⟩
  show Fo k _ aP i B.1 B.2.1 B.2.2.1 B.2.2.2 l r s=_
  unfold Fo
  obtain⟨b1,b2⟩:=eO _ (jV (d:=0) hi)
  have ua:r.length=m.length:=by rw[hr,ta]
  have hb:zC (s.getD i 0) r.length=true:=iM b1 (by omega)
  have SY:=IJ (s.take i) m (s.getD i 0).toNat
  have GS:=h0 (s.getD i 0).toNat
  have uD:=hm (s.getD i 0).toNat
  have bg:(s.take i).length≤s.length:=by grind
  have hw:zA (r.getD (s.getD i 0).toNat 0-1)=r.getD (s.getD i 0).toNat 0-1:=by
   rw[hr]
   exact zQ (by omega) (by omega)
  simp only[qB,qG,aq,aa hi,ai,hb,hw,qK hi (by grind)]
  rw[hr]) (s:=m) hk rfl
 simp_all
theorem vHw {k}(hk:100<k){B}(hb:qU B){l}(hl:∀q∈l,yG B.1.length q)(bU:l.length≤64){m f n}(h:j3 B l m f n):
  ∀N (s7:Int),m.length=B.1.length→nI m→(∀i,m.getD i 0≤1000)→n<N→0≤s7→s7+n<1000000→
  Jx k N s7 B.1 B.2.1 B.2.2.1 B.2.2.2 l m=some (s7+n,f):=by
 induction h with
 |@stop m h=>
  intro N s7 hm h0 h1 hn hs ue
  obtain⟨N,rfl⟩:∃x,N=x+1:=⟨N-1,by omega⟩
  show Fp k _ s7 B.1 B.2.1 B.2.2.1 B.2.2.2 l m=_
  unfold Fp
  have hS:=yGq hk hb (IK hl bU m)
  have ng:sN k B.1 B.2.1 B.2.2.1 B.2.2.2 (vA l m)=some (jR B (vA l m)):=hS
  rw[Vw (by omega) (show qV l by show l.length≤1000;omega)]
  simp_all
 |@step m f n h h' ih=>
  intro N s7 hm h0 h1 hn hs ue
  obtain⟨N,rfl⟩:∃x,N=x+1:=⟨N-1,by omega⟩
  have gW:=hb.n6
  show Fp k _ s7 B.1 B.2.1 B.2.2.1 B.2.2.2 l m=_
  unfold Fp
  have hS:=yGq hk hb (IK hl bU m)
  have ng:sN k B.1 B.2.1 B.2.2.1 B.2.2.2 (vA l m)=some (jR B (vA l m)):=hS
  rw[Vw (by omega) (show qV l by show l.length≤1000;omega)]
  simp only[ae]
  rw[ng]
  simp only[ae]
  have w:zA (s7+1)=s7+1:=zQ (by omega) (by omega)
  have bm : decide ((((jR B (vA l m)).length : Nat) : Int) = 0) = false := ab (by
   have:=List.length_pos_iff.2 h
   omega)
  have eF:(jR B (vA l m)).length≤B.1.length:=by
   unfold jR sP
   grind
  rw[bm]
  simp
  rw[vCv (by omega) (by omega) (by rw[hm];exact Ug) h0 h1]
  simp[w]
  have Us:=MU hl hm h0
  have:=ih N (s7+1) ((ta _ _).trans hm) Us (fun i=>by have:=(IJ (jR B (vA l m)) m i).2;have:=h1 i;omega) (by omega) (by omega) (by omega)
  rw[this]
  congr 2
  omega
theorem vZg {k}(hk:100<k){B}(hb:qU B){l}(hl:∀q∈l,yG B.1.length q)(bU:l.length≤64) t {f n}(hn:n≤l.length)(h:j3 B (yU l t) (gf (yU l t) B.1.length) f n):
  NQ k B.1 B.2.1 B.2.2.1 B.2.2.2 l t=some (f,((n+1:Nat):Int)):=by
 have gW:=hb.n6
 have hr:=vf l t
 have h1:=MV (l:=yU l t) (by omega) B.1.length
 unfold NQ
 rw[TR (by omega) (by show l.length≤1000;omega)]
 simp
 have e:AH k k 0 B.1 B.2.1 B.2.2.1 B.2.2.2 (l.filter (iO t)) []=_:=vU4 (k:=k) (B:=B) (l:=yU l t) (by omega) (by show(yU l t).length≤1000;omega) (by omega) (by omega)
 rw[e]
 simp
 rw[vHw hk hb (IL hl) (by omega) h k 1 (vd _ _) h1.1 h1.2 (by omega) (by omega) (by omega)]
 grind
theorem vS3 {k}{C:BT}{l hs:List zE}(hl:l.length<k)(dG:l.length≤1000)(hk:hs.length<k)(hh:hs.length≤1000):
  AI k k l 0 hs C.1 C.2.1 C.2.2.1 C.2.2.2=some (nJ l hs,hs,C.1,C.2.1,C.2.2.1,C.2.2.2):=by
 obtain ⟨s', h1, h2⟩ := vC (L := fun n i (s : List zE) => AI k n s i hs C.1 C.2.1 C.2.2.1 C.2.2.2) (N := hs.length) (fun s => (s, hs, C.1, C.2.1, C.2.2.1, C.2.2.2)) (fun i s => s = nJ l (hs.take i)) (fun n s _=>by
  show Fq k _ s hs.length hs C.1 C.2.1 C.2.2.1 C.2.2.2=_
  unfold Fq
  simp) (fun n i s hi hr=>by
  refine⟨_,?_,(qZ4 l hs i hi).symm⟩
  show Fq k _ s i hs C.1 C.2.1 C.2.2.1 C.2.2.2=_
  unfold Fq
  have eF:=(MW (hs.take i) l).1
  rw[←hr] at eF⊢
  simp[qG,aa hi,tp (show s.length<k by omega) (show qV s by show s.length≤1000;omega),qK hi (by grind)]
  rfl) (s:=l) hk rfl
 simp_all
theorem vE5 {k}(hk:100<k){B}(hb:qU B){l}(hl:∀q∈l,yG B.1.length q)(bU:l.length≤64) t {f n}(hn:n≤l.length)(h:j3 B (yU l t) (gf (yU l t) B.1.length) f n)
  {r:List qO×EQ×AC×EQ×Int} (hr:yw k B.1 B.2.1 B.2.2.1 B.2.2.2 (vA (yU l t) f)=some r):Jy k B.1 B.2.1 B.2.2.1 B.2.2.2 l t=some (Ei B l (vA (yU l t) f) r):=by
 have ua:=vf l t
 have MY:=(u9 (yU l t) f).length_le
 unfold Jy
 rw[vZg hk hb hl bU t hn h,TR (by omega) (by show l.length≤1000;omega)]
 simp
 have e:Fi k (l.filter (iO t)) f=_:=Vw (k:=k) (l:=yU l t) (by omega) (by show(yU l t).length≤1000;omega) f
 rw[e]
 simp
 rw[hr]
 simp
 unfold Ei
 cases decide (r.2.2.2.2=0) with
 |false=>rfl
 |true=>
  have e2:AI k k l 0 (vA (yU l t) f) r.1 r.2.1 r.2.2.1 r.2.2.2.1=_:=vS3 (C:=(r.1,r.2.1,r.2.2.1,r.2.2.2.1)) (by omega) (by omega) (by omega) (by omega)
  simp_all
theorem gd.books {k}(hk:100<k){t B C l done m}(h:gd k t B l done C m)(hb:qU B)(hd:qQ l):qU C∧C.1.length=B.1.length∧List.Sublist m l:=by
 induction h with
 |stop _=>simp_all
 |step h _ ih=>
  obtain⟨hp,hg⟩:=zl h
  obtain⟨h1,h2⟩:=sX (D9 hp)
  obtain⟨h3,h4⟩:=ql hk hb (by simp) hg
  obtain⟨g1,g2,g3⟩:=ih h3 (List.Pairwise.sublist h2 hd)
  exact⟨g1,g2.trans h4,g3.trans h2⟩
theorem jI.books {k}(hk:100<k){t B C l done m}(h:jI k t B l done C m)(hb:qU B)(hd:qQ l):qU C∧C.1.length=B.1.length∧List.Sublist m l:=by
 induction h with
 |stop _=>simp_all
 |step h _ ih=>
  obtain⟨hp,hq,nH,hg⟩:=Ed h
  obtain⟨h1,h2⟩:=Ee hd hp hq nH
  obtain⟨h3,h4⟩:=ql hk hb (by simp) hg
  obtain⟨g1,g2,g3⟩:=ih h3 (List.Pairwise.sublist h2 hd)
  exact⟨g1,g2.trans h4,g3.trans h2⟩
theorem vPz {k}(hk:200≤k){t B C l m done}(h:lg k t B l done C m):∀n (r:List zE),qU B→qQ l→l.length≤100→l.length<n→r.length+l.length≤900→
  Jz k n l t B.1 B.2.1 B.2.2.1 B.2.2.2 r=some (m,C.1,C.2.1,C.2.2.1,C.2.2.2,r++done):=by
 induction h with
 |@stop B C l m d h1 h2=>
  intro n r hb hd hl hn hr
  obtain⟨n,rfl⟩:∃x,n=x+1:=⟨n-1,by omega⟩
  have p1:=h1.perm hd
  have l1:=p1.length_eq
  rw[List.length_append] at l1
  obtain⟨g1,g2,g3⟩:=h1.books (by omega) hb hd
  have f1:=yHq hk hb hl h1
  have f2:=yY0 hk g1 (List.Pairwise.sublist g3 hd) (by omega) (jI.stop (t:=t) h2)
  have r1:zO (r.length+d.length) 56=true:=qT (by omega) (by omega)
  show Fs k _ l t B.1 B.2.1 B.2.2.1 B.2.2.2 r=_
  unfold Fs
  grind
 |@step B C D E l m n' o d e f h1 h2 ne h' ih=>
  intro n r hb hd hl hn hr
  obtain⟨n,rfl⟩:∃x,n=x+1:=⟨n-1,by omega⟩
  have p1:=h1.perm hd
  have l1:=p1.length_eq
  rw[List.length_append] at l1
  obtain⟨g1,g2,g3⟩:=h1.books (by omega) hb hd
  have hm:qQ m:=List.Pairwise.sublist g3 hd
  have p2:=h2.perm hm
  have l2:=p2.length_eq
  rw[List.length_append] at l2
  obtain⟨k1,k2,k3⟩:=h2.books (by omega) g1 hm
  have f1:=yHq hk hb hl h1
  have f2:=yY0 hk g1 hm (by omega) h2
  have oC:=List.length_pos_iff.2 ne
  have r1:zO (r.length+d.length) 56=true:=qT (by omega) (by omega)
  have r2:zO ((r++d).length+e.length) 56=true:=qT (by rw[List.length_append];omega) (by rw[List.length_append];omega)
  have:=ih n (r++d++e) k1 (List.Pairwise.sublist k3 hm) (by omega) (by omega) (by simp;omega)
  show Fs k _ l t B.1 B.2.1 B.2.2.1 B.2.2.2 r=_
  unfold Fs
  grind
theorem vBj {k}(hk:200≤k){t B C l m done}(hb:qU B)(hd:qQ l)(hl:l.length≤100)(h:lg k t B l done C m):
  JA k B.1 B.2.1 B.2.2.1 B.2.2.2 l t=some (C.1,C.2.1,C.2.2.1,C.2.2.2,m,done):=by
 unfold JA
 rw[vPz hk h k [] hb hd hl (by omega) (by grind)]
 rfl
theorem vTg {k}(hk:200≤k){B}(hb:qU B){l:List zE}(hl:∀q∈l,yG B.1.length q)(bU:l.length≤64) t:
  ∃r,zp k B.1 B.2.1 B.2.2.1 B.2.2.2 l t=some r∧Jy k B.1 B.2.1 B.2.2.1 B.2.2.2 l t=some r:=by
 obtain⟨f,n,h,hn⟩:=Uj hb hl bU t
 have ua:=vf l t
 have MY:=(u9 (yU l t) f).length_le
 obtain⟨r,h1,h2,h3⟩:=D8 (k:=k) (by omega) hb (l:=vA (yU l t) f) (by omega)
 exact⟨_,Ut (k:=k) (by omega) hb hl bU t (by omega) h h1,vE5 (k:=k) (by omega) hb hl bU t (by omega) h h2⟩
theorem Vx {k}(hk:200≤k){B}(hb:qU B){l}(hd:qQ l)(hl:∀q∈l,yG B.1.length q)(bU:l.length≤64) t all:
  ∃(C:BT) (m done:List zE),vg k B.1 B.2.1 B.2.2.1 B.2.2.2 l t all=some (C.1,C.2.1,C.2.2.1,C.2.2.2,m,done)∧NR k B.1 B.2.1 B.2.2.1 B.2.2.2 l t all=some (C.1,C.2.1,C.2.2.1,C.2.2.2,m,done)∧
   qU C∧C.1.length=B.1.length∧List.Sublist m l∧List.Perm (done++m) l∧fh k C (vZ m t)=none∧fa k C m t=none:=by
 obtain⟨C,m,d,f1,f2,f3,f4,f5⟩:=Et hk hb hd (by omega) t
 have fr:=vBj hk hb hd (by omega) f2
 have p1:=f2.perm hd
 have l1:=p1.length_eq
 rw[List.length_append] at l1
 unfold vg NR
 rw[f1,fr]
 simp only[ae]
 cases all with
 |false=>exact⟨C,m,d,rfl,rfl,f3,f4,f5,p1,f2.final⟩
 |true=>
  have hm:qQ m:=List.Pairwise.sublist f5 hd
  have hmm:∀q∈m,yG C.1.length q:=by grind
  obtain⟨D,n,x,g1,g2,g3,g4,g5,g6⟩:=Uu hk f3 hm hmm (by omega) t
  obtain⟨R,r1,r2⟩:=vTg hk f3 hmm (by omega) t
  have hR:R=(D.1,D.2.1,D.2.2.1,D.2.2.2,n,x):=by rw[g1] at r1;exact(Option.some.inj r1).symm
  subst hR
  have l2:=g5.length_eq
  rw[List.length_append] at l2
  rw[g1,r2]
  simp only[ae]
  cases x with
  |nil=>
   obtain⟨rfl,rfl⟩:=g6 rfl
   exact⟨D,n,d,rfl,rfl,f3,f4,f5,p1,f2.final⟩
  |cons p x=>
   have e1:decide ((((p::x).length:Nat):Int)=0)=false:=ab (by simp;omega)
   rw[e1]
   have hn:qQ n:=List.Pairwise.sublist g4 hm
   obtain⟨E,o,y,k1,k2,k3,k4,k5⟩:=Et hk g2 hn (by omega) t
   have kr:=vBj hk g2 hn (by omega) k2
   have p3:=k2.perm hn
   have l3:=p3.length_eq
   rw[List.length_append] at l3
   have e2:zO (d.length+(p::x).length) 56=true:=qT (by simp at l2⊢;omega) (by simp at l2⊢;omega)
   have e3:zO ((d++(p::x)).length+y.length) 56=true:=qT (by simp at l2⊢;omega) (by simp at l2⊢;omega)
   rw[k1,kr]
   simp only[ae,e2,e3,ai]
   refine⟨E,o,d++(p::x)++y,rfl,rfl,k3,k4.trans (g3.trans f4),k5.trans (g4.trans f5),?_,k2.final⟩
   have e4:d++(p::x)++y++o=d++((p::x)++(y++o)):=by simp
   rw[e4]
   exact by grind
theorem yBf {B:BT}(hb:qU B){m:List zE}(hd:qQ m)(hm:∀q∈m,yG B.1.length q)(bU:m.length≤64)(t:Int)(pr:AC)(ho:EQ)(ids:AC)(to:Int)(ov all:Bool):
  ∃(C:BT) (m' d:List zE),td 1000 t B.1 B.2.1 B.2.2.1 B.2.2.2 pr ho m ids to ov all=some (t,C.1,C.2.1,C.2.2.1,C.2.2.2,pr,ho,m',ids,to,ov,vF d)∧
   mK 1000 t B.1 B.2.1 B.2.2.1 B.2.2.2 pr ho m ids to ov all=some (t,C.1,C.2.1,C.2.2.1,C.2.2.2,pr,ho,m',ids,to,ov,vF d)∧qU C∧fj B C∧List.Sublist m' m∧List.Perm (d++m') m∧fh 1000 C (vZ m' t)=none:=by
 obtain⟨C,m',d,f1,fr,f2,f3,f4,f5,f6,f7⟩:=Vx (k:=1000) (by decide) hb hd hm bU t all
 have hlen:=f5.length_eq
 rw[List.length_append] at hlen
 refine⟨C,m',d,?_,?_,f2,yYj (by decide) hb hd hm bU t all f1,f4,f5,f6⟩
 ·unfold td
  rw[f1]
  simp only[ae]
  rw[yH7 (by omega) (by omega)]
  rfl
 ·unfold mK
  rw[fr]
  simp only[ae]
  rw[vRa (by omega) (by omega)]
  rfl
theorem NS (kd a:Int):fq 1000 kd [a]=some (kd,a,0,0,0,0,0):=by kernel_rfl
theorem Of0 (kd:Int):fq 1000 kd []=some (kd,0,0,0,0,0,0):=by kernel_rfl
theorem Of5 (kd a b c d e:Int):fq 1000 kd [a,b,c,d,e]=some (kd,a,b,c,d,e,0):=by kernel_rfl
theorem Vy (s:qD)(hm:s.m.length≤100)(b:Int×Int×Bool):tw 1000 1000 s.m 0 s.st b []=some (s.st,b,s.m.map (vT 22)):=by
 obtain ⟨s', h1, h2⟩ := vC (L := fun n i (o : List yA) => tw 1000 n s.m i s.st b o) (N := s.m.length) (fun o => (s.st, b, o)) (fun i o => o = (s.m.take i).map (vT 22)) (fun n o _=>by
  show Ft 1000 (tw 1000 n) s.m s.m.length s.st b o=_
  unfold Ft
  rw [ab (Int.lt_irrefl _)]; rfl) (fun n i o hi ho=>by
  refine⟨_,?_,(yJq (vT 22) s.m i pd hi).symm⟩
  show Ft 1000 (tw 1000 n) s.m i s.st b o=_
  unfold Ft
  have eF:o.length≤900:=by rw[ho,List.length_map,List.length_take];omega
  rw[aa (show(i:Int)<s.m.length by omega),qG,aa hi,aq,NS,qK hi (by omega)]
  simp only[ai,ae,vh (show o.length≤1000 by omega)]
  rw[ho]
  rfl) (s:=[]) (show s.m.length<1000 by omega) rfl
 have df:tw 1000 1000 s.m 0 s.st b []=_:=h1
 rw[df,h2,List.take_length]
theorem vC7 (s:qD)(hB:s.B.1.length≤6)(b:Int×Int×Bool)(l:List yA)(hl:l.length≤100):tx 1000 1000 0 s.st b l=some (s.st,b,l++gX s.B s.B.1.length):=by
 have ea:s.st.2.1=s.B.1:=rfl
 obtain ⟨s', h1, h2⟩ := vC (L := fun n i (o : List yA) => tx 1000 n i s.st b o) (N := s.B.1.length) (fun o => (s.st, b, o)) (fun i o => o = l ++ gX s.B i) (fun n o _=>by
  show Fu 1000 (tx 1000 n) s.B.1.length s.st b o=_
  unfold Fu
  rw [ea, ab (Int.lt_irrefl _)]; rfl) (fun n i o hi ho=>by
  refine⟨_,?_,(show l++gX s.B i++[vk s.B i]=l++gX s.B (i+1) by rw[yCf,List.append_assoc])⟩
  show Fu 1000 (tx 1000 n) i s.st b o=_
  unfold Fu
  have eF:o.length≤900:=by
   rw[ho,List.length_append]
   unfold gX
   rw[List.length_map,List.length_range]
   omega
  rw[ea,aa (show(i:Int)<s.B.1.length by omega),qG,aa hi,aq,NS,qK hi (by omega)]
  simp only[ai,ae,vh (show o.length≤1000 by omega)]
  rw[ho]
  rfl) (s:=l) (show s.B.1.length<1000 by omega) (by show _=_++[];rw[List.append_nil])
 have df:tx 1000 1000 0 s.st b l=_:=h1
 rw[df,h2]
theorem vUl {a b:List zE}{p:zE}(hd:qQ (a++p::b)):gC (a++p::b) p.1=(a++b,p.1,p.2.1,p.2.2.1,p.2.2.2.1,p.2.2.2.2.1,p.2.2.2.2.2.1,p.2.2.2.2.2.2,0):=by
 have hl:a.length<(a++p::b).length:=by simp
 have hg:(a++p::b).getD a.length pd=p:=by rw[Vi _ hl];simp
 have hp:=vIy hd hl
 rw[hg] at hp
 unfold jy at hp
 unfold gC
 cases hx:vN (a++p::b) p.1 with
 |none=>rw[hx] at hp;simp only at hp;omega
 |some x=>
  rw[hx] at hp
  simp only at hp
  obtain rfl:x=a.length:=by omega
  simp only[hg]
  unfold yB
  simp
theorem vG2 (r:qP)(s:qD)(hd:qQ s.m)(hm:s.m.length≤100)(b:Int×Int×Bool):
  tz 1000 1000 s.m 0 r s.st b []=some (r,qD.st {s with m:=s.m.filter (fun p=> !yV s.t p)},b,(s.m.filter (yV s.t)).map (vT 21)):=by
 obtain ⟨s', h1, h2, h3⟩ := vC (L := fun n i (x : List zE × List yA) => tz 1000 n s.m i r (qD.st { s with m := x.1 }) b x.2) (N := s.m.length) (fun x => (r, qD.st { s with m := x.1 }, b, x.2)) (fun i x => x.1 = (s.m.take i).filter (fun p => !yV s.t p) ++ s.m.drop i ∧ x.2 = ((s.m.take i).filter (yV s.t)).map (vT 21)) (fun n x _=>by
  show Fv 1000 (tz 1000 n) s.m s.m.length r _ b _=_
  unfold Fv
  rw [ab (Int.lt_irrefl _)]; rfl) (fun n i x hi hx=>by
  have f1:=zd (yV s.t) s.m i pd hi
  have f2:=zd (fun p=> !yV s.t p) s.m i pd hi
  have hdr:s.m.drop i=s.m.getD i pd::s.m.drop (i+1):=by rw[List.drop_eq_getElem_cons hi,Vi _ hi]
  have mo:x.2.length≤900:=by
   rw[hx.2,List.length_map]
   have:=List.length_filter_le (yV s.t) (s.m.take i)
   rw[List.length_take] at this
   omega
  have rO:x.1.length≤s.m.length:=by
   rw[hx.1,List.length_append,List.length_drop]
   have:=List.length_filter_le (fun p=> !yV s.t p) (s.m.take i)
   rw[List.length_take] at this
   omega
  have cm:List.Sublist x.1 s.m:=by
   have h:=List.Sublist.append (List.filter_sublist (p:=fun p=> !yV s.t p) (l:=s.m.take i)) (List.Sublist.refl (s.m.drop i))
   rw[List.take_append_drop] at h
   rw[hx.1];exact h
  have hdx:qQ x.1:=List.Pairwise.sublist cm hd
  have e0:∀p:zE,Vz 1000 p.1 p.2.1 p.2.2.1 p.2.2.2.1 p.2.2.2.2.1 p.2.2.2.2.2.1 p.2.2.2.2.2.2 s.t=some (yV s.t p):=fun p=>rfl
  have ed:s.m.getD i (0,0,0,0,0,0,0)=s.m.getD i pd:=rfl
  have et:(qD.st {s with m:=x.1}).1=s.t:=rfl
  have em:(qD.st {s with m:=x.1}).2.2.2.2.2.2.2.1=x.1:=rfl
  show∃s',Fv 1000 (tz 1000 n) s.m i r (qD.st {s with m:=x.1}) b x.2=_∧_
  unfold Fv
  rw[aa (show(i:Int)<s.m.length by omega),qG,aa hi,aq,ed,et,em,e0,NS,qK hi (by omega),tp (by omega) (by unfold qV;omega)]
  simp only[ai,ae,vh (show x.2.length≤1000 by omega)]
  cases hb:yV s.t (s.m.getD i pd) with
  |true=>
   have cM:=hx.1
   rw[hdr] at cM
   have e1:=vUl (a:=(s.m.take i).filter (fun p=> !yV s.t p)) (b:=s.m.drop (i+1)) (p:=s.m.getD i pd) (by rw[←cM];exact hdx)
   rw[←cM] at e1
   rw[e1]
   refine⟨((s.m.take i).filter (fun p=> !yV s.t p)++s.m.drop (i+1),x.2++[vT 21 (s.m.getD i pd)]),rfl,?_,?_⟩
   ·show _=_
    rw[f2,hb]
    simp
   ·show x.2++_=_
    rw[f1,hb,hx.2]
    simp
  |false=>
   refine⟨x,rfl,?_,?_⟩
   ·rw[f2,hb,hx.1,hdr]
    simp
   ·rw[f1,hb,hx.2]
    simp) (s:=(s.m,[])) (show s.m.length<1000 by omega) ⟨by simp,rfl⟩
 rw[List.take_length,List.drop_length,List.append_nil] at h2
 rw[List.take_length] at h3
 have df:tz 1000 1000 s.m 0 r s.st b []=_:=h1
 rw[df,h2,h3]
theorem vZk (r:qP){s:qD}(hb:qU s.B)(hd:qQ s.m)(hm:∀q∈s.m,yG s.B.1.length q)(bU:s.m.length≤64)(ht:0≤s.t∧s.t<1099511627776)(IV:r.2.2.2.2≠0)(ho:s.ov=false):
  ∃x:Int×List qO×wR×AC×wR×AC×wR×List zE×AC×Int×Bool×List yA,vl 1000 r.1 r.2.1 r.2.2.1 r.2.2.2.1 r.2.2.2.2 s.t s.B.1 s.B.2.1 s.B.2.2.1 s.B.2.2.2 s.pr s.ho s.m s.ids s.to s.ov=some x∧Fw 1000 r s.st=some (qW x,x.2.2.2.2.2.2.2.2.2.2.2):=by
 have gW:=hb.n6
 have w:zA (s.t+1)=s.t+1:=zQ (by omega) (by omega)
 have eR:Fw 1000 r s.st=bif s.ov then some (s.st,[])
  else(NT 1000 r (zA (s.t+1))).bind fun x0=>
  bif x0 then ((tw 1000 1000 s.m 0 ((zA (s.t+1)),s.st.2) (0,0,false) []).bind fun z=>
   (tx 1000 1000 0 z.1 z.2.1 z.2.2).bind fun z1=>
   some ((iR z1.1 ([],z1.1.2.2.2.2.2.2.2.2.1,z1.1.2.2.2.2.2.2.2.2.2.1,true)),z1.2.2))
  else(tz 1000 1000 s.m 0 r ((zA (s.t+1)),s.st.2) (0,0,false) []).bind fun z2=>
  (JB 1000 z2.1 z2.2.1.1).bind fun x6=>
  (mK 1000 z2.2.1.1 z2.2.1.2.1 z2.2.1.2.2.1 z2.2.1.2.2.2.1 z2.2.1.2.2.2.2.1 z2.2.1.2.2.2.2.2.1 z2.2.1.2.2.2.2.2.2.1 z2.2.1.2.2.2.2.2.2.2.1 z2.2.1.2.2.2.2.2.2.2.2.1 z2.2.1.2.2.2.2.2.2.2.2.2.1 z2.2.1.2.2.2.2.2.2.2.2.2.2 x6).bind fun x7=>
  bif zO (z2.2.2.2.length+x7.2.2.2.2.2.2.2.2.2.2.2.length) 64 then some ((qW x7),(z2.2.2.2++x7.2.2.2.2.2.2.2.2.2.2.2))
  else none:=rfl
 have eT:((s.t+1,s.st.2):qq)=qD.st {s with t:=s.t+1}:=rfl
 rw[eR,w,eT,ho]
 unfold vl IW NT
 simp only[w,aj,ae]
 cases hc:decide (s.t+1=r.2.2.2.1) with
 |true=>
  simp only[ai]
  rw[yZs gW (by decide) (by omega)]
  have c0:=Vy {s with t:=s.t+1,ov:=false} (by show s.m.length≤100;omega) (0,0,false)
  have c1:=vC7 {s with t:=s.t+1,ov:=false} (by show s.B.1.length≤6;exact gW) (0,0,false) (s.m.map (vT 22)) (by rw[List.length_map];omega)
  refine⟨_,rfl,?_⟩
  refine(congrArg (fun z=>Option.bind z _) c0).trans ?_
  simp only[ae]
  refine(congrArg (fun z=>Option.bind z _) c1).trans ?_
  rfl
 |false=>
  simp only[aj]
  rw[yUn (by decide) (by omega)]
  have c2:=vG2 r {s with t:=s.t+1,ov:=false} hd (by show s.m.length≤100;omega) (0,0,false)
  have hs:∃x,EF 1000 r.1 r.2.1 r.2.2.1 r.2.2.2.1 r.2.2.2.2 (s.t+1)=some x∧JB 1000 r (s.t+1)=some x:=by
   unfold EF JB
   cases decide (s.t+1>0) with
   |false=>exact⟨_,rfl,rfl⟩
   |true=>
    cases decide (s.t+1<r.2.2.2.1) with
    |false=>exact⟨_,rfl,rfl⟩
    |true=>
     have:decide (r.2.2.2.2=0)=false:=ab IV
     rw[this]
     exact⟨_,rfl,rfl⟩
  obtain⟨x,hx,mr⟩:=hs
  simp only[ae]
  rw[hx]
  have cm:List.Sublist (s.m.filter (fun p=> !yV (s.t+1) p)) s.m:=List.filter_sublist
  have eF:=cm.length_le
  have qp:qQ (s.m.filter (fun p=> !yV (s.t+1) p)):=List.Pairwise.sublist cm hd
  obtain⟨C,m',d,f1,f1',f2,f3,f4,f5,f6⟩:=yBf hb qp (fun q hq=>hm q (cm.subset hq)) (by omega) (s.t+1) s.pr s.ho s.ids s.to false x
  have hlen:=f5.length_eq
  rw[List.length_append] at hlen
  have hla:(s.m.filter (yV (s.t+1))).length≤s.m.length:=List.length_filter_le _ _
  have BQ:=Eu d
  have hr:zO (((s.m.filter (yV (s.t+1))).map (vT 21)).length+(vF d).length) 64=true:=qT (by rw[List.length_map];omega) (by rw[List.length_map];omega)
  simp only[ae]
  rw[f1]
  simp only[ae,hr,ai]
  refine⟨_,rfl,?_⟩
  refine(congrArg (fun z=>Option.bind z _) c2).trans ?_
  simp only[ae]
  refine(congrArg (fun z=>Option.bind z _) mr).trans ?_
  simp only[ae]
  have VA:mK 1000 (s.t+1) s.B.1 s.B.2.1 s.B.2.2.1 s.B.2.2.2 s.pr s.ho (s.m.filter (fun p=> !yV (s.t+1) p)) s.ids s.to false x=_:=f1'
  refine(congrArg (fun z=>Option.bind z _) VA).trans ?_
  simp only[ae]
  show(bif zO (((s.m.filter (yV (s.t+1))).map (vT 21)).length+(vF d).length) 64 then some ((s.t+1,C.1,C.2.1,C.2.2.1,C.2.2.2,s.pr,s.ho,m',s.ids,s.to,false),(s.m.filter (yV (s.t+1))).map (vT 21)++vF d) else none)=_
  rw[hr]
  rfl
theorem yD.settled {r s}(h:yD r s)(ho:s.ov=false){C}(hc:qU C)(kc:fj s.B C){m}(hm:List.Sublist m s.m):yD r {s with B:=C,m:=m}:=by
  have hl:=kc.len
  exact{
    tk:=h.tk
    bk:=hc
    n:=by rw[hl];exact h.n
    hol:=by rw[hl];exact h.hol
    laid:=by rw[hl];exact h.laid
    cred:=by rw[hl];intro i hi;rw[kc.cred i hi];exact h.cred i hi
    most:=by rw[hl];intro i hi;rw[kc.cred i hi];exact h.most i hi
    waits:=by rw[hl];exact h.waits.sub hm
    sum:=by rw[hl,kc.sum];exact h.sum
    tot:=h.tot
    over:=h.over
    none:=by grind}
theorem vOf {k}(hk:1000≤k){r}(hr:jS r){s}(h:yD r s)(ho:s.ov=false):
    ∃(C:BT) (m':List zE) (ov:Bool) (o:List yA),vl k r.1 r.2.1 r.2.2.1 r.2.2.2.1 r.2.2.2.2 s.t s.B.1 s.B.2.1 s.B.2.2.1 s.B.2.2.2 s.pr s.ho s.m s.ids s.to s.ov=some (s.t+1,C.1,C.2.1,C.2.2.1,C.2.2.2,s.pr,s.ho,m',s.ids,s.to,ov,o)∧
      yD r {s with t:=s.t+1,B:=C,m:=m',ov:=ov}∧fj s.B C∧(ov=false→fh k C (vZ m' (s.t+1))=none)∧o.length≤100∧
      ((ov=true∧m'=[]∧o=s.m.map (vT 22)++gX s.B s.B.1.length∧C=s.B)∨∃l d n,o=l.map (vT 21)++vF d∧List.Perm (l++n) s.m∧List.Perm (d++m') n∧ov=false):=by
  have BG:=hr.cl
  have IV:=hr.pe
  have htk:=h.tk
  have hn:=h.n
  have bg:s.t≠r.2.2.2.1:=by
    have:=h.over
    simp_all
  have hbk:=h.bk
  have hm:=h.waits.len
  rw[ho]
  obtain⟨C,m',ov,o,e1,e2,e3,e4,e5⟩:=UA (k:=k) (by omega) hbk h.waits.dist h.waits.may (by omega) r.1 r.2.1 r.2.2.1 r.2.2.2.1 r.2.2.2.2 s.t (by omega) (by omega) s.pr s.ho s.ids s.to
  have hl:=e3.len
  refine⟨C,m',ov,o,e1,?_,e3,e4,?_,e5⟩
  · exact{
      tk:=by grind
      bk:=e2.bk
      n:=by simp_all
      hol:=by rw[hl];exact h.hol
      laid:=by rw[hl];exact h.laid
      cred:=by rw[hl];intro i hi;rw[e3.cred i hi];exact h.cred i hi
      most:=by rw[hl];intro i hi;rw[e3.cred i hi];exact h.most i hi
      waits:=by rw[hl];exact h.waits.sub e2.sub
      sum:=by rw[hl,e3.sum];exact h.sum
      tot:=h.tot
      over:=e2.over
      none:=e2.none}
  · have:=e2.room
    split at this<;>omega
theorem vEz r s who f:(j6 r s who f).2.t=s.t∧(j6 r s who f).2.ov=s.ov∧(j6 r s who f).2.to=s.to:=by
 unfold j6
 cases decide (f.1=5) with
 |true=>
  cases !((decide (f.2.1≥0)&&decide (f.2.1≤r.1-1))&& !decide (f.2.1=who))<;>cases !(decide (f.2.2.1≥-1)&&decide (f.2.2.1≤1152921504606846976))<;>exact⟨rfl,rfl,rfl⟩
 |false=>
  cases decide (f.1=6) with
  |true=>cases !(decide (f.2.1≥-1)&&decide (f.2.1≤1152921504606846976))<;>exact⟨rfl,rfl,rfl⟩
  |false=>cases !(decide (f.2.1≥0)&&decide (f.2.1≤1152921504606846976))<;>exact⟨rfl,rfl,rfl⟩
theorem vN3 r s who a n:(j7 r s who a n).2.t=s.t∧(j7 r s who a n).2.ov=s.ov∧(j7 r s who a n).2.to=s.to:=by
 unfold j7
 cases !(decide (a≥0)&&decide (a≤(r.2.1.length:Int)-1)) with
 |true=>simp
 |false=>
 cases !(decide (n≥0)&&decide (n≤1099511627776)) with
 |true=>simp
 |false=>
 unfold EH
 grind
theorem vS6 r s a p:(kb r s a p).2.t=s.t∧(kb r s a p).2.ov=s.ov∧(kb r s a p).2.to=s.to:=by
 unfold kb
 cases !(decide (a≥0)&&decide (a≤(r.2.1.length:Int)-1)) with
 |true=>simp
 |false=>
 cases !(decide (p≥0)&&decide (p≤1048576)) with
 |true=>simp
 |false=>
 unfold EN
 grind
theorem vMg {r s kd to n}:(ka r s kd to n).2.ov=s.ov:=by
 unfold ka
 cases !(decide (to≥0)&&decide (to≤r.1-1)) with
 |true=>rfl
 |false=>
 cases !(decide (n≥1)&&decide (n≤1099511627776)) with
 |true=>rfl
 |false=>
 cases decide (kd=11) with
 |true=>
  unfold I4
  cases decide ((s.B.1.getD to.toNat ad).1+(s.B.1.getD to.toNat ad).2.1-(s.B.1.getD to.toNat ad).2.2<n)<;>cases decide (s.to-n<0)<;>cases decide ((jB (s.B.1.getD to.toNat ad) (-n)).2=0)<;>cases decide (s.to-n>1152921504606846976)<;>rfl
 |false=>
  unfold I5
  cases decide ((jB (s.B.1.getD to.toNat ad) n).2=0)<;>cases decide (s.to+n>1152921504606846976)<;>rfl
theorem vSi {r s who f}:(j5 r s who f).2.2.length≤1:=by
 unfold j5
 grind
def Kd (o:List yA):Prop:=∀x∈o,x.2.1≠16∧x.2.1≠23
theorem we:Kd []:=fun x h=>by grind
theorem VB {x}(h:x.2.1≠16∧x.2.1≠23):Kd [x]:=fun y hy=>by simp_all
theorem Kd.append {a b}(h:Kd a)(g:Kd b):Kd (a++b):=fun x hx=>(List.mem_append.1 hx).elim (h x) (g x)
theorem VC:∀d:List zE,Kd (vF d)
 |[]=>we
 | p :: d => (show Kd [jZ p.2.1 p,jZ p.2.2.1 p] from fun x hx=>by
   rcases List.mem_cons.1 hx with rfl|hx
   ·exact⟨by nofun,by nofun⟩
   ·rw[List.mem_singleton.1 hx];exact⟨by nofun,by nofun⟩).append (VC d)
theorem yG6 {kd}(hk:kd=21∨kd=22)(l:List zE):Kd (l.map (vT kd)):=fun x hx=>by
 obtain⟨p,_,rfl⟩:=List.mem_map.1 hx
 show kd≠16∧kd≠23
 omega
theorem vHd {r s who f}:Kd (j5 r s who f).2.2:=by
 unfold j5
 cases vN s.m f.2.1 with
 |none=>exact we
 |some x=>
  simp only[]
  cases !decide ((s.m.getD x pd).2.1=who) with
  |true=>exact we
  |false=>
  cases decide (f.1=2) with
  |true=>exact VB ⟨by nofun,by nofun⟩
  |false=>
  cases decide (f.1=4) with
  |true=>
   cases !(decide (f.2.2.1≥1)&&decide (f.2.2.1≤3))<;>cases !decide (oQ r.2.2.1 r.2.2.2.1 s.t f.2.2.1=0)<;>exact we
  |false=>
  cases decide (f.2.2.1=0)<;>cases decide (f.2.2.1=1)<;>exact we
def mL (o:List yA):Prop:=∀x∈o,x.2.1≠16
theorem Kd.ne {o}(h:Kd o):mL o:=fun x hx=>(h x hx).1
theorem mL.append {a b}(h:mL a)(g:mL b):mL (a++b):=fun x hx=>(List.mem_append.1 hx).elim (h x) (g x)
theorem vC3 B n:mL (gX B n):=fun x hx=>by
 obtain⟨i,_,rfl⟩:=List.mem_map.1 hx
 nofun
theorem vQm {r:qP}{s:qD}{who:Int}{f:jG}(h:(gY r s who f).1=0):∀x∈(gY r s who f).2.2,x∈s.ids∨x=f.2.1:=by
 unfold gY at h⊢
 cases h1:decide (f.2.2.1≥0)&&decide (f.2.2.1≤r.1-1) with
 |false=>exact fun _ h=>.inl h
 |true=>
 cases h2:decide (f.2.2.2.2.1≥1)&&decide (f.2.2.2.2.1≤3) with
 |false=>exact fun _ h=>.inl h
 |true=>
 cases decide (lX r s.t (fk who f)=0) with
 |false=>exact fun _ h=>.inl h
 |true=>
 cases decide (f.2.1∈s.ids) with
 |true=>exact fun _ h=>.inl h
 |false=>
 cases decide (200≤s.ids.length) with
 |true=>exact fun _ h=>.inl h
 |false=>
 cases(vN s.m f.2.1).isSome with
 |true=>exact fun _ h=>.inl h
 |false=>
 cases decide (40≤s.m.length) with
 |true=>exact fun _ h=>.inl h
 |false=>
  intro x hx
  have hx:x∈oL s.ids f.2.1:=hx
  unfold oL at hx
  have e:=List.takeWhile_append_dropWhile (p:=fun x=>decide (x<f.2.1)) (l:=s.ids)
  rcases List.mem_append.1 hx with hx|hx
  ·exact .inl (e▸List.mem_append_left _ hx)
  ·rcases List.mem_cons.1 hx with hx|hx
   ·exact .inr hx
   ·exact .inl (e▸List.mem_append_right _ hx)
theorem vLz (r:qP)(s:qD)(who:Int)(f:jG):(j6 r s who f).2.ids=s.ids:=by
 unfold j6
 cases decide (f.1=5) with
 |true=>cases !((decide (f.2.1≥0)&&decide (f.2.1≤r.1-1))&& !decide (f.2.1=who))<;>cases !(decide (f.2.2.1≥-1)&&decide (f.2.2.1≤1152921504606846976))<;>rfl
 |false=>
  cases decide (f.1=6) with
  |true=>cases !(decide (f.2.1≥-1)&&decide (f.2.1≤1152921504606846976))<;>rfl
  |false=>cases !(decide (f.2.1≥0)&&decide (f.2.1≤1152921504606846976))<;>rfl
theorem vZp (r:qP)(s:qD)(who a n:Int):(j7 r s who a n).2.ids=s.ids:=by
 unfold j7
 cases !(decide (a≥0)&&decide (a≤(r.2.1.length:Int)-1)) with
 |true=>rfl
 |false=>
 cases !(decide (n≥0)&&decide (n≤1099511627776)) with
 |true=>rfl
 |false=>
 simp only[aj]
 unfold EH
 generalize (s.ho.getD who.toNat []).set a.toNat n=h
 cases decide (lT r.2.1 s.pr h>1152921504606846976) with
 |true=>rfl
 |false=>cases decide (lT r.2.1 s.pr h<(s.B.1.getD who.toNat ad).2.1)&&decide ((s.B.1.getD who.toNat ad).1+lT r.2.1 s.pr h<0)<;>rfl
theorem vNa (r:qP)(s:qD)(a p:Int):(kb r s a p).2.ids=s.ids:=by
 unfold kb
 cases !(decide (a≥0)&&decide (a≤(r.2.1.length:Int)-1)) with
 |true=>rfl
 |false=>
 cases !(decide (p≥0)&&decide (p≤1048576)) with
 |true=>rfl
 |false=>
 simp only[aj]
 unfold EN
 cases qH (fun j=> !decide (fl r.2.1 (s.pr.set a.toNat p) s.ho j>1152921504606846976)) s.B.1.length 0<;>rfl
end Go.Ab.Gi
