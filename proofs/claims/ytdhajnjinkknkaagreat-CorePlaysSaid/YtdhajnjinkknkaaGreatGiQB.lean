/- Plain proofs, part 1. -/
import Derived.Test.YtdhajnjinkknkaaGreatGiQA
import Derived.Test.YtdhajnjinkknkaaGreatGiXS
set_option linter.unusedVariables false
set_option linter.unusedSimpArgs false
set_option maxRecDepth 100000
namespace Go.Ab.Gi
open Go.Ab
def jZ (q:zB)(o:yI):Bool:=decide (o.2.2.1=q.1)&&(decide (o.1=q.2.1)&&(decide (o.2.1=21)||(decide (o.2.1=22)||decide (o.2.1=18))))
def iN (q:zB)(o:List yI):Nat:=o.countP (jZ q)
theorem v9 (q:zB)(a b:List yI):iN q (a++b)=iN q a+iN q b:=List.countP_append
theorem Rf {f:zB→Bool}{q:zB}:∀{ps:List zB},qS ps→q∈ps→f q=true→(∀p∈ps,f p=true→p.1=q.1)→ps.countP f=1
 |[],_,h,_,_=>by cases h
 |p::ps,hd,hq,hf,hu=>by
  have hc:=List.pairwise_cons.1 hd
  rw[List.countP_cons]
  rcases List.mem_cons.1 hq with rfl|hq
  ·rw[hf,if_pos rfl]
   have:ps.countP f=0:=by
    rw[List.countP_eq_zero]
    intro r hr uI
    exact hc.1 r hr (hu r (List.mem_cons_of_mem _ hr) uI).symm
   omega
  ·have:f p=false:=by
    cases h:f p with
    |false=>rfl
    |true=>exact absurd (hu p (List.mem_cons_self ..) h) (hc.1 q hq)
   rw[this,Rf hc.2 hq hf (fun r hr=>hu r (List.mem_cons_of_mem _ hr))]
   rfl
def wA (kd:Int)(p:zB):yI:=(p.2.1,kd,p.1,0,0,0,0,0)
theorem BK {kd:Int}(hk:kd=21∨kd=22){q:zB}{ps:List zB}(hd:qS ps):(q∈ps→iN q (ps.map (wA kd))=1)∧((∀p∈ps,p.1≠q.1)→iN q (ps.map (wA kd))=0):=by
 unfold iN
 rw[List.countP_map]
 constructor
 ·intro h
  apply Rf hd h
  ·show jZ q (wA kd q)=true
   unfold jZ wA
   rcases hk with rfl|rfl<;>simp
  ·intro p hp hf
   have dY:jZ q (wA kd p)=true:=hf
   unfold jZ wA at dY
   rw[bN,bI] at dY
   exact dY.1
 ·intro h
  rw[List.countP_eq_zero]
  intro p hp hf
  have dY:jZ q (wA kd p)=true:=hf
  unfold jZ wA at dY
  rw[bN,bI] at dY
  exact h p hp dY.1
theorem yXb (q:zB):∀(d:List zB),iN q (vJ d)=d.countP (fun p=>jZ q (fw p.2.1 p))+d.countP (fun p=>jZ q (fw p.2.2.1 p))
 |[]=>rfl
 |p::d=>by
  show iN q (nz p++vJ d)=_
  rw[v9,yXb q d,List.countP_cons,List.countP_cons]
  have e:iN q (nz p)=(if jZ q (fw p.2.1 p)=true then 1 else 0)+(if jZ q (fw p.2.2.1 p)=true then 1 else 0):=by
   unfold iN nz
   rw[List.countP_cons,List.countP_cons,List.countP_nil]
   omega
  rw[e]
  omega
theorem J0 {n:Nat}{q:zB}{d:List zB}(hd:qS d)(hm:∀p∈d,yL n p):(q∈d→iN q (vJ d)=1)∧((∀p∈d,p.1≠q.1)→iN q (vJ d)=0):=by
 have h2:∀(l:List zB),qS l→(∀p∈l,yL n p)→(q∈l∨∀p∈l,p.1≠q.1)→l.countP (fun p=>jZ q (fw p.2.2.1 p))=0:=by
  intro l oI Bj hq
  rw[List.countP_eq_zero]
  intro p hp hf
  have dY:jZ q (fw p.2.2.1 p)=true:=hf
  unfold jZ fw at dY
  rw[bN,bN,bI,bI] at dY
  rcases hq with hq|hq
  ·have:=oI.eq_of hp hq dY.1
   subst this
   exact(Bj p hp).ne dY.2.1.symm
  ·exact hq p hp dY.1
 rw[yXb]
 constructor
 ·intro h
  rw[h2 d hd hm (.inl h),Rf hd h]
  ·show jZ q (fw q.2.1 q)=true
   unfold jZ fw
   simp
  ·intro p hp hf
   have dY:jZ q (fw p.2.1 p)=true:=hf
   unfold jZ fw at dY
   rw[bN,bI] at dY
   exact dY.1
 ·intro h
  rw[h2 d hd hm (.inr h)]
  have:d.countP (fun p=>jZ q (fw p.2.1 p))=0:=by
   rw[List.countP_eq_zero]
   intro p hp hf
   have dY:jZ q (fw p.2.1 p)=true:=hf
   unfold jZ fw at dY
   rw[bN,bI] at dY
   exact h p hp dY.1
  omega
def sW (B:BT)(i:Nat):yI:=((i:Int),23,(B.1.getD i ad).1,0,0,0,0,0)
def iO (B:BT)(n:Nat):List yI:=(List.range n).map (sW B)
theorem yT3 (q:zB)(B:BT)(n:Nat):iN q (iO B n)=0:=by
 unfold iN iO
 rw[List.countP_map,List.countP_eq_zero]
 intro i _ hf
 have dY:jZ q (sW B i)=true:=hf
 unfold jZ sW at dY
 simp at dY
theorem yHf (B:BT)(i:Nat):iO B (i+1)=iO B i++[sW B i]:=by
 unfold iO
 rw[List.range_succ,List.map_append];rfl
theorem yS4 {α β:Type}(f:α→β)(l:List α)(i:Nat)(d:α)(h:i<l.length):(l.take (i+1)).map f=(l.take i).map f++[f (l.getD i d)]:=by
 rw[←ie l i d h,List.map_append];rfl
theorem yQl {k:Nat}{B:BT}(hB:B.1.length≤6)(hk:200≤k){m:List zB}(hm:m.length≤100)(t:Int)(pr:List Int)(ho:List (List Int))(ids:List Int)(to:Int)(ov:Bool):
  J1 k t B.1 B.2.1 B.2.2.1 B.2.2.2 pr ho m ids to ov=some (t,B.1,B.2.1,B.2.2.1,B.2.2.2,pr,ho,[],ids,to,true,m.map (wA 22)++iO B B.1.length):=by
 unfold J1
 obtain ⟨s', h1, h2⟩ := vF (L := fun n i (s : List yI) => BL k n m m.length i t B.1 B.2.1 B.2.2.1 B.2.2.2 pr ho m ids to ov 0 0 false s) (N := m.length) (fun s => (t, B.1, B.2.1, B.2.2.1, B.2.2.2, pr, ho, m, ids, to, ov, 0, 0, false, s)) (fun i s => s = (m.take i).map (wA 22)) (fun n s _=>by
  show BM k _ m m.length m.length t B.1 B.2.1 B.2.2.1 B.2.2.2 pr ho m ids to ov 0 0 false s=_
  unfold BM
  simp only [zU, aj (Nat.lt_irrefl _), ao]) (fun n i s hi hs=>by
  refine⟨_,?_,(yS4 (wA 22) m i pd hi).symm⟩
  show BM k _ m m.length i t B.1 B.2.1 B.2.2.1 B.2.2.2 pr ho m ids to ov 0 0 false s=_
  unfold BM
  have eM:s.length≤900:=by rw[hs,List.length_map,List.length_take];omega
  have wa:nA k (m.getD i pd).2.1 22 [(m.getD i pd).1]=some (wA 22 (m.getD i pd)):=rfl
  simp only[pd] at wa
  simp only[qG,zU,aB,ai hi,av,wa,ak,sS (show s.length≤1000 by omega),qO hi (show m.length<9223372036854775808 by omega)]
  rw[hs]) (s:=[]) (show m.length<k by omega) rfl
 have cP:BL k k m m.length 0 t B.1 B.2.1 B.2.2.1 B.2.2.2 pr ho m ids to ov 0 0 false []=_:=h1
 rw[cP,h2,List.take_length]
 simp only[ak]
 obtain ⟨s2, g1, g2⟩ := vF (L := fun n i (s : List yI) => BN k n B.1 B.1.length i t B.1 B.2.1 B.2.2.1 B.2.2.2 pr ho m ids to ov 0 0 false s) (N := B.1.length) (fun s => (t, B.1, B.2.1, B.2.2.1, B.2.2.2, pr, ho, m, ids, to, ov, 0, 0, false, s)) (fun i s => s = m.map (wA 22) ++ iO B i) (fun n s _=>by
  show BO k _ B.1 B.1.length B.1.length t B.1 B.2.1 B.2.2.1 B.2.2.2 pr ho m ids to ov 0 0 false s=_
  unfold BO
  simp only [zU, aj (Nat.lt_irrefl _), ao]) (fun n i s hi hs=>by
  refine⟨_,?_,(show m.map (wA 22)++iO B i++[sW B i]=m.map (wA 22)++iO B (i+1) by rw[yHf,List.append_assoc])⟩
  show BO k _ B.1 B.1.length i t B.1 B.2.1 B.2.2.1 B.2.2.2 pr ho m ids to ov 0 0 false s=_
  unfold BO
  have eM:s.length≤900:=by
   rw[hs,List.length_append,List.length_map]
   unfold iO
   rw[List.length_map,List.length_range]
   omega
  have wa:nA k i 23 [(B.1.getD i ad).1]=some (sW B i):=rfl
  have ho3:nA k i 23 [(B.1.getD i (0,0,0)).1]=some (sW B i):=wa
  simp only[qG,zU,aB,ai hi,av,ho3,ak,sS (show s.length≤1000 by omega),qO hi (show B.1.length<9223372036854775808 by omega)]
  rw[hs]) (s:=m.map (wA 22)) (show B.1.length<k by omega) (by show _=_++[];rw[List.append_nil])
 have pS:BN k k B.1 B.1.length 0 t B.1 B.2.1 B.2.2.1 B.2.2.2 pr ho m ids to ov 0 0 false (m.map (wA 22))=_:=g1
 rw[pS,g2]
 rfl
def yR (t:Int)(p:zB):Bool:=decide (t>p.2.2.2.2.2.2)
theorem yPe {k:Nat}(hk:200≤k){m:List zB}(hm:m.length≤100)(pa:Int)(as:List (Int×Int))(cu cl pe t:Int)(B:BT)(pr:List Int)(ho:List (List Int))(ids:List Int)(to:Int)(ov:Bool):
  BP k k m m.length 0 pa as cu cl pe t B.1 B.2.1 B.2.2.1 B.2.2.2 pr ho m ids to ov 0 0 false [] []=some (pa,as,cu,cl,pe,t,B.1,B.2.1,B.2.2.1,B.2.2.2,pr,ho,m,ids,to,ov,0,0,false,(m.filter (yR t)).map (wA 21),m.filter (fun p=> !yR t p)):=by
 obtain ⟨s', h1, h2, h3⟩ := vF (L := fun n i (s : List yI × List zB) => BP k n m m.length i pa as cu cl pe t B.1 B.2.1 B.2.2.1 B.2.2.2 pr ho m ids to ov 0 0 false s.1 s.2) (N := m.length) (fun s => (pa, as, cu, cl, pe, t, B.1, B.2.1, B.2.2.1, B.2.2.2, pr, ho, m, ids, to, ov, 0, 0, false, s.1, s.2)) (fun i s => s.1 = ((m.take i).filter (yR t)).map (wA 21) ∧ s.2 = (m.take i).filter (fun p => !yR t p)) (fun n s _=>by
  show BQ k _ m m.length m.length pa as cu cl pe t B.1 B.2.1 B.2.2.1 B.2.2.2 pr ho m ids to ov 0 0 false s.1 s.2=_
  unfold BQ
  simp only [zU, aj (Nat.lt_irrefl _), ao]) (fun n i s hi hs=>by
  have pc:s.1.length≤900:=by
   rw[hs.1,List.length_map]
   have:=List.length_filter_le (yR t) (m.take i)
   rw[List.length_take] at this
   omega
  have lr:s.2.length≤900:=by
   rw[hs.2]
   have:=List.length_filter_le (fun p=> !yR t p) (m.take i)
   rw[List.length_take] at this
   omega
  show∃s',BQ k _ m m.length i pa as cu cl pe t B.1 B.2.1 B.2.2.1 B.2.2.2 pr ho m ids to ov 0 0 false s.1 s.2=_∧_
  unfold BQ Rg
  have wa:nA k (m.getD i pd).2.1 21 [(m.getD i pd).1]=some (wA 21 (m.getD i pd)):=rfl
  simp only[pd] at wa
  simp only[qG,zU,aB,ai hi,av,wa,ak,sS (show s.1.length≤1000 by omega),kN (show s.2.length≤1000 by omega),qO hi (show m.length<9223372036854775808 by omega)]
  have f1:=vm (yR t) m i pd hi
  have f2:=vm (fun p=> !yR t p) m i pd hi
  cases hb:yR t (m.getD i pd) with
  |true=>
   have bJ:decide (t>(m.getD i (0,0,0,0,0,0,0)).2.2.2.2.2.2)=true:=hb
   rw[bJ]
   refine⟨(s.1++[wA 21 (m.getD i pd)],s.2),rfl,?_,?_⟩
   ·show s.1++_=_
    rw[f1,hb,hs.1]
    simp
   ·show s.2=_
    rw[f2,hb,hs.2]
    simp
  |false=>
   have bJ:decide (t>(m.getD i (0,0,0,0,0,0,0)).2.2.2.2.2.2)=false:=hb
   rw[bJ]
   refine⟨(s.1,s.2++[m.getD i pd]),rfl,?_,?_⟩
   ·show s.1=_
    rw[f1,hb,hs.1]
    simp
   ·show s.2++_=_
    rw[f2,hb,hs.2]
    simp) (s:=([],[])) (show m.length<k by omega) ⟨rfl,rfl⟩
 have:=h1.trans (by rw[h2,h3,List.take_length])
 exact this
structure vBa (t cl:Int) (B C:BT) (m m':List zB) (ov:Bool) (o:List yI):Prop where
 bk:qV C
 bl:C.1.length=B.1.length
 sub:List.Sublist m' m
 over:ov=decide (t+1=cl)
 none:ov=true→m'=[]
 late:ov=false→∀p∈m',yR (t+1) p=false
 E4:∀p∈m',iN p o=0
 fu:∀p∈m,p∉m'→iN p o=1
 quiet:∀q:zB,(∀p∈m,p.1≠q.1)→iN q o=0
 room:o.length+2*m'.length≤2*m.length+(if ov=true then 6 else 0)
theorem qS.not_in {l m d:List zB}(hd:qS (d++m)){p:zB}(hp:p∈m):∀q∈d,q.1≠p.1:=fun q hq=>(List.pairwise_append.1 hd).2.2 q hq p hp
structure fx (B C:BT):Prop where
 len:C.1.length=B.1.length
 sum:qM (fun i=>(C.1.getD i ad).1) B.1.length=qM (fun i=>(B.1.getD i ad).1) B.1.length
 cred:∀i,i<B.1.length→(C.1.getD i ad).2.1=(B.1.getD i ad).2.1
 bil:C.2.1=B.2.1
 mul:C.2.2.1=B.2.2.1
theorem fx.refl (B:BT):fx B B:=⟨rfl,rfl,fun _ _=>rfl,rfl,rfl⟩
theorem fx.trans {B C D:BT}(h:fx B C)(g:fx C D):fx B D:=
 ⟨g.len.trans h.len,by have:=g.sum;rw[h.len] at this;exact this.trans h.sum,fun i hi=>(g.cred i (by rw[h.len];exact hi)).trans (h.cred i hi),g.bil.trans h.bil,g.mul.trans h.mul⟩
theorem yPc {B:BT}(h:qV B){l:List zB}{r:List qN×List (List Int)×List Int×List (List Int)×Int}(hp:oz B.1 B.2.1 B.2.2.1 B.2.2.2 l r):fx B (r.1,r.2.1,r.2.2.1,r.2.2.2.1):=by
 have hs:=(E4 h hp).1
 by_cases c:vS B.1.length l
 ·obtain⟨a',p',x,e⟩:=hp.1 c
  cases hi:kM a' B.2.1 B.2.2.1 p' with
  |false=>rw[hi] at e;subst e;exact fx.refl B
  |true=>
   rw[hi] at e;subst e
   exact⟨x.al,hs,fun i bM=>by show(a'.getD i ad).2.1=_;rw[x.acct i bM],rfl,rfl⟩
 ·rw[hp.2 c];exact fx.refl B
theorem yQg {k:Nat}(hk:100<k){B C:BT}(h:qV B){l:List zB}(hl:l.length≤80)(hg:fu k B l=some C):fx B C:=by
 obtain⟨r,h1,h3⟩:=Jb hk h hl
 unfold fu at hg
 rw[h1] at hg
 simp only at hg
 cases hc:decide (r.2.2.2.2=0)&&oF B l with
 |false=>rw[hc] at hg;cases hg
 |true=>
  rw[hc] at hg
  simp only[av,Option.some.injEq] at hg
  subst hg
  exact yPc h h3
theorem fM.keptC {k:Nat}(hk:100<k){t:Int}{B C:BT}{l done m:List zB}(h:fM k t B l done C m)(hb:qV B):fx B C:=by
 induction h with
 |stop _=>exact fx.refl _
 |@step B C D l m done p h h' ih=>
  have hg:=(vu h).2
  exact(yQg hk hb (by simp) hg).trans (ih (oG hk hb (by simp) hg).1)
theorem jE.keptC {k:Nat}(hk:100<k){t:Int}{B C:BT}{l done m:List zB}(h:jE k t B l done C m)(hb:qV B):fx B C:=by
 induction h with
 |stop _=>exact fx.refl _
 |@step B C D l m done p q h h' ih=>
  have hg:=(JL h).2.2.2
  exact(yQg hk hb (by simp) hg).trans (ih (oG hk hb (by simp) hg).1)
theorem fM.bk {k:Nat}(hk:100<k){t:Int}{B C:BT}{l done m:List zB}(h:fM k t B l done C m)(hb:qV B):qV C:=by
 induction h with
 |stop _=>exact hb
 |step h h' ih=>exact ih (oG hk hb (by simp) (vu h).2).1
theorem jE.bk {k:Nat}(hk:100<k){t:Int}{B C:BT}{l done m:List zB}(h:jE k t B l done C m)(hb:qV B):qV C:=by
 induction h with
 |stop _=>exact hb
 |step h h' ih=>exact ih (oG hk hb (by simp) (JL h).2.2.2).1
theorem kg.keptC {k:Nat}(hk:100<k){t:Int}{B C:BT}{l done m:List zB}(h:kg k t B l done C m)(hb:qV B):fx B C:=by
 induction h with
 |stop h1 _=>exact h1.keptC hk hb
 |step h1 h2 ne h' ih=>
  have b1:=h1.bk hk hb
  exact((h1.keptC hk hb).trans (h2.keptC hk b1)).trans (ih (h2.bk hk b1))
theorem yZ8 {k:Nat}(hk:200≤k){B:BT}(hb:qV B){l:List zB}(hl:∀q∈l,yL B.1.length q)(cd:l.length≤64)(t:Int){C:BT}{m done:List zB}(hr:vy k B.1 B.2.1 B.2.2.1 B.2.2.2 l t=some (C.1,C.2.1,C.2.2.1,C.2.2.2,m,done)):fx B C:=by
 obtain⟨f,n,h,hn⟩:=Q4 hb hl cd t
 have rQ:=sQ l t
 have bS:=sO (yT l t) f
 have JU:=bS.length_le
 obtain⟨r,h1,h3⟩:=Jb (k:=k) (by omega) hb (l:=yX (yT l t) f) (by omega)
 have g1:=Rc (k:=k) (by omega) hb hl cd t (by omega) h h1
 unfold Br at g1
 rw[g1] at hr
 cases c:decide (r.2.2.2.2=0) with
 |false=>
  rw[c] at hr
  simp only[dX,av,Option.some.injEq,Prod.mk.injEq] at hr
  obtain⟨e1,e2,e3,e4,_⟩:=hr
  have:B=C:=Prod.ext e1 (Prod.ext e2 (Prod.ext e3 e4))
  rw[←this]
  exact fx.refl B
 |true=>
  rw[c] at hr
  simp only[aY,ao,Option.some.injEq,Prod.mk.injEq] at hr
  obtain⟨e1,e2,e3,e4,_⟩:=hr
  have:(r.1,r.2.1,r.2.2.1,r.2.2.2.1)=C:=Prod.ext e1 (Prod.ext e2 (Prod.ext e3 e4))
  rw[←this]
  exact yPc hb h3
theorem Rh {C D:BT}{m n d e:List zB}(h:(C.1,C.2.1,C.2.2.1,C.2.2.2,m,d)=(D.1,D.2.1,D.2.2.1,D.2.2.2,n,e)):C=D∧m=n∧d=e:=by
 simp only[Prod.mk.injEq] at h
 obtain⟨e1,e2,e3,e4,e5,e6⟩:=h
 exact⟨Prod.ext e1 (Prod.ext e2 (Prod.ext e3 e4)),e5,e6⟩
theorem qZi {k:Nat}(hk:200≤k){B:BT}(hb:qV B){l:List zB}(hd:qS l)(hl:∀q∈l,yL B.1.length q)(cd:l.length≤64)(t:Int)(all:Bool){X:BT}{mx dx:List zB}
  (hr:sR k B.1 B.2.1 B.2.2.1 B.2.2.2 l t all=some (X.1,X.2.1,X.2.2.1,X.2.2.2,mx,dx)):fx B X:=by
 obtain⟨C,m,d,f1,f2,f3,f4,f5⟩:=BC hk hb hd (by omega) t
 have q1:=f2.keptC (by omega) hb
 have p1:=f2.perm hd
 have l1:=p1.length_eq
 rw[List.length_append] at l1
 unfold sR at hr
 rw[f1] at hr
 simp only[ak] at hr
 cases all with
 |false=>
  simp only[dX,av,Option.some.injEq] at hr
  rw[←(Rh hr).1];exact q1
 |true=>
  simp only[aY,ao] at hr
  have hm:qS m:=List.Pairwise.sublist f5 hd
  have HY:∀q∈m,yL C.1.length q:=fun q hq=>by rw[f4];exact hl q (f5.subset hq)
  obtain⟨D,n,x,g1,g2,g3,g4,g5,g6⟩:=Re hk f3 hm HY (by omega) t
  have q2:=yZ8 hk f3 HY (by omega) t g1
  have l2:=g5.length_eq
  rw[List.length_append] at l2
  rw[g1] at hr
  simp only[ak] at hr
  cases x with
  |nil=>
   obtain⟨rfl,rfl⟩:=g6 rfl
   have mN:some (D.1,D.2.1,D.2.2.1,D.2.2.2,n,d)=some (X.1,X.2.1,X.2.2.1,X.2.2.2,mx,dx):=hr
   rw[←(Rh (Option.some.inj mN)).1];exact q1
  |cons p x=>
   have e1:decide ((((p::x).length:Nat):Int)=0)=false:=aj (by simp;omega)
   rw[e1] at hr
   simp only[ao] at hr
   have hn:qS n:=List.Pairwise.sublist g4 hm
   obtain⟨E,o,y,k1,k2,k3,k4,k5⟩:=BC hk g2 hn (by omega) t
   have q3:=k2.keptC (by omega) g2
   have p3:=k2.perm hn
   have l3:=p3.length_eq
   rw[List.length_append] at l3
   have r1:zW (d.length+(p::x).length) 56=true:=yE (by simp at l2⊢;omega) (by simp at l2⊢;omega)
   have r2:zW ((d++(p::x)).length+y.length) 56=true:=yE (by simp at l2⊢;omega) (by simp at l2⊢;omega)
   rw[k1] at hr
   simp only[ak,r1,r2,av] at hr
   have mN:some (E.1,E.2.1,E.2.2.1,E.2.2.2,o,d++(p::x)++y)=some (X.1,X.2.1,X.2.2.1,X.2.2.2,mx,dx):=hr
   rw[←(Rh (Option.some.inj mN)).1]
   exact(q1.trans q2).trans q3
theorem yU0 {k:Nat}(hk:200≤k){B:BT}(hb:qV B){m:List zB}(hd:qS m)(hm:∀q∈m,yL B.1.length q)(cd:m.length≤64)(pa:Int)(sa:List (Int×Int))(cu cl pe t:Int)(ht:0≤t∧t<1099511627776)(FQ:pe≠0)(pr:List Int)(ho:List (List Int))(ids:List Int)(to:Int):
  ∃(C:BT) (m':List zB) (ov:Bool) (o:List yI),sX k pa sa cu cl pe t B.1 B.2.1 B.2.2.1 B.2.2.2 pr ho m ids to false=some (t+1,C.1,C.2.1,C.2.2.1,C.2.2.2,pr,ho,m',ids,to,ov,o)∧vBa t cl B C m m' ov o∧fx B C∧(ov=false→jL k C (vM m' (t+1))=none)∧
   ((ov=true∧m'=[]∧o=m.map (wA 22)++iO B B.1.length)∨∃l d n,o=l.map (wA 21)++vJ d∧List.Perm (l++n) m∧List.Perm (d++m') n):=by
 have eY:=hb.n6
 have w:zA (t+1)=t+1:=zV (by omega) (by omega)
 unfold sX wb
 simp only[w,ao,ak]
 cases hc:decide (t+1=cl) with
 |true=>
  simp only[av]
  rw[yQl eY hk (by omega)]
  simp only[ak]
  refine⟨B,[],true,_,rfl,⟨hb,rfl,List.nil_sublist m,hc.symm,fun _=>rfl,(fun e=>by cases e),(fun p hp=>by cases hp),fun p hp _=>?_,fun q hq=>?_,?_⟩,fx.refl B,(fun e=>by cases e),.inl ⟨rfl,rfl,rfl⟩⟩
  ·rw[v9,(BK (.inr rfl) hd).1 hp,yT3]
  ·rw[v9,(BK (.inr rfl) hd).2 hq,yT3]
  ·rw[List.length_append,List.length_map]
   unfold iO
   rw[List.length_map,List.length_range]
   simp
   omega
 |false=>
  simp only[ao]
  rw[yPe hk (by omega)]
  simp only[ak]
  have hs:∃x,BR k pa sa cu cl pe (t+1)=some x:=by
   unfold BR
   cases decide (t+1>0) with
   |false=>exact⟨_,rfl⟩
   |true=>
    cases decide (t+1<cl) with
    |false=>exact⟨_,rfl⟩
    |true=>
     have:decide (pe=0)=false:=aj FQ
     rw[this]
     exact⟨_,rfl⟩
  obtain⟨x,hx⟩:=hs
  rw[hx]
  simp only[ak]
  have bS:List.Sublist (m.filter (fun p=> !yR (t+1) p)) m:=List.filter_sublist
  have eM:=bS.length_le
  have oI:qS (m.filter (fun p=> !yR (t+1) p)):=List.Pairwise.sublist bS hd
  obtain⟨C,m',d,f1,f2,f3,f4,f5,f6,f7⟩:=yX4 hk hb oI (fun q hq=>hm q (bS.subset hq)) (by omega) (t+1) x
  have hlen:=f5.length_eq
  rw[List.length_append] at hlen
  have hSt:pZ k (t+1) B.1 B.2.1 B.2.2.1 B.2.2.2 pr ho (m.filter (fun p=> !yR (t+1) p)) ids to false x=some (t+1,C.1,C.2.1,C.2.2.1,C.2.2.2,pr,ho,m',ids,to,false,vJ d):=by
   unfold pZ
   rw[f1]
   simp only[ak]
   rw[yNx (by omega) (by omega)]
   rfl
  rw[hSt]
  have hla:(m.filter (yR (t+1))).length≤m.length:=List.length_filter_le _ _
  have aag:(m.filter (yR (t+1))).length+(m.filter (fun p=> !yR (t+1) p)).length=m.length:=by
   rw[←List.countP_eq_length_filter,←List.countP_eq_length_filter]
   have:=List.length_eq_countP_add_countP (yR (t+1)) (l:=m)
   simp only[Bool.not_eq_true,Bool.decide_eq_false] at this
   exact this.symm
  have yg:=BD d
  have hr:zW (((m.filter (yR (t+1))).map (wA 21)).length+(vJ d).length) 64=true:=yE (by rw[List.length_map];omega) (by rw[List.length_map];omega)
  simp only[ak,hr,av]
  have hdd:qS (d++m'):=oI.perm f5
  have qa:qS d:=(List.pairwise_append.1 hdd).1
  have Ri:∀p∈d,p∈m.filter (fun p=> !yR (t+1) p):=fun p hp=>f5.subset (List.mem_append_left _ hp)
  have kS:∀p∈d,yL B.1.length p:=fun p hp=>hm p (bS.subset (Ri p hp))
  have qb:qS (m.filter (yR (t+1))):=hd.filter _
  have sY:∀p∈m,yR (t+1) p=false→∀q∈m.filter (yR (t+1)),q.1≠p.1:=by
   intro p hp hl q hq e
   have h1:=List.mem_filter.1 hq
   have:=hd.eq_of h1.1 hp e
   subst this
   rw[hl] at h1
   exact absurd h1.2 (by simp)
  refine⟨C,m',false,_,rfl,⟨f2,f3,f4.trans bS,hc.symm,(fun e=>by cases e),fun _ p hp=>?_,fun p hp=>?_,fun p hp hn=>?_,fun q hq=>?_,?_⟩,qZi hk hb oI (fun q hq=>hm q (bS.subset hq)) (by omega) (t+1) x f1,(fun _=>f6),.inr ⟨m.filter (yR (t+1)),d,m.filter (fun p=> !yR (t+1) p),rfl,List.filter_append_perm _ _,f5⟩⟩
  ·have:=(List.mem_filter.1 (f4.subset hp)).2
   simpa using this
  ·have h1:=List.mem_filter.1 (f4.subset hp)
   have hl:yR (t+1) p=false:=by simpa using h1.2
   rw[v9,(BK (.inl rfl) qb).2 (sY p h1.1 hl),(J0 qa kS).2 (hdd.not_in (l:=d) hp)]
  ·cases hl:yR (t+1) p with
   |true=>
    have h1:p∈m.filter (yR (t+1)):=List.mem_filter.2 ⟨hp,hl⟩
    have h2:∀q∈d,q.1≠p.1:=by
     intro q hq e
     have h3:=List.mem_filter.1 (Ri q hq)
     have:=hd.eq_of h3.1 hp e
     subst this
     have h4:=h3.2
     rw[hl] at h4
     cases h4
    rw[v9,(BK (.inl rfl) qb).1 h1,(J0 qa kS).2 h2]
   |false=>
    have h1:p∈m.filter (fun p=> !yR (t+1) p):=List.mem_filter.2 ⟨hp,by rw[hl];rfl⟩
    have h2:p∈d:=by
     rcases List.mem_append.1 (f5.symm.subset h1) with h|h
     ·exact h
     ·exact absurd h hn
    rw[v9,(BK (.inl rfl) qb).2 (sY p hp hl),(J0 qa kS).1 h2]
  ·rw[v9,(BK (.inl rfl) qb).2 (fun p hp=>hq p (List.mem_filter.1 hp).1),(J0 qa kS).2 (fun p hp=>hq p (bS.subset (Ri p hp)))]
  ·rw[List.length_append,List.length_map]
   simp
   omega
abbrev jA:=List (List Int)
abbrev qR:=Int×List fL×Int×Int×Int
abbrev jB:=Int×Int×Int×Int×Int×Int×Int
abbrev yYr:=Int×List fL×Int×Int×Int×Int×List qN×jA×List Int×jA×List Int×jA×List zB×List Int×Int×Bool×Int×List yI
structure qL where
 t:Int
 B:BT
 pr:List Int
 ho:jA
 m:List zB
 ids:List Int
 to:Int
 ov:Bool
abbrev qc:=Int×List qN×jA×List Int×jA×List Int×jA×List zB×List Int×Int×Bool
def qL.st (s:qL):qc:=(s.t,s.B.1,s.B.2.1,s.B.2.2.1,s.B.2.2.2,s.pr,s.ho,s.m,s.ids,s.to,s.ov)
def dk (r:qR)(s:qL)(who:Int)(l:List yI):yYr:=(r.1,r.2.1,r.2.2.1,r.2.2.2.1,r.2.2.2.2,s.t,s.B.1,s.B.2.1,s.B.2.2.1,s.B.2.2.2,s.pr,s.ho,s.m,s.ids,s.to,s.ov,who,l)
structure jR (r:qR):Prop where
 pa:1≤r.1∧r.1≤6
 n3:r.2.1.length≤3
 price:∀i,i<r.2.1.length→0≤(r.2.1.getD i pU).1∧(r.2.1.getD i pU).1≤1048576
 cut:∀i,i<r.2.1.length→0≤(r.2.1.getD i pU).2∧(r.2.1.getD i pU).2≤10000
 cu:0≤r.2.2.1∧r.2.2.1≤r.2.2.2.1
 cl:1≤r.2.2.2.1∧r.2.2.2.1≤1048576
 pe:1≤r.2.2.2.2∧r.2.2.2.2≤1048576
def mz (m:List zB):Prop:=List.Pairwise (fun p q=>wM p q=true) m
structure jT (n:Nat) (m:List zB) (ids:List Int):Prop where
 dist:qS m
 len:m.length≤40
 sort:mz m
 may:∀p∈m,yL n p
 time:∀p∈m,0≤p.2.2.2.2.2.1∧p.2.2.2.2.2.1≤p.2.2.2.2.2.2∧p.2.2.2.2.2.2≤1048576
 were:∀p∈m,p.1∈ids
 asc:pQ ids
 pos:∀x∈ids,1≤x
 idl:ids.length≤200
structure yV (r:qR) (s:qL):Prop where
 tk:0≤s.t∧s.t≤r.2.2.2.1
 bk:qV s.B
 n:(s.B.1.length:Int)=r.1
 hol:s.ho.length=s.B.1.length
 laid:∀i,i<s.B.1.length→ik r.2.1 s.pr (s.ho.getD i [])
 cred:∀i,i<s.B.1.length→(s.B.1.getD i ad).2.1=kb r.2.1 s.pr (s.ho.getD i [])
 most:∀i,i<s.B.1.length→(s.B.1.getD i ad).2.1≤1152921504606846976
 waits:jT s.B.1.length s.m s.ids
 sum:qM (fun i=>(s.B.1.getD i ad).1) s.B.1.length=s.to
 tot:0≤s.to∧s.to≤1152921504606846976
 over:s.ov=decide (s.t=r.2.2.2.1)
 none:s.ov=true→s.m=[]
theorem kT (k:Nat)(a b c:Int):vA k a b c=some (decide (a≥b)&&decide (a≤c)):=by
 unfold vA
 cases decide (a≥b)<;>rfl
theorem pw {α:Type}(c:Bool)(a b:α):(bif c then some a else some b)=some (bif c then a else b):=by cases c<;>rfl
theorem vCc (c a:Bool):(bif c then a else false)=(c&&a):=by cases c<;>rfl
theorem vLr {α:Type}(c:Bool)(a:α):(bif c then a else a)=a:=by cases c<;>rfl
def il (pa t:Int)(p:zB):Bool:=
 decide (p.2.1≥0)&&decide (p.2.1<pa)&&(decide (p.2.2.1≥0)&&decide (p.2.2.1<pa)&&(decide (p.1≥1)&&(decide (p.2.2.2.1≥1)&&(decide (p.2.2.2.1≤1099511627776)&&(decide (p.2.2.2.2.1≥1)&&(!decide (p.2.1=p.2.2.1)&&(decide (p.2.2.2.2.1≤3)&&(decide (p.2.2.2.2.2.1≥0)&&(decide (p.2.2.2.2.2.1≤p.2.2.2.2.2.2)&&(decide (p.2.2.2.2.2.2≥t)&&decide (p.2.2.2.2.2.2≤1048576)))))))))))
theorem vGm (k:Nat)(r:qR)(w:Int):FR k r w=some (decide (w≥0)&&decide (w<r.1)):=by
 unfold FR
 cases decide (w≥0)<;>rfl
theorem vK4 (k:Nat)(r:qR)(t:Int)(p:zB):J2 k r t p=some (il r.1 t p):=by
 unfold J2 il
 simp only[vGm,ak,vLr,pw,vCc]
def nB (cu cl t c:Int):Int:=bif decide (t≥cl) then 7 else bif decide (c=3)&&decide (t≥cu) then 7 else 0
theorem yNl (k:Nat)(r:qR)(t c:Int):wc k r t c=some (nB r.2.2.1 r.2.2.2.1 t c):=by
 unfold wc nB
 cases decide (t≥r.2.2.2.1)<;>cases decide (c=3)<;>cases decide (t≥r.2.2.1)<;>rfl
def lK (r:qR)(t:Int)(p:zB):Int:=bif !il r.1 t p then 1 else nB r.2.2.1 r.2.2.2.1 t p.2.2.2.2.1
theorem vHw (k:Nat)(r:qR)(t:Int)(p:zB):BS k r t p=some (lK r t p):=by
 unfold BS lK
 rw[vK4]
 simp only[ak,yNl]
 cases il r.1 t p<;>rfl
def fy (who:Int)(f:jB):zB:=(f.2.1,who,f.2.2)
def jk (r:qR)(s:qL)(who:Int)(f:jB):Int×List zB×List Int:=
 bif !(decide (f.2.2.1≥0)&&decide (f.2.2.1≤r.1-1)) then(1,s.m,s.ids)
 else bif !(decide (f.2.2.2.2.1≥1)&&decide (f.2.2.2.2.1≤3)) then(1,s.m,s.ids)
 else bif !decide (lK r s.t (fy who f)=0) then(lK r s.t (fy who f),s.m,s.ids)
 else bif decide (f.2.1∈s.ids) then(6,s.m,s.ids)
 else bif decide (200≤s.ids.length) then(3,s.m,s.ids)
 else bif (vN s.m f.2.1).isSome then(6,s.m,s.ids)
 else bif decide (40≤s.m.length) then(3,s.m,s.ids)
 else(0,mq s.m (fy who f),pR s.ids f.2.1)
theorem vI4 {k:Nat}(hk:1000≤k){r:qR}(hr:jR r){s:qL}(h:jT s.B.1.length s.m s.ids)(who:Int)(l:List yI)(f:jB):
  ∃d,J3 k (dk r s who l) f.2=some ((jk r s who f).1,d)∧((jk r s who f).1=0→d=dk r {s with m:=(jk r s who f).2.1,ids:=(jk r s who f).2.2} who l):=by
 have hp:=hr.pa
 have hi:=h.idl
 have hm:=h.len
 have w1:zA (r.1-1)=r.1-1:=zV (by omega) (by omega)
 have eD:J3 k (dk r s who l) f.2=(vA k f.2.2.1 0 (zA (r.1-1))).bind fun x0=>
  bif !x0 then some (1,dk r s who l)
  else(vA k f.2.2.2.2.1 1 3).bind fun x1=>
  bif !x1 then some (1,dk r s who l)
  else(BS k r s.t (fy who f)).bind fun x2=>
  bif !(decide (x2=0)) then some (x2,dk r s who l)
  else(A9 k s.ids f.2.1).bind fun x3=>
  bif !(decide (x3.2=0)) then some (x3.2,dk r s who l)
  else(sL k s.m (fy who f)).bind fun x4=>
  bif !(decide (x4.2=0)) then some (x4.2,dk r s who l)
  else some (0,dk r {s with m:=x4.1,ids:=x3.1} who l):=rfl
 rw[eD,kT,kT,vHw,w1,vN5 (by omega) (by omega) h.asc,QP (by omega) (by omega) (by unfold qW;omega)]
 simp only[ak]
 unfold jk
 cases decide (f.2.2.1≥0)&&decide (f.2.2.1≤r.1-1) with
 |false=>exact⟨_,rfl,fun e=>by cases e⟩
 |true=>
 cases decide (f.2.2.2.2.1≥1)&&decide (f.2.2.2.2.1≤3) with
 |false=>exact⟨_,rfl,fun e=>by cases e⟩
 |true=>
 simp only[aY,ao]
 by_cases hc:lK r s.t (fy who f)=0
 ·rw[ai hc]
  simp only[aY,ao]
  by_cases h1:f.2.1∈s.ids
  ·rw[ai h1];exact⟨_,rfl,fun e=>by cases e⟩
  ·rw[aj h1]
   by_cases h2:200≤s.ids.length
   ·rw[ai h2];exact⟨_,rfl,fun e=>by cases e⟩
   ·rw[aj h2]
    have e1:(fy who f).1=f.2.1:=rfl
    have e0:decide ((0:Int)=0)=true:=ai rfl
    rw[e1]
    cases(vN s.m f.2.1).isSome with
    |true=>exact⟨_,rfl,fun e=>by cases e⟩
    |false=>
     by_cases h3:40≤s.m.length
     ·rw[ai h3];exact⟨_,rfl,fun e=>by cases e⟩
     ·rw[aj h3];exact⟨_,rfl,fun _=>rfl⟩
 ·rw[aj hc]
  exact⟨_,rfl,fun e=>absurd e hc⟩
def lL (who kd a:Int):yI:=(who,kd,a,0,0,0,0,0)
theorem yMk {k:Nat}{l:List yI}(hl:l.length≤1000)(r:qR)(s:qL)(who kd a:Int):sZ k (dk r s who l) kd [a]=some (dk r s who (l++[lL who kd a])):=by
 have e:sZ k (dk r s who l) kd [a]=bif zW (l.length+1) 64 then some (dk r s who (l++[lL who kd a])) else none:=rfl
 rw[e,yE (by omega) (by omega)]
 rfl
def kh (r:qR)(s:qL)(who:Int)(f:jB):Int×List zB×List yI:=match vN s.m f.2.1 with
 |none=>(4,s.m,[])
 |some x=>
  bif !decide ((s.m.getD x pd).2.1=who) then(4,s.m,[])
  else bif decide (f.1=2) then(0,yC s.m x,[lL who 20 f.2.1])
  else bif decide (f.1 = 4) then (bif !(decide (f.2.2.1≥1)&&decide (f.2.2.1≤3)) then(1,s.m,[])
   else bif !decide (nB r.2.2.1 r.2.2.2.1 s.t f.2.2.1=0) then(nB r.2.2.1 r.2.2.2.1 s.t f.2.2.1,s.m,[])
   else(0,mq (yC s.m x) ((s.m.getD x pd).1,(s.m.getD x pd).2.1,(s.m.getD x pd).2.2.1,(s.m.getD x pd).2.2.2.1,f.2.2.1,(s.m.getD x pd).2.2.2.2.2.1,(s.m.getD x pd).2.2.2.2.2.2),[]))
  else bif decide (f.2.2.1=0) then(0,Fx (yC s.m x) (s.m.getD x pd),[])
  else bif decide (f.2.2.1=1) then(0,mq (yC s.m x) (s.m.getD x pd),[])
  else(1,s.m,[])
theorem vJ4 {k:Nat}(hk:1000≤k){r:qR}{s:qL}(h:jT s.B.1.length s.m s.ids)(who:Int){l:List yI}(hl:l.length≤1000)(f:jB):
  ∃d,we k (dk r s who l) f=some ((kh r s who f).1,d)∧((kh r s who f).1=0→d=dk r {s with m:=(kh r s who f).2.1} who (l++(kh r s who f).2.2)):=by
 have hm:=h.len
 have mf:qW s.m:=by unfold qW;omega
 have eD : we k (dk r s who l) f = ((mo k s.m f.2.1).bind fun x0=>
   bif decide (x0<0) then some (((0,0,0,0,0,0,0):zB),(4:Int))
   else bif zE x0 s.m.length then (bif !(decide ((s.m.getD x0.toNat (0,0,0,0,0,0,0)).2.1=who)) then some ((0,0,0,0,0,0,0),4)
    else bif zE x0 s.m.length then some ((s.m.getD x0.toNat (0,0,0,0,0,0,0)),0)
    else none)
   else none).bind fun x0=>
  bif !(decide (x0.2=0)) then some (x0.2,dk r s who l)
  else bif decide (f.1 = 2) then ((nu k s.m f.2.1).bind fun x1=>
   (sZ k (dk r {s with m:=x1.1} who l) 20 [f.2.1]).bind fun x2=>
   some (x1.2.2.2.2.2.2.2.2,x2))
  else bif decide (f.1 = 4) then ((vA k f.2.2.1 1 3).bind fun x3=>
   bif !x3 then some (1,dk r s who l)
   else(wc k r s.t f.2.2.1).bind fun x4=>
   bif !(decide (x4=0)) then some (x4,dk r s who l)
   else(A2 k s.m f.2.1 f.2.2.1).bind fun x5=>
   some (x5.2,dk r {s with m:=x5.1} who l))
  else bif decide (f.2.2.1 = 0) then ((A7 k s.m f.2.1).bind fun x6=>
   some (x6.2,dk r {s with m:=x6.1} who l))
  else bif decide (f.2.2.1 = 1) then ((A3 k s.m f.2.1).bind fun x7=>
   some (x7.2,dk r {s with m:=x7.1} who l))
  else some (1,dk r s who l):=rfl
 rw[eD,AQ (by omega) (by omega)]
 unfold kh iK
 cases hx:vN s.m f.2.1 with
 |none=>exact⟨_,rfl,fun e=>by cases e⟩
 |some x=>
  have cw:=iL hx
  have e1:decide ((x:Int)<0)=false:=aj (by omega)
  simp only[ak,e1,ao,qG,ai cw.1,av,aB]
  by_cases hw:(s.m.getD x (0,0,0,0,0,0,0)).2.1=who
  ·have BU:(s.m.getD x pd).2.1=who:=hw
   rw[ai hw]
   simp only[aY,ao,ak,decide_true]
   by_cases h2:f.1=2
   ·rw[ai h2]
    simp only[av,vq (show s.m.length<k by omega) mf,ak,yMk hl]
    unfold gh
    rw[hx]
    exact⟨_,rfl,fun _=>rfl⟩
   ·rw[aj h2]
    simp only[ao]
    by_cases h4:f.1=4
    ·rw[ai h4]
     simp only[av,kT,ak,yNl,vMv (show 3≤k by omega) (show s.m.length<k by omega) mf h.dist hm hx]
     cases decide (f.2.2.1≥1)&&decide (f.2.2.1≤3) with
     |false=>exact⟨_,rfl,fun e=>by cases e⟩
     |true=>
      simp only[aY,ao]
      by_cases hc:nB r.2.2.1 r.2.2.2.1 s.t f.2.2.1=0
      ·rw[ai hc]
       exact⟨_,rfl,fun _=>by show dk r _ who l=dk r _ who (l++[]);rw[List.append_nil];rfl⟩
      ·rw[aj hc]
       exact⟨_,rfl,fun e=>absurd e hc⟩
    ·rw[aj h4]
     simp only[ao]
     by_cases h0:f.2.2.1=0
     ·rw[ai h0]
      simp only[av,vCw (show 3≤k by omega) (show s.m.length<k by omega) mf hx,ak]
      exact⟨_,rfl,fun _=>by show dk r _ who l=dk r _ who (l++[]);rw[List.append_nil]⟩
     ·rw[aj h0]
      simp only[ao]
      by_cases h1:f.2.2.1=1
      ·rw[ai h1]
       simp only[av,vE0 (show 3≤k by omega) (show s.m.length<k by omega) mf h.dist hm hx,ak]
       exact⟨_,rfl,fun _=>by show dk r _ who l=dk r _ who (l++[]);rw[List.append_nil]⟩
      ·rw[aj h1]
       exact⟨_,rfl,fun e=>by cases e⟩
  ·have BU:¬(s.m.getD x pd).2.1=who:=hw
   rw[aj hw]
   exact⟨_,rfl,fun e=>by cases e⟩
def Rj (s:qL)(a:List qN)(b:jA)(m:List Int):qL:={s with B:=(a,b,m,s.B.2.2.2)}
def ki (r:qR)(s:qL)(who:Int)(f:jB):Int×qL:=
 bif decide (f.1 = 5) then (bif !((decide (f.2.1≥0)&&decide (f.2.1≤r.1-1))&& !decide (f.2.1=who)) then(1,s)
  else bif !(decide (f.2.2.1≥-1)&&decide (f.2.2.1≤1152921504606846976)) then(1,s)
  else(0,Rj s s.B.1 (s.B.2.1.set who.toNat ((s.B.2.1.getD who.toNat []).set f.2.1.toNat f.2.2.1)) s.B.2.2.1))
 else bif decide (f.1 = 6) then (bif !(decide (f.2.1≥-1)&&decide (f.2.1≤1152921504606846976)) then(1,s)
  else(0,Rj s s.B.1 s.B.2.1 (s.B.2.2.1.set who.toNat f.2.1)))
 else bif !(decide (f.2.1≥0)&&decide (f.2.1≤1152921504606846976)) then(1,s)
 else(0,Rj s (s.B.1.set who.toNat ((s.B.1.getD who.toNat ad).1,(s.B.1.getD who.toNat ad).2.1,f.2.1)) s.B.2.1 s.B.2.2.1)
theorem vAx {k:Nat}(hk:1000≤k){r:qR}(hr:jR r){s:qL}(hb:qV s.B)(hn:(s.B.1.length:Int)=r.1){who:Int}(hw:0≤who∧who<r.1)(l:List yI)(f:jB):
    ∃d,wg k (dk r s who l) f=some ((ki r s who f).1,d)∧((ki r s who f).1=0→d=dk r (ki r s who f).2 who l):=by
  have hp:=hr.pa
  have w1:zA (r.1-1)=r.1-1:=zV (by omega) (by omega)
  obtain⟨w,rfl⟩:=Int.eq_ofNat_of_zero_le hw.1
  have eI:w<s.B.1.length:=by omega
  have eD:wg k (dk r s w l) f=(fq k s.B.1 s.B.2.1 s.B.2.2.1 s.B.2.2.2).bind fun x0=>
    bif decide (f.1 = 5) then (((vA k f.2.1 0 (zA (r.1-1))).bind fun x0=>bif x0 then some (!(decide (f.2.1=(w:Int)))) else some false).bind fun x1=>
      bif !x1 then some (1,dk r s w l)
      else(vA k f.2.2.1 (-1) 1152921504606846976).bind fun x2=>
      bif !x2 then some (1,dk r s w l)
      else bif zE (w : Int) x0.2.1.length then (bif zE f.2.1 (x0.2.1.getD (w:Int).toNat []).length then
        some (0,dk r {s with B:=(x0.1,(x0.2.1.set (w:Int).toNat ((x0.2.1.getD (w:Int).toNat []).set f.2.1.toNat f.2.2.1)),x0.2.2.1,x0.2.2.2)} w l)
       else none)
      else none)
    else bif decide (f.1 = 6) then ((vA k f.2.1 (-1) 1152921504606846976).bind fun x3=>
      bif !x3 then some (1,dk r s w l)
      else bif zE (w:Int) x0.2.2.1.length then some (0,dk r {s with B:=(x0.1,x0.2.1,(x0.2.2.1.set (w:Int).toNat f.2.1),x0.2.2.2)} w l)
      else none)
    else(vA k f.2.1 0 1152921504606846976).bind fun x4=>
    bif !x4 then some (1,dk r s w l)
    else bif zE (w:Int) x0.1.length then some (0,dk r {s with B:=((x0.1.set (w:Int).toNat ((x0.1.getD (w:Int).toNat (0,0,0)).1,(x0.1.getD (w:Int).toNat (0,0,0)).2.1,f.2.1)),x0.2.1,x0.2.2.1,x0.2.2.2)} w l)
    else none:=rfl
  rw[eD,EO (by omega) hb.toSized,w1]
  simp only[ak,kT,qG,aB]
  unfold ki
  rw[aB]
  by_cases h5:f.1=5
  · rw[ai h5]
    simp only[av]
    cases hc:decide (f.2.1≥0)&&decide (f.2.1≤r.1-1) with
    |false=>exact⟨_,rfl,fun e=>by cases e⟩
    |true=>
      simp only[bN,bI] at hc
      cases decide (f.2.1=(w:Int)) with
      |true=>exact⟨_,rfl,fun e=>by cases e⟩
      |false=>
        cases decide (f.2.2.1≥-1)&&decide (f.2.2.1≤1152921504606846976) with
        |false=>exact⟨_,rfl,fun e=>by cases e⟩
        |true=>
          have b1:decide (w<s.B.2.1.length)=true:=ai (by rw[hb.bl];exact eI)
          have b2:zE f.2.1 (s.B.2.1.getD w []).length=true:=uX hc.1 (by rw[hb.br w eI];omega)
          simp only[av,ak,dX,aY,ao,b1,b2,Bool.and_self]
          exact⟨_,rfl,fun _=>rfl⟩
  · rw[aj h5]
    simp only[ao]
    by_cases h6:f.1=6
    · rw[ai h6]
      cases decide (f.2.1≥-1)&&decide (f.2.1≤1152921504606846976) with
      |false=>exact⟨_,rfl,fun e=>by cases e⟩
      |true=>
        have b1:decide (w<s.B.2.2.1.length)=true:=ai (by rw[hb.ml];exact eI)
        simp only[av,aY,ao,b1]
        exact⟨_,rfl,fun _=>rfl⟩
    · rw[aj h6]
      cases decide (f.2.1≥0)&&decide (f.2.1≤1152921504606846976) with
      |false=>exact⟨_,rfl,fun e=>by cases e⟩
      |true=>
        have b1:decide (w<s.B.1.length)=true:=ai eI
        simp only[av,aY,ao,b1]
        exact⟨_,rfl,fun _=>rfl⟩
def FT (s:qL)(w:Nat)(h:List Int)(n:Int):Int×qL:=
 bif decide (n>1152921504606846976) then(8,s)
 else bif decide (n<(s.B.1.getD w ad).2.1)&&decide ((s.B.1.getD w ad).1+n<0) then(9,s)
 else(0,{s with B:=(s.B.1.set w ((s.B.1.getD w ad).1,n,(s.B.1.getD w ad).2.2),s.B.2.1,s.B.2.2.1,s.B.2.2.2),ho:=s.ho.set w h})
def kj (r:qR)(s:qL)(who a many:Int):Int×qL:=
 bif !(decide (a≥0)&&decide (a≤(r.2.1.length:Int)-1)) then(1,s)
 else bif !(decide (many≥0)&&decide (many≤1099511627776)) then(1,s)
 else FT s who.toNat ((s.ho.getD who.toNat []).set a.toNat many) (kb r.2.1 s.pr ((s.ho.getD who.toNat []).set a.toNat many))
theorem ik.set {sa:List fL}{pr h:List Int}(L:ik sa pr h){i:Nat}(hi:i<sa.length){v:Int}(hv:0≤v∧v≤1099511627776):ik sa pr (h.set i v):=
 ⟨L.n3,L.pl,by rw[List.length_set];exact L.hl,L.cut,L.price,fun j hj=>by
  rw[wL]
  split
  ·exact hv
  ·exact L.hold j hj⟩
theorem ik.setP {sa:List fL}{pr h:List Int}(L:ik sa pr h){i:Nat}(hi:i<sa.length){v:Int}(hv:0≤v∧v≤1048576):ik sa (pr.set i v) h:=
 ⟨L.n3,by rw[List.length_set];exact L.pl,L.hl,L.cut,fun j hj=>by
  rw[wL]
  split
  ·exact hv
  ·exact L.price j hj,L.hold⟩
theorem vAe {k:Nat}{l:jA}(hl:l.length≤1000):BV k l=some l:=by
 unfold BV
 rw[yE (by omega) (by omega)]
 rfl
theorem vRw {k:Nat}(hk:1000≤k){r:qR}(hr:jR r){s:qL}(h:yV r s){who:Int}(hw:0≤who∧who<r.1)(l:List yI)(a many:Int):
    ∃d,J4 k (dk r s who l) a many=some ((kj r s who a many).1,d)∧((kj r s who a many).1=0→d=dk r (kj r s who a many).2 who l):=by
  have hp:=hr.pa
  have h3:=hr.n3
  have hn:=h.n
  have eY:=h.bk.n6
  have hol:=h.hol
  have w1:zA ((r.2.1.length:Int)-1)=(r.2.1.length:Int)-1:=zV (by omega) (by omega)
  obtain⟨w,rfl⟩:=Int.eq_ofNat_of_zero_le hw.1
  have eI:w<s.B.1.length:=by omega
  have eD:J4 k (dk r s w l) a many=((vA k a 0 (zA ((r.2.1.length:Int)-1))).bind fun x0=>some x0).bind fun x0=>
    bif !x0 then some (1,dk r s w l)
    else(vA k many 0 1099511627776).bind fun x1=>
    bif !x1 then some (1,dk r s w l)
    else(BV k s.ho).bind fun x2=>
    bif zE (w : Int) x2.length then ((nw k (x2.getD (w:Int).toNat []) a many).bind fun x3=>
      bif zE (w:Int) x2.length then(
       bif zE (w : Int) (x2.set (w : Int).toNat x3).length then ((oE k r.2.1 s.pr ((x2.set (w:Int).toNat x3).getD (w:Int).toNat [])).bind fun x4=>
        bif zE (w : Int) s.B.1.length then (bif !x4.2 then some (8,dk r s w l)
         else bif decide (x4.1>1152921504606846976) then some (8,dk r s w l)
         else bif decide (x4.1 < (s.B.1.getD (w : Int).toNat (0, 0, 0)).2.1) then (bif decide ((zA ((s.B.1.getD (w:Int).toNat (0,0,0)).1+x4.1))<0) then some (9,dk r s w l)
          else(fq k s.B.1 s.B.2.1 s.B.2.2.1 s.B.2.2.2).bind fun x5=>
          bif zE (w:Int) x5.1.length then
           some (0,dk r {s with B:=((x5.1.set (w:Int).toNat ((x5.1.getD (w:Int).toNat (0,0,0)).1,x4.1,(x5.1.getD (w:Int).toNat (0,0,0)).2.2)),x5.2.1,x5.2.2.1,x5.2.2.2),ho:=x2.set (w:Int).toNat x3} w l)
          else none)
         else(fq k s.B.1 s.B.2.1 s.B.2.2.1 s.B.2.2.2).bind fun x6=>
         bif zE (w:Int) x6.1.length then
          some (0,dk r {s with B:=((x6.1.set (w:Int).toNat ((x6.1.getD (w:Int).toNat (0,0,0)).1,x4.1,(x6.1.getD (w:Int).toNat (0,0,0)).2.2)),x6.2.1,x6.2.2.1,x6.2.2.2),ho:=x2.set (w:Int).toNat x3} w l)
         else none)
        else none)
       else none)
      else none)
    else none:=rfl
  rw[eD,w1,kT,kT,EO (by omega) h.bk.toSized,vAe (by omega)]
  simp only[ak,qG,aB]
  unfold kj
  simp only[aB]
  cases hc:decide (a≥0)&&decide (a≤(r.2.1.length:Int)-1) with
  |false=>exact⟨_,rfl,fun e=>by cases e⟩
  |true=>
  simp only[bN,bI] at hc
  cases hm:decide (many≥0)&&decide (many≤1099511627776) with
  |false=>exact⟨_,rfl,fun e=>by cases e⟩
  |true=>
  simp only[bN,bI] at hm
  obtain⟨i,rfl⟩:=Int.eq_ofNat_of_zero_le hc.1
  have hi:i<r.2.1.length:=by omega
  have L:=h.laid w eI
  have L2:=L.set hi (v:=many) ⟨by omega,by omega⟩
  have b1:decide (w<s.ho.length)=true:=ai (by omega)
  have b2:decide (w<s.B.1.length)=true:=ai eI
  have kk:nw k (s.ho.getD w []) (i:Int) many=some ((s.ho.getD w []).set i many):=by
    have:=yFf (k:=k) (l:=s.ho.getD w []) (by rw[L.hl];omega) (i:=(i:Int)) (by omega) (by rw[L.hl];omega) many
    rw[aB] at this
    exact this
  have FU:(s.ho.set w ((s.ho.getD w []).set i many)).getD w []=(s.ho.getD w []).set i many:=by
    rw[wL,if_pos ⟨rfl,by omega⟩]
  have hv:=QX (k:=k) L2 (by omega)
  have hb:=h.bk.nums.bal w eI
  have uj:=Bf L2
  simp only[aY,ao,b1,av,kk,ak,List.length_set,FU,hv,b2,aB]
  clear hv L2 FU eD
  generalize kb r.2.1 s.pr ((s.ho.getD w []).set i many)=n at uj⊢
  unfold FT
  cases Rk:decide (n>1152921504606846976) with
  |true=>exact⟨_,rfl,fun e=>by cases e⟩
  |false=>
    have h8:¬n>1152921504606846976:=jh Rk
    have w2:zA ((s.B.1.getD w (0,0,0)).1+n)=(s.B.1.getD w (0,0,0)).1+n:=zV (by have:=hb.1;simp only[ad] at this;omega) (by have:=hb.2;simp only[ad] at this;omega)
    simp only[w2,ao]
    cases decide (n<(s.B.1.getD w (0,0,0)).2.1) with
    |false=>exact⟨_,rfl,fun _=>rfl⟩
    |true=>
      cases decide ((s.B.1.getD w (0,0,0)).1+n<0) with
      |true=>exact⟨_,rfl,fun e=>by cases e⟩
      |false=>exact⟨_,rfl,fun _=>rfl⟩
def wR (a:qN)(n:Int):qN×Int:=bif jJ (a.1+n,a.2.1,a.2.2) then((a.1+n,a.2.1,a.2.2),0) else(a,8)
theorem yS2 {k:Nat}{a:qN}(ha:-4611686018427387904<a.1∧a.1<4611686018427387904){n:Int}(hn:-1099511627776≤n∧n≤1099511627776):FV k a n=some (wR a n):=by
 have Rl:J5 k a.1 n=some (a.1+n,true):=by
  unfold J5
  have w1:n>0→zA (9223372036854775807-n)=9223372036854775807-n:=fun h=>zV (by omega) (by omega)
  have w2:n<0→zA (-9223372036854775808-n)= -9223372036854775808-n:=fun h=>zV (by omega) (by omega)
  have w3:zA (a.1+n)=a.1+n:=zV (by omega) (by omega)
  rw[w3]
  by_cases h1:n>0
  ·rw[ai h1,w1 h1,aj (show¬a.1>9223372036854775807-n by omega),aj (show¬n<0 by omega)];rfl
  ·rw[aj h1]
   by_cases h2:n<0
   ·rw[ai h2,w2 h2,aj (show¬a.1< -9223372036854775808-n by omega)];rfl
   ·rw[aj h2];rfl
 unfold FV wR
 rw[Rl]
 simp only[ak,aY,ao,qWm]
 cases jJ (a.1+n,a.2.1,a.2.2)<;>rfl
abbrev vJs:=Int×List fL×Int×Int×Int×Int×List qN×jA×List Int×jA×List Int×jA×List zB×List Int×Int×Bool×Int
def jS (r:qR)(s:qL)(who:Int):vJs:=(r.1,r.2.1,r.2.2.1,r.2.2.2.1,r.2.2.2.2,s.t,s.B.1,s.B.2.1,s.B.2.2.1,s.B.2.2.2,s.pr,s.ho,s.m,s.ids,s.to,s.ov,who)
def J6 (s:qL)(i:Nat)(a:qN)(to:Int):qL:={s with B:=(s.B.1.set i a,s.B.2.1,s.B.2.2.1,s.B.2.2.2),to:=to}
def FW (s:qL)(i:Nat)(n:Int):Int×qL:=
 bif decide ((s.B.1.getD i ad).1+(s.B.1.getD i ad).2.1-(s.B.1.getD i ad).2.2<n) then(9,s)
 else bif decide (s.to-n<0) then(9,s)
 else bif !decide ((wR (s.B.1.getD i ad) (-n)).2=0) then((wR (s.B.1.getD i ad) (-n)).2,s)
 else bif decide (s.to-n>1152921504606846976) then(8,s)
 else(0,J6 s i (wR (s.B.1.getD i ad) (-n)).1 (s.to-n))
def FX (s:qL)(i:Nat)(n:Int):Int×qL:=
 bif !decide ((wR (s.B.1.getD i ad) n).2=0) then((wR (s.B.1.getD i ad) n).2,s)
 else bif decide (s.to+n>1152921504606846976) then(8,s)
 else(0,J6 s i (wR (s.B.1.getD i ad) n).1 (s.to+n))
def iP (r:qR)(s:qL)(kd to n:Int):Int×qL:=
 bif !(decide (to≥0)&&decide (to≤r.1-1)) then(1,s)
 else bif !(decide (n≥1)&&decide (n≤1099511627776)) then(1,s)
 else bif decide (kd=11) then FW s to.toNat n else FX s to.toNat n
theorem yO8 {k:Nat}(hk:1000≤k){r:qR}(hr:jR r){s:qL}(h:yV r s)(who kd to n:Int):
    ∃d,wh k (jS r s who) kd to n=some ((iP r s kd to n).1,d)∧((iP r s kd to n).1=0→d=dk r (iP r s kd to n).2 who []):=by
  have hp:=hr.pa
  have hn:=h.n
  have ht:=h.tot
  have w1:zA (r.1-1)=r.1-1:=zV (by omega) (by omega)
  have eD:wh k (jS r s who) kd to n=(vA k to 0 (zA (r.1-1))).bind fun x0=>
    bif !x0 then some (1,dk r s who [])
    else(vA k n 1 1099511627776).bind fun x1=>
    bif !x1 then some (1,dk r s who [])
    else bif zE to s.B.1.length then ((BW k (s.B.1.getD to.toNat (0,0,0)) n).bind fun x2=>
      bif decide (kd = 11) then ((BX k (s.B.1.getD to.toNat (0,0,0)) n 3).bind fun x3=>
       (BY k (s.B.1.getD to.toNat (0,0,0)) 3).bind fun x4=>
       bif decide (x4<n) then some (9,dk r s who [])
       else bif decide ((zA (s.to-n))<0) then some (9,dk r s who [])
       else bif !(decide (x3.2=0)) then some (x3.2,dk r s who [])
       else bif decide ((zA (s.to-n))>1152921504606846976) then some (8,dk r s who [])
       else(fq k s.B.1 s.B.2.1 s.B.2.2.1 s.B.2.2.2).bind fun x5=>
       bif zE to x5.1.length then some (0,dk r {s with B:=(x5.1.set to.toNat x3.1,x5.2.1,x5.2.2.1,x5.2.2.2),to:=zA (s.to-n)} who [])
       else none)
      else bif !(decide (x2.2=0)) then some (x2.2,dk r s who [])
      else bif decide ((zA (s.to+n))>1152921504606846976) then some (8,dk r s who [])
      else(fq k s.B.1 s.B.2.1 s.B.2.2.1 s.B.2.2.2).bind fun x6=>
      bif zE to x6.1.length then some (0,dk r {s with B:=(x6.1.set to.toNat x2.1,x6.2.1,x6.2.2.1,x6.2.2.2),to:=zA (s.to+n)} who [])
      else none)
    else none:=rfl
  rw[eD,w1,kT,kT,EO (by omega) h.bk.toSized]
  simp only[ak]
  unfold iP
  cases hc:decide (to≥0)&&decide (to≤r.1-1) with
  |false=>exact⟨_,rfl,fun e=>by cases e⟩
  |true=>
  simp only[bN,bI] at hc
  cases hm:decide (n≥1)&&decide (n≤1099511627776) with
  |false=>exact⟨_,rfl,fun e=>by cases e⟩
  |true=>
  simp only[bN,bI] at hm
  obtain⟨i,rfl⟩:=Int.eq_ofNat_of_zero_le hc.1
  have hi:i<s.B.1.length:=by omega
  have hb:=h.bk.nums.bal i hi
  have iI:=h.bk.nums.res i hi
  have hcr:=h.most i hi
  have Rm:0≤(s.B.1.getD i ad).2.1:=by rw[h.cred i hi];exact Bf (h.laid i hi)
  have b0:zE (i:Int) s.B.1.length=true:=by rw[qG,ai hi]
  have FY:BW k (s.B.1.getD i (0,0,0)) n=some (wR (s.B.1.getD i ad) n):=by
    unfold BW
    rw[yS2 hb (by omega)]
    rfl
  have FZ:BX k (s.B.1.getD i (0,0,0)) n 3=some (wR (s.B.1.getD i ad) (-n)):=by
    unfold BX
    rw[show zA (0-n)= -n by rw[zV (by omega) (by omega)];omega,yS2 hb (by omega)]
    simp only[ak]
    have d1:decide ((3:Int)=1)=false:=rfl
    have d2:decide ((3:Int)=2)=false:=rfl
    rw[d1,d2]
    cases decide ((wR (s.B.1.getD i ad) (-n)).2=0)<;>rfl
  have ta:BY k (s.B.1.getD i (0,0,0)) 3=some ((s.B.1.getD i ad).1+(s.B.1.getD i ad).2.1-(s.B.1.getD i ad).2.2):=by
    unfold BY
    have d1:decide ((3:Int)=3)=true:=rfl
    rw[d1,av]
    have q1:zA ((s.B.1.getD i (0,0,0)).1+(s.B.1.getD i (0,0,0)).2.1)=(s.B.1.getD i ad).1+(s.B.1.getD i ad).2.1:=zV (by simp only[ad] at*;omega) (by simp only[ad] at*;omega)
    rw[q1]
    exact congrArg some (zV (by simp only[ad] at*;omega) (by simp only[ad] at*;omega))
  have q2:zA (s.to-n)=s.to-n:=zV (by omega) (by omega)
  have q3:zA (s.to+n)=s.to+n:=zV (by omega) (by omega)
  simp only[aY,ao,b0,av,aB,FY,FZ,ta,ak,q2,q3]
  clear FY FZ ta eD
  cases decide (kd=11) with
  |true=>
    simp only[av]
    unfold FW
    cases decide ((s.B.1.getD i ad).1+(s.B.1.getD i ad).2.1-(s.B.1.getD i ad).2.2<n) with
    |true=>exact⟨_,rfl,fun e=>by cases e⟩
    |false=>
    cases decide (s.to-n<0) with
    |true=>exact⟨_,rfl,fun e=>by cases e⟩
    |false=>
    cases hz:decide ((wR (s.B.1.getD i ad) (-n)).2=0) with
    |false=>exact⟨_,rfl,fun e=>absurd e (jh hz)⟩
    |true=>
    cases decide (s.to-n>1152921504606846976) with
    |true=>exact⟨_,rfl,fun e=>by cases e⟩
    |false=>exact⟨_,rfl,fun _=>rfl⟩
  |false=>
    simp only[ao]
    unfold FX
    cases hz:decide ((wR (s.B.1.getD i ad) n).2=0) with
    |false=>exact⟨_,rfl,fun e=>absurd e (jh hz)⟩
    |true=>
    cases decide (s.to+n>1152921504606846976) with
    |true=>exact⟨_,rfl,fun e=>by cases e⟩
    |false=>exact⟨_,rfl,fun _=>rfl⟩
def jN (sa:List fL)(pr:List Int)(ho:jA)(j:Nat):Int:=kb sa pr (ho.getD j [])
def gJ (sa:List fL)(pr:List Int)(ho:jA)(a:List qN):List qN:=(List.range a.length).map fun j=>((a.getD j ad).1,jN sa pr ho j,(a.getD j ad).2.2)
def F0 (r:qR)(s:qL)(pr:List Int):Int×qL:=
 bif qK (fun j=> !decide (jN r.2.1 pr s.ho j>1152921504606846976)) s.B.1.length 0 then(0,{s with B:=(gJ r.2.1 pr s.ho s.B.1,s.B.2.1,s.B.2.2.1,s.B.2.2.2),pr:=pr}) else(8,s)
def kl (r:qR)(s:qL)(a p:Int):Int×qL:=
 bif !(decide (a≥0)&&decide (a≤(r.2.1.length:Int)-1)) then(1,s)
 else bif !(decide (p≥0)&&decide (p≤1048576)) then(1,s)
 else F0 r s (s.pr.set a.toNat p)
theorem Rn (sa:List fL)(pr:List Int)(ho:jA)(a:List qN):(gJ sa pr ho a).length=a.length:=by simp[gJ]
theorem Ro (sa:List fL)(pr:List Int)(ho:jA)(a:List qN){j:Nat}(hj:j<a.length):(gJ sa pr ho a).getD j ad=((a.getD j ad).1,jN sa pr ho j,(a.getD j ad).2.2):=by
 unfold gJ
 rw[List.getD_eq_getElem?_getD,List.getElem?_map,List.getElem?_range hj]
 rfl
theorem vKm {k:Nat}(hk:1000≤k){r:qR}{s:qL}(who:Int){pr:List Int}(hL:∀i,i<s.B.1.length→ik r.2.1 pr (s.ho.getD i []))(hol:s.ho.length=s.B.1.length)(eY:s.B.1.length≤6):
  (qK (fun j=> !decide (jN r.2.1 pr s.ho j>1152921504606846976)) s.B.1.length 0=true∧qd k k s.ho s.ho.length 0 (jS r s who) pr s.B.1 s.B.2.1 s.B.2.2.1 s.B.2.2.2=some (.inl (jS r s who,pr,gJ r.2.1 pr s.ho s.B.1,s.B.2.1,s.B.2.2.1,s.B.2.2.2)))∨
  (qK (fun j=> !decide (jN r.2.1 pr s.ho j>1152921504606846976)) s.B.1.length 0=false∧qd k k s.ho s.ho.length 0 (jS r s who) pr s.B.1 s.B.2.1 s.B.2.2.1 s.B.2.2.2=some (.inr (8,jS r s who))):=by
 rw[hol]
 have:=Je (L:=fun n i (a:List qN)=>qd k n s.ho s.B.1.length i (jS r s who) pr a s.B.2.1 s.B.2.2.1 s.B.2.2.2) (N:=s.B.1.length) (fun j=> !decide (jN r.2.1 pr s.ho j>1152921504606846976))
  (fun a=>.inl (jS r s who,pr,a,s.B.2.1,s.B.2.2.1,s.B.2.2.2)) (.inr (8,jS r s who))
  (fun i a => a.length = s.B.1.length ∧ ∀ j, j < s.B.1.length → a.getD j ad = if j < i then ((s.B.1.getD j ad).1, jN r.2.1 pr s.ho j, (s.B.1.getD j ad).2.2) else s.B.1.getD j ad) (fun n a _=>by
   show BZ k _ s.ho s.B.1.length s.B.1.length (jS r s who) pr a s.B.2.1 s.B.2.2.1 s.B.2.2.2=_
   unfold BZ
   simp only [zU, aj (Nat.lt_irrefl _), ao]) (fun n i a hi ha=>by
   have hv:=QX (k:=k) (hL i hi) (by omega)
   have aH:qd k (n+1) s.ho s.B.1.length i (jS r s who) pr a s.B.2.1 s.B.2.2.1 s.B.2.2.2=bif decide (jN r.2.1 pr s.ho i>1152921504606846976) then some (.inr (8,jS r s who)) else qd k n s.ho s.B.1.length ((i+1:Nat):Int) (jS r s who) pr (a.set i ((a.getD i ad).1,jN r.2.1 pr s.ho i,(a.getD i ad).2.2)) s.B.2.1 s.B.2.2.1 s.B.2.2.2:=by
    show BZ k _ s.ho s.B.1.length i (jS r s who) pr a s.B.2.1 s.B.2.2.1 s.B.2.2.2=_
    unfold BZ
    have gy:oE k (jS r s who).2.1 pr (s.ho.getD i [])=some (jN r.2.1 pr s.ho i,true):=hv
    simp only[zU,qG,aB,ai hi,ai (show i<s.ho.length by omega),ai (show i<a.length by rw[ha.1];exact hi),av,gy,ak,aY,ao,qO hi (show s.B.1.length<9223372036854775808 by omega)]
    rfl
   refine⟨fun ho=>?_,fun ho=>?_⟩
   ·have h1:decide (jN r.2.1 pr s.ho i>1152921504606846976)=false:=by simpa using ho
    refine⟨_,by rw[aH,h1];rfl,by rw[List.length_set];exact ha.1,fun j hj=>?_⟩
    rw[wL]
    by_cases e:i=j
    ·subst e
     rw[if_pos ⟨rfl,by rw[ha.1];exact hi⟩,if_pos (by omega),ha.2 i hi,if_neg (Nat.lt_irrefl _)]
    ·rw[if_neg (by omega),ha.2 j hj]
     by_cases h:j<i
     ·rw[if_pos h,if_pos (by omega)]
     ·rw[if_neg h,if_neg (by omega)]
   ·have h1:decide (jN r.2.1 pr s.ho i>1152921504606846976)=true:=by simpa using ho
    rw[aH,h1];rfl) s.B.1.length 0 k s.B.1 (by omega) (by omega) ⟨rfl,fun j _=>by rw[if_neg (Nat.not_lt_zero _)]⟩
 rcases this with⟨h1,a,h2,h3,h4⟩|⟨h1,h2⟩
 ·refine .inl ⟨h1,?_⟩
  have e:a=gJ r.2.1 pr s.ho s.B.1:=yz ad (by rw[h3,Rn]) fun j hj=>by
   rw[h3] at hj
   rw[h4 j hj,if_pos hj,Ro _ _ _ _ hj]
  rw[←e]
  exact h2
 ·exact .inr ⟨h1,h2⟩
theorem yM6 {k:Nat}(hk:1000≤k){r:qR}(hr:jR r){s:qL}(h:yV r s)(who a p:Int):
  ∃d,J7 k (jS r s who) a p=some ((kl r s a p).1,d)∧((kl r s a p).1=0→d=dk r (kl r s a p).2 who []):=by
 have h3:=hr.n3
 have eY:=h.bk.n6
 have kI:=h.bk.n1
 have w1:zA ((r.2.1.length:Int)-1)=(r.2.1.length:Int)-1:=zV (by omega) (by omega)
 have eD:J7 k (jS r s who) a p=((vA k a 0 (zA ((r.2.1.length:Int)-1))).bind fun x0=>some x0).bind fun x0=>
  bif !x0 then some (1,dk r s who [])
  else(vA k p 0 1048576).bind fun x1=>
  bif !x1 then some (1,dk r s who [])
  else(nw k s.pr a p).bind fun x2=>
  (fq k s.B.1 s.B.2.1 s.B.2.2.1 s.B.2.2.2).bind fun x3=>
  (qd k k s.ho (s.ho.length:Int) 0 (jS r s who) x2 x3.1 x3.2.1 x3.2.2.1 x3.2.2.2).bind fun z=>
  match z with
  |.inl z1=>some (0,(wT z1.1 (wi z1 (z1.2.1,(Rp z1.1 [])))))
  |.inr z2=>some (eZ z2 []):=rfl
 rw[eD,w1,kT,kT,EO (by omega) h.bk.toSized]
 simp only[ak]
 unfold kl
 cases hc:decide (a≥0)&&decide (a≤(r.2.1.length:Int)-1) with
 |false=>exact⟨_,rfl,fun e=>by cases e⟩
 |true=>
 simp only[bN,bI] at hc
 cases hm:decide (p≥0)&&decide (p≤1048576) with
 |false=>exact⟨_,rfl,fun e=>by cases e⟩
 |true=>
 simp only[bN,bI] at hm
 obtain⟨i,rfl⟩:=Int.eq_ofNat_of_zero_le hc.1
 have hi:i<r.2.1.length:=by omega
 have L0:=h.laid 0 (by omega)
 have kk:nw k s.pr (i:Int) p=some (s.pr.set i p):=by
  have:=yFf (k:=k) (l:=s.pr) (by rw[L0.pl];omega) (i:=(i:Int)) (by omega) (by rw[L0.pl];omega) p
  rw[aB] at this
  exact this
 simp only[aY,ao,kk,ak,aB]
 unfold F0
 rcases vKm (r:=r) (s:=s) hk who (pr:=s.pr.set i p) (fun j hj=>(h.laid j hj).setP hi ⟨by omega,by omega⟩) h.hol eY with⟨g1,g2⟩|⟨g1,g2⟩
 ·rw[g2,g1]
  exact⟨_,rfl,fun _=>rfl⟩
 ·rw[g2,g1]
  exact⟨_,rfl,fun e=>by cases e⟩
theorem F1 {q p:zB}:wM q p=true↔q.2.1<p.2.1∨(q.2.1=p.2.1∧q.2.2.2.2.1≤p.2.2.2.2.1):=by
 unfold wM;simp
theorem Rq {q p:zB}:gH q p=true↔q.2.1<p.2.1∨(q.2.1=p.2.1∧q.2.2.2.2.1<p.2.2.2.2.1):=by
 unfold gH;simp
theorem vC5 {a b c:zB}(h:wM a b=true)(g:wM b c=true):wM a c=true:=by
 rw[F1] at*;omega
theorem yZg {a b:zB}(h:¬wM a b=true):wM b a=true:=by
 rw[F1] at*;omega
theorem vN9 {a b:zB}(h:gH a b=true):wM a b=true:=by
 rw[Rq] at h;rw[F1];omega
theorem vNb {a b:zB}(h:¬gH a b=true):wM b a=true:=by
 rw[Rq] at h;rw[F1];omega
theorem qYt (f:zB→Bool)(l:List zB)(p:zB):List.Perm (l.takeWhile f++(p::l.dropWhile f)) (p::l):=by
 have:=List.perm_middle (a:=p) (l₁:=l.takeWhile f) (l₂:=l.dropWhile f)
 rwa [List.takeWhile_append_dropWhile] at this
theorem yM4 {l:List zB}(hs:mz l)(p:zB)(f:zB→Bool)(h1:∀q,f q=true→wM q p=true)(h2:∀q,¬f q=true→wM p q=true):mz (l.takeWhile f++(p::l.dropWhile f)):=by
 have rZ:=hs
 unfold mz at hs rZ⊢
 rw[←List.takeWhile_append_dropWhile (p:=f) (l:=l)] at hs
 obtain⟨a1,a2,a3⟩:=List.pairwise_append.1 hs
 have Rr:∀q∈l.takeWhile f,f q=true:=fun q hq=>List.all_eq_true.1 (List.all_takeWhile (p:=f) (l:=l)) q hq
 have Rs:∀q∈l.dropWhile f,wM p q=true:=by
  cases hd:l.dropWhile f with
  |nil=>intro q hq;cases hq
  |cons x m=>
   have hx:¬f x=true:=by
    have bn:l.dropWhile f≠[]:=by rw[hd];simp
    have:=List.head_dropWhile_not f bn
    have e:(l.dropWhile f).head bn=x:=by simp only[hd,List.head_cons]
    rw[e] at this
    simp[this]
   intro q hq
   rcases List.mem_cons.1 hq with rfl|hq
   ·exact h2 _ hx
   ·rw[hd] at a2
    exact vC5 (h2 x hx) ((List.pairwise_cons.1 a2).1 q hq)
 refine List.pairwise_append.2 ⟨a1,List.pairwise_cons.2 ⟨Rs,a2⟩,fun a ha b hb=>?_⟩
 rcases List.mem_cons.1 hb with rfl|hb
 ·exact h1 a (Rr a ha)
 ·exact a3 a ha b hb
theorem Rt {l:List zB}(hs:mz l)(p:zB):mz (mq l p):=yM4 hs p _ (fun _ h=>h) (fun _ h=>yZg h)
theorem vO9 {l:List zB}(hs:mz l)(p:zB):mz (Fx l p):=yM4 hs p _ (fun _ h=>vN9 h) (fun _ h=>vNb h)
theorem Ru (l:List zB)(p:zB):List.Perm (mq l p) (p::l):=qYt _ l p
theorem vIy (l:List zB)(p:zB):List.Perm (Fx l p) (p::l):=qYt _ l p
theorem mz.cut {l:List zB}(h:mz l)(x:Nat):mz (yC l x):=List.Pairwise.sublist (pP l x) h
theorem vCn {l:List Int}(ha:pQ l){id:Int}(hn:id∉l):pQ (pR l id):=by
 unfold pR
 have mb:=ha
 unfold pQ at ha mb⊢
 rw[←List.takeWhile_append_dropWhile (p:=fun x=>decide (x<id)) (l:=l)] at ha
 obtain⟨a1,a2,a3⟩:=List.pairwise_append.1 ha
 have Rr:∀q∈l.takeWhile (fun x=>decide (x<id)),q<id:=fun q hq=>by simpa using List.all_eq_true.1 (List.all_takeWhile (p:=fun x=>decide (x<id)) (l:=l)) q hq
 have Rs:∀q∈l.dropWhile (fun x=>decide (x<id)),id<q:=by
  cases hd:l.dropWhile (fun x=>decide (x<id)) with
  |nil=>intro q hq;cases hq
  |cons x m=>
   have uu:x∈l:=(List.dropWhile_sublist _).subset (by rw[hd];exact List.mem_cons_self ..)
   have hx:¬x<id:=by
    have bn:l.dropWhile (fun x=>decide (x<id))≠[]:=by rw[hd];simp
    have:=List.head_dropWhile_not (fun x=>decide (x<id)) bn
    have e:(l.dropWhile (fun x=>decide (x<id))).head bn=x:=by simp only[hd,List.head_cons]
    rw[e] at this
    simpa using this
   have bn:x≠id:=fun e=>hn (e▸uu)
   intro q hq
   rcases List.mem_cons.1 hq with rfl|hq
   ·omega
   ·rw[hd] at a2
    have:=(List.pairwise_cons.1 a2).1 q hq
    omega
 refine List.pairwise_append.2 ⟨a1,List.pairwise_cons.2 ⟨Rs,a2⟩,fun a ha b hb=>?_⟩
 rcases List.mem_cons.1 hb with rfl|hb
 ·exact Rr a ha
 ·exact a3 a ha b hb
theorem vNe (l:List Int)(id:Int):List.Perm (pR l id) (id::l):=by
 have:=List.perm_middle (a:=id) (l₁:=l.takeWhile (fun x=>decide (x<id))) (l₂:=l.dropWhile (fun x=>decide (x<id)))
 rwa [List.takeWhile_append_dropWhile] at this
theorem jT.sub {n:Nat}{m m':List zB}{ids:List Int}(h:jT n m ids)(hs:List.Sublist m' m):jT n m' ids:=
 ⟨List.Pairwise.sublist hs h.dist,by have:=hs.length_le;have:=h.len;omega,List.Pairwise.sublist hs h.sort,fun p hp=>h.may p (hs.subset hp),fun p hp=>h.time p (hs.subset hp),fun p hp=>h.were p (hs.subset hp),h.asc,h.pos,h.idl⟩
theorem jT.turn {n:Nat}{m:List zB}{ids:List Int}(h:jT n m ids){x:Nat}(hx:x<m.length){p:zB}{m':List zB}(hp:List.Perm m' (p::yC m x))(hs:mz m')(h1:p.1=(m.getD x pd).1)
  (h2:yL n p) (h3:0≤p.2.2.2.2.2.1∧p.2.2.2.2.2.1≤p.2.2.2.2.2.2∧p.2.2.2.2.2.2≤1048576):jT n m' ids:=by
 have hc:=pP m x
 have hl:=kP hx
 have hd:qS (p::yC m x):=by
  refine List.pairwise_cons.2 ⟨fun q hq=>?_,h.dist.cut x⟩
  rw[h1]
  have hd:=h.dist
  unfold qS at hd
  rw[Fs m x pd hx] at hd
  have Fz:=List.pairwise_append.1 hd
  have QR:=List.pairwise_cons.1 Fz.2.1
  unfold yC at hq
  rcases List.mem_append.1 hq with hq|hq
  ·exact fun e=>Fz.2.2 _ hq _ (List.mem_cons_self ..) e.symm
  ·exact QR.1 _ hq
 have hlen:=hp.length_eq
 rw[List.length_cons] at hlen
 refine⟨hd.perm hp,by have:=h.len;omega,hs,fun q hq=>?_,fun q hq=>?_,fun q hq=>?_,h.asc,h.pos,h.idl⟩
 all_goals rcases List.mem_cons.1 (hp.subset hq) with rfl|mr
 ·exact h2
 ·exact h.may q (hc.subset mr)
 ·exact h3
 ·exact h.time q (hc.subset mr)
 ·rw[h1];exact h.were _ (wS hx)
 ·exact h.were q (hc.subset mr)
theorem vNz {r:qR}{s:qL}(hr:jR r)(h:yV r s){who:Int}{f:jB}(h0:(jk r s who f).1=0):jT s.B.1.length (jk r s who f).2.1 (jk r s who f).2.2:=by
 have hw:=h.waits
 have hn:=h.n
 have ht:=h.tk
 unfold jk at h0⊢
 cases hc:decide (f.2.2.1≥0)&&decide (f.2.2.1≤r.1-1) with
 |false=>rw[hc] at h0;cases h0
 |true=>
 cases cz:decide (f.2.2.2.2.1≥1)&&decide (f.2.2.2.2.1≤3) with
 |false=>rw[hc,cz] at h0;cases h0
 |true=>
 cases cO:decide (lK r s.t (fy who f)=0) with
 |false=>rw[hc,cz,cO] at h0;exact absurd h0 (jh cO)
 |true=>
 cases dW:decide (f.2.1∈s.ids) with
 |true=>rw[hc,cz,cO,dW] at h0;cases h0
 |false=>
 cases gF:decide (200≤s.ids.length) with
 |true=>rw[hc,cz,cO,dW,gF] at h0;cases h0
 |false=>
 cases yr:(vN s.m f.2.1).isSome with
 |true=>rw[hc,cz,cO,dW,gF,yr] at h0;cases h0
 |false=>
 cases J8:decide (40≤s.m.length) with
 |true=>rw[hc,cz,cO,dW,gF,yr,J8] at h0;cases h0
 |false=>
 show jT s.B.1.length (mq s.m (fy who f)) (pR s.ids f.2.1)
 have HW:f.2.1∉s.ids:=jh dW
 have hi:=jh gF
 have hm:=jh J8
 have wj:=II cO
 have Rv:il r.1 s.t (fy who f)=true:=by
  unfold lK at wj
  cases hb:il r.1 s.t (fy who f) with
  |true=>rfl
  |false=>rw[hb] at wj;cases wj
 unfold il at Rv
 simp only[bN,bI,Bool.not_eq_true',decide_eq_false_iff_not] at Rv
 obtain⟨⟨p1,p2⟩,⟨p3,p4⟩,p5,p6,p7,p8,p9,pH,p11,p12,p13,p14⟩:=Rv
 have tc:=Ru s.m (fy who f)
 have J9:=vNe s.ids f.2.1
 have hlen:=tc.length_eq
 have F2:=J9.length_eq
 rw[List.length_cons] at hlen F2
 have bU:yL s.B.1.length (fy who f):=⟨p1,by omega,p3,by omega,p9,p6,p7,p8,pH⟩
 have dj:∀x,x∈s.ids→x∈pR s.ids f.2.1:=fun x hx=>J9.symm.subset (List.mem_cons_of_mem _ hx)
 have F3:qS (fy who f::s.m):=List.pairwise_cons.2 ⟨fun q hq e=>HW (by have:=hw.were q hq;rw[←e] at this;exact this),hw.dist⟩
 refine⟨F3.perm tc,by omega,Rt hw.sort _,fun q hq=>?_,fun q hq=>?_,fun q hq=>?_,vCn hw.asc HW,fun x hx=>?_,by omega⟩
 ·rcases List.mem_cons.1 (tc.subset hq) with rfl|mr
  ·exact bU
  ·exact hw.may q mr
 ·rcases List.mem_cons.1 (tc.subset hq) with rfl|mr
  ·exact⟨p11,p12,p14⟩
  ·exact hw.time q mr
 ·rcases List.mem_cons.1 (tc.subset hq) with rfl|mr
  ·exact J9.symm.subset (List.mem_cons_self ..)
  ·exact dj _ (hw.were q mr)
 ·rcases List.mem_cons.1 (J9.subset hx) with rfl|mL
  ·exact p5
  ·exact hw.pos x mL
theorem vDo {r:qR}{s:qL}(h:yV r s){who:Int}{f:jB}(h0:(kh r s who f).1=0):jT s.B.1.length (kh r s who f).2.1 s.ids:=by
 have hw:=h.waits
 unfold kh at h0⊢
 cases hx:vN s.m f.2.1 with
 |none=>rw[hx] at h0;cases h0
 |some x=>
 rw[hx] at h0
 have cw:=(iL hx).1
 have cM:s.m.getD x pd∈s.m:=wS cw
 have hm:=hw.may _ cM
 have ht:=hw.time _ cM
 simp only at h0⊢
 cases hc:decide ((s.m.getD x pd).2.1=who) with
 |false=>rw[hc] at h0;cases h0
 |true=>
 rw[hc] at h0
 simp only[aY,ao] at h0⊢
 cases cz:decide (f.1=2) with
 |true=>exact hw.sub (pP _ _)
 |false=>
 rw[cz] at h0
 simp only[ao] at h0⊢
 cases cO:decide (f.1=4) with
 |true=>
  rw[cO] at h0
  simp only[av] at h0⊢
  cases dW:decide (f.2.2.1≥1)&&decide (f.2.2.1≤3) with
  |false=>rw[dW] at h0;cases h0
  |true=>
  cases gF:decide (nB r.2.2.1 r.2.2.2.1 s.t f.2.2.1=0) with
  |false=>rw[dW,gF] at h0;exact absurd h0 (jh gF)
  |true=>
  simp only[bN,bI] at dW
  obtain⟨m1,m2,m3,m4,m5,m6,m7,m8,m9⟩:=hm
  exact hw.turn cw (Ru _ _) (Rt (hw.sort.cut x) _) rfl ⟨m1,m2,m3,m4,m5,m6,m7,dW.1,dW.2⟩ ht
 |false=>
  rw[cO] at h0
  simp only[ao] at h0⊢
  cases dW:decide (f.2.2.1=0) with
  |true=>exact hw.turn cw (vIy _ _) (vO9 (hw.sort.cut x) _) rfl hm ht
  |false=>
   cases gF:decide (f.2.2.1=1) with
   |true=>exact hw.turn cw (Ru _ _) (Rt (hw.sort.cut x) _) rfl hm ht
   |false=>rw[dW,gF] at h0;cases h0
theorem qY1 {n:Int}(h:-1≤n∧n≤1152921504606846976):wE n=true:=by
 unfold wE;simp;omega
theorem qe {a:qN}:jJ a=true↔(-4611686018427387904<a.1∧a.1<4611686018427387904)∧(0≤a.2.1∧a.2.1≤2305843009213693952)∧(0≤a.2.2∧a.2.2≤2305843009213693952):=by
 unfold jJ;simp only[bN,bI];omega
theorem wH.setBil {a:List qN}{b:jA}{m:List Int}{p:jA}(h:wH a b m p){w i:Nat}(hw:w<a.length)(hi:i<a.length){n:Int}(hn:-1≤n∧n≤1152921504606846976):wH a (b.set w ((b.getD w []).set i n)) m p:=
  { h with
    bl:=by rw[List.length_set];exact h.bl
    br:=fun j hj=>by
      rw[wL]
      split
      · rw[List.length_set];exact h.br w hw
      · exact h.br j hj
    bil:=fun j hj k hk=>by
      unfold cell
      rw[wL]
      split
      · rename_i e
        rw[wL]
        split
        · exact qY1 hn
        · exact h.bil w hw k hk
      · exact h.bil j hj k hk}
theorem wH.setMul {a:List qN}{b:jA}{m:List Int}{p:jA}(h:wH a b m p)(w:Nat){n:Int}(hn:-1≤n∧n≤1152921504606846976):wH a b (m.set w n) p:=
  { h with
    ml:=by rw[List.length_set];exact h.ml
    mul:=fun j hj=>by
      rw[wL]
      split
      · exact qY1 hn
      · exact h.mul j hj}
theorem wH.setAcct {a:List qN}{b:jA}{m:List Int}{p:jA}(h:wH a b m p){a':List qN}(hl:a'.length=a.length)(ha:∀i,i<a.length→jJ (a'.getD i ad)=true):wH a' b m p where
 n1:=by rw[hl];exact h.n1
 n6:=by rw[hl];exact h.n6
 bl:=by rw[hl];exact h.bl
 br:=by rw[hl];exact h.br
 ml:=by rw[hl];exact h.ml
 pl:=by rw[hl];exact h.pl
 pr:=by rw[hl];exact h.pr
 mul:=by rw[hl];exact h.mul
 bil:=by rw[hl];exact h.bil
 acct:=by rw[hl];exact ha
 net:=by rw[hl];exact h.net
 turn:=by rw[hl];exact h.turn
theorem vTa {n:Nat}{g:Nat→Int}{i:Nat}(hi:i<n)(d:Int):qM (fun j=>if j=i then g j+d else g j) n=qM g n+d:=by
 have e:qM (fun j=>if j=i then g j+d else g j) n=qM (fun j=>g j+(if j=i then d else 0)) n:=lE fun j _=>by
  by_cases h:j=i
  ·rw[if_pos h,if_pos h]
  ·rw[if_neg h,if_neg h];omega
 rw[e,yy,uY,if_pos hi]
theorem yV.books {r:qR}{s:qL}(h:yV r s){B:BT}(hb:qV B)(hl:B.1.length=s.B.1.length)(nr:∀i,i<s.B.1.length→(B.1.getD i ad).1=(s.B.1.getD i ad).1)(hc:∀i,i<s.B.1.length→(B.1.getD i ad).2.1=(s.B.1.getD i ad).2.1):yV r {s with B:=B} where
 tk:=h.tk
 bk:=hb
 n:=by show((B.1.length:Nat):Int)=r.1;rw[hl];exact h.n
 hol:=by show s.ho.length=B.1.length;rw[hl];exact h.hol
 laid:=by show∀i,i<B.1.length→_;rw[hl];exact h.laid
 cred:=by show∀i,i<B.1.length→_;rw[hl];intro i hi;show(B.1.getD i ad).2.1=_;rw[hc i hi];exact h.cred i hi
 most:=by show∀i,i<B.1.length→_;rw[hl];intro i hi;show(B.1.getD i ad).2.1≤_;rw[hc i hi];exact h.most i hi
 waits:=by show jT B.1.length s.m s.ids;rw[hl];exact h.waits
 sum:=by show qM (fun i=>(B.1.getD i ad).1) B.1.length=s.to;rw[hl,lE nr];exact h.sum
 tot:=h.tot
 over:=h.over
 none:=h.none
theorem yV.queue {r:qR}{s:qL}(h:yV r s)(ho:s.ov=false){m:List zB}{ids:List Int}(hw:jT s.B.1.length m ids):yV r {s with m:=m,ids:=ids} where
 tk:=h.tk
 bk:=h.bk
 n:=h.n
 hol:=h.hol
 laid:=h.laid
 cred:=h.cred
 most:=h.most
 waits:=hw
 sum:=h.sum
 tot:=h.tot
 over:=h.over
 none:=fun e=>by rw[show s.ov=true from e] at ho;cases ho
theorem Rw {a:List qN}{w i:Nat}{x:qN}(hw:w<a.length):(a.set w x).getD i ad=if i=w then x else a.getD i ad:=by
 rw[wL]
 by_cases e:i=w
 ·rw[if_pos e,if_pos ⟨e.symm,hw⟩]
 ·rw[if_neg e,if_neg (fun h=>e h.1.symm)]
theorem vL9 {r:qR}{s:qL}(h:yV r s){who:Int}(hw:0≤who∧who<r.1){f:jB}(h0:(ki r s who f).1=0):yV r (ki r s who f).2:=by
 have hn:=h.n
 have hb:wH s.B.1 s.B.2.1 s.B.2.2.1 s.B.2.2.2:=h.bk
 obtain⟨w,rfl⟩:=Int.eq_ofNat_of_zero_le hw.1
 have eI:w<s.B.1.length:=by omega
 unfold ki at h0⊢
 simp only[aB] at h0⊢
 cases hc:decide (f.1=5) with
 |true=>
  rw[hc] at h0
  simp only[av] at h0⊢
  cases cz:decide (f.2.1≥0)&&decide (f.2.1≤r.1-1) with
  |false=>rw[cz] at h0;cases h0
  |true=>
  cases cO:decide (f.2.1=(w:Int)) with
  |true=>rw[cz,cO] at h0;cases h0
  |false=>
  cases dW:decide (f.2.2.1≥-1)&&decide (f.2.2.1≤1152921504606846976) with
  |false=>rw[cz,cO,dW] at h0;cases h0
  |true=>
  simp only[bN,bI] at cz dW
  exact h.books (B:=(s.B.1,s.B.2.1.set w ((s.B.2.1.getD w []).set f.2.1.toNat f.2.2.1),s.B.2.2.1,s.B.2.2.2)) (hb.setBil eI (by omega) ⟨by omega,by omega⟩) rfl (fun _ _=>rfl) (fun _ _=>rfl)
 |false=>
  rw[hc] at h0
  simp only[ao] at h0⊢
  cases cz:decide (f.1=6) with
  |true=>
   rw[cz] at h0
   simp only[av] at h0⊢
   cases cO:decide (f.2.1≥-1)&&decide (f.2.1≤1152921504606846976) with
   |false=>rw[cO] at h0;cases h0
   |true=>
   simp only[bN,bI] at cO
   exact h.books (B:=(s.B.1,s.B.2.1,s.B.2.2.1.set w f.2.1,s.B.2.2.2)) (hb.setMul w ⟨by omega,by omega⟩) rfl (fun _ _=>rfl) (fun _ _=>rfl)
  |false=>
   rw[cz] at h0
   simp only[ao] at h0⊢
   cases cO:decide (f.2.1≥0)&&decide (f.2.1≤1152921504606846976) with
   |false=>rw[cO] at h0;cases h0
   |true=>
   simp only[bN,bI] at cO
   have hg:∀i,(s.B.1.set w ((s.B.1.getD w ad).1,(s.B.1.getD w ad).2.1,f.2.1)).getD i ad=if i=w then((s.B.1.getD w ad).1,(s.B.1.getD w ad).2.1,f.2.1) else s.B.1.getD i ad:=fun i=>Rw eI
   refine h.books (B:=(s.B.1.set w ((s.B.1.getD w ad).1,(s.B.1.getD w ad).2.1,f.2.1),s.B.2.1,s.B.2.2.1,s.B.2.2.2)) (hb.setAcct (by rw[List.length_set]) fun i hi=>?_) (by show(s.B.1.set _ _).length=_;rw[List.length_set]) (fun i hi=>?_) (fun i hi=>?_)
   ·rw[hg]
    split
    ·have:=qe.1 (hb.acct w eI)
     rw[qe]
     exact⟨this.1,this.2.1,by show 0≤f.2.1∧f.2.1≤2305843009213693952;omega⟩
    ·exact hb.acct i hi
   ·show((s.B.1.set w _).getD i ad).1=_
    rw[hg]
    split
    ·rename_i e;rw[e]
    ·rfl
   ·show((s.B.1.set w _).getD i ad).2.1=_
    rw[hg]
    split
    ·rename_i e;rw[e]
    ·rfl
theorem vNl {r:qR}(hr:jR r){s:qL}(h:yV r s){who:Int}(hw:0≤who∧who<r.1){a many:Int}(h0:(kj r s who a many).1=0):yV r (kj r s who a many).2:=by
  have hn:=h.n
  have hb:wH s.B.1 s.B.2.1 s.B.2.2.1 s.B.2.2.2:=h.bk
  obtain⟨w,rfl⟩:=Int.eq_ofNat_of_zero_le hw.1
  have eI:w<s.B.1.length:=by omega
  have hol:=h.hol
  unfold kj at h0⊢
  simp only[aB] at h0⊢
  cases hc:decide (a≥0)&&decide (a≤(r.2.1.length:Int)-1) with
  |false=>rw[hc] at h0;cases h0
  |true=>
  cases cz:decide (many≥0)&&decide (many≤1099511627776) with
  |false=>rw[hc,cz] at h0;cases h0
  |true=>
  rw[hc,cz] at h0
  simp only[aY,ao] at h0⊢
  simp only[bN,bI] at hc cz
  have L2:=(h.laid w eI).set (i:=a.toNat) (by omega) (v:=many) ⟨by omega,by omega⟩
  have uj:=Bf L2
  obtain⟨n,bn⟩:∃n,n=kb r.2.1 s.pr ((s.ho.getD w []).set a.toNat many):=⟨_,rfl⟩
  rw[←bn] at h0 uj⊢
  unfold FT at h0⊢
  cases cO:decide (n>1152921504606846976) with
  |true=>rw[cO] at h0;cases h0
  |false=>
  cases dW:decide (n<(s.B.1.getD w ad).2.1)&&decide ((s.B.1.getD w ad).1+n<0) with
  |true=>rw[cO,dW] at h0;cases h0
  |false=>
  have cO:=jh cO
  have hg:∀i,(s.B.1.set w ((s.B.1.getD w ad).1,n,(s.B.1.getD w ad).2.2)).getD i ad=if i=w then((s.B.1.getD w ad).1,n,(s.B.1.getD w ad).2.2) else s.B.1.getD i ad:=fun i=>Rw eI
  have hgh:∀i,(s.ho.set w ((s.ho.getD w []).set a.toNat many)).getD i []=if i=w then(s.ho.getD w []).set a.toNat many else s.ho.getD i []:=fun i=>by
    rw[wL]
    by_cases e:i=w
    · rw[if_pos e,if_pos ⟨e.symm,by omega⟩]
    · rw[if_neg e,if_neg (fun h=>e h.1.symm)]
  simp only[ao]
  have eF:(s.B.1.set w ((s.B.1.getD w ad).1,n,(s.B.1.getD w ad).2.2)).length=s.B.1.length:=List.length_set ..
  exact{
    tk:=h.tk
    bk:=hb.setAcct eF fun i hi=>by
      rw[hg]
      split
      · have:=qe.1 (hb.acct w eI)
        rw[qe]
        exact⟨this.1,by show 0≤n∧n≤2305843009213693952;omega,this.2.2⟩
      · exact hb.acct i hi
    n:=by show(((s.B.1.set w _).length:Nat):Int)=r.1;rw[eF];exact h.n
    hol:=by show(s.ho.set w _).length=(s.B.1.set w _).length;rw[eF,List.length_set];exact hol
    laid:=by
      show∀i,i<(s.B.1.set w _).length→ik r.2.1 s.pr ((s.ho.set w _).getD i [])
      rw[eF]
      intro i hi
      rw[hgh]
      split
      · exact L2
      · exact h.laid i hi
    cred:=by
      show∀i,i<(s.B.1.set w _).length→((s.B.1.set w _).getD i ad).2.1=kb r.2.1 s.pr ((s.ho.set w _).getD i [])
      rw[eF]
      intro i hi
      rw[hg,hgh]
      split
      · exact bn
      · exact h.cred i hi
    most:=by
      show∀i,i<(s.B.1.set w _).length→((s.B.1.set w _).getD i ad).2.1≤_
      rw[eF]
      intro i hi
      rw[hg]
      split
      · show n≤_;omega
      · exact h.most i hi
    waits:=by show jT (s.B.1.set w _).length s.m s.ids;rw[eF];exact h.waits
    sum:=by
      show qM (fun i=>((s.B.1.set w _).getD i ad).1) (s.B.1.set w _).length=s.to
      rw[eF,lE (h:=fun i=>(s.B.1.getD i ad).1) fun i _=>by
        rw[hg]
        split
        · rename_i e;rw[e]
        · rfl]
      exact h.sum
    tot:=h.tot
    over:=h.over
    none:=h.none}
theorem yRq {r:qR}{s:qL}(h:yV r s){i:Nat}(hi:i<s.B.1.length){n:Int}(hz:(wR (s.B.1.getD i ad) n).2=0)(ht:0≤s.to+n∧s.to+n≤1152921504606846976):
    yV r (J6 s i (wR (s.B.1.getD i ad) n).1 (s.to+n)):=by
  have hb:wH s.B.1 s.B.2.1 s.B.2.2.1 s.B.2.2.2:=h.bk
  unfold wR at hz⊢
  cases hc:jJ ((s.B.1.getD i ad).1+n,(s.B.1.getD i ad).2.1,(s.B.1.getD i ad).2.2) with
  |false=>rw[hc] at hz;cases hz
  |true=>
  simp only[av]
  have hg:∀j,(s.B.1.set i ((s.B.1.getD i ad).1+n,(s.B.1.getD i ad).2.1,(s.B.1.getD i ad).2.2)).getD j ad=if j=i then((s.B.1.getD i ad).1+n,(s.B.1.getD i ad).2.1,(s.B.1.getD i ad).2.2) else s.B.1.getD j ad:=fun j=>Rw hi
  have eF:(s.B.1.set i ((s.B.1.getD i ad).1+n,(s.B.1.getD i ad).2.1,(s.B.1.getD i ad).2.2)).length=s.B.1.length:=List.length_set ..
  unfold J6
  exact{
    tk:=h.tk
    bk:=hb.setAcct eF fun j hj=>by
      rw[hg]
      split
      · exact hc
      · exact hb.acct j hj
    n:=by show(((s.B.1.set i _).length:Nat):Int)=r.1;rw[eF];exact h.n
    hol:=by show s.ho.length=(s.B.1.set i _).length;rw[eF];exact h.hol
    laid:=by show∀j,j<(s.B.1.set i _).length→_;rw[eF];exact h.laid
    cred:=by
      show∀j,j<(s.B.1.set i _).length→((s.B.1.set i _).getD j ad).2.1=_
      rw[eF]
      intro j hj
      rw[hg]
      split
      · rename_i e;rw[e];exact h.cred i hi
      · exact h.cred j hj
    most:=by
      show∀j,j<(s.B.1.set i _).length→((s.B.1.set i _).getD j ad).2.1≤_
      rw[eF]
      intro j hj
      rw[hg]
      split
      · exact h.most i hi
      · exact h.most j hj
    waits:=by show jT (s.B.1.set i _).length s.m s.ids;rw[eF];exact h.waits
    sum:=by
      show qM (fun j=>((s.B.1.set i _).getD j ad).1) (s.B.1.set i _).length=s.to+n
      rw[eF,lE (h:=fun j=>if j=i then(s.B.1.getD j ad).1+n else(s.B.1.getD j ad).1) fun j _=>by
        rw[hg]
        by_cases e:j=i
        · rw[if_pos e,if_pos e,e]
        · rw[if_neg e,if_neg e],vTa hi,h.sum]
    tot:=ht
    over:=h.over
    none:=h.none}
theorem yNw {r:qR}{s:qL}(h:yV r s){kd to n:Int}(h0:(iP r s kd to n).1=0):yV r (iP r s kd to n).2∧(iP r s kd to n).2.to=s.to+(if kd=11 then-n else n)∧(iP r s kd to n).2.m=s.m∧(iP r s kd to n).2.ids=s.ids∧(iP r s kd to n).2.t=s.t:=by
 have hn:=h.n
 have ht:=h.tot
 unfold iP at h0⊢
 cases hc:decide (to≥0)&&decide (to≤r.1-1) with
 |false=>rw[hc] at h0;cases h0
 |true=>
 cases cz:decide (n≥1)&&decide (n≤1099511627776) with
 |false=>rw[hc,cz] at h0;cases h0
 |true=>
 rw[hc,cz] at h0
 simp only[aY,ao] at h0⊢
 simp only[bN,bI] at hc cz
 have hi:to.toNat<s.B.1.length:=by omega
 by_cases hk:kd=11
 ·rw[ai hk] at h0⊢
  simp only[av] at h0⊢
  rw[if_pos hk]
  unfold FW at h0⊢
  cases cO:decide ((s.B.1.getD to.toNat ad).1+(s.B.1.getD to.toNat ad).2.1-(s.B.1.getD to.toNat ad).2.2<n) with
  |true=>rw[cO] at h0;cases h0
  |false=>
  cases dW:decide (s.to-n<0) with
  |true=>rw[cO,dW] at h0;cases h0
  |false=>
  cases hz:decide ((wR (s.B.1.getD to.toNat ad) (-n)).2=0) with
  |false=>rw[cO,dW,hz] at h0;exact absurd h0 (jh hz)
  |true=>
  cases gF:decide (s.to-n>1152921504606846976) with
  |true=>rw[cO,dW,hz,gF] at h0;cases h0
  |false=>
  have dW:=jh dW
  have:=yRq h hi (n:= -n) (II hz) (by omega)
  exact⟨this,rfl,rfl,rfl,rfl⟩
 ·rw[aj hk] at h0⊢
  simp only[ao] at h0⊢
  rw[if_neg hk]
  unfold FX at h0⊢
  cases hz:decide ((wR (s.B.1.getD to.toNat ad) n).2=0) with
  |false=>rw[hz] at h0;exact absurd h0 (jh hz)
  |true=>
  cases gF:decide (s.to+n>1152921504606846976) with
  |true=>rw[hz,gF] at h0;cases h0
  |false=>
  have gF:=jh gF
  exact⟨yRq h hi (II hz) (by omega),rfl,rfl,rfl,rfl⟩
theorem yD4 {r:qR}{s:qL}(h:yV r s){a p:Int}(h0:(kl r s a p).1=0):yV r (kl r s a p).2:=by
  have hb:wH s.B.1 s.B.2.1 s.B.2.2.1 s.B.2.2.2:=h.bk
  unfold kl at h0⊢
  cases hc:decide (a≥0)&&decide (a≤(r.2.1.length:Int)-1) with
  |false=>rw[hc] at h0;cases h0
  |true=>
  cases cz:decide (p≥0)&&decide (p≤1048576) with
  |false=>rw[hc,cz] at h0;cases h0
  |true=>
  rw[hc,cz] at h0
  simp only[aY,ao] at h0⊢
  simp only[bN,bI] at hc cz
  have hL:∀i,i<s.B.1.length→ik r.2.1 (s.pr.set a.toNat p) (s.ho.getD i []):=fun i hi=>(h.laid i hi).setP (by omega) ⟨by omega,by omega⟩
  generalize s.pr.set a.toNat p=pr at*
  unfold F0 at h0⊢
  cases cO:qK (fun j=> !decide (jN r.2.1 pr s.ho j>1152921504606846976)) s.B.1.length 0 with
  |false=>rw[cO] at h0;cases h0
  |true=>
  simp only[av]
  have hle:∀i,i<s.B.1.length→jN r.2.1 pr s.ho i≤1152921504606846976:=fun i hi=>by
    have:=gG.1 cO i hi
    simp only[Bool.not_eq_true',decide_eq_false_iff_not] at this
    omega
  have eF:=Rn r.2.1 pr s.ho s.B.1
  have hg:=fun(j:Nat) (hj:j<s.B.1.length)=>Ro r.2.1 pr s.ho s.B.1 hj
  exact{
    tk:=h.tk
    bk:=hb.setAcct eF fun i hi=>by
      rw[hg i hi]
      have:=qe.1 (hb.acct i hi)
      have h1:=Bf (hL i hi)
      have h2:=hle i hi
      rw[qe]
      exact⟨this.1,⟨h1,by show jN r.2.1 pr s.ho i≤_;omega⟩,this.2.2⟩
    n:=by show(((gJ r.2.1 pr s.ho s.B.1).length:Nat):Int)=r.1;rw[eF];exact h.n
    hol:=by show s.ho.length=(gJ r.2.1 pr s.ho s.B.1).length;rw[eF];exact h.hol
    laid:=by show∀i,i<(gJ r.2.1 pr s.ho s.B.1).length→_;rw[eF];exact hL
    cred:=by
      show∀i,i<(gJ r.2.1 pr s.ho s.B.1).length→((gJ r.2.1 pr s.ho s.B.1).getD i ad).2.1=kb r.2.1 pr (s.ho.getD i [])
      rw[eF]
      intro i hi
      rw[hg i hi];rfl
    most:=by
      show∀i,i<(gJ r.2.1 pr s.ho s.B.1).length→((gJ r.2.1 pr s.ho s.B.1).getD i ad).2.1≤_
      rw[eF]
      intro i hi
      rw[hg i hi];exact hle i hi
    waits:=by show jT (gJ r.2.1 pr s.ho s.B.1).length s.m s.ids;rw[eF];exact h.waits
    sum:=by
      show qM (fun i=>((gJ r.2.1 pr s.ho s.B.1).getD i ad).1) (gJ r.2.1 pr s.ho s.B.1).length=s.to
      rw[eF,lE (h:=fun i=>(s.B.1.getD i ad).1) fun i hi=>by rw[hg i hi]]
      exact h.sum
    tot:=h.tot
    over:=h.over
    none:=h.none}
theorem nC {α:Type}{d:α}(l:List α){i:Nat}(h:i<l.length):l.getD i d=l[i]:=by
 rw[List.getD_eq_getElem?_getD,List.getElem?_eq_getElem h];rfl
theorem F4 {X:Type}{L:Nat→Int→Option X}{N:Nat}{e:X}(bK:∀n,L (n+1) (N:Int)=some e)(aH:∀n i,i<N→L (n+1) (i:Int)=L n ((i+1:Nat):Int)){n:Nat}(hn:N<n):L n 0=some e:=by
 obtain⟨_,h,_⟩:=vF (L:=fun n i (_:Unit)=>L n i) (N:=N) (fun _=>e) (fun _ _=>True) (fun n _ _=>bK n) (fun n i _ hi _=>⟨(),aH n i hi,trivial⟩) (n:=n) (s:=()) hn trivial
 exact h
theorem qVq {m:List zB}(hd:qS m){i:Nat}(hi:i<m.length):iK m (m.getD i pd).1=(i:Int):=by
 obtain⟨x,hx⟩:=Js (wS (d:=pd) hi)
 have h:=iL hx
 unfold iK
 rw[hx]
 have:x=i:=by
  rcases Nat.lt_trichotomy x i with g|g|g
  ·exfalso
   have:=List.pairwise_iff_getElem.1 hd x i h.1 hi g
   rw[←nC (d:=pd) m h.1,←nC (d:=pd) m hi] at this
   exact this h.2
  ·exact g
  ·exfalso
   have:=List.pairwise_iff_getElem.1 hd i x hi h.1 g
   rw[←nC (d:=pd) m h.1,←nC (d:=pd) m hi] at this
   exact this h.2.symm
 show(x:Int)=i
 rw[this]
theorem vLb {k:Nat}(hk:1000≤k){n:Nat}{m:List zB}{ids:List Int}(h:jT n m ids):F5 k m=some true:=by
 have hm:=h.len
 have e1 : wk k k m m (m.length : Int) 0 = some (.inl m) := F4 (L := fun n i => wk k n m m (m.length : Int) i) (fun n=>by
  show B1 k _ m m (m.length:Int) (m.length:Int)=_
  unfold B1
  rw[aj (Int.lt_irrefl _)]
  rfl) (fun n i hi=>by
  show B1 k (wk k n) m m (m.length:Int) (i:Int)=_
  unfold B1
  have e:m.getD i (0,0,0,0,0,0,0)=m.getD i pd:=rfl
  rw[ai (show(i:Int)<m.length by omega),qG,ai hi,aB,e,AQ (by omega) (by omega),qVq h.dist hi,qO hi (by omega)]
  simp only[av,ak,decide_true,aY,ao]) (by omega)
 have e2:Ka k m=some true:=by
  have down:∀(i n:Nat),i<n→i<m.length∨i=0→F6 k n m (i:Int)=some (.inl ()):=by
   intro i
   induction i with
   |zero=>
    intro n hn _
    obtain⟨n,rfl⟩:∃x,n=x+1:=⟨n-1,by omega⟩
    rfl
   |succ i ih=>
    intro n hn hi
    obtain⟨n,rfl⟩:∃x,n=x+1:=⟨n-1,by omega⟩
    have bM:i+1<m.length:=by omega
    show Kb k (F6 k n) m ((i+1:Nat):Int)=_
    unfold Kb
    have w:zA (((i+1:Nat):Int)-1)=(i:Int):=by rw[zV (by omega) (by omega)];omega
    rw[ai (show((i+1:Nat):Int)>0 by omega),w,qG,qG,ai bM,ai (show i<m.length by omega),aB,aB]
    simp only[av]
    obtain⟨x,x1,x2,x3⟩:=QN (k:=k) (by omega) (m.getD (i+1) pd) (m.getD i pd)
    have hs:=List.pairwise_iff_getElem.1 h.sort i (i+1) (by omega) bM (by omega)
    rw[←nC (d:=pd) m (by omega),←nC (d:=pd) m bM] at hs
    have nx:¬x<0:=fun q=>by
     have:gH (m.getD (i+1) pd) (m.getD i pd)=true:=by rw[←x3];exact ai q
     rw[Rq] at this
     rw[F1] at hs
     omega
    refine(congrArg (fun z=>Option.bind z _) x1).trans ?_
    simp only[ak]
    rw[aj nx]
    exact ih n (by omega) (.inl (by omega))
  unfold Ka
  by_cases hz:m.length=0
  ·have:m=[]:=List.eq_nil_of_length_eq_zero hz
   subst this
   have w:zA (((([]:List zB).length:Nat):Int)-1)= -1:=by rw[zV (by decide) (by decide)];rfl
   rw[w]
   obtain⟨j,rfl⟩:∃x,k=x+1:=⟨k-1,by omega⟩
   rfl
  ·have w:zA ((m.length:Int)-1)=((m.length-1:Nat):Int):=by rw[zV (by omega) (by omega)];omega
   rw[w,down (m.length-1) k (by omega) (.inl (by omega))]
   rfl
 unfold F5
 rw[e1]
 simp only[ak]
 rw[ai (show(m.length:Int)≤40 by omega),e2]
 rfl
theorem vEk {k:Nat}(hk:1000≤k){n:Nat}{m:List zB}{ids:List Int}(h:jT n m ids):F7 k ids=some true:=by
 have hl:=h.idl
 obtain ⟨s, e1, _⟩ := vF (L := fun n i (p : Int) => F8 k n ids p ids (ids.length : Int) i) (N := ids.length) (fun _ => (.inl ids : List Int ⊕ Bool)) (fun i p => p = if i = 0 then 0 else ids.getD (i - 1) 0) (fun n p _=>by
  show B2 k _ ids p ids (ids.length:Int) (ids.length:Int)=_
  unfold B2
  rw[aj (Int.lt_irrefl _)]
  rfl) (fun n i p hi hp=>by
  refine⟨ids.getD i 0,?_,by rw[if_neg (by omega)];rfl⟩
  show B2 k (F8 k n) ids p ids (ids.length:Int) (i:Int)=_
  unfold B2
  have aU:¬ids.getD i 0≤p:=by
   rw[hp]
   by_cases z:i=0
   ·rw[if_pos z]
    have:=h.pos _ (wS (d:=0) hi)
    omega
   ·rw[if_neg z]
    have:=List.pairwise_iff_getElem.1 h.asc (i-1) i (by omega) hi (by omega)
    rw[←nC (d:=0) ids (by omega),←nC (d:=0) ids hi] at this
    omega
  rw[ai (show(i:Int)<ids.length by omega),qG,ai hi,aB,aj aU,qO hi (by omega)]
  rfl) (n:=k) (s:=0) (by omega) rfl
 unfold F7
 rw[e1]
 simp only[ak]
 rw[ai (show(ids.length:Int)≤200 by omega)]
theorem vLn {k:Nat}(hk:1000≤k){r:qR}{s:qL}(h:yV r s):F9 k s.st=some true:=by
 have hw:=h.waits
 have hm:=hw.len
 have e1:F9 k s.st=(F5 k s.m).bind fun x0=>bif x0 then((F7 k s.ids).bind fun x1=>bif x1 then((Kc k s.m s.t s.B.1 s.B.2.1 s.B.2.2.1 s.B.2.2.2 s.pr s.ho s.m s.ids s.to s.ov).bind fun x2=>some (!x2)) else some false) else some false:=rfl
 rw[e1,vLb hk hw,vEk hk hw]
 simp only[ak,av]
 have e2 : wm k k s.m (s.m.length : Int) 0 s.t s.B.1 s.B.2.1 s.B.2.2.1 s.B.2.2.2 s.pr s.ho s.m s.ids s.to s.ov = some (.inl ()) := F4 (L := fun n i => wm k n s.m (s.m.length : Int) i s.t s.B.1 s.B.2.1 s.B.2.2.1 s.B.2.2.2 s.pr s.ho s.m s.ids s.to s.ov) (fun n=>by
  show B3 k _ s.m (s.m.length:Int) (s.m.length:Int) s.t s.B.1 s.B.2.1 s.B.2.2.1 s.B.2.2.2 s.pr s.ho s.m s.ids s.to s.ov=_
  unfold B3
  rw[aj (Int.lt_irrefl _)]
  rfl) (fun n i hi=>by
  show B3 k (wm k n) s.m (s.m.length:Int) (i:Int) s.t s.B.1 s.B.2.1 s.B.2.2.1 s.B.2.2.2 s.pr s.ho s.m s.ids s.to s.ov=_
  unfold B3
  have cM:s.m.getD i pd∈s.m:=wS hi
  have ht:=hw.time _ cM
  have ah:=hw.were _ cM
  have f1:Kd k (s.m.getD i pd) (s.t,s.B.1,s.B.2.1,s.B.2.2.1,s.B.2.2.2,s.pr,s.ho,s.m,s.ids,s.to,s.ov)=some false:=by
   unfold Kd
   rw[IZ]
   have bU:lG s.B.1.length (s.m.getD i pd)=true:=Qi.2 (hw.may _ cM)
   have Ga:lG s.B.1.length ((s.m.getD i pd).1,(s.m.getD i pd).2.1,(s.m.getD i pd).2.2.1,(s.m.getD i pd).2.2.2.1,(s.m.getD i pd).2.2.2.2.1,(s.m.getD i pd).2.2.2.2.2.1,(s.m.getD i pd).2.2.2.2.2.2)=true:=bU
   rw[Ga]
   simp only[ak,aY,ao]
   rw[aj (show¬(s.m.getD i pd).2.2.2.2.2.1<0 by omega),kT,ai (show(s.m.getD i pd).2.2.2.2.2.2≥(s.m.getD i pd).2.2.2.2.2.1 by omega),ai (show(s.m.getD i pd).2.2.2.2.2.2≤1048576 by omega)]
   have hI:=hw.idl
   rw[vJg (by omega) (by omega) hw.asc,ai ah]
   rfl
  have e:s.m.getD i (0,0,0,0,0,0,0)=s.m.getD i pd:=rfl
  rw[ai (show(i:Int)<s.m.length by omega),qG,ai hi,aB,e,f1,qO hi (by omega)]
  rfl) (by omega)
 unfold Kc Rx
 rw[e2]
 rfl
theorem yZx {k:Nat}(hk:1000≤k){r:qR}(hr:jR r){s:qL}(h:yV r s):Gc k s.pr=some false:=by
 have kI:=h.bk.n1
 have L:=h.laid 0 (by omega)
 have h3:=L.n3
 have hp:=L.pl
 have e2 : wo k k s.pr (s.pr.length : Int) 0 = some (.inl ()) := F4 (L := fun n i => wo k n s.pr (s.pr.length : Int) i) (fun n=>by
  show B4 k _ s.pr (s.pr.length:Int) (s.pr.length:Int)=_
  unfold B4
  rw[aj (Int.lt_irrefl _)]
  rfl) (fun n i hi=>by
  show B4 k (wo k n) s.pr (s.pr.length:Int) (i:Int)=_
  unfold B4 Ry
  have hv:=L.price i (by omega)
  rw[ai (show(i:Int)<s.pr.length by omega),qG,ai hi,aB,kT,ai (show s.pr.getD i 0≥0 by omega),ai (show s.pr.getD i 0≤1048576 by omega),qO hi (by omega)]
  rfl) (by omega)
 unfold Gc Rz
 rw[e2]
 rfl
theorem vFd {k:Nat}(hk:1000≤k){sa:List fL}{pr h:List Int}(L:ik sa pr h):Ke k h=some false:=by
 have h3:=L.n3
 have hp:=L.hl
 have e2 : wq k k h (h.length : Int) 0 = some (.inl ()) := F4 (L := fun n i => wq k n h (h.length : Int) i) (fun n=>by
  show B5 k _ h (h.length:Int) (h.length:Int)=_
  unfold B5
  rw[aj (Int.lt_irrefl _)]
  rfl) (fun n i hi=>by
  show B5 k (wq k n) h (h.length:Int) (i:Int)=_
  unfold B5 RA
  have hv:=L.hold i (by omega)
  rw[ai (show(i:Int)<h.length by omega),qG,ai hi,aB,aj (show¬h.getD i 0>1099511627776 by omega),qO hi (by omega)]
  rfl) (by omega)
 unfold Ke RB
 rw[e2]
 rfl
theorem vCr {k:Nat}(hk:1000≤k){r:qR}(hr:jR r){s:qL}(h:yV r s):Gd k r s.st=some true:=by
 have kI:=h.bk.n1
 have eY:=h.bk.n6
 have hn:=h.n
 have hol:=h.hol
 have L:=h.laid 0 (by omega)
 have e0:Gd k r s.st=bif !(decide ((s.pr.length:Int)=(r.2.1.length:Int))) then some false
  else bif !(decide ((s.ho.length:Int)=r.1)) then some false
  else(Gc k s.pr).bind fun x0=>
  bif x0 then some false
  else(td k k s.ho (s.ho.length:Int) 0 r s.st).bind fun z=>
  match z with
  |.inl z1=>some true
  |.inr z2=>some z2:=rfl
 have e2 : td k k s.ho (s.ho.length : Int) 0 r s.st = some (.inl ()) := F4 (L := fun n i => td k n s.ho (s.ho.length : Int) i r s.st) (fun n=>by
  show B6 k (td k n) s.ho (s.ho.length:Int) (s.ho.length:Int) r s.st=_
  unfold B6
  rw[aj (Int.lt_irrefl _)]
  rfl) (fun n i hi=>by
  show B6 k (td k n) s.ho (s.ho.length:Int) (i:Int) r s.st=_
  unfold B6
  have bM:i<s.B.1.length:=by omega
  have Li:=h.laid i bM
  have hc:(s.B.1.getD i ad).2.1=_:=h.cred i bM
  have hm:(s.B.1.getD i ad).2.1≤_:=h.most i bM
  have ep:s.st.2.2.2.2.2.1=s.pr:=rfl
  have ea:s.st.2.1=s.B.1:=rfl
  have ed:s.B.1.getD i (0,0,0)=s.B.1.getD i ad:=rfl
  rw[ai (show(i:Int)<s.ho.length by omega),qG,ai hi,aB,ep,QX Li (by omega),ea,qG,ai bM,ed,vFd hk Li,qO hi (by omega)]
  simp only[av,ak,aY,ao]
  rw[aj (show¬kb r.2.1 s.pr (s.ho.getD i [])>1152921504606846976 by omega),ai hc.symm]
  rfl) (by omega)
 rw[e0,ai (show(s.pr.length:Int)=(r.2.1.length:Int) by rw[L.pl]),ai (show(s.ho.length:Int)=r.1 by omega),yZx hk hr h,e2]
 rfl
theorem vBt (s:qL):gI ((List.range s.B.1.length).map fun j=>(s.B.1.getD j ad).1)=qM (fun j=>(s.B.1.getD j ad).1) s.B.1.length:=QW _ _
theorem vRl {k:Nat}(hk:1000≤k){r:qR}(hr:jR r){s:qL}(h:yV r s):Kf k r s.st=some true:=by
  have eY:=h.bk.n6
  have ht:=h.tk
  have RD:=h.tot
  have RE:uZ k s.B.1 s.B.2.1 s.B.2.2.1 s.B.2.2.2=some true:=by rw[qV0 (by omega),IX.2 h.bk]
  obtain ⟨x, h1, h2⟩ := vF (L := fun n j (x : List Int) => B7 k n s.B.1 (s.B.1.length : Int) j r s.st x) (N := s.B.1.length) (fun x => (r, s.st, x)) (fun j x => x = (List.range j).map fun j => (s.B.1.getD j ad).1) (fun n x _=>by
    show B8 k _ s.B.1 (s.B.1.length:Int) (s.B.1.length:Int) r s.st x=_
    unfold B8
    rw[aj (Int.lt_irrefl _)]
    rfl) (fun n j x hj hx=>by
    refine⟨x++[(s.B.1.getD j ad).1],?_,?_⟩
    · show B8 k (B7 k n) s.B.1 (s.B.1.length:Int) (j:Int) r s.st x=_
      unfold B8
      have hl:x.length=j:=by rw[hx];simp
      rw[ai (show(j:Int)<s.B.1.length by omega),qG,ai hj,yE (by omega) (by omega),aB,qO hj (by omega)]
      rfl
    · rw[hx,List.range_succ,List.map_append]
      rfl) (n:=k) (s:=[]) (by omega) rfl
  have hb:∀i,i<x.length→-9223372036854775808≤x.getD i 0∧x.getD i 0<9223372036854775808:=by
    intro i hi
    have hm:x.getD i 0∈x:=wS hi
    rw[h2] at hm
    obtain⟨j,hj,e⟩:=List.mem_map.1 hm
    have:=qe.1 (h.bk.acct j (List.mem_range.1 hj))
    have this:-4611686018427387904<(s.B.1.getD j ad).1∧(s.B.1.getD j ad).1<4611686018427387904:=this.1
    rw[h2,←e]
    omega
  have hlen:x.length=s.B.1.length:=by rw[h2];simp
  have Ge:gI x=s.to:=by rw[h2,vBt];exact h.sum
  have dj:sM (gI x)=true:=by rw[Ge];unfold sM;simp;omega
  have eU:Kf k r s.st=(vA k s.t 0 r.2.2.2.1).bind fun x0=>
     bif !x0 then some false
     else(uZ k s.B.1 s.B.2.1 s.B.2.2.1 s.B.2.2.2).bind fun x1=>
     bif !x1 then some false
     else bif !(decide ((s.B.1.length:Int)=r.1)) then some false
     else(Gd k r s.st).bind fun x2=>
     bif !x2 then some false
     else(F9 k s.st).bind fun x3=>
     bif !x3 then some false
     else(B7 k k s.B.1 (s.B.1.length:Int) 0 r s.st []).bind fun z=>
     (Ba k z.2.2).bind fun x4=>
     bif !x4.2 then some false
     else bif !(decide (x4.1=z.2.1.2.2.2.2.2.2.2.2.2.1)) then some false
     else(vA k x4.1 0 1152921504606846976).bind fun x5=>
     bif !x5 then some false
     else(wb k z.1.1 z.1.2.1 z.1.2.2.1 z.1.2.2.2.1 z.1.2.2.2.2 z.2.1.1).bind fun x6=>
     bif la z.2.1.2.2.2.2.2.2.2.2.2.2 x6 then (bif !z.2.1.2.2.2.2.2.2.2.2.2.2 then some true
      else some (decide ((z.2.1.2.2.2.2.2.2.2.1.length:Int)=0)))
     else some false:=rfl
  have ec:∀b:Bool,la b b=true:=fun b=>by cases b<;>rfl
  have eo:s.st.2.2.2.2.2.2.2.2.2.2=s.ov:=rfl
  have em:s.st.2.2.2.2.2.2.2.1=s.m:=rfl
  have et:s.st.2.2.2.2.2.2.2.2.2.1=s.to:=rfl
  have e1:s.st.1=s.t:=rfl
  have ecl:wb k r.1 r.2.1 r.2.2.1 r.2.2.2.1 r.2.2.2.2 s.t=some (decide (s.t=r.2.2.2.1)):=rfl
  rw[eU,kT,ai (show s.t≥0 by omega),ai (show s.t≤r.2.2.2.1 by omega),RE,ai h.n,vCr hk hr h,vLn hk h,h1]
  simp only[ak,Bool.and_self,aY,ao]
  rw[qZ4 (by omega) (by omega) hb,dj,Ge]
  simp only[ak,av,aY,ao]
  rw[et,ai (show s.to=s.to from rfl),kT,ai (show s.to≥0 by omega),ai (show s.to≤1152921504606846976 by omega)]
  simp only[ak,Bool.and_self,aY,ao]
  rw[e1,ecl,eo,em,←h.over]
  simp only[ak]
  rw[ec]
  cases ho:s.ov with
  |false=>rfl
  |true=>rw[h.none ho];rfl
theorem Kg (x:Int)(s:Nat)(h:s≤62):shr .i64 x (s:Int)=x/2^s:=by
 have e:shr .i64 x (s:Int)=x.fdiv (2^(min (s:Int).toNat 64)):=rfl
 rw[e,aB,Nat.min_eq_left (by omega),Int.fdiv_eq_ediv_of_nonneg _ (Int.le_of_lt (Int.pow_pos (by decide)))]
theorem oJ (x:Int):shr .i64 x 16=x/65536:=Kg x 16 (by decide)
theorem qVv (x:Int):shr .i64 x 32=x/4294967296:=Kg x 32 (by decide)
theorem yEg (x:Int):shr .i64 x 48=x/281474976710656:=Kg x 48 (by decide)
theorem vP3 (x:Int):shr .i64 x 0=x:=(Kg x 0 (by decide)).trans (Int.ediv_one x)
theorem qf (x:Int):yK .i64 x 65535=x%65536:=yXo 16 (by decide) x
theorem RF (m:Nat)(hm:m≤62){x y:Int}(hx:0≤x)(hy:0≤y∧y<2^m)(hs:x*2^m+y<9223372036854775808):fK .i64 (x*2^m) y=x*2^m+y:=by
 obtain⟨a,rfl⟩:=Int.eq_ofNat_of_zero_le hx
 obtain⟨b,rfl⟩:=Int.eq_ofNat_of_zero_le hy.1
 have hp:(2:Int)^m=((2^m:Nat):Int):=(Int.natCast_pow 2 m).symm
 rw[hp] at hs hy⊢
 have e1:(a:Int)*((2^m:Nat):Int)=((a*2^m:Nat):Int):=(Int.natCast_mul a (2^m)).symm
 rw[e1] at hs⊢
 have hb:b<2^m:=by omega
 unfold fK oU
 have Gf:IntKind.i64.bits=64:=rfl
 have e2:(BitVec.ofInt IntKind.i64.bits ((a*2^m:Nat):Int)|||BitVec.ofInt IntKind.i64.bits (b:Int)).toNat=a*2^m+b:=by
  rw[BitVec.toNat_or,BitVec.ofInt_natCast,BitVec.ofInt_natCast,BitVec.toNat_ofNat,BitVec.toNat_ofNat,Gf,Nat.mod_eq_of_lt (by have:(2:Nat)^64=18446744073709551616:=rfl;omega),Nat.mod_eq_of_lt (by have:(2:Nat)^64=18446744073709551616:=rfl;omega)]
  have:=Nat.shiftLeft_add_eq_or_of_lt hb a
  rw[Nat.shiftLeft_eq] at this
  exact this.symm
 rw[e2]
 exact zV (by omega) (by omega)
def V9 (l0 l1 l2 l3 l4 l5 l6 l7 l8:Int):Int:=l0+65536*(l1+65536*(l2+65536*(l3+65536*(l4+65536*(l5+65536*(l6+65536*(l7+65536*l8)))))))
theorem vM3 (l0 l1 l2 l3 l4 l5 l6 l7 l8:Int){c1 c2 c3 c4 c5 c6 c7 c8:Int}(h1:c1=zA (l1+shr .i64 l0 16))(h2:c2=zA (l2+shr .i64 c1 16))(h3:c3=zA (l3+shr .i64 c2 16))(h4:c4=zA (l4+shr .i64 c3 16))(h5:c5=zA (l5+shr .i64 c4 16))(h6:c6=zA (l6+shr .i64 c5 16))(h7:c7=zA (l7+shr .i64 c6 16))(h8:c8=zA (l8+shr .i64 c7 16)):
  wu 1000 [l0,l1,l2,l3,l4,l5,l6,l7,l8]=some [yK .i64 l0 65535,yK .i64 c1 65535,yK .i64 c2 65535,yK .i64 c3 65535,yK .i64 c4 65535,yK .i64 c5 65535,yK .i64 c6 65535,yK .i64 c7 65535,c8]:=by
 subst h8;subst h7;subst h6;subst h5;subst h4;subst h3;subst h2;subst h1
 kernel_rfl
theorem yJe {l0 l1 l2 l3 l4 l5 l6 l7 l8:Int}(g0:0≤l0∧l0≤1099511627776)(g1:0≤l1∧l1≤1099511627776)(g2:0≤l2∧l2≤1099511627776)(g3:0≤l3∧l3≤1099511627776)(g4:0≤l4∧l4≤1099511627776)(g5:0≤l5∧l5≤1099511627776)(g6:0≤l6∧l6≤1099511627776)(g7:0≤l7∧l7≤1099511627776)(g8:0≤l8∧l8≤1099511627776):∃d0 d1 d2 d3 d4 d5 d6 d7 d8,
  wu 1000 [l0,l1,l2,l3,l4,l5,l6,l7,l8]=some [d0,d1,d2,d3,d4,d5,d6,d7,d8]∧V9 d0 d1 d2 d3 d4 d5 d6 d7 d8=V9 l0 l1 l2 l3 l4 l5 l6 l7 l8∧(0≤d0∧d0<65536)∧(0≤d1∧d1<65536)∧(0≤d2∧d2<65536)∧(0≤d3∧d3<65536)∧(0≤d4∧d4<65536)∧(0≤d5∧d5<65536)∧(0≤d6∧d6<65536)∧(0≤d7∧d7<65536)∧0≤d8:=by
 obtain⟨c1,nb⟩:∃c,c=l1+l0/65536:=⟨_,rfl⟩
 have b1:0≤c1∧c1≤2199023255552:=by omega
 have h1:c1=zA (l1+shr .i64 l0 16):=by rw[oJ,←nb,zV (by omega) (by omega)]
 obtain⟨c2,cz⟩:∃c,c=l2+c1/65536:=⟨_,rfl⟩
 have b2:0≤c2∧c2≤2199023255552:=by omega
 have h2:c2=zA (l2+shr .i64 c1 16):=by rw[oJ,←cz,zV (by omega) (by omega)]
 obtain⟨c3,cO⟩:∃c,c=l3+c2/65536:=⟨_,rfl⟩
 have b3:0≤c3∧c3≤2199023255552:=by omega
 have h3:c3=zA (l3+shr .i64 c2 16):=by rw[oJ,←cO,zV (by omega) (by omega)]
 obtain⟨c4,dW⟩:∃c,c=l4+c3/65536:=⟨_,rfl⟩
 have b4:0≤c4∧c4≤2199023255552:=by omega
 have h4:c4=zA (l4+shr .i64 c3 16):=by rw[oJ,←dW,zV (by omega) (by omega)]
 obtain⟨c5,gF⟩:∃c,c=l5+c4/65536:=⟨_,rfl⟩
 have b5:0≤c5∧c5≤2199023255552:=by omega
 have h5:c5=zA (l5+shr .i64 c4 16):=by rw[oJ,←gF,zV (by omega) (by omega)]
 obtain⟨c6,yr⟩:∃c,c=l6+c5/65536:=⟨_,rfl⟩
 have b6:0≤c6∧c6≤2199023255552:=by omega
 have h6:c6=zA (l6+shr .i64 c5 16):=by rw[oJ,←yr,zV (by omega) (by omega)]
 obtain⟨c7,J8⟩:∃c,c=l7+c6/65536:=⟨_,rfl⟩
 have b7:0≤c7∧c7≤2199023255552:=by omega
 have h7:c7=zA (l7+shr .i64 c6 16):=by rw[oJ,←J8,zV (by omega) (by omega)]
 obtain⟨c8,hc8⟩:∃c,c=l8+c7/65536:=⟨_,rfl⟩
 have b8:0≤c8∧c8≤2199023255552:=by omega
 have h8:c8=zA (l8+shr .i64 c7 16):=by rw[oJ,←hc8,zV (by omega) (by omega)]
 have run:=vM3 l0 l1 l2 l3 l4 l5 l6 l7 l8 h1 h2 h3 h4 h5 h6 h7 h8
 simp only[qf] at run
 refine⟨_,_,_,_,_,_,_,_,_,run,?_,⟨Int.emod_nonneg _ (by decide),Int.emod_lt_of_pos _ (by decide)⟩,⟨Int.emod_nonneg _ (by decide),Int.emod_lt_of_pos _ (by decide)⟩,⟨Int.emod_nonneg _ (by decide),Int.emod_lt_of_pos _ (by decide)⟩,⟨Int.emod_nonneg _ (by decide),Int.emod_lt_of_pos _ (by decide)⟩,⟨Int.emod_nonneg _ (by decide),Int.emod_lt_of_pos _ (by decide)⟩,⟨Int.emod_nonneg _ (by decide),Int.emod_lt_of_pos _ (by decide)⟩,⟨Int.emod_nonneg _ (by decide),Int.emod_lt_of_pos _ (by decide)⟩,⟨Int.emod_nonneg _ (by decide),Int.emod_lt_of_pos _ (by decide)⟩,b8.1⟩
 unfold V9
 clear run h1 h2 h3 h4 h5 h6 h7 h8
 omega
theorem vKy (l0 l1 l2 l3 l4 l5 l6 l7 l8 n:Int):Kh 1000 [l0,l1,l2,l3,l4,l5,l6,l7,l8] n=wu 1000 [zA (l0*n),zA (l1*n),zA (l2*n),zA (l3*n),zA (l4*n),zA (l5*n),zA (l6*n),zA (l7*n),zA (l8*n)]:=by
 have e:Ki 1000 1000 n 0 [l0,l1,l2,l3,l4,l5,l6,l7,l8]=some [zA (l0*n),zA (l1*n),zA (l2*n),zA (l3*n),zA (l4*n),zA (l5*n),zA (l6*n),zA (l7*n),zA (l8*n)]:=by kernel_rfl
 unfold Kh
 rw[e]
 simp only[ak]
 cases wu 1000 [zA (l0*n),zA (l1*n),zA (l2*n),zA (l3*n),zA (l4*n),zA (l5*n),zA (l6*n),zA (l7*n),zA (l8*n)]<;>rfl
theorem tf (x W n:Int):(x+65536*W)*n=x*n+65536*(W*n):=by rw[Int.add_mul,Int.mul_assoc]
theorem vKq (l0 l1 l2 l3 l4 l5 l6 l7 l8 n:Int):V9 l0 l1 l2 l3 l4 l5 l6 l7 l8*n=V9 (l0*n) (l1*n) (l2*n) (l3*n) (l4*n) (l5*n) (l6*n) (l7*n) (l8*n):=by
 unfold V9
 rw[tf,tf,tf,tf,tf,tf,tf,tf]
theorem vB3 (l0 l1 l2 l3 l4 l5 l6 l7 l8:Int){x0 x1 x2 x3 x4 x5 x6 x7 x8 r0 r1 r2 r3 r4 r5 r6 r7 r8 r9:Int}(h8:x8=zA (shl .i64 r9 16+l8))(h7:x7=zA (shl .i64 r8 16+l7))(h6:x6=zA (shl .i64 r7 16+l6))(h5:x5=zA (shl .i64 r6 16+l5))(h4:x4=zA (shl .i64 r5 16+l4))(h3:x3=zA (shl .i64 r4 16+l3))(h2:x2=zA (shl .i64 r3 16+l2))(h1:x1=zA (shl .i64 r2 16+l1))(h0:x0=zA (shl .i64 r1 16+l0))(h9:r9=0)(k8:r8=Int.tmod x8 10000)(k7:r7=Int.tmod x7 10000)(k6:r6=Int.tmod x6 10000)(k5:r5=Int.tmod x5 10000)(k4:r4=Int.tmod x4 10000)(k3:r3=Int.tmod x3 10000)(k2:r2=Int.tmod x2 10000)(k1:r1=Int.tmod x1 10000)(k0:r0=Int.tmod x0 10000):
  Gg 1000 1000 10000 0 8 [l0,l1,l2,l3,l4,l5,l6,l7,l8]=some [zA (Int.tdiv x0 10000),zA (Int.tdiv x1 10000),zA (Int.tdiv x2 10000),zA (Int.tdiv x3 10000),zA (Int.tdiv x4 10000),zA (Int.tdiv x5 10000),zA (Int.tdiv x6 10000),zA (Int.tdiv x7 10000),zA (Int.tdiv x8 10000)]:=by
 subst k0;subst h0;subst k1;subst h1;subst k2;subst h2;subst k3;subst h3;subst k4;subst h4;subst k5;subst h5;subst k6;subst h6;subst k7;subst h7;subst k8;subst h8;subst h9
 kernel_rfl
theorem qg (x:Int):shl .i64 x 16=zA (x*65536):=rfl
theorem vIq (q0 q1 q2 q3 : Int) (h : decide (q3 ≥ 32768) = false) : ((B9 1000 1000 4 [q0,q1,q2,q3,0,0,0,0,0]).bind fun z1=>
 match z1 with
 | .inl z2 => bif zE 3 z2.length then (bif decide ((z2.getD 3 0)≥32768) then some ((0:Int),false)
   else bif zE 3 z2.length then (bif zE 2 z2.length then (bif zE 1 z2.length then (bif zE 0 z2.length then some ((fK .i64 (fK .i64 (fK .i64 (shl .i64 (z2.getD 3 0) 48) (shl .i64 (z2.getD 2 0) 32)) (shl .i64 (z2.getD 1 0) 16)) (z2.getD 0 0)),true)
      else none)
     else none)
    else none)
   else none)
  else none
 |.inr z3=>some (z3.1,z3.2))=some (fK .i64 (fK .i64 (fK .i64 (shl .i64 q3 48) (shl .i64 q2 32)) (shl .i64 q1 16)) q0,true):=by
  have e:B9 1000 1000 4 [q0,q1,q2,q3,0,0,0,0,0]=some (.inl [q0,q1,q2,q3,0,0,0,0,0]):=by kernel_rfl
  rw[e]
  simp only[ak]
  have e3:([q0,q1,q2,q3,0,0,0,0,0]:List Int).getD 3 0=q3:=rfl
  rw[e3,h]
  rfl
theorem vEq {q0 q1 q2 q3:Int}(h0:0≤q0∧q0<65536)(h1:0≤q1∧q1<65536)(h2:0≤q2∧q2<65536)(h3:0≤q3∧q3<32768):
  fK .i64 (fK .i64 (fK .i64 (shl .i64 q3 48) (shl .i64 q2 32)) (shl .i64 q1 16)) q0=q0+65536*(q1+65536*(q2+65536*q3)):=by
 have s3:shl .i64 q3 48=zA (q3*281474976710656):=rfl
 have s2:shl .i64 q2 32=zA (q2*4294967296):=rfl
 have s1:shl .i64 q1 16=zA (q1*65536):=rfl
 rw[s3,s2,s1,zV (x:=q3*281474976710656) (by omega) (by omega),zV (x:=q2*4294967296) (by omega) (by omega),zV (x:=q1*65536) (by omega) (by omega)]
 have b1:=RF 48 (by decide) (x:=q3) (y:=q2*4294967296) h3.1 (by have:(2:Int)^48=281474976710656:=rfl;rw[this];omega) (by have:(2:Int)^48=281474976710656:=rfl;rw[this];omega)
 have p48:(2:Int)^48=281474976710656:=rfl
 rw[p48] at b1
 rw[b1]
 have e1:q3*281474976710656+q2*4294967296=(q3*65536+q2)*4294967296:=by omega
 have b2:=RF 32 (by decide) (x:=q3*65536+q2) (y:=q1*65536) (by omega) (by have:(2:Int)^32=4294967296:=rfl;rw[this];omega) (by have:(2:Int)^32=4294967296:=rfl;rw[this];omega)
 have p32:(2:Int)^32=4294967296:=rfl
 rw[p32] at b2
 rw[e1,b2]
 have e2:(q3*65536+q2)*4294967296+q1*65536=((q3*65536+q2)*65536+q1)*65536:=by omega
 have b3:=RF 16 (by decide) (x:=(q3*65536+q2)*65536+q1) (y:=q0) (by omega) (by have:(2:Int)^16=65536:=rfl;rw[this];omega) (by have:(2:Int)^16=65536:=rfl;rw[this];omega)
 have p16:(2:Int)^16=65536:=rfl
 rw[p16] at b3
 rw[e2,b3]
 omega
theorem yY8 {l0 l1 l2 l3 l4 l5 l6 l7 l8:Int}(g0:0≤l0∧l0<65536)(g1:0≤l1∧l1<65536)(g2:0≤l2∧l2<65536)(g3:0≤l3∧l3<65536)(g4:0≤l4∧l4<65536)(g5:0≤l5∧l5<65536)(g6:0≤l6∧l6<65536)(g7:0≤l7∧l7<65536)(g8:0≤l8∧l8≤0)(hV:V9 l0 l1 l2 l3 l4 l5 l6 l7 l8/10000≤1152921504606846976):Kj 1000 [l0,l1,l2,l3,l4,l5,l6,l7,l8] 10000=some (V9 l0 l1 l2 l3 l4 l5 l6 l7 l8/10000,true):=by
  obtain⟨r9,h9⟩:∃r:Int,r=0:=⟨_,rfl⟩
  obtain⟨x8,hx8⟩:∃x,x=r9*65536+l8:=⟨_,rfl⟩
  obtain⟨r8,hr8⟩:∃r,r=x8%10000:=⟨_,rfl⟩
  obtain⟨q8,hq8⟩:∃q,q=x8/10000:=⟨_,rfl⟩
  have v8:x8=10000*q8+r8∧0≤r8∧r8<10000∧0≤x8∧x8<655360000:=by omega
  have h8:x8=zA (shl .i64 r9 16+l8):=by rw[qg,zV (x:=r9*65536) (by omega) (by omega),←hx8,zV (by omega) (by omega)]
  have k8:r8=Int.tmod x8 10000:=by rw[Int.tmod_eq_emod_of_nonneg (by omega)];exact hr8
  have t8:zA (Int.tdiv x8 10000)=q8:=by rw[Int.tdiv_eq_ediv_of_nonneg (by omega),←hq8,zV (by omega) (by omega)]
  obtain⟨x7,hx7⟩:∃x,x=r8*65536+l7:=⟨_,rfl⟩
  obtain⟨r7,hr7⟩:∃r,r=x7%10000:=⟨_,rfl⟩
  obtain⟨q7,hq7⟩:∃q,q=x7/10000:=⟨_,rfl⟩
  have v7:x7=10000*q7+r7∧0≤r7∧r7<10000∧0≤x7∧x7<655360000:=by omega
  have h7:x7=zA (shl .i64 r8 16+l7):=by rw[qg,zV (x:=r8*65536) (by omega) (by omega),←hx7,zV (by omega) (by omega)]
  have k7:r7=Int.tmod x7 10000:=by rw[Int.tmod_eq_emod_of_nonneg (by omega)];exact hr7
  have t7:zA (Int.tdiv x7 10000)=q7:=by rw[Int.tdiv_eq_ediv_of_nonneg (by omega),←hq7,zV (by omega) (by omega)]
  obtain⟨x6,hx6⟩:∃x,x=r7*65536+l6:=⟨_,rfl⟩
  obtain⟨r6,hr6⟩:∃r,r=x6%10000:=⟨_,rfl⟩
  obtain⟨q6,hq6⟩:∃q,q=x6/10000:=⟨_,rfl⟩
  have v6:x6=10000*q6+r6∧0≤r6∧r6<10000∧0≤x6∧x6<655360000:=by omega
  have h6:x6=zA (shl .i64 r7 16+l6):=by rw[qg,zV (x:=r7*65536) (by omega) (by omega),←hx6,zV (by omega) (by omega)]
  have k6:r6=Int.tmod x6 10000:=by rw[Int.tmod_eq_emod_of_nonneg (by omega)];exact hr6
  have t6:zA (Int.tdiv x6 10000)=q6:=by rw[Int.tdiv_eq_ediv_of_nonneg (by omega),←hq6,zV (by omega) (by omega)]
  obtain⟨x5,hx5⟩:∃x,x=r6*65536+l5:=⟨_,rfl⟩
  obtain⟨r5,hr5⟩:∃r,r=x5%10000:=⟨_,rfl⟩
  obtain⟨q5,hq5⟩:∃q,q=x5/10000:=⟨_,rfl⟩
  have v5:x5=10000*q5+r5∧0≤r5∧r5<10000∧0≤x5∧x5<655360000:=by omega
  have h5:x5=zA (shl .i64 r6 16+l5):=by rw[qg,zV (x:=r6*65536) (by omega) (by omega),←hx5,zV (by omega) (by omega)]
  have k5:r5=Int.tmod x5 10000:=by rw[Int.tmod_eq_emod_of_nonneg (by omega)];exact hr5
  have t5:zA (Int.tdiv x5 10000)=q5:=by rw[Int.tdiv_eq_ediv_of_nonneg (by omega),←hq5,zV (by omega) (by omega)]
  obtain⟨x4,hx4⟩:∃x,x=r5*65536+l4:=⟨_,rfl⟩
  obtain⟨r4,hr4⟩:∃r,r=x4%10000:=⟨_,rfl⟩
  obtain⟨q4,hq4⟩:∃q,q=x4/10000:=⟨_,rfl⟩
  have v4:x4=10000*q4+r4∧0≤r4∧r4<10000∧0≤x4∧x4<655360000:=by omega
  have h4:x4=zA (shl .i64 r5 16+l4):=by rw[qg,zV (x:=r5*65536) (by omega) (by omega),←hx4,zV (by omega) (by omega)]
  have k4:r4=Int.tmod x4 10000:=by rw[Int.tmod_eq_emod_of_nonneg (by omega)];exact hr4
  have t4:zA (Int.tdiv x4 10000)=q4:=by rw[Int.tdiv_eq_ediv_of_nonneg (by omega),←hq4,zV (by omega) (by omega)]
  obtain⟨x3,RG⟩:∃x,x=r4*65536+l3:=⟨_,rfl⟩
  obtain⟨r3,hr3⟩:∃r,r=x3%10000:=⟨_,rfl⟩
  obtain⟨q3,hq3⟩:∃q,q=x3/10000:=⟨_,rfl⟩
  have v3:x3=10000*q3+r3∧0≤r3∧r3<10000∧0≤x3∧x3<655360000:=by omega
  have h3:x3=zA (shl .i64 r4 16+l3):=by rw[qg,zV (x:=r4*65536) (by omega) (by omega),←RG,zV (by omega) (by omega)]
  have k3:r3=Int.tmod x3 10000:=by rw[Int.tmod_eq_emod_of_nonneg (by omega)];exact hr3
  have t3:zA (Int.tdiv x3 10000)=q3:=by rw[Int.tdiv_eq_ediv_of_nonneg (by omega),←hq3,zV (by omega) (by omega)]
  obtain⟨x2,xZ⟩:∃x,x=r3*65536+l2:=⟨_,rfl⟩
  obtain⟨r2,nW⟩:∃r,r=x2%10000:=⟨_,rfl⟩
  obtain⟨q2,hq2⟩:∃q,q=x2/10000:=⟨_,rfl⟩
  have v2:x2=10000*q2+r2∧0≤r2∧r2<10000∧0≤x2∧x2<655360000:=by omega
  have h2:x2=zA (shl .i64 r3 16+l2):=by rw[qg,zV (x:=r3*65536) (by omega) (by omega),←xZ,zV (by omega) (by omega)]
  have k2:r2=Int.tmod x2 10000:=by rw[Int.tmod_eq_emod_of_nonneg (by omega)];exact nW
  have t2:zA (Int.tdiv x2 10000)=q2:=by rw[Int.tdiv_eq_ediv_of_nonneg (by omega),←hq2,zV (by omega) (by omega)]
  obtain⟨x1,cw⟩:∃x,x=r2*65536+l1:=⟨_,rfl⟩
  obtain⟨r1,ja⟩:∃r,r=x1%10000:=⟨_,rfl⟩
  obtain⟨q1,hq1⟩:∃q,q=x1/10000:=⟨_,rfl⟩
  have v1:x1=10000*q1+r1∧0≤r1∧r1<10000∧0≤x1∧x1<655360000:=by omega
  have h1:x1=zA (shl .i64 r2 16+l1):=by rw[qg,zV (x:=r2*65536) (by omega) (by omega),←cw,zV (by omega) (by omega)]
  have k1:r1=Int.tmod x1 10000:=by rw[Int.tmod_eq_emod_of_nonneg (by omega)];exact ja
  have t1:zA (Int.tdiv x1 10000)=q1:=by rw[Int.tdiv_eq_ediv_of_nonneg (by omega),←hq1,zV (by omega) (by omega)]
  obtain⟨x0,RH⟩:∃x,x=r1*65536+l0:=⟨_,rfl⟩
  obtain⟨r0,mM⟩:∃r,r=x0%10000:=⟨_,rfl⟩
  obtain⟨q0,hq0⟩:∃q,q=x0/10000:=⟨_,rfl⟩
  have v0:x0=10000*q0+r0∧0≤r0∧r0<10000∧0≤x0∧x0<655360000:=by omega
  have h0:x0=zA (shl .i64 r1 16+l0):=by rw[qg,zV (x:=r1*65536) (by omega) (by omega),←RH,zV (by omega) (by omega)]
  have k0:r0=Int.tmod x0 10000:=by rw[Int.tmod_eq_emod_of_nonneg (by omega)];exact mM
  have t0:zA (Int.tdiv x0 10000)=q0:=by rw[Int.tdiv_eq_ediv_of_nonneg (by omega),←hq0,zV (by omega) (by omega)]
  have run:=vB3 l0 l1 l2 l3 l4 l5 l6 l7 l8 h8 h7 h6 h5 h4 h3 h2 h1 h0 h9 k8 k7 k6 k5 k4 k3 k2 k1 k0
  rw[t0,t1,t2,t3,t4,t5,t6,t7,t8] at run
  clear h0 k0 t0 h1 k1 t1 h2 k2 t2 h3 k3 t3 h4 k4 t4 h5 k5 t5 h6 k6 t6 h7 k7 t7 h8 k8 t8
  have hv:10000*V9 q0 q1 q2 q3 q4 q5 q6 q7 q8+r0=V9 l0 l1 l2 l3 l4 l5 l6 l7 l8:=by unfold V9;omega
  have hq:V9 q0 q1 q2 q3 q4 q5 q6 q7 q8=V9 l0 l1 l2 l3 l4 l5 l6 l7 l8/10000:=by omega
  rw[←hq] at hV⊢
  unfold V9 at hV
  have z8:q8=0:=by omega
  have z7:q7=0:=by omega
  have z6:q6=0:=by omega
  have z5:q5=0:=by omega
  have z4:q4=0:=by omega
  have z3:q3<32768:=by omega
  rw[z4,z5,z6,z7,z8] at run
  have eU:Kj 1000 [l0,l1,l2,l3,l4,l5,l6,l7,l8] 10000=(Gg 1000 1000 10000 0 8 [l0,l1,l2,l3,l4,l5,l6,l7,l8]).bind fun z=>(B9 1000 1000 4 z).bind fun z1=>
   match z1 with
   | .inl z2 => bif zE 3 z2.length then (bif decide ((z2.getD 3 0)≥32768) then some ((0:Int),false)
     else bif zE 3 z2.length then (bif zE 2 z2.length then (bif zE 1 z2.length then (bif zE 0 z2.length then some ((fK .i64 (fK .i64 (fK .i64 (shl .i64 (z2.getD 3 0) 48) (shl .i64 (z2.getD 2 0) 32)) (shl .i64 (z2.getD 1 0) 16)) (z2.getD 0 0)),true)
        else none)
       else none)
      else none)
     else none)
    else none
   |.inr z3=>some (z3.1,z3.2):=rfl
  rw[eU,run]
  simp only[ak]
  refine(vIq q0 q1 q2 q3 (aj (by omega))).trans ?_
  rw[vEq ⟨by omega,by omega⟩ ⟨by omega,by omega⟩ ⟨by omega,by omega⟩ ⟨by omega,z3⟩]
  unfold V9
  rw[z4,z5,z6,z7,z8]
  exact congrArg (fun z=>some (z,true)) (by clear hV hv hq run eU;omega)
theorem vO8 (a b x0 x1 x2 x3:Int):Kk 1000 1000 b 0 [x0,x1,x2,x3] [0,0,0,0,0,0,0,0,0]=some [zA (0+zA (x0*yK .i64 (shr .i64 b 0) 65535)),zA (zA (0+zA (x0*yK .i64 (shr .i64 b 16) 65535))+zA (x1*yK .i64 (shr .i64 b 0) 65535)),zA (zA (zA (0+zA (x0*yK .i64 (shr .i64 b 32) 65535))+zA (x1*yK .i64 (shr .i64 b 16) 65535))+zA (x2*yK .i64 (shr .i64 b 0) 65535)),zA (zA (zA (zA (0+zA (x0*yK .i64 (shr .i64 b 48) 65535))+zA (x1*yK .i64 (shr .i64 b 32) 65535))+zA (x2*yK .i64 (shr .i64 b 16) 65535))+zA (x3*yK .i64 (shr .i64 b 0) 65535)),zA (zA (zA (0+zA (x1*yK .i64 (shr .i64 b 48) 65535))+zA (x2*yK .i64 (shr .i64 b 32) 65535))+zA (x3*yK .i64 (shr .i64 b 16) 65535)),zA (zA (0+zA (x2*yK .i64 (shr .i64 b 48) 65535))+zA (x3*yK .i64 (shr .i64 b 32) 65535)),zA (0+zA (x3*yK .i64 (shr .i64 b 48) 65535)),0,0]:=by kernel_rfl
theorem vE2 {x0 x1 x2 x3 y0 y1 y2 y3:Int}:(x0+65536*x1+4294967296*x2+281474976710656*x3)*(y0+65536*y1+4294967296*y2+281474976710656*y3)=V9 (x0*y0) (x0*y1+x1*y0) (x0*y2+x1*y1+x2*y0) (x0*y3+x1*y2+x2*y1+x3*y0) (x1*y3+x2*y2+x3*y1) (x2*y3+x3*y2) (x3*y3) 0 0:=by
 have row:∀x:Int,x*(y0+65536*y1+4294967296*y2+281474976710656*y3)=x*y0+65536*(x*y1)+4294967296*(x*y2)+281474976710656*(x*y3):=fun x=>by
  rw[Int.mul_add,Int.mul_add,Int.mul_add,Int.mul_left_comm x 65536,Int.mul_left_comm x 4294967296,Int.mul_left_comm x 281474976710656]
 rw[Int.add_mul,Int.add_mul,Int.add_mul,Int.mul_assoc,Int.mul_assoc,Int.mul_assoc,row,row,row,row]
 unfold V9
 generalize x0*y0=Kl
 generalize x0*y1=Gh
 generalize x0*y2=Ca
 generalize x0*y3=wv
 generalize x1*y0=Km
 generalize x1*y1=Gj
 generalize x1*y2=Cb
 generalize x1*y3=Cc
 generalize x2*y0=Kn
 generalize x2*y1=Gk
 generalize x2*y2=Gl
 generalize x2*y3=Gm
 generalize x3*y0=Ko
 generalize x3*y1=Kp
 generalize x3*y2=Kq
 generalize x3*y3=Kr
 omega
theorem vP5 {a b:Int}(ha:0≤a∧a≤1048576)(hb:0≤b∧b≤1099511627776):∃d0 d1 d2 d3 d4 d5 d6 d7 d8,
  Ks 1000 a b=some [d0,d1,d2,d3,d4,d5,d6,d7,d8]∧V9 d0 d1 d2 d3 d4 d5 d6 d7 d8=a*b∧(0≤d0∧d0<65536)∧(0≤d1∧d1<65536)∧(0≤d2∧d2<65536)∧(0≤d3∧d3<65536)∧(0≤d4∧d4<65536)∧(0≤d5∧d5<65536)∧(0≤d6∧d6<65536)∧(0≤d7∧d7<65536)∧d8=0:=by
 obtain⟨x0,RH⟩:∃z,z=a%65536:=⟨_,rfl⟩
 have tg:0≤x0∧x0≤65535:=by omega
 obtain⟨x1,cw⟩:∃z,z=a/65536%65536:=⟨_,rfl⟩
 have th:0≤x1∧x1≤65535:=by omega
 obtain⟨x2,xZ⟩:∃z,z=a/4294967296%65536:=⟨_,rfl⟩
 have tj:0≤x2∧x2≤65535:=by omega
 obtain⟨x3,RG⟩:∃z,z=a/281474976710656%65536:=⟨_,rfl⟩
 have tl:0≤x3∧x3≤65535:=by omega
 obtain⟨y0,OH⟩:∃z,z=b%65536:=⟨_,rfl⟩
 have tm:0≤y0∧y0≤65535:=by omega
 obtain⟨y1,O8⟩:∃z,z=b/65536%65536:=⟨_,rfl⟩
 have tn:0≤y1∧y1≤65535:=by omega
 obtain⟨y2,O9⟩:∃z,z=b/4294967296%65536:=⟨_,rfl⟩
 have tp:0≤y2∧y2≤65535:=by omega
 obtain⟨y3,hy3⟩:∃z,z=b/281474976710656%65536:=⟨_,rfl⟩
 have tq:0≤y3∧y3≤65535:=by omega
 have ea:a=x0+65536*x1+4294967296*x2+281474976710656*x3:=by omega
 have eb:b=y0+65536*y1+4294967296*y2+281474976710656*y3:=by omega
 have dg:Kt 1000 a=some [x0,x1,x2,x3]:=by
  unfold Kt
  rw[oJ,qVv,yEg,qf,qf,qf,qf,←RH,←cw,←xZ,←RG]
 have run:=vO8 a b x0 x1 x2 x3
 rw[vP3,oJ,qVv,yEg,qf,qf,qf,qf,←OH,←O8,←O9,←hy3] at run
 have rH:=vE2 (x0:=x0) (x1:=x1) (x2:=x2) (x3:=x3) (y0:=y0) (y1:=y1) (y2:=y2) (y3:=y3)
 rw[←ea,←eb] at rH
 have hm:=vU ha.1 ha.2 hb.1 hb.2
 have m00:=vU tg.1 tg.2 tm.1 tm.2
 have m01:=vU tg.1 tg.2 tn.1 tn.2
 have m02:=vU tg.1 tg.2 tp.1 tp.2
 have m03:=vU tg.1 tg.2 tq.1 tq.2
 have m10:=vU th.1 th.2 tm.1 tm.2
 have m11:=vU th.1 th.2 tn.1 tn.2
 have m12:=vU th.1 th.2 tp.1 tp.2
 have m13:=vU th.1 th.2 tq.1 tq.2
 have m20:=vU tj.1 tj.2 tm.1 tm.2
 have m21:=vU tj.1 tj.2 tn.1 tn.2
 have m22:=vU tj.1 tj.2 tp.1 tp.2
 have m23:=vU tj.1 tj.2 tq.1 tq.2
 have m30:=vU tl.1 tl.2 tm.1 tm.2
 have m31:=vU tl.1 tl.2 tn.1 tn.2
 have m32:=vU tl.1 tl.2 tp.1 tp.2
 have m33:=vU tl.1 tl.2 tq.1 tq.2
 generalize x0*y0=Kl at*
 generalize x0*y1=Gh at*
 generalize x0*y2=Ca at*
 generalize x0*y3=wv at*
 generalize x1*y0=Km at*
 generalize x1*y1=Gj at*
 generalize x1*y2=Cb at*
 generalize x1*y3=Cc at*
 generalize x2*y0=Kn at*
 generalize x2*y1=Gk at*
 generalize x2*y2=Gl at*
 generalize x2*y3=Gm at*
 generalize x3*y0=Ko at*
 generalize x3*y1=Kp at*
 generalize x3*y2=Kq at*
 generalize x3*y3=Kr at*
 rw[zV (x:=Kl) (by omega) (by omega)] at run
 rw[zV (x:=Gh) (by omega) (by omega)] at run
 rw[zV (x:=Ca) (by omega) (by omega)] at run
 rw[zV (x:=wv) (by omega) (by omega)] at run
 rw[zV (x:=Km) (by omega) (by omega)] at run
 rw[zV (x:=Gj) (by omega) (by omega)] at run
 rw[zV (x:=Cb) (by omega) (by omega)] at run
 rw[zV (x:=Cc) (by omega) (by omega)] at run
 rw[zV (x:=Kn) (by omega) (by omega)] at run
 rw[zV (x:=Gk) (by omega) (by omega)] at run
 rw[zV (x:=Gl) (by omega) (by omega)] at run
 rw[zV (x:=Gm) (by omega) (by omega)] at run
 rw[zV (x:=Ko) (by omega) (by omega)] at run
 rw[zV (x:=Kp) (by omega) (by omega)] at run
 rw[zV (x:=Kq) (by omega) (by omega)] at run
 rw[zV (x:=Kr) (by omega) (by omega)] at run
 rw[zV (x:=0+Kl) (by omega) (by omega)] at run
 rw[zV (x:=0+Gh) (by omega) (by omega)] at run
 rw[zV (x:=0+Ca) (by omega) (by omega)] at run
 rw[zV (x:=0+wv) (by omega) (by omega)] at run
 rw[zV (x:=0+Gh+Km) (by omega) (by omega)] at run
 rw[zV (x:=0+Ca+Gj) (by omega) (by omega)] at run
 rw[zV (x:=0+wv+Cb) (by omega) (by omega)] at run
 rw[zV (x:=0+Cc) (by omega) (by omega)] at run
 rw[zV (x:=0+Ca+Gj+Kn) (by omega) (by omega)] at run
 rw[zV (x:=0+wv+Cb+Gk) (by omega) (by omega)] at run
 rw[zV (x:=0+Cc+Gl) (by omega) (by omega)] at run
 rw[zV (x:=0+Gm) (by omega) (by omega)] at run
 rw[zV (x:=0+wv+Cb+Gk+Ko) (by omega) (by omega)] at run
 rw[zV (x:=0+Cc+Gl+Kp) (by omega) (by omega)] at run
 rw[zV (x:=0+Gm+Kq) (by omega) (by omega)] at run
 rw[zV (x:=0+Kr) (by omega) (by omega)] at run
 obtain⟨d0,d1,d2,d3,d4,d5,d6,d7,d8,c1,c2,n0,n1,n2,n3,n4,n5,n6,n7,n8⟩:=yJe (l0:=0+Kl) (l1:=0+Gh+Km) (l2:=0+Ca+Gj+Kn) (l3:=0+wv+Cb+Gk+Ko) (l4:=0+Cc+Gl+Kp) (l5:=0+Gm+Kq) (l6:=0+Kr) (l7:=0) (l8:=0) (by omega) (by omega) (by omega) (by omega) (by omega) (by omega) (by omega) (by omega) (by omega)
 refine⟨d0,d1,d2,d3,d4,d5,d6,d7,d8,?_,?_,n0,n1,n2,n3,n4,n5,n6,n7,?_⟩
 ·unfold Ks
  rw[dg]
  simp only[ak]
  rw[run]
  simp only[ak]
  rw[c1]
  rfl
 ·rw[c2,rH]
  unfold V9
  omega
 ·have:V9 d0 d1 d2 d3 d4 d5 d6 d7 d8=a*b:=by
   rw[c2,rH]
   unfold V9
   omega
  unfold V9 at this
  omega
theorem vIk {p m c:Int}(hp:0≤p∧p≤1048576)(hm:0≤m∧m≤1099511627776)(hc:0≤c∧c≤10000):Ku 1000 p m c=some (pT p m c,true):=by
 obtain⟨d0,d1,d2,d3,d4,d5,d6,d7,d8,e1,e2,n0,n1,n2,n3,n4,n5,n6,n7,n8⟩:=vP5 hp hm
 have tc:=vU hp.1 hp.2 hm.1 hm.2
 have hn:0≤10000-c∧10000-c≤10000:=by omega
 have wn:zA (10000-c)=10000-c:=zV (by omega) (by omega)
 have hw:=yLc hp hm hc
 unfold pT at hw⊢
 have hpn:=vU tc.1 tc.2 hn.1 hn.2
 have eV:=vKq d0 d1 d2 d3 d4 d5 d6 d7 d8 (10000-c)
 rw[e2] at eV
 unfold Ku
 rw[aj (show¬p<0 by omega),aj (show¬m<0 by omega),aj (show¬c<0 by omega),aj (show¬c>10000 by omega),e1,wn]
 simp only[ao,ak]
 rw[vKy]
 generalize 10000-c=n at*
 have u0:=vU n0.1 (show d0≤65535 by omega) hn.1 hn.2
 have u1:=vU n1.1 (show d1≤65535 by omega) hn.1 hn.2
 have u2:=vU n2.1 (show d2≤65535 by omega) hn.1 hn.2
 have u3:=vU n3.1 (show d3≤65535 by omega) hn.1 hn.2
 have u4:=vU n4.1 (show d4≤65535 by omega) hn.1 hn.2
 have u5:=vU n5.1 (show d5≤65535 by omega) hn.1 hn.2
 have u6:=vU n6.1 (show d6≤65535 by omega) hn.1 hn.2
 have u7:=vU n7.1 (show d7≤65535 by omega) hn.1 hn.2
 have u8:0≤d8*n∧d8*n≤0:=by rw[n8,Int.zero_mul];omega
 generalize d0*n=t0 at*
 generalize d1*n=t1 at*
 generalize d2*n=t2 at*
 generalize d3*n=t3 at*
 generalize d4*n=t4 at*
 generalize d5*n=t5 at*
 generalize d6*n=t6 at*
 generalize d7*n=t7 at*
 generalize d8*n=t8 at*
 rw[zV (x:=t0) (by omega) (by omega),zV (x:=t1) (by omega) (by omega),zV (x:=t2) (by omega) (by omega),zV (x:=t3) (by omega) (by omega),zV (x:=t4) (by omega) (by omega),zV (x:=t5) (by omega) (by omega),zV (x:=t6) (by omega) (by omega),zV (x:=t7) (by omega) (by omega),zV (x:=t8) (by omega) (by omega)]
 obtain⟨e0,e1,e2,e3,e4,e5,e6,e7,e8,f1,f2,k0,k1,k2,k3,k4,k5,k6,k7,k8⟩:=yJe (l0:=t0) (l1:=t1) (l2:=t2) (l3:=t3) (l4:=t4) (l5:=t5) (l6:=t6) (l7:=t7) (l8:=t8) (by omega) (by omega) (by omega) (by omega) (by omega) (by omega) (by omega) (by omega) (by omega)
 rw[f1]
 simp only[ak]
 rw[←eV] at f2
 have z8:e8≤0:=by unfold V9 at f2;omega
 rw[yY8 k0 k1 k2 k3 k4 k5 k6 k7 ⟨k8,z8⟩ (by rw[f2];exact hw.2),f2]
 rfl
theorem yFl (k:Nat)(x y:zB):Gn k x.1 x.2.1 x.2.2.1 x.2.2.2.1 x.2.2.2.2.1 x.2.2.2.2.2.1 x.2.2.2.2.2.2 y.1 y.2.1 y.2.2.1 y.2.2.2.1 y.2.2.2.2.1 y.2.2.2.2.2.1 y.2.2.2.2.2.2=some (wM x y):=by
 unfold Gn wM
 cases decide (x.2.1<y.2.1)<;>cases decide (x.2.1=y.2.1)<;>rfl
theorem vI8 (k:Nat){a b:Int}(ha:0≤a∧a≤4611686018427387904)(hb:0≤b∧b≤1152921504606846976):Cd k a b=some (a+b,true):=by
 unfold Cd
 rw[zV (x:=a+b) (by omega) (by omega),zV (x:=9223372036854775807-b) (by omega) (by omega),aj (show¬a>9223372036854775807-b by omega),aj (show¬b<0 by omega)]
 cases decide (b>0)<;>rfl
theorem yOc {sa:List fL}{pr h:List Int}(L:ik sa pr h):wx 1000 sa pr h=some (kb sa pr h,true):=by
 have h3:=L.n3
 obtain ⟨s', g1, g2⟩ := vF (L := fun n i (v : Int) => Gp 1000 n sa pr h v i) (N := sa.length) (fun v => (.inl v : Int ⊕ Int × Bool)) (fun i v => v = qM (ka sa pr h) i) (fun n v _=>by
  show Ce 1000 _ sa pr h v (sa.length:Int)=_
  unfold Ce
  rw[aj (Int.lt_irrefl _)]
  rfl) (fun n i v hi hv=>by
  refine⟨v+ka sa pr h i,?_,by rw[hv];rfl⟩
  show Ce 1000 (Gp 1000 n) sa pr h v (i:Int)=_
  unfold Ce
  have hw:=FD L hi
  have hb:=JH (g:=ka sa pr h) (n:=i) (fun j hj=>FD L (by omega))
  have hm:(i:Int)*1152921504606846976≤3*1152921504606846976:=Int.mul_le_mul_of_nonneg_right (by omega) (by decide)
  have ed:sa.getD i (0,0)=sa.getD i pU:=rfl
  rw[ai (show(i:Int)<sa.length by omega),qG,qG,qG,ai hi,ai (show i<pr.length by rw[L.pl];exact hi),ai (show i<h.length by rw[L.hl];exact hi),aB,ed,vIk (L.price i hi) (L.hold i hi) (L.cut i hi)]
  simp only[av,ak]
  have e:pT (pr.getD i 0) (h.getD i 0) (sa.getD i pU).2=ka sa pr h i:=rfl
  rw[e,vI8 _ (by rw[hv];omega) hw,qO hi (by omega)]
  rfl) (n:=1000) (s:=0) (by omega) rfl
 unfold wx
 rw[ai (show(pr.length:Int)=(sa.length:Int) by rw[L.pl]),ai (show(h.length:Int)=(sa.length:Int) by rw[L.hl]),g1,g2]
 rfl
theorem qh {k:Nat}{l:List zB}(hk:l.length<k)(hl:qW l)(id:Int):lM k l id=some (gh l id):=by
 unfold qW at hl
 unfold lM
 rw[Jt hk (by omega)]
 unfold iK gh
 cases hp:vN l id with
 |none=>rfl
 |some x=>
  have hx:=(iL hp).1
  have e1:decide ((x:Int)<0)=false:=aj (by omega)
  have e2:decide ((0:Int)≤(x:Int))=true:=by simp
  have e3:decide ((x:Int)≤(l.length:Int))=true:=ai (by omega)
  have e4:decide ((0:Int)≤((x+1:Nat):Int))=true:=ai (by omega)
  have e5:decide (((x+1:Nat):Int)≤(l.length:Int))=true:=ai (by omega)
  have l1:=List.length_take_le x l
  have l2:(l.drop (x+1)).length≤l.length:=by rw[List.length_drop];omega
  have e6:zW (0+(l.take x).length) 56=true:=yE (by omega) (by omega)
  have e7:zW ((l.take x).length+(l.drop (x+1)).length) 56=true:=yE (by omega) (by omega)
  simp only[ak,e1,ao,e2,e3,e4,e5,Bool.and_true,qO hx (show l.length<9223372036854775808 by omega),qG,ai hx,av,aB,e6,e7]
  rfl
theorem yX2 (q p:zB):gH q p= !wM p q:=by
 unfold gH wM
 rcases Int.lt_trichotomy q.2.1 p.2.1 with h|h|h
 ·have h1:¬p.2.1<q.2.1:=by omega
  have h2:¬p.2.1=q.2.1:=by omega
  simp[h,h1,h2]
 ·rcases Int.lt_trichotomy q.2.2.2.2.1 p.2.2.2.2.1 with g|g|g
  ·have g1:¬p.2.2.2.2.1≤q.2.2.2.2.1:=by omega
   simp[h,g,g1]
  ·simp[h,g]
  ·have g1:¬q.2.2.2.2.1<p.2.2.2.2.1:=by omega
   have g2:p.2.2.2.2.1≤q.2.2.2.2.1:=by omega
   simp[h,g1,g2]
 ·have h1:¬q.2.1<p.2.1:=by omega
  have h2:¬q.2.1=p.2.1:=by omega
  simp[h,h1,h2]
theorem Kv {k:Nat}{l:List zB}(hl:l.length≤1000){x:Nat}(hx:x≤l.length)(y:zB):wy k l x y.1 y.2.1 y.2.2.1 y.2.2.2.1 y.2.2.2.2.1 y.2.2.2.2.2.1 y.2.2.2.2.2.2=some (l.take x++(y::l.drop x)):=by
 unfold wy
 have e1:(decide (0≤(x:Int))&&decide ((x:Int)≤((l.length:Nat):Int)))=true:=by simp;exact hx
 have e2:zW (0+(l.take x).length) 56=true:=yE (by rw[List.length_take];omega) (by rw[List.length_take];omega)
 have e3:zW ((l.take x).length+1) 56=true:=yE (by rw[List.length_take];omega) (by rw[List.length_take];omega)
 rw[e1,aB,e2,e3]
 simp only[av]
 have e4:zW ((l.take x++[(y.1,(y.2.1,(y.2.2.1,(y.2.2.2.1,(y.2.2.2.2.1,(y.2.2.2.2.2.1,y.2.2.2.2.2.2))))))]).length+(l.drop x).length) 56=true:=yE (by simp only[List.length_append,List.length_take,List.length_drop,List.length_cons,List.length_nil];omega) (by simp only[List.length_append,List.length_take,List.length_drop,List.length_cons,List.length_nil];omega)
 rw[e4]
 simp
theorem RI {k:Nat}{l:List zB}(hk:l.length<k)(hl:l.length≤1000)(y:zB):Cf k l y.1 y.2.1 y.2.2.1 y.2.2.2.1 y.2.2.2.2.1 y.2.2.2.2.2.1 y.2.2.2.2.2.2=some (((l.takeWhile (fun q=>wM q y)).length:Nat):Int):=by
 have := AW (L := fun n i => Cg k n l i y.1 y.2.1 y.2.2.1 y.2.2.2.1 y.2.2.2.2.1 y.2.2.2.2.2.1 y.2.2.2.2.2.2) (N := l.length) (fun x => wM (l.getD x pd) y) (fun i => (i : Int)) (fun n=>by
  show Ch k _ l l.length _ _ _ _ _ _ _=_
  unfold Ch
  simp only [zU, aj (Nat.lt_irrefl _), ao]) (fun n i hi=>by
  show Ch k _ l i _ _ _ _ _ _ _=_
  unfold Ch
  have h1:=yFl k (l.getD i pd) y
  simp only[pd] at h1
  simp only[qG,zU,aB,ai hi,av,h1,ak,qO hi (show l.length<9223372036854775808 by omega)]
  ) l.length 0 k (by omega) hk
 have e:((0:Nat):Int)=0:=rfl
 rw[e] at this
 unfold Cf
 have h':Cg k k l 0 y.1 y.2.1 y.2.2.1 y.2.2.2.1 y.2.2.2.2.1 y.2.2.2.2.2.1 y.2.2.2.2.2.2=_:=this
 rw[h',AY (fun q=>wM q y) l pd l.length 0 (by omega),List.drop_zero,Nat.zero_add]
 rfl
theorem vEg {k:Nat}{l:List zB}(hk:l.length<k)(hl:l.length≤1000)(p:zB):
  wz k l p.1 p.2.1 p.2.2.1 p.2.2.2.1 p.2.2.2.2.1 p.2.2.2.2.2.1 p.2.2.2.2.2.2=some (bif (vN l p.1).isSome then(l,6) else bif decide (40≤l.length) then(l,3) else(mq l p,0)):=by
 unfold wz
 rw[Jt hk (by omega)]
 unfold iK
 cases hp:vN l p.1 with
 |some x=>
  have e1:decide ((x:Int)≥0)=true:=ai (by omega)
  simp only[ak,e1,av,Option.isSome_some]
 |none=>
  have e1:decide ((-1:Int)≥0)=false:=rfl
  simp only[ak,e1,ao,Option.isSome_none]
  by_cases h:40≤l.length
  ·rw[ai h,ai (show(l.length:Int)≥40 by omega)];rfl
  ·rw[aj h,aj (show¬(l.length:Int)≥40 by omega)]
   simp only[ao]
   rw[RI hk hl p]
   simp only[ak]
   rw[Kv hl (vr _ l) p,(lJ _ l).1,(lJ _ l).2]
   rfl
theorem vK5 {k:Nat}{l:List zB}(bP:l.length<k)(hl:qW l){id:Int}{x:Nat}(hx:vN l id=some x)(c:Int):
  Gq k l id c=some (mq (yC l x) ((l.getD x pd).1,(l.getD x pd).2.1,(l.getD x pd).2.2.1,(l.getD x pd).2.2.2.1,c,(l.getD x pd).2.2.2.2.2.1,(l.getD x pd).2.2.2.2.2.2),0):=by
 have cw:=iL hx
 have hlen:=kP cw.1
 have eg:=hl
 unfold qW at eg
 unfold Gq
 rw[qh bP hl]
 unfold gh
 rw[hx]
 simp only[ak,decide_true,aY,ao]
 have h1:=RI (k:=k) (l:=yC l x) (by omega) (by omega) ((l.getD x pd).1,(l.getD x pd).2.1,(l.getD x pd).2.2.1,(l.getD x pd).2.2.2.1,c,(l.getD x pd).2.2.2.2.2.1,(l.getD x pd).2.2.2.2.2.2)
 simp only at h1
 rw[h1]
 simp only[ak]
 have h2:=Kv (k:=k) (l:=yC l x) (by omega) (vr (fun q=>wM q ((l.getD x pd).1,(l.getD x pd).2.1,(l.getD x pd).2.2.1,(l.getD x pd).2.2.2.1,c,(l.getD x pd).2.2.2.2.2.1,(l.getD x pd).2.2.2.2.2.2)) (yC l x)) ((l.getD x pd).1,(l.getD x pd).2.1,(l.getD x pd).2.2.1,(l.getD x pd).2.2.2.1,c,(l.getD x pd).2.2.2.2.2.1,(l.getD x pd).2.2.2.2.2.2)
 simp only at h2
 rw[h2,(lJ _ (yC l x)).1,(lJ _ (yC l x)).2]
 rfl
theorem vDn {k:Nat}{l:List zB}(bP:l.length<k)(hl:qW l){id:Int}{x:Nat}(hx:vN l id=some x):
  Gr k l id=some (mq (yC l x) (l.getD x pd),0):=by
 have cw:=iL hx
 have hlen:=kP cw.1
 have eg:=hl
 unfold qW at eg
 unfold Gr
 rw[qh bP hl]
 unfold gh
 rw[hx]
 simp only[ak,decide_true,aY,ao]
 rw[RI (k:=k) (l:=yC l x) (by omega) (by omega) (l.getD x pd)]
 simp only[ak]
 rw[Kv (k:=k) (l:=yC l x) (by omega) (vr (fun q=>wM q (l.getD x pd)) (yC l x)) (l.getD x pd),(lJ _ (yC l x)).1,(lJ _ (yC l x)).2]
 rfl
theorem yYj {k:Nat}{l:List zB}(bP:l.length<k)(hl:qW l){id:Int}{x:Nat}(hx:vN l id=some x):
  Gs k l id=some (Fx (yC l x) (l.getD x pd),0):=by
 have cw:=iL hx
 have hlen:=kP cw.1
 have eg:=hl
 unfold qW at eg
 have Gt:∀(l:List zB),l.length<k→l.length≤1000→∀p:zB,Ck k k l 0 p=some (l,(((l.takeWhile (fun q=>gH q p)).length:Nat):Int),p):=by
  intro l bP hl p
  have := AW (L := fun n i => Ck k n l i p) (N := l.length) (fun x => gH (l.getD x pd) p) (fun i => (l, (i : Int), p)) (fun n=>by
   show Cl k _ l l.length p=_
   unfold Cl
   simp only [zU, aj (Nat.lt_irrefl _), ao]) (fun n i hi=>by
   show Cl k _ l i p=_
   unfold Cl
   have h1:=yFl k p (l.getD i pd)
   simp only[pd] at h1
   simp only[qG,zU,aB,ai hi,av,h1,ak,qO hi (show l.length<9223372036854775808 by omega),yX2]
   rfl) l.length 0 k (by omega) bP
  have e:((0:Nat):Int)=0:=rfl
  rw[e] at this
  show Ck k k l 0 p=_
  rw[this,AY (fun q=>gH q p) l pd l.length 0 (by omega),List.drop_zero,Nat.zero_add]
 unfold Gs
 rw[qh bP hl]
 unfold gh
 rw[hx]
 simp only[ak,decide_true,aY,ao]
 have h1:=Gt (yC l x) (by omega) (by omega) (l.getD x pd)
 refine(congrArg (fun z=>Option.bind z _) h1).trans ?_
 simp only[ak]
 rw[Kv (k:=k) (l:=yC l x) (by omega) (vr (fun q=>gH q (l.getD x pd)) (yC l x)) (l.getD x pd),(lJ _ (yC l x)).1,(lJ _ (yC l x)).2]
 rfl
theorem vGu {k:Nat}{l:List Int}(hk:l.length<k)(hl:l.length≤1000)(id:Int):Kw k l id=some (decide (id∈l)):=by
 have := j8 (L := fun n i => Cm k n l id i) (N := l.length) (fun i => !decide (l.getD i 0 = id)) (.inl ()) (.inr true) (fun n=>by
  show Cn k _ l id l.length=_
  unfold Cn
  rw [aj (Int.lt_irrefl _)]; rfl) (fun n i hi=>by
  show Cn k (Cm k n) l id i=_
  unfold Cn
  rw[ai (show(i:Int)<l.length by omega),qG,ai hi,aB,qO hi (by omega)]
  cases decide (l.getD i 0=id)<;>rfl) hk
 unfold Kw
 have h':Cm k k l id 0=_:=this
 rw[h']
 have e:qK (fun i=> !decide (l.getD i 0=id)) l.length 0= !decide (id∈l):=by
  by_cases hm:id∈l
  ·rw[ai hm]
   cases ha:qK (fun i=> !decide (l.getD i 0=id)) l.length 0 with
   |false=>rfl
   |true=>
    obtain⟨i,hi,e⟩:=List.getElem_of_mem hm
    have:=gG.1 ha i hi
    rw[nC l hi,e] at this
    simp at this
  ·rw[aj hm]
   refine gG.2 fun i hi=>?_
   rw[aj (show¬l.getD i 0=id from fun e=>hm (by rw[←e];exact wS hi))];rfl
 rw[e]
 cases decide (id∈l)<;>rfl
theorem yYy {k:Nat}{l:List Int}(hk:l.length<k)(hl:l.length≤1000)(id:Int):
  w4 k l id=some (bif decide (id∈l) then(l,6) else bif decide (200≤l.length) then(l,3) else(pR l id,0)):=by
 unfold w4
 rw[vGu hk hl]
 simp only[ak]
 by_cases hm:id∈l
 ·rw[ai hm];rfl
 ·rw[aj hm]
  simp only[ao]
  by_cases h:200≤l.length
  ·rw[ai h,ai (show(l.length:Int)≥200 by omega)];rfl
  ·rw[aj h,aj (show¬(l.length:Int)≥200 by omega)]
   have := AW (L := fun n i => Gu k n l id i) (N := l.length) (fun x => decide (l.getD x 0 < id)) (fun i => (l, id, (i : Int))) (fun n=>by
    show Co k _ l id l.length=_
    unfold Co
    simp only [zU, aj (Nat.lt_irrefl _), ao]) (fun n i hi=>by
    show Co k _ l id i=_
    unfold Co
    simp only[qG,zU,aB,ai hi,av,qO hi (show l.length<9223372036854775808 by omega)]
    rfl) l.length 0 k (by omega) hk
   have e:((0:Nat):Int)=0:=rfl
   rw[e,AY (fun x=>decide (x<id)) l 0 l.length 0 (by omega),List.drop_zero,Nat.zero_add] at this
   have h':Gu k k l id 0=_:=this
   simp only[ao]
   rw[h']
   have hn:=vr (fun x=>decide (x<id)) l
   obtain⟨t1,t2⟩:=lJ (fun x=>decide (x<id)) l
   have e1:(decide (0≤(((l.takeWhile (fun x=>decide (x<id))).length:Nat):Int))&&decide ((((l.takeWhile (fun x=>decide (x<id))).length:Nat):Int)≤((l.length:Nat):Int)))=true:=by simp;exact hn
   have hd:=(List.dropWhile_sublist (fun x=>decide (x<id)) (l:=l)).length_le
   simp only[ak,e1,av,aB,t1,t2]
   rw[yE (n:=0+(l.takeWhile (fun x=>decide (x<id))).length) (by omega) (by omega),yE (n:=(l.takeWhile (fun x=>decide (x<id))).length+1) (by omega) (by omega),yE (n:=(l.takeWhile (fun x=>decide (x<id))++[id]).length+(l.dropWhile (fun x=>decide (x<id))).length) (by rw[List.length_append];simp;omega) (by rw[List.length_append];simp;omega)]
   simp only[av]
   unfold pR
   simp
abbrev MT:=Int×List fL×Int×Int×Int×Int×List qN×jA×List Int×jA×List Int×jA×List zB×List Int×Int×Bool×Int×Int
abbrev RJ:=Int×List fL×Int×Int×Int×Int×List qN×jA×List Int×jA×List Int×jA×List zB×List Int×Int×Bool×Int×List yI×Int
def rk (r:qR)(s:qL)(who:Int):MT:=(r.1,r.2.1,r.2.2.1,r.2.2.2.1,r.2.2.2.2,s.t,s.B.1,s.B.2.1,s.B.2.2.1,s.B.2.2.2,s.pr,s.ho,s.m,s.ids,s.to,s.ov,who,0)
def qT (r:qR)(s:qL)(who:Int)(l:List yI)(paid:Int):RJ:=(r.1,r.2.1,r.2.2.1,r.2.2.2.1,r.2.2.2.2,s.t,s.B.1,s.B.2.1,s.B.2.2.1,s.B.2.2.2,s.pr,s.ho,s.m,s.ids,s.to,s.ov,who,l,paid)
def Cp (pa n:Int):Int:=bif decide (n<0) then-1 else bif decide (n≥pa) then-1 else n
theorem RK (k:Nat)(r:qR)(s:qL)(who:Int)(l:List yI)(p n:Int):qi k (qT r s who l p) n=some (Cp r.1 n):=by
 unfold qi Cp
 have e:(qT r s who l p).1=r.1:=rfl
 rw[e]
 cases decide (n<0)<;>cases decide (n≥r.1)<;>rfl
theorem RM {pa n:Int}(h:0≤n∧n<pa):Cp pa n=n:=by
 unfold Cp
 rw[aj (show¬n<0 by omega),aj (show¬n≥pa by omega)];rfl
theorem RN {pa n:Int}(h:¬(0≤n∧n<pa)):Cp pa n= -1:=by
 unfold Cp
 by_cases h1:n<0
 ·rw[ai h1];rfl
 ·rw[aj h1,ai (show n≥pa by omega)];rfl
theorem yR5 (k:Nat)(r:qR)(t c:Int):Cq k r t c=some (nB r.2.2.1 r.2.2.2.1 t c):=by
 unfold Cq nB
 cases decide (t≥r.2.2.2.1)<;>cases decide (c=3)<;>cases decide (t≥r.2.2.1)<;>rfl
theorem qWk (k:Nat)(r:qR)(t:Int)(p:zB):w5 k r t p=some (lK r t p):=by
 unfold w5 lK
 rw[yR5]
 simp only[ak]
 have no:¬(p.2.1≥0∧p.2.1<r.1∧p.2.2.1≥0∧p.2.2.1<r.1∧p.1≥1∧p.2.2.2.1≥1∧p.2.2.2.1≤1099511627776∧p.2.2.2.2.1≥1∧¬p.2.1=p.2.2.1∧p.2.2.2.2.1≤3∧p.2.2.2.2.2.1≥0∧p.2.2.2.2.2.1≤p.2.2.2.2.2.2∧p.2.2.2.2.2.2≥t∧p.2.2.2.2.2.2≤1048576)→il r.1 t p=false:=by
  intro h
  cases e:il r.1 t p with
  |false=>rfl
  |true=>
   unfold il at e
   simp only[bN,Bool.not_eq_true',bI,decide_eq_false_iff_not] at e
   obtain⟨⟨a1,a2⟩,⟨a3,a4⟩,a5,a6,a7,a8,a9,a10,a11,a12,a13,a14⟩:=e
   exact absurd ⟨a1,a2,a3,a4,a5,a6,a7,a8,a9,a10,a11,a12,a13,a14⟩ h
 by_cases c1:p.1<1
 ·rw[ai c1,no (fun⟨_,_,_,_,h,_⟩=>by omega)];rfl
 by_cases c2:p.2.1<0
 ·rw[aj c1,ai c2,no (fun⟨h,_⟩=>by omega)];rfl
 by_cases c3:p.2.1≥r.1
 ·rw[aj c1,aj c2,ai c3,no (fun⟨_,h,_⟩=>by omega)];rfl
 by_cases c4:p.2.2.1<0
 ·rw[aj c1,aj c2,aj c3,ai c4,no (fun⟨_,_,h,_⟩=>by omega)];rfl
 by_cases c5:p.2.2.1≥r.1
 ·rw[aj c1,aj c2,aj c3,aj c4,ai c5,no (fun⟨_,_,_,h,_⟩=>by omega)];rfl
 rw[aj c1,aj c2,aj c3,aj c4,aj c5]
 simp only[ao]
 by_cases c6:p.2.1=p.2.2.1
 ·rw[ai c6,no (fun⟨_,_,_,_,_,_,_,_,h,_⟩=>h c6)];rfl
 by_cases c7:p.2.2.2.1<1
 ·rw[aj c6,ai c7,no (fun⟨_,_,_,_,_,h,_⟩=>by omega)];rfl
 by_cases c8:p.2.2.2.1>1099511627776
 ·rw[aj c6,aj c7,ai c8,no (fun⟨_,_,_,_,_,_,h,_⟩=>by omega)];rfl
 by_cases c9:p.2.2.2.2.1<1
 ·rw[aj c6,aj c7,aj c8,ai c9,no (fun⟨_,_,_,_,_,_,_,h,_⟩=>by omega)];rfl
 by_cases Ju:p.2.2.2.2.1>3
 ·rw[aj c6,aj c7,aj c8,aj c9,ai Ju,no (fun⟨_,_,_,_,_,_,_,_,_,h,_⟩=>by omega)];rfl
 rw[aj c6,aj c7,aj c8,aj c9,aj Ju]
 simp only[ao]
 by_cases vp:p.2.2.2.2.2.1<0
 ·rw[ai vp,no (fun⟨_,_,_,_,_,_,_,_,_,_,h,_⟩=>by omega)];rfl
 by_cases Kx:p.2.2.2.2.2.1>p.2.2.2.2.2.2
 ·rw[aj vp,ai Kx,no (fun⟨_,_,_,_,_,_,_,_,_,_,_,h,_⟩=>by omega)];rfl
 by_cases RO:p.2.2.2.2.2.2<t
 ·rw[aj vp,aj Kx,ai RO,no (fun⟨_,_,_,_,_,_,_,_,_,_,_,_,h,_⟩=>by omega)];rfl
 by_cases c14:p.2.2.2.2.2.2>1048576
 ·rw[aj vp,aj Kx,aj RO,ai c14,no (fun⟨_,_,_,_,_,_,_,_,_,_,_,_,_,h⟩=>by omega)];rfl
 rw[aj vp,aj Kx,aj RO,aj c14]
 have e:il r.1 t p=true:=by
  unfold il
  simp only[bN,Bool.not_eq_true',bI,decide_eq_false_iff_not]
  exact⟨⟨by omega,by omega⟩,⟨by omega,by omega⟩,by omega,by omega,by omega,by omega,c6,by omega,by omega,by omega,by omega,by omega⟩
 rw[e]
 rfl
def w6 (k:Nat)(r:qR)(s:qL)(who:Int)(p:zB):Option (Int×RJ):=
 (w5 k r s.t p).bind fun x1=>
 bif !(decide (x1=0)) then some (x1,qT r s who [] 0)
 else(w4 k s.ids p.1).bind fun x2=>
 bif !(decide (x2.2=0)) then some (x2.2,qT r s who [] 0)
 else(wz k s.m p.1 p.2.1 p.2.2.1 p.2.2.2.1 p.2.2.2.2.1 p.2.2.2.2.2.1 p.2.2.2.2.2.2).bind fun x3=>
 bif !(decide (x3.2=0)) then some (x3.2,qT r s who [] 0)
 else some (0,qT r {s with m:=x3.1,ids:=x2.1} who [] p.1)
theorem vMh {k:Nat}(hk:1000≤k){r:qR}(hr:jR r){s:qL}(h:jT s.B.1.length s.m s.ids)(who:Int)(f:jB):
  ∃d,Ky k (rk r s who) f.2=some ((jk r s who f).1,d)∧((jk r s who f).1=0→d=qT r {s with m:=(jk r s who f).2.1,ids:=(jk r s who f).2.2} who [] f.2.1):=by
 have hp:=hr.pa
 have hi:=h.idl
 have hm:=h.len
 have eD:Ky k (rk r s who) f.2=(qi k (qT r s who [] 0) f.2.2.1).bind fun x0=>
  bif decide (f.2.2.2.2.1 ≥ 1) then (bif decide (f.2.2.2.2.1≤3) then w6 k r s who (f.2.1,who,x0,f.2.2.2)
   else w6 k r s who (f.2.1,who,x0,f.2.2.2.1,0,f.2.2.2.2.2))
  else w6 k r s who (f.2.1,who,x0,f.2.2.2.1,0,f.2.2.2.2.2):=rfl
 have bad:∀p:zB,il r.1 s.t p=false→w6 k r s who p=some (1,qT r s who [] 0):=by
  intro p hp
  unfold w6
  rw[qWk]
  unfold lK
  rw[hp]
  rfl
 have Gv:∀p:zB,¬(p.2.2.1≥0∧p.2.2.2.2.1≥1)→il r.1 s.t p=false:=by
  intro p hn
  cases e:il r.1 s.t p with
  |false=>rfl
  |true=>
   unfold il at e
   simp only[bN,Bool.not_eq_true',bI,decide_eq_false_iff_not] at e
   obtain⟨_,⟨a3,_⟩,_,_,_,a8,_⟩:=e
   exact absurd ⟨a3,a8⟩ hn
 rw[eD,RK]
 simp only[ak]
 unfold jk
 by_cases RD:0≤f.2.2.1∧f.2.2.1<r.1
 ·rw[RM RD,ai (show f.2.2.1≥0 by omega),ai (show f.2.2.1≤r.1-1 by omega)]
  by_cases hc:f.2.2.2.2.1≥1∧f.2.2.2.2.1≤3
  ·rw[ai hc.1,ai hc.2]
   simp only[Bool.and_self,aY,ao,av]
   have ep:((f.2.1,who,f.2.2.1,f.2.2.2):zB)=fy who f:=rfl
   rw[ep]
   unfold w6
   rw[qWk]
   simp only[ak]
   by_cases hz:lK r s.t (fy who f)=0
   ·rw[ai hz]
    have e1:(fy who f).1=f.2.1:=rfl
    simp only[aY,ao]
    rw[e1,yYy (by omega) (by omega)]
    simp only[ak]
    by_cases h1:f.2.1∈s.ids
    ·rw[ai h1];exact⟨_,rfl,fun e=>by cases e⟩
    ·rw[aj h1]
     by_cases h2:200≤s.ids.length
     ·rw[ai h2];exact⟨_,rfl,fun e=>by cases e⟩
     ·rw[aj h2]
      have e3:=vEg (k:=k) (l:=s.m) (by omega) (by omega) (fy who f)
      rw[e1] at e3
      simp only[ao,decide_true,aY]
      rw[e3]
      simp only[ak]
      cases(vN s.m f.2.1).isSome with
      |true=>exact⟨_,rfl,fun e=>by cases e⟩
      |false=>
       by_cases h3:40≤s.m.length
       ·rw[ai h3];exact⟨_,rfl,fun e=>by cases e⟩
       ·rw[aj h3];exact⟨_,rfl,fun _=>rfl⟩
   ·rw[aj hz]
    exact⟨_,rfl,fun e=>absurd e hz⟩
  ·have e0:=bad (f.2.1,who,f.2.2.1,f.2.2.2.1,0,f.2.2.2.2.2) (Gv _ (fun h=>absurd (show(0:Int)≥1 from h.2) (by decide)))
   rw[e0]
   have g:(!(decide (f.2.2.2.2.1≥1)&&decide (f.2.2.2.2.1≤3)))=true:=by
    by_cases a:f.2.2.2.2.1≥1
    ·rw[ai a,aj (fun b=>hc ⟨a,b⟩)];rfl
    ·rw[aj a];rfl
   rw[g]
   refine⟨qT r s who [] 0,?_,fun e=>by cases e⟩
   by_cases a:f.2.2.2.2.1≥1
   ·rw[ai a,aj (fun b=>hc ⟨a,b⟩)];rfl
   ·rw[aj a];rfl
 ·have g:(!(decide (f.2.2.1≥0)&&decide (f.2.2.1≤r.1-1)))=true:=by
   by_cases a:f.2.2.1≥0
   ·rw[ai a,aj (show¬f.2.2.1≤r.1-1 by omega)];rfl
   ·rw[aj a];rfl
  have q:∀x:Int×Int×Int×Int,w6 k r s who (f.2.1,who,-1,x)=some (1,qT r s who [] 0):=fun x=>bad _ (Gv _ (fun h=>absurd (show(-1:Int)≥0 from h.1) (by decide)))
  rw[g,RN RD,q,q]
  refine⟨qT r s who [] 0,?_,fun e=>by cases e⟩
  cases decide (f.2.2.2.2.1≥1)<;>cases decide (f.2.2.2.2.1≤3)<;>rfl
theorem vL6 {k:Nat}(hk:1000≤k){r:qR}{s:qL}(h:jT s.B.1.length s.m s.ids)(who:Int)(f:jB)(hf:f.1=2∨f.1=3∨f.1=4):
    ∃d,w7 k (rk r s who) f.1 f.2=some ((kh r s who f).1,d)∧((kh r s who f).1=0→d=qT r {s with m:=(kh r s who f).2.1} who (kh r s who f).2.2 0):=by
  have hm:=h.len
  have mf:qW s.m:=by unfold qW;omega
  have eD : w7 k (rk r s who) f.1 f.2 = ((kO k s.m f.2.1).bind fun x0=>
      bif decide (x0<0) then some (((0,0,0,0,0,0,0):zB),false)
      else bif zE x0 s.m.length then (bif !(decide ((s.m.getD x0.toNat (0,0,0,0,0,0,0)).2.1=who)) then some ((0,0,0,0,0,0,0),false)
        else bif zE x0 s.m.length then some ((s.m.getD x0.toNat (0,0,0,0,0,0,0)),true)
        else none)
      else none).bind fun x0=>
    bif !x0.2 then some (4,qT r s who [] 0)
    else bif decide (f.1 = 2) then ((lM k s.m f.2.1).bind fun x1=>
      (jK k 20 [f.2.1]).bind fun x2=>
      some (0,qT r {s with m:=x1.1} who [(who,x2)] 0))
    else bif decide (f.1 = 3) then (bif decide (f.2.2.1 = 0) then ((Gs k s.m f.2.1).bind fun x3=>
       some (0,qT r {s with m:=x3.1} who [] 0))
      else bif decide (f.2.2.1 = 1) then ((Gr k s.m f.2.1).bind fun x4=>
       some (0,qT r {s with m:=x4.1} who [] 0))
      else some (1,qT r s who [] 0))
    else bif decide (f.2.2.1<1) then some (1,qT r s who [] 0)
    else bif decide (f.2.2.1>3) then some (1,qT r s who [] 0)
    else(Cq k r s.t f.2.2.1).bind fun x5=>
    bif !(decide (x5=0)) then some (x5,qT r s who [] 0)
    else(Gq k s.m f.2.1 f.2.2.1).bind fun x6=>
    some (0,qT r {s with m:=x6.1} who [] 0):=rfl
  rw[eD,Jt (by omega) (by omega)]
  unfold kh iK
  cases hx:vN s.m f.2.1 with
  |none=>exact⟨_,rfl,fun e=>by cases e⟩
  |some x=>
    have cw:=iL hx
    have e1:decide ((x:Int)<0)=false:=aj (by omega)
    simp only[ak,e1,ao,qG,ai cw.1,av,aB]
    by_cases hw:(s.m.getD x (0,0,0,0,0,0,0)).2.1=who
    · have BU:(s.m.getD x pd).2.1=who:=hw
      rw[ai hw]
      simp only[aY,ao,ak]
      by_cases h2:f.1=2
      · rw[ai h2]
        obtain⟨n,rfl⟩:∃n,k=n+5:=⟨k-5,by omega⟩
        have eo:jK (n+5) 20 [f.2.1]=some (20,f.2.1,0,0,0,0,0):=by kernel_rfl
        simp only[av,qh (show s.m.length<n+5 by omega) mf,ak,eo]
        unfold gh
        rw[hx]
        exact⟨_,rfl,fun _=>rfl⟩
      · rw[aj h2]
        simp only[ao]
        by_cases h3:f.1=3
        · rw[ai h3,aj (show¬f.1=4 by omega)]
          simp only[av,ao]
          by_cases h0:f.2.2.1=0
          · rw[ai h0]
            simp only[av,yYj (show s.m.length<k by omega) mf hx,ak]
            exact⟨_,rfl,fun _=>rfl⟩
          · rw[aj h0]
            simp only[ao]
            by_cases h1:f.2.2.1=1
            · rw[ai h1]
              simp only[av,vDn (show s.m.length<k by omega) mf hx,ak]
              exact⟨_,rfl,fun _=>rfl⟩
            · rw[aj h1]
              exact⟨_,rfl,fun e=>by cases e⟩
        · rw[aj h3,ai (show f.1=4 by omega)]
          simp only[ao,av,yR5,ak,vK5 (show s.m.length<k by omega) mf hx]
          by_cases c1:f.2.2.1<1
          · rw[ai c1,aj (show¬f.2.2.1≥1 by omega)]
            exact⟨_,rfl,fun e=>by cases e⟩
          · rw[aj c1,ai (show f.2.2.1≥1 by omega)]
            by_cases c2:f.2.2.1>3
            · rw[ai c2,aj (show¬f.2.2.1≤3 by omega)]
              exact⟨_,rfl,fun e=>by cases e⟩
            · rw[aj c2,ai (show f.2.2.1≤3 by omega)]
              simp only[Bool.and_self,aY,ao]
              by_cases hc:nB r.2.2.1 r.2.2.2.1 s.t f.2.2.1=0
              · rw[ai hc]
                exact⟨_,rfl,fun _=>rfl⟩
              · rw[aj hc]
                exact⟨_,rfl,fun e=>absurd e hc⟩
    · rw[aj hw]
      exact⟨_,rfl,fun e=>by cases e⟩
theorem vEf {k:Nat}(hk:1000≤k){r:qR}(hr:jR r){s:qL}(hb:qV s.B)(hn:(s.B.1.length:Int)=r.1){who:Int}(hw:0≤who∧who<r.1)(f:jB):
    ∃d,w8 k (rk r s who) f.1 f.2=some ((ki r s who f).1,d)∧((ki r s who f).1=0→d=qT r (ki r s who f).2 who [] 0):=by
  obtain⟨w,rfl⟩:=Int.eq_ofNat_of_zero_le hw.1
  have eI:w<s.B.1.length:=by omega
  have eD:w8 k (rk r s w) f.1 f.2=(mn k s.B.1 s.B.2.1 s.B.2.2.1 s.B.2.2.2).bind fun x0=>
    bif decide (f.1 = 5) then ((qi k (qT r s w [] 0) f.2.1).bind fun x1=>
      bif decide (x1<0) then some (1,qT r s w [] 0)
      else bif decide (x1=(w:Int)) then some (1,qT r s w [] 0)
      else bif decide (f.2.2.1<(-1)) then some (1,qT r s w [] 0)
      else bif decide (f.2.2.1>1152921504606846976) then some (1,qT r s w [] 0)
      else bif zE (w : Int) x0.2.1.length then (bif zE x1 (x0.2.1.getD (w:Int).toNat []).length then
        some (0,qT r {s with B:=(x0.1,(x0.2.1.set (w:Int).toNat ((x0.2.1.getD (w:Int).toNat []).set x1.toNat f.2.2.1)),x0.2.2.1,x0.2.2.2)} w [] 0)
       else none)
      else none)
    else bif decide (f.1 = 6) then (bif decide (f.2.1<(-1)) then some (1,qT r s w [] 0)
      else bif decide (f.2.1>1152921504606846976) then some (1,qT r s w [] 0)
      else bif zE (w:Int) x0.2.2.1.length then some (0,qT r {s with B:=(x0.1,x0.2.1,(x0.2.2.1.set (w:Int).toNat f.2.1),x0.2.2.2)} w [] 0)
      else none)
    else bif decide (f.2.1<0) then some (1,qT r s w [] 0)
    else bif decide (f.2.1>1152921504606846976) then some (1,qT r s w [] 0)
    else bif zE (w:Int) x0.1.length then some (0,qT r {s with B:=((x0.1.set (w:Int).toNat ((x0.1.getD (w:Int).toNat (0,0,0)).1,(x0.1.getD (w:Int).toNat (0,0,0)).2.1,f.2.1)),x0.2.1,x0.2.2.1,x0.2.2.2)} w [] 0)
    else none:=rfl
  rw[eD,EN (by omega) hb.toSized,RK]
  simp only[ak,qG,aB]
  have two:∀a b:Int,∀x:Int,decide (x<a)= !decide (x≥a)∧decide (x>b)= !decide (x≤b):=by
    intro a b x
    constructor
    · by_cases h:x<a
      · rw[ai h,aj (show¬x≥a by omega)];rfl
      · rw[aj h,ai (show x≥a by omega)];rfl
    · by_cases h:x>b
      · rw[ai h,aj (show¬x≤b by omega)];rfl
      · rw[aj h,ai (show x≤b by omega)];rfl
  unfold ki
  rw[aB,(two (-1) 1152921504606846976 f.2.2.1).1,(two (-1) 1152921504606846976 f.2.2.1).2,(two (-1) 1152921504606846976 f.2.1).1,(two (-1) 1152921504606846976 f.2.1).2,(two 0 0 f.2.1).1]
  by_cases h5:f.1=5
  · rw[ai h5]
    simp only[av]
    by_cases hc:0≤f.2.1∧f.2.1<r.1
    · rw[RM hc,ai (show f.2.1≥0 by omega),ai (show f.2.1≤r.1-1 by omega),aj (show¬f.2.1<0 by omega)]
      have b1:decide (w<s.B.2.1.length)=true:=ai (by rw[hb.bl];exact eI)
      have b2:zE f.2.1 (s.B.2.1.getD w []).length=true:=uX hc.1 (by rw[hb.br w eI];omega)
      rw[b1,b2]
      cases decide (f.2.1=(w:Int)) with
      |true=>exact⟨_,rfl,fun e=>by cases e⟩
      |false=>
        cases decide (f.2.2.1≥-1) with
        |false=>exact⟨_,rfl,fun e=>by cases e⟩
        |true=>
          cases decide (f.2.2.1≤1152921504606846976) with
          |false=>exact⟨_,rfl,fun e=>by cases e⟩
          |true=>exact⟨_,rfl,fun _=>rfl⟩
    · rw[RN hc]
      have g:(decide (f.2.1≥0)&&decide (f.2.1≤r.1-1))=false:=by
        by_cases a:f.2.1≥0
        · rw[ai a,aj (show¬f.2.1≤r.1-1 by omega)];rfl
        · rw[aj a];rfl
      rw[g]
      exact⟨_,rfl,fun e=>by cases e⟩
  · rw[aj h5]
    simp only[ao]
    by_cases h6:f.1=6
    · rw[ai h6]
      have b1:decide (w<s.B.2.2.1.length)=true:=ai (by rw[hb.ml];exact eI)
      rw[b1]
      cases decide (f.2.1≥-1) with
      |false=>exact⟨_,rfl,fun e=>by cases e⟩
      |true=>
        cases decide (f.2.1≤1152921504606846976) with
        |false=>exact⟨_,rfl,fun e=>by cases e⟩
        |true=>exact⟨_,rfl,fun _=>rfl⟩
    · rw[aj h6]
      have b1:decide (w<s.B.1.length)=true:=ai eI
      rw[b1]
      cases decide (f.2.1≥0) with
      |false=>exact⟨_,rfl,fun e=>by cases e⟩
      |true=>
        cases decide (f.2.1≤1152921504606846976) with
        |false=>exact⟨_,rfl,fun e=>by cases e⟩
        |true=>exact⟨_,rfl,fun _=>rfl⟩
theorem yUx {k:Nat}{l:List Int}(hl:l.length≤1000){i:Nat}(h1:i<l.length)(v:Int):ql k l i v=some (l.set i v):=by
 unfold ql
 rw[yE (n:=0+l.length) (by omega) (by omega),ai (show(i:Int)≥0 by omega),ai (show(i:Int)<(l.length:Int) by omega),qG,ai h1,aB]
 rfl
theorem vJw {r:qR}(hr:jR r){s:qL}(h:yV r s){who:Int}(hw:0≤who∧who<r.1)(a many:Int):
    ∃d,Kz 1000 (rk r s who) a many=some ((kj r s who a many).1,d)∧((kj r s who a many).1=0→d=qT r (kj r s who a many).2 who [] 0):=by
  have h3:=hr.n3
  have hn:=h.n
  have eY:=h.bk.n6
  have hol:=h.hol
  obtain⟨w,rfl⟩:=Int.eq_ofNat_of_zero_le hw.1
  have eI:w<s.B.1.length:=by omega
  have eD:Kz 1000 (rk r s w) a many=
    bif decide (a<0) then some (1,qT r s w [] 0)
    else bif decide (a≥(r.2.1.length:Int)) then some (1,qT r s w [] 0)
    else bif decide (many<0) then some (1,qT r s w [] 0)
    else bif decide (many>1099511627776) then some (1,qT r s w [] 0)
    else bif zE (w : Int) s.ho.length then ((ql 1000 (s.ho.getD (w:Int).toNat []) a many).bind fun x0=>
      (wx 1000 r.2.1 s.pr x0).bind fun x1=>
      bif !x1.2 then some (8,qT r s w [] 0)
      else bif decide (x1.1>1152921504606846976) then some (8,qT r s w [] 0)
      else(mn 1000 s.B.1 s.B.2.1 s.B.2.2.1 s.B.2.2.2).bind fun x2=>
      bif zE (w : Int) x2.1.length then (bif decide (x1.1 < (x2.1.getD (w : Int).toNat (0, 0, 0)).2.1) then (bif decide ((zA ((x2.1.getD (w:Int).toNat (0,0,0)).1+x1.1))<0) then some (9,qT r s w [] 0)
         else bif zE (w:Int) x2.1.length then(
          bif zW (0 + s.ho.length) 24 then (bif zE (w:Int) s.ho.length then
           some (0,qT r {s with B:=((x2.1.set (w:Int).toNat ((x2.1.getD (w:Int).toNat (0,0,0)).1,x1.1,(x2.1.getD (w:Int).toNat (0,0,0)).2.2)),x2.2.1,x2.2.2.1,x2.2.2.2),ho:=s.ho.set (w:Int).toNat x0} w [] 0)
           else none)
          else none)
         else none)
        else bif zE (w:Int) x2.1.length then(
         bif zW (0 + s.ho.length) 24 then (bif zE (w:Int) s.ho.length then
           some (0,qT r {s with B:=((x2.1.set (w:Int).toNat ((x2.1.getD (w:Int).toNat (0,0,0)).1,x1.1,(x2.1.getD (w:Int).toNat (0,0,0)).2.2)),x2.2.1,x2.2.2.1,x2.2.2.2),ho:=s.ho.set (w:Int).toNat x0} w [] 0)
          else none)
         else none)
        else none)
      else none)
    else none:=rfl
  rw[eD,EN (by omega) h.bk.toSized]
  simp only[ak,qG,aB]
  unfold kj
  simp only[aB]
  by_cases c1:a<0
  · rw[ai c1,aj (show¬a≥0 by omega)]
    exact⟨_,rfl,fun e=>by cases e⟩
  rw[aj c1,ai (show a≥0 by omega)]
  by_cases c2:a≥(r.2.1.length:Int)
  · rw[ai c2,aj (show¬a≤(r.2.1.length:Int)-1 by omega)]
    exact⟨_,rfl,fun e=>by cases e⟩
  rw[aj c2,ai (show a≤(r.2.1.length:Int)-1 by omega)]
  by_cases c3:many<0
  · rw[ai c3,aj (show¬many≥0 by omega)]
    exact⟨_,rfl,fun e=>by cases e⟩
  rw[aj c3,ai (show many≥0 by omega)]
  by_cases c4:many>1099511627776
  · rw[ai c4,aj (show¬many≤1099511627776 by omega)]
    exact⟨_,rfl,fun e=>by cases e⟩
  rw[aj c4,ai (show many≤1099511627776 by omega)]
  obtain⟨i,rfl⟩:=Int.eq_ofNat_of_zero_le (show 0≤a by omega)
  have hi:i<r.2.1.length:=by omega
  have L:=h.laid w eI
  have L2:=L.set hi (v:=many) ⟨by omega,by omega⟩
  have b1:decide (w<s.ho.length)=true:=ai (by omega)
  have b2:decide (w<s.B.1.length)=true:=ai eI
  have kk:ql 1000 (s.ho.getD w []) (i:Int) many=some ((s.ho.getD w []).set i many):=yUx (by rw[L.hl];omega) (by rw[L.hl];omega) many
  have hv:=yOc L2
  have hb:=h.bk.nums.bal w eI
  have uj:=Bf L2
  have e24:zW (0+s.ho.length) 24=true:=yE (by omega) (by omega)
  simp only[Bool.and_self,aY,ao,b1,av,kk,ak,hv,b2,aB,e24]
  clear hv L2 eD
  generalize kb r.2.1 s.pr ((s.ho.getD w []).set i many)=n at uj⊢
  unfold FT
  cases Rk:decide (n>1152921504606846976) with
  |true=>exact⟨_,rfl,fun e=>by cases e⟩
  |false=>
    have h8:¬n>1152921504606846976:=jh Rk
    have w2:zA ((s.B.1.getD w (0,0,0)).1+n)=(s.B.1.getD w (0,0,0)).1+n:=zV (by have:=hb.1;simp only[ad] at this;omega) (by have:=hb.2;simp only[ad] at this;omega)
    simp only[w2,ao]
    cases decide (n<(s.B.1.getD w (0,0,0)).2.1) with
    |false=>exact⟨_,rfl,fun _=>rfl⟩
    |true=>
      cases decide ((s.B.1.getD w (0,0,0)).1+n<0) with
      |true=>exact⟨_,rfl,fun e=>by cases e⟩
      |false=>exact⟨_,rfl,fun _=>rfl⟩
theorem In9 {k:Nat}{a:qN}(ha:-4611686018427387904<a.1∧a.1<4611686018427387904){n:Int}(hn:1≤n∧n≤1099511627776):Cr k a n=some (wR a n):=by
 unfold Cr wR Cd
 rw[ai (show n>0 by omega),zV (x:=9223372036854775807-n) (by omega) (by omega),aj (show¬a.1>9223372036854775807-n by omega),aj (show¬n<0 by omega),zV (x:=a.1+n) (by omega) (by omega)]
 simp only[av,ao,ak,aY,P3]
 cases jJ (a.1+n,a.2.1,a.2.2)<;>rfl
theorem yZj {r:qR}(hr:jR r){s:qL}(h:yV r s)(who kd to n:Int)(IA:kd=10∨kd=11):
    ∃d,Ct 1000 (rk r s who) (decide (kd=10)) to n=some ((iP r s kd to n).1,d)∧((iP r s kd to n).1=0→d=qT r (iP r s kd to n).2 who [] 0):=by
  have hn:=h.n
  have ht:=h.tot
  have eD:Ct 1000 (rk r s who) (decide (kd=10)) to n=(qi 1000 (qT r s who [] 0) to).bind fun x0=>
    bif decide (x0<0) then some (1,qT r s who [] 0)
    else bif decide (n<1) then some (1,qT r s who [] 0)
    else bif decide (n>1099511627776) then some (1,qT r s who [] 0)
    else(mn 1000 s.B.1 s.B.2.1 s.B.2.2.1 s.B.2.2.2).bind fun x1=>
    bif decide (kd = 10) then (bif zE x0 x1.1.length then ((Cr 1000 (x1.1.getD x0.toNat (0,0,0)) n).bind fun x2=>
      bif decide ((zA (s.to+n))>1152921504606846976) then some (8,qT r s who [] 0)
      else bif !(decide (x2.2=0)) then some (8,qT r s who [] 0)
      else bif zE x0 x1.1.length then some (0,qT r {s with B:=((x1.1.set x0.toNat x2.1),x1.2.1,x1.2.2.1,x1.2.2.2),to:=zA (s.to+n)} who [] 0)
      else none)
     else none)
    else bif zE x0 x1.1.length then (bif decide ((zA ((zA ((x1.1.getD x0.toNat (0,0,0)).1+(x1.1.getD x0.toNat (0,0,0)).2.1))-(x1.1.getD x0.toNat (0,0,0)).2.2))<n) then some (9,qT r s who [] 0)
     else bif decide (s.to<n) then some (9,qT r s who [] 0)
     else bif zE x0 x1.1.length then
      some (0,qT r {s with B:=((x1.1.set x0.toNat ((zA ((x1.1.getD x0.toNat (0,0,0)).1-n)),(x1.1.getD x0.toNat (0,0,0)).2)),x1.2.1,x1.2.2.1,x1.2.2.2),to:=zA (s.to-n)} who [] 0)
     else none)
    else none:=rfl
  rw[eD,RK,EN (by omega) h.bk.toSized]
  simp only[ak]
  unfold iP
  by_cases hc:0≤to∧to<r.1
  · rw[RM hc,aj (show¬to<0 by omega),ai (show to≥0 by omega),ai (show to≤r.1-1 by omega)]
    by_cases c1:n<1
    · rw[ai c1,aj (show¬n≥1 by omega)]
      exact⟨_,rfl,fun e=>by cases e⟩
    rw[aj c1,ai (show n≥1 by omega)]
    by_cases c2:n>1099511627776
    · rw[ai c2,aj (show¬n≤1099511627776 by omega)]
      exact⟨_,rfl,fun e=>by cases e⟩
    rw[aj c2,ai (show n≤1099511627776 by omega)]
    obtain⟨i,rfl⟩:=Int.eq_ofNat_of_zero_le hc.1
    have hi:i<s.B.1.length:=by omega
    have hb:=h.bk.nums.bal i hi
    have iI:=h.bk.nums.res i hi
    have hcr:=h.most i hi
    have Rm:0≤(s.B.1.getD i ad).2.1:=by rw[h.cred i hi];exact Bf (h.laid i hi)
    have RP:=qe.1 (h.bk.acct i hi)
    have b0:zE (i:Int) s.B.1.length=true:=by rw[qG,ai hi]
    have q2:zA (s.to-n)=s.to-n:=zV (by omega) (by omega)
    have q3:zA (s.to+n)=s.to+n:=zV (by omega) (by omega)
    have FY:Cr 1000 (s.B.1.getD i (0,0,0)) n=some (wR (s.B.1.getD i ad) n):=In9 hb ⟨by omega,by omega⟩
    simp only[Bool.and_self,aY,ao,b0,av,aB,FY,ak,q2,q3]
    clear FY eD
    rcases IA with e|e
    · rw[ai e,aj (show¬kd=11 by omega)]
      simp only[av,ao]
      unfold FX
      cases hz:decide ((wR (s.B.1.getD i ad) n).2=0) with
      |false=>
        have e8:(wR (s.B.1.getD i ad) n).2=8:=by
          have:=jh hz
          unfold wR at this⊢
          cases hx:jJ ((s.B.1.getD i ad).1+n,(s.B.1.getD i ad).2.1,(s.B.1.getD i ad).2.2) with
          |true=>rw[hx] at this;exact absurd rfl this
          |false=>rfl
        rw[e8]
        cases decide (s.to+n>1152921504606846976)<;>exact⟨_,rfl,fun e=>by cases e⟩
      |true=>
        cases decide (s.to+n>1152921504606846976) with
        |true=>exact⟨_,rfl,fun e=>by cases e⟩
        |false=>exact⟨_,rfl,fun _=>rfl⟩
    · rw[aj (show¬kd=10 by omega),ai e]
      simp only[av,ao]
      unfold FW
      have q1:zA ((s.B.1.getD i (0,0,0)).1+(s.B.1.getD i (0,0,0)).2.1)=(s.B.1.getD i ad).1+(s.B.1.getD i ad).2.1:=zV (by simp only[ad] at*;omega) (by simp only[ad] at*;omega)
      have q4:zA ((s.B.1.getD i ad).1+(s.B.1.getD i ad).2.1-(s.B.1.getD i (0,0,0)).2.2)=(s.B.1.getD i ad).1+(s.B.1.getD i ad).2.1-(s.B.1.getD i ad).2.2:=zV (by simp only[ad] at*;omega) (by simp only[ad] at*;omega)
      have q5:zA ((s.B.1.getD i (0,0,0)).1-n)=(s.B.1.getD i ad).1+-n:=by rw[zV (by simp only[ad] at*;omega) (by simp only[ad] at*;omega)];rfl
      simp only[q1,q4,q5]
      by_cases c5:(s.B.1.getD i ad).1+(s.B.1.getD i ad).2.1-(s.B.1.getD i ad).2.2<n
      · rw[ai c5];exact⟨_,rfl,fun e=>by cases e⟩
      rw[aj c5]
      by_cases c6:s.to<n
      · rw[ai c6,ai (show s.to-n<0 by omega)];exact⟨_,rfl,fun e=>by cases e⟩
      rw[aj c6,aj (show¬s.to-n<0 by omega),aj (show¬s.to-n>1152921504606846976 by omega)]
      have em:wR (s.B.1.getD i ad) (-n)=(((s.B.1.getD i ad).1+-n,(s.B.1.getD i ad).2.1,(s.B.1.getD i ad).2.2),0):=by
        unfold wR
        have:jJ ((s.B.1.getD i ad).1+-n,(s.B.1.getD i ad).2.1,(s.B.1.getD i ad).2.2)=true:=qe.2 ⟨by simp only;omega,RP.2⟩
        rw[this];rfl
      rw[em]
      exact⟨_,rfl,fun _=>rfl⟩
  · rw[RN hc]
    have g:(decide (to≥0)&&decide (to≤r.1-1))=false:=by
      by_cases a:to≥0
      · rw[ai a,aj (show¬to≤r.1-1 by omega)];rfl
      · rw[aj a];rfl
    rw[g]
    exact⟨_,rfl,fun e=>by cases e⟩
theorem vGk {r:qR}{s:qL}(who:Int){pr:List Int}(hL:∀i,i<s.B.1.length→ik r.2.1 pr (s.ho.getD i []))(hol:s.ho.length=s.B.1.length)(eY:s.B.1.length≤6):
  (qK (fun j=> !decide (jN r.2.1 pr s.ho j>1152921504606846976)) s.B.1.length 0=true∧qm 1000 1000 0 (rk r s who) pr s.B.1 s.B.2.1 s.B.2.2.1 s.B.2.2.2=some (.inl (rk r s who,pr,gJ r.2.1 pr s.ho s.B.1,s.B.2.1,s.B.2.2.1,s.B.2.2.2)))∨
  (qK (fun j=> !decide (jN r.2.1 pr s.ho j>1152921504606846976)) s.B.1.length 0=false∧qm 1000 1000 0 (rk r s who) pr s.B.1 s.B.2.1 s.B.2.2.1 s.B.2.2.2=some (.inr (8,rk r s who))):=by
 have:=Je (L:=fun n i (a:List qN)=>qm 1000 n i (rk r s who) pr a s.B.2.1 s.B.2.2.1 s.B.2.2.2) (N:=s.B.1.length) (fun j=> !decide (jN r.2.1 pr s.ho j>1152921504606846976))
  (fun a=>.inl (rk r s who,pr,a,s.B.2.1,s.B.2.2.1,s.B.2.2.2)) (.inr (8,rk r s who))
  (fun i a => a.length = s.B.1.length ∧ ∀ j, j < s.B.1.length → a.getD j ad = if j < i then ((s.B.1.getD j ad).1, jN r.2.1 pr s.ho j, (s.B.1.getD j ad).2.2) else s.B.1.getD j ad) (fun n a ha=>by
   show Cu 1000 _ s.B.1.length (rk r s who) pr a s.B.2.1 s.B.2.2.1 s.B.2.2.2=_
   unfold Cu
   rw[ha.1]
   simp only [zU, aj (Nat.lt_irrefl _), ao]) (fun n i a hi ha=>by
   have hv:=yOc (hL i hi)
   have aH:qm 1000 (n+1) i (rk r s who) pr a s.B.2.1 s.B.2.2.1 s.B.2.2.2=bif decide (jN r.2.1 pr s.ho i>1152921504606846976) then some (.inr (8,rk r s who)) else qm 1000 n ((i+1:Nat):Int) (rk r s who) pr (a.set i ((a.getD i ad).1,jN r.2.1 pr s.ho i,(a.getD i ad).2.2)) s.B.2.1 s.B.2.2.1 s.B.2.2.2:=by
    show Cu 1000 _ i (rk r s who) pr a s.B.2.1 s.B.2.2.1 s.B.2.2.2=_
    unfold Cu
    have gy:wx 1000 (rk r s who).2.1 pr (s.ho.getD i [])=some (jN r.2.1 pr s.ho i,true):=hv
    have eh:(rk r s who).2.2.2.2.2.2.2.2.2.2.2.1=s.ho:=rfl
    simp only[eh,zU,qG,aB,ai hi,ai (show i<s.ho.length by omega),ai (show i<a.length by rw[ha.1];exact hi),av,gy,ak,aY,ao,qO hi (show s.B.1.length<9223372036854775808 by omega)]
    rfl
   refine⟨fun ho=>?_,fun ho=>?_⟩
   ·have h1:decide (jN r.2.1 pr s.ho i>1152921504606846976)=false:=by simpa using ho
    refine⟨_,by rw[aH,h1];rfl,by rw[List.length_set];exact ha.1,fun j hj=>?_⟩
    rw[wL]
    by_cases e:i=j
    ·subst e
     rw[if_pos ⟨rfl,by rw[ha.1];exact hi⟩,if_pos (by omega),ha.2 i hi,if_neg (Nat.lt_irrefl _)]
    ·rw[if_neg (by omega),ha.2 j hj]
     by_cases h:j<i
     ·rw[if_pos h,if_pos (by omega)]
     ·rw[if_neg h,if_neg (by omega)]
   ·have h1:decide (jN r.2.1 pr s.ho i>1152921504606846976)=true:=by simpa using ho
    rw[aH,h1];rfl) s.B.1.length 0 1000 s.B.1 (by omega) (by omega) ⟨rfl,fun j _=>by rw[if_neg (Nat.not_lt_zero _)]⟩
 rcases this with⟨h1,a,h2,h3,h4⟩|⟨h1,h2⟩
 ·refine .inl ⟨h1,?_⟩
  have e:a=gJ r.2.1 pr s.ho s.B.1:=yz ad (by rw[h3,Rn]) fun j hj=>by
   rw[h3] at hj
   rw[h4 j hj,if_pos hj,Ro _ _ _ _ hj]
  rw[←e]
  exact h2
 ·exact .inr ⟨h1,h2⟩
theorem vQ6 {r:qR}(hr:jR r){s:qL}(h:yV r s)(who a p:Int):
  ∃d,KA 1000 (rk r s who) a p=some ((kl r s a p).1,d)∧((kl r s a p).1=0→d=qT r (kl r s a p).2 who [] 0):=by
 have h3:=hr.n3
 have eY:=h.bk.n6
 have kI:=h.bk.n1
 have eD:KA 1000 (rk r s who) a p=
  bif decide (a<0) then some (1,qT r s who [] 0)
  else bif decide (a≥(r.2.1.length:Int)) then some (1,qT r s who [] 0)
  else bif decide (p<0) then some (1,qT r s who [] 0)
  else bif decide (p>1048576) then some (1,qT r s who [] 0)
  else(ql 1000 s.pr a p).bind fun x0=>
  (mn 1000 s.B.1 s.B.2.1 s.B.2.2.1 s.B.2.2.2).bind fun x1=>
  (qm 1000 1000 0 (rk r s who) x0 x1.1 x1.2.1 x1.2.2.1 x1.2.2.2).bind fun z=>
  match z with
  |.inl z1=>some (0,(wT z1.1 (wi z1 (z1.2.1,(yUh z1.1 ([],z1.1.2.2.2.2.2.2.2.2.2.2.2.2.2.2.2.2.2))))))
  |.inr z2=>some (yM7 z2 ([],z2.2.2.2.2.2.2.2.2.2.2.2.2.2.2.2.2.2.2)):=rfl
 rw[eD,EN (by omega) h.bk.toSized]
 simp only[ak]
 unfold kl
 by_cases c1:a<0
 ·rw[ai c1,aj (show¬a≥0 by omega)]
  exact⟨_,rfl,fun e=>by cases e⟩
 rw[aj c1,ai (show a≥0 by omega)]
 by_cases c2:a≥(r.2.1.length:Int)
 ·rw[ai c2,aj (show¬a≤(r.2.1.length:Int)-1 by omega)]
  exact⟨_,rfl,fun e=>by cases e⟩
 rw[aj c2,ai (show a≤(r.2.1.length:Int)-1 by omega)]
 by_cases c3:p<0
 ·rw[ai c3,aj (show¬p≥0 by omega)]
  exact⟨_,rfl,fun e=>by cases e⟩
 rw[aj c3,ai (show p≥0 by omega)]
 by_cases c4:p>1048576
 ·rw[ai c4,aj (show¬p≤1048576 by omega)]
  exact⟨_,rfl,fun e=>by cases e⟩
 rw[aj c4,ai (show p≤1048576 by omega)]
 obtain⟨i,rfl⟩:=Int.eq_ofNat_of_zero_le (show 0≤a by omega)
 have hi:i<r.2.1.length:=by omega
 have L0:=h.laid 0 (by omega)
 have kk:ql 1000 s.pr (i:Int) p=some (s.pr.set i p):=yUx (by rw[L0.pl];omega) (by rw[L0.pl];omega) p
 simp only[Bool.and_self,aY,ao,kk,ak,aB]
 unfold F0
 rcases vGk (r:=r) (s:=s) who (pr:=s.pr.set i p) (fun j hj=>(h.laid j hj).setP hi ⟨by omega,by omega⟩) h.hol eY with⟨g1,g2⟩|⟨g1,g2⟩
 ·rw[g2,g1]
  exact⟨_,rfl,fun _=>rfl⟩
 ·rw[g2,g1]
  exact⟨_,rfl,fun e=>by cases e⟩
theorem vR4 {k:Nat}(hk:100<k){B:BT}(h:qV B){l:List zB}(hl:l.length≤80):E7 k B.1 B.2.1 B.2.2.1 B.2.2.2 l=some (oF B l):=vH2 hk h hl
theorem KB {k:Nat}(hk:100<k){B:BT}(h:qV B){l:List zB}(hl:l.length≤80):
  ∃C:BT,qn k B.1 B.2.1 B.2.2.1 B.2.2.2 l=some (C.1,C.2.1,C.2.2.1,C.2.2.2,(fu k B l).isSome)∧(∀D,fu k B l=some D→D=C):=by
 obtain⟨r,h1,h2,h3⟩:=Bg hk h hl
 unfold qn fu
 rw[h2,h1,vR4 hk h hl]
 refine⟨(r.1,r.2.1,r.2.2.1,r.2.2.2.1),?_,?_⟩
 ·simp only[ak]
  cases decide (r.2.2.2.2=0)<;>cases oF B l<;>rfl
 ·intro D
  simp only
  cases decide (r.2.2.2.2=0)<;>cases oF B l<;>intro e<;>cases e
  rfl
theorem yQ5 {k:Nat}(hk:100<k){B:BT}(h:qV B)(m:List zB)(hm:m.length≤1000):∀c i n,i+c=m.length→c<n→
  Gw k n i B.1 B.2.1 B.2.2.1 B.2.2.2 0 0 0 0 0 0 0 m = some (match jL k B (m.drop i) with
   |some (p,C)=>.inr (true,p.1,p.2.1,p.2.2.1,p.2.2.2.1,p.2.2.2.2.1,p.2.2.2.2.2.1,p.2.2.2.2.2.2)
   |none=>.inl (0,0,0,0,0,0,0))
 |0,i,n,e,hn=>by
  obtain⟨n,rfl⟩:∃x,n=x+1:=⟨n-1,by omega⟩
  have:i=m.length:=by omega
  subst this
  show Cv k _ m.length B.1 B.2.1 B.2.2.1 B.2.2.2 0 0 0 0 0 0 0 m=_
  unfold Cv
  simp only[zU,aj (Nat.lt_irrefl _),ao,List.drop_length]
  rfl
 |c+1,i,n,e,hn=>by
  obtain⟨n,rfl⟩:∃x,n=x+1:=⟨n-1,by omega⟩
  have hi:i<m.length:=by omega
  have ih:=yQ5 hk h m hm c (i+1) n (by omega) (by omega)
  show Cv k _ i B.1 B.2.1 B.2.2.1 B.2.2.2 0 0 0 0 0 0 0 m=_
  unfold Cv
  obtain⟨C,h1,h2⟩:=KB hk h (l:=[m.getD i pd]) (by simp)
  have c1:decide ((0:Int)≤(i:Int))=true:=by simp
  have c2:decide ((i:Int)≤((i+1:Nat):Int))=true:=ai (by omega)
  have c3:decide (((i+1:Nat):Int)≤(m.length:Int))=true:=ai (by omega)
  simp only[qG,qO hi (show m.length<9223372036854775808 by omega),zU,aB,ai hi,av,c1,c2,c3,Bool.and_true,vH3 m i hi,h1,ak]
  rw[qWu k B hi]
  cases fu k B [m.getD i pd] with
  |none=>exact ih
  |some D=>rfl
theorem yEc {k : Nat} (hk : 100 < k) {B : BT} (h : qV B) {l : List zB} (bP : l.length < k) (hl : qW l) (t : Int) : KC k B.1 B.2.1 B.2.2.1 B.2.2.2 l t = some (match jL k B (vM l t) with
   |some (p,C)=>(p.1,p.2.1,p.2.2.1,p.2.2.2.1,p.2.2.2.2.1,p.2.2.2.2.2.1,p.2.2.2.2.2.2,true)
   |none=>(0,0,0,0,0,0,0,false)):=by
 unfold KC
 rw[yE0 bP hl]
 have Bj:=JI l t
 unfold qW at hl
 have:=yQ5 hk h (vM l t) (by omega) (vM l t).length 0 k (by omega) (by omega)
 have e:((0:Nat):Int)=0:=rfl
 rw[e,List.drop_zero] at this
 simp only[ak]
 rw[this]
 cases jL k B (vM l t) with
 |none=>rfl
 |some x=>rfl
theorem vF7 {k:Nat}(hk:100<k)(t:Int){B C:BT}{l m done:List zB}(h:fM k t B l done C m):∀(n:Nat) (r:List zB),qV B→l.length≤100→l.length<n→r.length+l.length≤1000→
  Gx k n l t B.1 B.2.1 B.2.2.1 B.2.2.2 r=some (m,C.1,C.2.1,C.2.2.1,C.2.2.2,r++done):=by
 induction h with
 |@stop B l hx=>
  intro n r hb hl hn hr
  obtain⟨n,rfl⟩:∃x,n=x+1:=⟨n-1,by omega⟩
  have h2:=yEc hk hb (l:=l) (by omega) (by show l.length≤1000;omega) t
  rw[hx] at h2
  show Cw k _ l t B.1 B.2.1 B.2.2.1 B.2.2.2 r=_
  unfold Cw
  rw[h2]
  simp only[ak,dX,av,List.append_nil]
 |@step B C D l m done p hx _ ih=>
  intro n r hb hl hn hr
  obtain⟨n,rfl⟩:∃x,n=x+1:=⟨n-1,by omega⟩
  have h2:=yEc hk hb (l:=l) (by omega) (by show l.length≤1000;omega) t
  rw[hx] at h2
  obtain⟨hp,hg⟩:=vu hx
  have ug:=Bh hp
  obtain⟨pc,lr⟩:=pV ug
  obtain⟨nb,cz⟩:=oG hk hb (by simp) hg
  have g2:=ih n (r++[p]) nb (by omega) (by omega) (by rw[List.length_append];simp;omega)
  show Cw k _ l t B.1 B.2.1 B.2.2.1 B.2.2.2 r=_
  unfold Cw
  rw[h2]
  obtain⟨C',e1,e2⟩:=KB hk hb (l:=[p]) (by simp)
  have:=e2 C hg
  subst this
  simp only[ak,aY,ao,qh (show l.length<k by omega) (show qW l by show l.length≤1000;omega),kN (show r.length≤1000 by omega),av]
  rw[List.append_cons r p done,←g2]
  have Gy:qn k B.1 B.2.1 B.2.2.1 B.2.2.2 [(p.1,p.2.1,p.2.2.1,p.2.2.2.1,p.2.2.2.2.1,p.2.2.2.2.2.1,p.2.2.2.2.2.2)]=_:=e1
  rw[Gy]
  rfl
theorem yGl {k:Nat}(hk:200≤k){B C:BT}(hb:qV B){l m done:List zB}(hl:l.length≤100){t:Int}(h:fM k t B l done C m):KD k B.1 B.2.1 B.2.2.1 B.2.2.2 l t=some (C.1,C.2.1,C.2.2.1,C.2.2.2,m,done):=by
 unfold KD
 rw[vF7 (by omega) t h k [] hb hl (by omega) (by simp;omega)]
 rfl
def RQ (x:Option (zB×zB×BT)):Int×Int×Int×Int×Int×Int×Int×Int×Int×Int×Int×Int×Int×Int×Bool:=match x with
 |some (p,q,C)=>(p.1,p.2.1,p.2.2.1,p.2.2.2.1,p.2.2.2.2.1,p.2.2.2.2.2.1,p.2.2.2.2.2.2,q.1,q.2.1,q.2.2.1,q.2.2.2.1,q.2.2.2.2.1,q.2.2.2.2.2.1,q.2.2.2.2.2.2,true)
 |none=>(0,0,0,0,0,0,0,0,0,0,0,0,0,0,false)
theorem qXb {k:Nat}(hk:100<k){B:BT}(h:qV B)(m:List zB)(hm:m.length≤1000){j:Nat}(hj:j<m.length):∀c i n,i+c=m.length→c<n→
  Gz k n j i B.1 B.2.1 B.2.2.1 B.2.2.2 0 0 0 0 0 0 0 0 0 0 0 0 0 0 m = some (match mu k B (m.getD j pd) (m.drop i) with
   |some (q,C)=>.inr (true,(m.getD j pd).1,(m.getD j pd).2.1,(m.getD j pd).2.2.1,(m.getD j pd).2.2.2.1,(m.getD j pd).2.2.2.2.1,(m.getD j pd).2.2.2.2.2.1,(m.getD j pd).2.2.2.2.2.2,q.1,q.2.1,q.2.2.1,q.2.2.2.1,q.2.2.2.2.1,q.2.2.2.2.2.1,q.2.2.2.2.2.2)
   |none=>.inl ((j:Int),B.1,B.2.1,B.2.2.1,B.2.2.2,0,0,0,0,0,0,0,0,0,0,0,0,0,0,m))
 |0,i,n,e,hn=>by
  obtain⟨n,rfl⟩:∃x,n=x+1:=⟨n-1,by omega⟩
  have:i=m.length:=by omega
  subst this
  show Cx k _ j m.length B.1 B.2.1 B.2.2.1 B.2.2.2 0 0 0 0 0 0 0 0 0 0 0 0 0 0 m=_
  unfold Cx
  simp only[zU,aj (Nat.lt_irrefl _),ao,List.drop_length]
  rfl
 |c+1,i,n,e,hn=>by
  obtain⟨n,rfl⟩:∃x,n=x+1:=⟨n-1,by omega⟩
  have hi:i<m.length:=by omega
  have ih:=qXb hk h m hm hj c (i+1) n (by omega) (by omega)
  show Cx k _ j i B.1 B.2.1 B.2.2.1 B.2.2.2 0 0 0 0 0 0 0 0 0 0 0 0 0 0 m=_
  unfold Cx
  obtain⟨C,h1,h2⟩:=KB hk h (l:=[m.getD j pd,m.getD i pd]) (by simp)
  simp only[pd] at h1
  simp only[qG,qO hi (show m.length<9223372036854775808 by omega),zU,aB,ai hi,ai hj,av,h1,ak]
  rw[yLm k B _ hi]
  unfold ny
  cases decide ((m.getD i pd).2.1=(m.getD j pd).2.2.1) with
  |false=>exact ih
  |true=>
   cases decide ((m.getD i pd).2.2.1=(m.getD j pd).2.1) with
   |false=>exact ih
   |true=>
    cases decide ((m.getD j pd).2.1≥(m.getD i pd).2.1) with
    |true=>exact ih
    |false=>
     simp only[aY,dX,Bool.and_true,av,ao]
     simp only[pd]
     cases hg:fu k B [m.getD j (0,(0,(0,(0,(0,(0,0)))))),m.getD i (0,(0,(0,(0,(0,(0,0))))))] with
     |none=>exact ih
     |some D=>rfl
theorem yHm {k:Nat}(hk:100<k){B:BT}(h:qV B)(m:List zB)(hm:m.length≤1000)(FH:m.length<k):∀c i n,i+c=m.length→c<n→
  GA k n i B.1 B.2.1 B.2.2.1 B.2.2.2 0 0 0 0 0 0 0 0 0 0 0 0 0 0 m = some (match oH k B m (m.drop i) with
   |some (p,q,C)=>.inr (true,p.1,p.2.1,p.2.2.1,p.2.2.2.1,p.2.2.2.2.1,p.2.2.2.2.2.1,p.2.2.2.2.2.2,q.1,q.2.1,q.2.2.1,q.2.2.2.1,q.2.2.2.2.1,q.2.2.2.2.2.1,q.2.2.2.2.2.2)
   |none=>.inl (0,0,0,0,0,0,0,0,0,0,0,0,0,0))
 |0,i,n,e,hn=>by
  obtain⟨n,rfl⟩:∃x,n=x+1:=⟨n-1,by omega⟩
  have:i=m.length:=by omega
  subst this
  show Cy k _ m.length B.1 B.2.1 B.2.2.1 B.2.2.2 0 0 0 0 0 0 0 0 0 0 0 0 0 0 m=_
  unfold Cy
  simp only[zU,aj (Nat.lt_irrefl _),ao,List.drop_length]
  rfl
 |c+1,i,n,e,hn=>by
  obtain⟨n,rfl⟩:∃x,n=x+1:=⟨n-1,by omega⟩
  have hi:i<m.length:=by omega
  have ih:=yHm hk h m hm FH c (i+1) n (by omega) (by omega)
  show Cy k _ i B.1 B.2.1 B.2.2.1 B.2.2.2 0 0 0 0 0 0 0 0 0 0 0 0 0 0 m=_
  unfold Cy
  have dj:=qXb hk h m hm hi m.length 0 k (by omega) FH
  have e0:((0:Nat):Int)=0:=rfl
  rw[e0,List.drop_zero] at dj
  simp only[zU,ai hi,av]
  rw[dj]
  rw[yL1 k B m hi]
  cases mu k B (m.getD i pd) m with
  |none=>
   simp only[ak,qO hi (show m.length<9223372036854775808 by omega)]
   exact ih
  |some x=>rfl
theorem qW9 {k:Nat}(hk:100<k){B:BT}(h:qV B){l:List zB}(bP:l.length<k)(hl:qW l)(t:Int):KE k B.1 B.2.1 B.2.2.1 B.2.2.2 l t=some (RQ (eP k B l t)):=by
 unfold KE eP
 rw[yE0 bP hl]
 have Bj:=JI l t
 unfold qW at hl
 have:=yHm hk h (vM l t) (by omega) (by omega) (vM l t).length 0 k (by omega) (by omega)
 have e:((0:Nat):Int)=0:=rfl
 rw[e,List.drop_zero] at this
 simp only[ak]
 rw[this]
 cases oH k B (vM l t) (vM l t) with
 |none=>rfl
 |some x=>rfl
theorem vBb {k:Nat}(hk:100<k)(t:Int){B C:BT}{l m done:List zB}(h:jE k t B l done C m):∀(n:Nat) (r:List zB),qV B→qS l→l.length≤100→l.length<n→r.length+l.length≤900→
  GB k n l t B.1 B.2.1 B.2.2.1 B.2.2.2 r=some (m,C.1,C.2.1,C.2.2.1,C.2.2.2,r++done):=by
 induction h with
 |@stop B l hx=>
  intro n r hb hd hl hn hr
  obtain⟨n,rfl⟩:∃x,n=x+1:=⟨n-1,by omega⟩
  have h2:=qW9 hk hb (l:=l) (by omega) (by show l.length≤1000;omega) t
  rw[hx] at h2
  show Cz k _ l t B.1 B.2.1 B.2.2.1 B.2.2.2 r=_
  unfold Cz
  rw[h2]
  simp only[ak,RQ,dX,av,List.append_nil]
 |@step B C D l m done p q hx _ ih=>
  intro n r hb hd hl hn hr
  obtain⟨n,rfl⟩:∃x,n=x+1:=⟨n-1,by omega⟩
  have h2:=qW9 hk hb (l:=l) (by omega) (by show l.length≤1000;omega) t
  rw[hx] at h2
  obtain⟨hp,hq,mv,hg⟩:=Bl hx
  obtain⟨pc,lr⟩:=Bm hd hp hq mv
  obtain⟨nb,cz⟩:=oG hk hb (by simp) hg
  have oI:(jP l p.1).length≤l.length:=(pV hp).2.length_le
  have g2:=ih n (r++[p,q]) nb (List.Pairwise.sublist lr hd) (by omega) (by omega) (by rw[List.length_append];simp;omega)
  have e2:r++[p,q]++done=r++p::q::done:=by rw[List.append_assoc];rfl
  show Cz k _ l t B.1 B.2.1 B.2.2.1 B.2.2.2 r=_
  unfold Cz
  rw[h2]
  obtain⟨C',e1,e2'⟩:=KB hk hb (l:=[p,q]) (by simp)
  have:=e2' C hg
  subst this
  have Gy:qn k B.1 B.2.1 B.2.2.1 B.2.2.2 [(p.1,p.2.1,p.2.2.1,p.2.2.2.1,p.2.2.2.2.1,p.2.2.2.2.2.1,p.2.2.2.2.2.2),(q.1,q.2.1,q.2.2.1,q.2.2.2.1,q.2.2.2.2.1,q.2.2.2.2.2.1,q.2.2.2.2.2.2)]=_:=e1
  have d1:=qh (show l.length<k by omega) (show qW l by show l.length≤1000;omega) p.1
  have d2:=qh (k:=k) (l:=(gh l p.1).1) (Nat.lt_of_le_of_lt oI (by omega)) (Nat.le_trans oI (by omega)) q.1
  have e3:zW (r.length+2) 56=true:=yE (by omega) (by omega)
  simp only[ak,RQ,aY,ao,Gy,d1,d2,e3,av]
  rw[←e2,←g2]
  rfl
theorem yHp {k:Nat}(hk:200≤k){B C:BT}(hb:qV B){l m done:List zB}(hd:qS l)(hl:l.length≤100){t:Int}(h:jE k t B l done C m):KF k B.1 B.2.1 B.2.2.1 B.2.2.2 l t=some (C.1,C.2.1,C.2.2.1,C.2.2.2,m,done):=by
 unfold KF
 rw[vBb (by omega) t h k [] hb hd hl (by omega) (by simp;omega)]
 rfl
theorem RR {k:Nat}{l:List zB}(hk:l.length<k)(hl:qW l)(many:List Int):CA k l many=some (yX l many):=by
 unfold qW at hl
 unfold CA
 obtain ⟨s', h1, h2⟩ := vF (L := fun n i s => CB k n l many i s) (N := l.length) (fun s => s) (fun i s => s = ke l many i) (fun n s _=>by
  show CC k _ l many l.length s=_
  unfold CC
  simp only [zU, aj (Nat.lt_irrefl _), ao]) (fun n i s hi hs=>by
  have eM:s.length≤i:=by rw[hs];exact Q3 l many i
  refine⟨bif kQ l many i then s++[l.getD i pd] else s,?_,?_⟩
  ·show CC k _ l many i s=_
   unfold CC
   have c1:decide ((0:Int)≤(i:Int))=true:=by simp
   have c2:decide ((i:Int)≤(l.length:Int))=true:=ai (by omega)
   have Fq:=Jo (k:=k) (l:=l.take i) (by rw[List.length_take];omega) (by show(l.take i).length≤1000;rw[List.length_take];omega) (l.getD i pd).2.1
   simp only[pd] at Fq
   simp only[qG,qO hi (show l.length<9223372036854775808 by omega),zU,aB,ai hi,av,kN (show s.length≤1000 by omega),c1,c2,Bool.and_true,Fq,ak]
   unfold kQ jF
   simp only[pd]
   cases e1:decide ((l.getD i (0,(0,(0,(0,(0,(0,0))))))).2.1≥0) with
   |false=>rfl
   |true=>
    cases e2:decide ((l.getD i (0,(0,(0,(0,(0,(0,0))))))).2.1<(many.length:Int)) with
    |false=>rfl
    |true=>
     rw[bI] at e1 e2
     have hb:zE (l.getD i (0,(0,(0,(0,(0,(0,0))))))).2.1 many.length=true:=uX e1 (by omega)
     rw[hb]
     simp only[av,Bool.true_and]
     cases decide (((List.length (List.filter (vV (l.getD i (0,(0,(0,(0,(0,(0,0))))))).2.1) (List.take i l)):Nat):Int)<many.getD (l.getD i (0,(0,(0,(0,(0,(0,0))))))).2.1.toNat 0)<;>rfl
  ·show _=ke l many i++_
   rw[hs]
   cases kQ l many i<;>simp) (s:=[]) hk rfl
 have cP:CB k k l many 0 []=some s':=h1
 rw[cP,h2]
 rfl
theorem vRx {k:Nat}{B:BT}{l:List zB}(hk:l.length<k)(hl:qW l)(hn:B.1.length<k)(hn':B.1.length≤1000):
  w9 k k 0 B.1 B.2.1 B.2.2.1 B.2.2.2 l []=some (B.1,B.2.1,B.2.2.1,B.2.2.2,l,fN l B.1.length):=by
 obtain ⟨s', h1, h2⟩ := vF (L := fun n i (s : List Int) => w9 k n i B.1 B.2.1 B.2.2.1 B.2.2.2 l s) (N := B.1.length) (fun s => (B.1, B.2.1, B.2.2.1, B.2.2.2, l, s)) (fun i s => s = fN l i) (fun n s _=>by
  show CD k _ B.1.length B.1 B.2.1 B.2.2.1 B.2.2.2 l s=_
  unfold CD
  simp only [zU, aj (Nat.lt_irrefl _), ao]) (fun n i s hi hs=>by
  refine⟨_,?_,(yPo l i).symm⟩
  show CD k _ i B.1 B.2.1 B.2.2.1 B.2.2.2 l s=_
  unfold CD
  have hr:zW (s.length+1) 8=true:=by rw[hs,sP];exact yE (by omega) (by omega)
  simp only[zU,ai hi,av,Jo hk hl,ak,hr,qO hi (show B.1.length<9223372036854775808 by omega)]
  rw[hs]
  rfl) (s:=[]) hn rfl
 exact h1.trans (by rw[h2])
theorem yYv {k:Nat}{B:BT}{l:List zB}{s m:List Int}(hk:s.length<k)(hs:s.length≤1000)(dj:∀x∈s,0≤x∧x<(m.length:Int))(h0:mw m)(hm:∀i,m.getD i 0≤1000)(bo:Int):
  CE k k bo 0 B.1 B.2.1 B.2.2.1 B.2.2.2 l m s=some (bo,B.1,B.2.1,B.2.2.1,B.2.2.2,l,jO s m):=by
 obtain ⟨s', h1, h2⟩ := vF (L := fun n i (r : List Int) => CE k n bo i B.1 B.2.1 B.2.2.1 B.2.2.2 l r s) (N := s.length) (fun r => (bo, B.1, B.2.1, B.2.2.1, B.2.2.2, l, r)) (fun i r => r = jO (s.take i) m) (fun n r _=>by
  show CF k _ bo s.length B.1 B.2.1 B.2.2.1 B.2.2.2 l r s=_
  unfold CF
  simp only [zU, aj (Nat.lt_irrefl _), ao]) (fun n i r hi hr=>by
  refine⟨_,?_,(yIk s m i hi).symm⟩
  show CF k _ bo i B.1 B.2.1 B.2.2.1 B.2.2.2 l r s=_
  unfold CF
  obtain⟨b1,b2⟩:=dj _ (wS (d:=0) hi)
  have rQ:r.length=m.length:=by rw[hr,pY]
  have hb:zE (s.getD i 0) r.length=true:=uX b1 (by omega)
  have PZ:=FK (s.take i) m (s.getD i 0).toNat
  have D2:=h0 (s.getD i 0).toNat
  have nf:=hm (s.getD i 0).toNat
  have aU:(s.take i).length≤s.length:=List.length_take_le' _ _
  have hw:zA (r.getD (s.getD i 0).toNat 0-1)=r.getD (s.getD i 0).toNat 0-1:=by
   rw[hr]
   exact zV (by omega) (by omega)
  simp only[zU,qG,aB,ai hi,av,hb,hw,qO hi (show s.length<9223372036854775808 by omega)]
  rw[hr]) (s:=m) hk rfl
 have:=h1.trans (by rw[h2,List.take_length])
 exact this
theorem vIe {k:Nat}(hk:100<k){B:BT}(hb:qV B){l:List zB}(hl:∀q∈l,yL B.1.length q)(cd:l.length≤64){m f:List Int}{n:Nat}(h:iM B l m f n):
  ∀(N:Nat) (s7:Int),m.length=B.1.length→mw m→(∀i,m.getD i 0≤1000)→n<N→0≤s7→s7+n<1000000→
  GC k N s7 B.1 B.2.1 B.2.2.1 B.2.2.2 l m=some (s7+n,f):=by
 induction h with
 |@stop m h=>
  intro N s7 hm h0 h1 hn hs rZ
  obtain⟨N,rfl⟩:∃x,N=x+1:=⟨N-1,by omega⟩
  have eY:=hb.n6
  show CG k _ s7 B.1 B.2.1 B.2.2.1 B.2.2.2 l m=_
  unfold CG
  have hS:=yGd hk hb (JQ hl cd m)
  have lv:pM k B.1 B.2.1 B.2.2.1 B.2.2.2 (yX l m)=some (jW B (yX l m)):=hS
  rw[RR (by omega) (show qW l by show l.length≤1000;omega)]
  simp only[ak]
  rw[lv,h]
  simp
 |@step m f n h h' ih=>
  intro N s7 hm h0 h1 hn hs rZ
  obtain⟨N,rfl⟩:∃x,N=x+1:=⟨N-1,by omega⟩
  have eY:=hb.n6
  show CG k _ s7 B.1 B.2.1 B.2.2.1 B.2.2.2 l m=_
  unfold CG
  have hS:=yGd hk hb (JQ hl cd m)
  have lv:pM k B.1 B.2.1 B.2.2.1 B.2.2.2 (yX l m)=some (jW B (yX l m)):=hS
  rw[RR (by omega) (show qW l by show l.length≤1000;omega)]
  simp only[ak]
  rw[lv]
  simp only[ak]
  have w:zA (s7+1)=s7+1:=zV (by omega) (by omega)
  have bn : decide ((((jW B (yX l m)).length : Nat) : Int) = 0) = false := aj (by
   have:=List.length_pos_iff.2 h
   omega)
  have eM:(jW B (yX l m)).length≤B.1.length:=by
   unfold jW sI
   rw[List.length_map]
   have:=List.length_filter_le (fun i=>wQ B.1 B.2.1 B.2.2.1 B.2.2.2 (yX l m) i) (List.range B.1.length)
   rwa [List.length_range] at this
  rw[bn]
  simp only[ao]
  rw[yYv (by omega) (by omega) (by rw[hm];exact Q2) h0 h1]
  simp only[ak,w]
  have Rb:=JO hl hm h0
  have:=ih N (s7+1) ((pY _ _).trans hm) Rb (fun i=>by have:=(FK (jW B (yX l m)) m i).2;have:=h1 i;omega) (by omega) (by omega) (by omega)
  rw[this]
  congr 2
  omega
theorem vDk {k:Nat}(hk:100<k){B:BT}(hb:qV B){l:List zB}(hl:∀q∈l,yL B.1.length q)(cd:l.length≤64)(t:Int){f:List Int}{n:Nat}(hn:n≤l.length)(h:iM B (yT l t) (fN (yT l t) B.1.length) f n):
  KG k B.1 B.2.1 B.2.2.1 B.2.2.2 l t=some (f,((n+1:Nat):Int)):=by
 have eY:=hb.n6
 have hr:=sQ l t
 have h1:=JP (l:=yT l t) (by omega) B.1.length
 unfold KG
 rw[QD (by omega) (by show l.length≤1000;omega)]
 simp only[ak]
 have e:w9 k k 0 B.1 B.2.1 B.2.2.1 B.2.2.2 (l.filter (ij t)) []=_:=vRx (k:=k) (B:=B) (l:=yT l t) (by omega) (by show(yT l t).length≤1000;omega) (by omega) (by omega)
 rw[e]
 simp only[ak]
 rw[vIe hk hb (JR hl) (by omega) h k 1 (sP _ _) h1.1 h1.2 (by omega) (by omega) (by omega)]
 simp only[ak]
 congr 2
 omega
theorem vQg {k:Nat}{C:BT}{l hs:List zB}(hl:l.length<k)(eg:l.length≤1000)(hk:hs.length<k)(hh:hs.length≤1000):
  xa k k l 0 hs C.1 C.2.1 C.2.2.1 C.2.2.2=some (my l hs,hs,C.1,C.2.1,C.2.2.1,C.2.2.2):=by
 obtain ⟨s', h1, h2⟩ := vF (L := fun n i (s : List zB) => xa k n s i hs C.1 C.2.1 C.2.2.1 C.2.2.2) (N := hs.length) (fun s => (s, hs, C.1, C.2.1, C.2.2.1, C.2.2.2)) (fun i s => s = my l (hs.take i)) (fun n s _=>by
  show CH k _ s hs.length hs C.1 C.2.1 C.2.2.1 C.2.2.2=_
  unfold CH
  simp only [zU, aj (Nat.lt_irrefl _), ao]) (fun n i s hi hr=>by
  refine⟨_,?_,(yC3 l hs i hi).symm⟩
  show CH k _ s i hs C.1 C.2.1 C.2.2.1 C.2.2.2=_
  unfold CH
  have eM:=(JS (hs.take i) l).1
  rw[←hr] at eM⊢
  simp only[zU,qG,aB,ai hi,av,qh (show s.length<k by omega) (show qW s by show s.length≤1000;omega),ak,qO hi (show hs.length<9223372036854775808 by omega)]
  rfl) (s:=l) hk rfl
 have:=h1.trans (by rw[h2,List.take_length])
 exact this
theorem vQk {k:Nat}(hk:100<k){B:BT}(hb:qV B){l:List zB}(hl:∀q∈l,yL B.1.length q)(cd:l.length≤64)(t:Int){f:List Int}{n:Nat}(hn:n≤l.length)(h:iM B (yT l t) (fN (yT l t) B.1.length) f n)
  {r:List qN×List (List Int)×List Int×List (List Int)×Int} (hr:vf k B.1 B.2.1 B.2.2.1 B.2.2.2 (yX (yT l t) f)=some r):GD k B.1 B.2.1 B.2.2.1 B.2.2.2 l t=some (Br B l (yX (yT l t) f) r):=by
 have eY:=hb.n6
 have rQ:=sQ l t
 have JU:=(sO (yT l t) f).length_le
 unfold GD
 rw[vDk hk hb hl cd t hn h,QD (by omega) (by show l.length≤1000;omega)]
 simp only[ak]
 have e:CA k (l.filter (ij t)) f=_:=RR (k:=k) (l:=yT l t) (by omega) (by show(yT l t).length≤1000;omega) f
 rw[e]
 simp only[ak]
 rw[hr]
 simp only[ak]
 unfold Br
 cases decide (r.2.2.2.2=0) with
 |false=>rfl
 |true=>
  simp only[aY,ao]
  have e2:xa k k l 0 (yX (yT l t) f) r.1 r.2.1 r.2.2.1 r.2.2.2.1=_:=vQg (C:=(r.1,r.2.1,r.2.2.1,r.2.2.2.1)) (by omega) (by omega) (by omega) (by omega)
  rw[e2]
  rfl
theorem fM.books {k:Nat}(hk:100<k){t:Int}{B C:BT}{l done m:List zB}(h:fM k t B l done C m)(hb:qV B)(hd:qS l):qV C∧C.1.length=B.1.length∧List.Sublist m l:=by
 induction h with
 |stop _=>exact⟨hb,rfl,List.Sublist.refl _⟩
 |step h _ ih=>
  obtain⟨hp,hg⟩:=vu h
  obtain⟨h1,h2⟩:=pV (Bh hp)
  obtain⟨h3,h4⟩:=oG hk hb (by simp) hg
  obtain⟨g1,g2,g3⟩:=ih h3 (List.Pairwise.sublist h2 hd)
  exact⟨g1,g2.trans h4,g3.trans h2⟩
theorem jE.books {k:Nat}(hk:100<k){t:Int}{B C:BT}{l done m:List zB}(h:jE k t B l done C m)(hb:qV B)(hd:qS l):qV C∧C.1.length=B.1.length∧List.Sublist m l:=by
 induction h with
 |stop _=>exact⟨hb,rfl,List.Sublist.refl _⟩
 |step h _ ih=>
  obtain⟨hp,hq,mv,hg⟩:=Bl h
  obtain⟨h1,h2⟩:=Bm hd hp hq mv
  obtain⟨h3,h4⟩:=oG hk hb (by simp) hg
  obtain⟨g1,g2,g3⟩:=ih h3 (List.Pairwise.sublist h2 hd)
  exact⟨g1,g2.trans h4,g3.trans h2⟩
theorem vGb {k:Nat}(hk:200≤k){t:Int}{B C:BT}{l m done:List zB}(h:kg k t B l done C m):∀(n:Nat) (r:List zB),qV B→qS l→l.length≤100→l.length<n→r.length+l.length≤900→
  GG k n l t B.1 B.2.1 B.2.2.1 B.2.2.2 r=some (m,C.1,C.2.1,C.2.2.1,C.2.2.2,r++done):=by
 induction h with
 |@stop B C l m d h1 h2=>
  intro n r hb hd hl hn hr
  obtain⟨n,rfl⟩:∃x,n=x+1:=⟨n-1,by omega⟩
  have p1:=h1.perm hd
  have l1:=p1.length_eq
  rw[List.length_append] at l1
  obtain⟨g1,g2,g3⟩:=h1.books (by omega) hb hd
  have f1:=yGl hk hb hl h1
  have f2:=yHp hk g1 (List.Pairwise.sublist g3 hd) (by omega) (jE.stop (t:=t) h2)
  have r1:zW (r.length+d.length) 56=true:=yE (by omega) (by omega)
  have r2:zW ((r++d).length+([]:List zB).length) 56=true:=yE (by rw[List.length_append];simp;omega) (by rw[List.length_append];simp;omega)
  show CI k _ l t B.1 B.2.1 B.2.2.1 B.2.2.2 r=_
  unfold CI
  rw[f1]
  simp only[ak]
  rw[f2]
  simp only[ak,r1,r2,av]
  simp
 |@step B C D E l m n' o d e f h1 h2 ne h' ih=>
  intro n r hb hd hl hn hr
  obtain⟨n,rfl⟩:∃x,n=x+1:=⟨n-1,by omega⟩
  have p1:=h1.perm hd
  have l1:=p1.length_eq
  rw[List.length_append] at l1
  obtain⟨g1,g2,g3⟩:=h1.books (by omega) hb hd
  have hm:qS m:=List.Pairwise.sublist g3 hd
  have p2:=h2.perm hm
  have l2:=p2.length_eq
  rw[List.length_append] at l2
  obtain⟨k1,k2,k3⟩:=h2.books (by omega) g1 hm
  have f1:=yGl hk hb hl h1
  have f2:=yHp hk g1 hm (by omega) h2
  have nj:=List.length_pos_iff.2 ne
  have r1:zW (r.length+d.length) 56=true:=yE (by omega) (by omega)
  have r2:zW ((r++d).length+e.length) 56=true:=yE (by rw[List.length_append];omega) (by rw[List.length_append];omega)
  have e1:decide (((e.length:Nat):Int)=0)=false:=aj (by omega)
  have:=ih n (r++d++e) k1 (List.Pairwise.sublist k3 hm) (by omega) (by omega) (by simp;omega)
  show CI k _ l t B.1 B.2.1 B.2.2.1 B.2.2.2 r=_
  unfold CI
  rw[f1]
  simp only[ak]
  rw[f2]
  simp only[ak,r1,r2,av,e1,ao]
  rw[this]
  simp
theorem yUo {k:Nat}(hk:200≤k){t:Int}{B C:BT}{l m done:List zB}(hb:qV B)(hd:qS l)(hl:l.length≤100)(h:kg k t B l done C m):
  GH k B.1 B.2.1 B.2.2.1 B.2.2.2 l t=some (C.1,C.2.1,C.2.2.1,C.2.2.2,m,done):=by
 unfold GH
 rw[vGb hk h k [] hb hd hl (by omega) (by simp;omega)]
 rfl
theorem vA2 {k:Nat}(hk:200≤k){B:BT}(hb:qV B){l:List zB}(hl:∀q∈l,yL B.1.length q)(cd:l.length≤64)(t:Int):
  ∃r,vy k B.1 B.2.1 B.2.2.1 B.2.2.2 l t=some r∧GD k B.1 B.2.1 B.2.2.1 B.2.2.2 l t=some r:=by
 obtain⟨f,n,h,hn⟩:=Q4 hb hl cd t
 have rQ:=sQ l t
 have JU:=(sO (yT l t) f).length_le
 obtain⟨r,h1,h2,h3⟩:=Bg (k:=k) (by omega) hb (l:=yX (yT l t) f) (by omega)
 exact⟨_,Rc (k:=k) (by omega) hb hl cd t (by omega) h h1,vQk (k:=k) (by omega) hb hl cd t (by omega) h h2⟩
theorem vH9 {k:Nat}(hk:200≤k){B:BT}(hb:qV B){l:List zB}(hd:qS l)(hl:∀q∈l,yL B.1.length q)(cd:l.length≤64)(t:Int)(all:Bool):
  ∃(C:BT) (m done:List zB),sR k B.1 B.2.1 B.2.2.1 B.2.2.2 l t all=some (C.1,C.2.1,C.2.2.1,C.2.2.2,m,done)∧KH k B.1 B.2.1 B.2.2.1 B.2.2.2 l t all=some (C.1,C.2.1,C.2.2.1,C.2.2.2,m,done)∧
   qV C∧C.1.length=B.1.length∧List.Sublist m l∧List.Perm (done++m) l∧jL k C (vM m t)=none∧eP k C m t=none:=by
 obtain⟨C,m,d,f1,f2,f3,f4,f5⟩:=BC hk hb hd (by omega) t
 have fr:=yUo hk hb hd (by omega) f2
 have p1:=f2.perm hd
 have l1:=p1.length_eq
 rw[List.length_append] at l1
 unfold sR KH
 rw[f1,fr]
 simp only[ak]
 cases all with
 |false=>exact⟨C,m,d,rfl,rfl,f3,f4,f5,p1,f2.final⟩
 |true=>
  simp only[aY,ao]
  have hm:qS m:=List.Pairwise.sublist f5 hd
  have hmm:∀q∈m,yL C.1.length q:=fun q hq=>by rw[f4];exact hl q (f5.subset hq)
  obtain⟨D,n,x,g1,g2,g3,g4,g5,g6⟩:=Re hk f3 hm hmm (by omega) t
  obtain⟨R,r1,r2⟩:=vA2 hk f3 hmm (by omega) t
  have hR:R=(D.1,D.2.1,D.2.2.1,D.2.2.2,n,x):=by rw[g1] at r1;exact(Option.some.inj r1).symm
  subst hR
  have l2:=g5.length_eq
  rw[List.length_append] at l2
  rw[g1,r2]
  simp only[ak]
  cases x with
  |nil=>
   obtain⟨rfl,rfl⟩:=g6 rfl
   exact⟨D,n,d,rfl,rfl,f3,f4,f5,p1,f2.final⟩
  |cons p x=>
   have e1:decide ((((p::x).length:Nat):Int)=0)=false:=aj (by simp;omega)
   rw[e1]
   simp only[ao]
   have hn:qS n:=List.Pairwise.sublist g4 hm
   obtain⟨E,o,y,k1,k2,k3,k4,k5⟩:=BC hk g2 hn (by omega) t
   have kr:=yUo hk g2 hn (by omega) k2
   have p3:=k2.perm hn
   have l3:=p3.length_eq
   rw[List.length_append] at l3
   have e2:zW (d.length+(p::x).length) 56=true:=yE (by simp at l2⊢;omega) (by simp at l2⊢;omega)
   have e3:zW ((d++(p::x)).length+y.length) 56=true:=yE (by simp at l2⊢;omega) (by simp at l2⊢;omega)
   rw[k1,kr]
   simp only[ak,e2,e3,av]
   refine⟨E,o,d++(p::x)++y,rfl,rfl,k3,k4.trans (g3.trans f4),k5.trans (g4.trans f5),?_,k2.final⟩
   have e4:d++(p::x)++y++o=d++((p::x)++(y++o)):=by simp
   rw[e4]
   exact((p3.append_left (p::x)).append_left d).trans ((g5.append_left d).trans p1)
theorem yMn {B:BT}(hb:qV B){m:List zB}(hd:qS m)(hm:∀q∈m,yL B.1.length q)(cd:m.length≤64)(t:Int)(pr:List Int)(ho:List (List Int))(ids:List Int)(to:Int)(ov all:Bool):
  ∃(C:BT) (m' d:List zB),pZ 1000 t B.1 B.2.1 B.2.2.1 B.2.2.2 pr ho m ids to ov all=some (t,C.1,C.2.1,C.2.2.1,C.2.2.2,pr,ho,m',ids,to,ov,vJ d)∧
   lN 1000 t B.1 B.2.1 B.2.2.1 B.2.2.2 pr ho m ids to ov all=some (t,C.1,C.2.1,C.2.2.1,C.2.2.2,pr,ho,m',ids,to,ov,vJ d)∧qV C∧fx B C∧List.Sublist m' m∧List.Perm (d++m') m∧jL 1000 C (vM m' t)=none:=by
 obtain⟨C,m',d,f1,fr,f2,f3,f4,f5,f6,f7⟩:=vH9 (k:=1000) (by decide) hb hd hm cd t all
 have hlen:=f5.length_eq
 rw[List.length_append] at hlen
 refine⟨C,m',d,?_,?_,f2,qZi (by decide) hb hd hm cd t all f1,f4,f5,f6⟩
 ·unfold pZ
  rw[f1]
  simp only[ak]
  rw[yNx (by omega) (by omega)]
  rfl
 ·unfold lN
  rw[fr]
  simp only[ak]
  rw[vEi (by omega) (by omega)]
  rfl
theorem KI (kd a:Int):jK 1000 kd [a]=some (kd,a,0,0,0,0,0):=by kernel_rfl
theorem Of0 (kd:Int):jK 1000 kd []=some (kd,0,0,0,0,0,0):=by kernel_rfl
theorem Of5 (kd a b c d e:Int):jK 1000 kd [a,b,c,d,e]=some (kd,a,b,c,d,e,0):=by kernel_rfl
theorem vMb (s:qL)(hm:s.m.length≤100)(b:Int×Int×Bool):qo 1000 1000 s.m 0 s.st b []=some (s.st,b,s.m.map (wA 22)):=by
 obtain ⟨s', h1, h2⟩ := vF (L := fun n i (o : List yI) => qo 1000 n s.m i s.st b o) (N := s.m.length) (fun o => (s.st, b, o)) (fun i o => o = (s.m.take i).map (wA 22)) (fun n o _=>by
  show CJ 1000 (qo 1000 n) s.m s.m.length s.st b o=_
  unfold CJ
  rw [aj (Int.lt_irrefl _)]; rfl) (fun n i o hi ho=>by
  refine⟨_,?_,(yS4 (wA 22) s.m i pd hi).symm⟩
  show CJ 1000 (qo 1000 n) s.m i s.st b o=_
  unfold CJ
  have eM:o.length≤900:=by rw[ho,List.length_map,List.length_take];omega
  rw[ai (show(i:Int)<s.m.length by omega),qG,ai hi,aB,KI,qO hi (by omega)]
  simp only[av,ak,sS (show o.length≤1000 by omega)]
  rw[ho]
  rfl) (s:=[]) (show s.m.length<1000 by omega) rfl
 have cP:qo 1000 1000 s.m 0 s.st b []=_:=h1
 rw[cP,h2,List.take_length]
theorem vDb (s:qL)(hB:s.B.1.length≤6)(b:Int×Int×Bool)(l:List yI)(hl:l.length≤100):qp 1000 1000 0 s.st b l=some (s.st,b,l++iO s.B s.B.1.length):=by
 have ea:s.st.2.1=s.B.1:=rfl
 obtain ⟨s', h1, h2⟩ := vF (L := fun n i (o : List yI) => qp 1000 n i s.st b o) (N := s.B.1.length) (fun o => (s.st, b, o)) (fun i o => o = l ++ iO s.B i) (fun n o _=>by
  show CK 1000 (qp 1000 n) s.B.1.length s.st b o=_
  unfold CK
  rw [ea, aj (Int.lt_irrefl _)]; rfl) (fun n i o hi ho=>by
  refine⟨_,?_,(show l++iO s.B i++[sW s.B i]=l++iO s.B (i+1) by rw[yHf,List.append_assoc])⟩
  show CK 1000 (qp 1000 n) i s.st b o=_
  unfold CK
  have eM:o.length≤900:=by
   rw[ho,List.length_append]
   unfold iO
   rw[List.length_map,List.length_range]
   omega
  rw[ea,ai (show(i:Int)<s.B.1.length by omega),qG,ai hi,aB,KI,qO hi (by omega)]
  simp only[av,ak,sS (show o.length≤1000 by omega)]
  rw[ho]
  rfl) (s:=l) (show s.B.1.length<1000 by omega) (by show _=_++[];rw[List.append_nil])
 have cP:qp 1000 1000 0 s.st b l=_:=h1
 rw[cP,h2]
theorem vOh {a b:List zB}{p:zB}(hd:qS (a++p::b)):gh (a++p::b) p.1=(a++b,p.1,p.2.1,p.2.2.1,p.2.2.2.1,p.2.2.2.2.1,p.2.2.2.2.2.1,p.2.2.2.2.2.2,0):=by
 have hl:a.length<(a++p::b).length:=by simp
 have hg:(a++p::b).getD a.length pd=p:=by rw[nC _ hl];simp
 have hp:=qVq hd hl
 rw[hg] at hp
 unfold iK at hp
 unfold gh
 cases hx:vN (a++p::b) p.1 with
 |none=>rw[hx] at hp;simp only at hp;omega
 |some x=>
  rw[hx] at hp
  simp only at hp
  obtain rfl:x=a.length:=by omega
  simp only[hg]
  unfold yC
  simp
theorem vN4 (r:qR)(s:qL)(hd:qS s.m)(hm:s.m.length≤100)(b:Int×Int×Bool):
  qq 1000 1000 s.m 0 r s.st b []=some (r,qL.st {s with m:=s.m.filter (fun p=> !yR s.t p)},b,(s.m.filter (yR s.t)).map (wA 21)):=by
 obtain ⟨s', h1, h2, h3⟩ := vF (L := fun n i (x : List zB × List yI) => qq 1000 n s.m i r (qL.st { s with m := x.1 }) b x.2) (N := s.m.length) (fun x => (r, qL.st { s with m := x.1 }, b, x.2)) (fun i x => x.1 = (s.m.take i).filter (fun p => !yR s.t p) ++ s.m.drop i ∧ x.2 = ((s.m.take i).filter (yR s.t)).map (wA 21)) (fun n x _=>by
  show CL 1000 (qq 1000 n) s.m s.m.length r _ b _=_
  unfold CL
  rw [aj (Int.lt_irrefl _)]; rfl) (fun n i x hi hx=>by
  have f1:=vm (yR s.t) s.m i pd hi
  have f2:=vm (fun p=> !yR s.t p) s.m i pd hi
  have hdr:s.m.drop i=s.m.getD i pd::s.m.drop (i+1):=by rw[List.drop_eq_getElem_cons hi,nC _ hi]
  have lr:x.2.length≤900:=by
   rw[hx.2,List.length_map]
   have:=List.length_filter_le (yR s.t) (s.m.take i)
   rw[List.length_take] at this
   omega
  have pc:x.1.length≤s.m.length:=by
   rw[hx.1,List.length_append,List.length_drop]
   have:=List.length_filter_le (fun p=> !yR s.t p) (s.m.take i)
   rw[List.length_take] at this
   omega
  have bS:List.Sublist x.1 s.m:=by
   have h:=List.Sublist.append (List.filter_sublist (p:=fun p=> !yR s.t p) (l:=s.m.take i)) (List.Sublist.refl (s.m.drop i))
   rw[List.take_append_drop] at h
   rw[hx.1];exact h
  have hdx:qS x.1:=List.Pairwise.sublist bS hd
  have e0:∀p:zB,RT 1000 p.1 p.2.1 p.2.2.1 p.2.2.2.1 p.2.2.2.2.1 p.2.2.2.2.2.1 p.2.2.2.2.2.2 s.t=some (yR s.t p):=fun p=>rfl
  have ed:s.m.getD i (0,0,0,0,0,0,0)=s.m.getD i pd:=rfl
  have et:(qL.st {s with m:=x.1}).1=s.t:=rfl
  have em:(qL.st {s with m:=x.1}).2.2.2.2.2.2.2.1=x.1:=rfl
  show∃s',CL 1000 (qq 1000 n) s.m i r (qL.st {s with m:=x.1}) b x.2=_∧_
  unfold CL
  rw[ai (show(i:Int)<s.m.length by omega),qG,ai hi,aB,ed,et,em,e0,KI,qO hi (by omega),qh (by omega) (by unfold qW;omega)]
  simp only[av,ak,sS (show x.2.length≤1000 by omega)]
  cases hb:yR s.t (s.m.getD i pd) with
  |true=>
   have cw:=hx.1
   rw[hdr] at cw
   have e1:=vOh (a:=(s.m.take i).filter (fun p=> !yR s.t p)) (b:=s.m.drop (i+1)) (p:=s.m.getD i pd) (by rw[←cw];exact hdx)
   rw[←cw] at e1
   rw[e1]
   refine⟨((s.m.take i).filter (fun p=> !yR s.t p)++s.m.drop (i+1),x.2++[wA 21 (s.m.getD i pd)]),rfl,?_,?_⟩
   ·show _=_
    rw[f2,hb]
    simp
   ·show x.2++_=_
    rw[f1,hb,hx.2]
    simp
  |false=>
   refine⟨x,rfl,?_,?_⟩
   ·rw[f2,hb,hx.1,hdr]
    simp
   ·rw[f1,hb,hx.2]
    simp) (s:=(s.m,[])) (show s.m.length<1000 by omega) ⟨by simp,rfl⟩
 rw[List.take_length,List.drop_length,List.append_nil] at h2
 rw[List.take_length] at h3
 have cP:qq 1000 1000 s.m 0 r s.st b []=_:=h1
 rw[cP,h2,h3]
theorem vS8 (r:qR){s:qL}(hb:qV s.B)(hd:qS s.m)(hm:∀q∈s.m,yL s.B.1.length q)(cd:s.m.length≤64)(ht:0≤s.t∧s.t<1099511627776)(FQ:r.2.2.2.2≠0)(ho:s.ov=false):
  ∃x:GI,sX 1000 r.1 r.2.1 r.2.2.1 r.2.2.2.1 r.2.2.2.2 s.t s.B.1 s.B.2.1 s.B.2.2.1 s.B.2.2.2 s.pr s.ho s.m s.ids s.to s.ov=some x∧CM 1000 r s.st=some (yD x,x.2.2.2.2.2.2.2.2.2.2.2):=by
 have eY:=hb.n6
 have w:zA (s.t+1)=s.t+1:=zV (by omega) (by omega)
 have eR:CM 1000 r s.st=bif s.ov then some (s.st,[])
  else(KJ 1000 r (zA (s.t+1))).bind fun x0=>
  bif x0 then ((qo 1000 1000 s.m 0 ((zA (s.t+1)),s.st.2) (0,0,false) []).bind fun z=>
   (qp 1000 1000 0 z.1 z.2.1 z.2.2).bind fun z1=>
   some ((im z1.1 ([],z1.1.2.2.2.2.2.2.2.2.1,z1.1.2.2.2.2.2.2.2.2.2.1,true)),z1.2.2))
  else(qq 1000 1000 s.m 0 r ((zA (s.t+1)),s.st.2) (0,0,false) []).bind fun z2=>
  (GJ 1000 z2.1 z2.2.1.1).bind fun x6=>
  (lN 1000 z2.2.1.1 z2.2.1.2.1 z2.2.1.2.2.1 z2.2.1.2.2.2.1 z2.2.1.2.2.2.2.1 z2.2.1.2.2.2.2.2.1 z2.2.1.2.2.2.2.2.2.1 z2.2.1.2.2.2.2.2.2.2.1 z2.2.1.2.2.2.2.2.2.2.2.1 z2.2.1.2.2.2.2.2.2.2.2.2.1 z2.2.1.2.2.2.2.2.2.2.2.2.2 x6).bind fun x7=>
  bif zW (z2.2.2.2.length+x7.2.2.2.2.2.2.2.2.2.2.2.length) 64 then some ((yD x7),(z2.2.2.2++x7.2.2.2.2.2.2.2.2.2.2.2))
  else none:=rfl
 have eT:((s.t+1,s.st.2):qc)=qL.st {s with t:=s.t+1}:=rfl
 rw[eR,w,eT,ho]
 unfold sX wb KJ
 simp only[w,ao,ak]
 cases hc:decide (s.t+1=r.2.2.2.1) with
 |true=>
  simp only[av]
  rw[yQl eY (by decide) (by omega)]
  have c0:=vMb {s with t:=s.t+1,ov:=false} (by show s.m.length≤100;omega) (0,0,false)
  have c1:=vDb {s with t:=s.t+1,ov:=false} (by show s.B.1.length≤6;exact eY) (0,0,false) (s.m.map (wA 22)) (by rw[List.length_map];omega)
  refine⟨_,rfl,?_⟩
  refine(congrArg (fun z=>Option.bind z _) c0).trans ?_
  simp only[ak]
  refine(congrArg (fun z=>Option.bind z _) c1).trans ?_
  rfl
 |false=>
  simp only[ao]
  rw[yPe (by decide) (by omega)]
  have c2:=vN4 r {s with t:=s.t+1,ov:=false} hd (by show s.m.length≤100;omega) (0,0,false)
  have hs:∃x,BR 1000 r.1 r.2.1 r.2.2.1 r.2.2.2.1 r.2.2.2.2 (s.t+1)=some x∧GJ 1000 r (s.t+1)=some x:=by
   unfold BR GJ
   cases decide (s.t+1>0) with
   |false=>exact⟨_,rfl,rfl⟩
   |true=>
    cases decide (s.t+1<r.2.2.2.1) with
    |false=>exact⟨_,rfl,rfl⟩
    |true=>
     have:decide (r.2.2.2.2=0)=false:=aj FQ
     rw[this]
     exact⟨_,rfl,rfl⟩
  obtain⟨x,hx,mL⟩:=hs
  simp only[ak]
  rw[hx]
  have bS:List.Sublist (s.m.filter (fun p=> !yR (s.t+1) p)) s.m:=List.filter_sublist
  have eM:=bS.length_le
  have oI:qS (s.m.filter (fun p=> !yR (s.t+1) p)):=List.Pairwise.sublist bS hd
  obtain⟨C,m',d,f1,f1',f2,f3,f4,f5,f6⟩:=yMn hb oI (fun q hq=>hm q (bS.subset hq)) (by omega) (s.t+1) s.pr s.ho s.ids s.to false x
  have hlen:=f5.length_eq
  rw[List.length_append] at hlen
  have hla:(s.m.filter (yR (s.t+1))).length≤s.m.length:=List.length_filter_le _ _
  have yg:=BD d
  have hr:zW (((s.m.filter (yR (s.t+1))).map (wA 21)).length+(vJ d).length) 64=true:=yE (by rw[List.length_map];omega) (by rw[List.length_map];omega)
  simp only[ak]
  rw[f1]
  simp only[ak,hr,av]
  refine⟨_,rfl,?_⟩
  refine(congrArg (fun z=>Option.bind z _) c2).trans ?_
  simp only[ak]
  refine(congrArg (fun z=>Option.bind z _) mL).trans ?_
  simp only[ak]
  have RU:lN 1000 (s.t+1) s.B.1 s.B.2.1 s.B.2.2.1 s.B.2.2.2 s.pr s.ho (s.m.filter (fun p=> !yR (s.t+1) p)) s.ids s.to false x=_:=f1'
  refine(congrArg (fun z=>Option.bind z _) RU).trans ?_
  simp only[ak]
  show(bif zW (((s.m.filter (yR (s.t+1))).map (wA 21)).length+(vJ d).length) 64 then some ((s.t+1,C.1,C.2.1,C.2.2.1,C.2.2.2,s.pr,s.ho,m',s.ids,s.to,false),(s.m.filter (yR (s.t+1))).map (wA 21)++vJ d) else none)=_
  rw[hr]
  rfl
abbrev nD:=Int×jB
theorem vNa (k:Nat)(kd:Int):∃n,GK k kd=some n∧-1≤n∧n≤6:=by
 have c:∀(b:Bool) (x y:Option Int),(∃n,x=some n∧-1≤n∧n≤6)→(∃n,y=some n∧-1≤n∧n≤6)→∃n,(bif b then x else y)=some n∧-1≤n∧n≤6:=by
  intro b x y hx hy
  cases b
  ·exact hy
  ·exact hx
 unfold GK
 iterate 23 (refine c _ _ _ ⟨_,rfl,by decide,by decide⟩ ?_)
 exact⟨_,rfl,by decide,by decide⟩
theorem ySk {k:Nat}{s:List Int}(hs:s.length≤6):∀(n i:Nat),s.length<i+n→i≤s.length→∃x,qs k n s (s.length:Int) (i:Int)=some x
 |0,i,h,g=>by omega
 |n+1,i,h,g=>by
  show∃x,tt k (qs k n) s (s.length:Int) (i:Int)=some x
  unfold tt
  by_cases hi:i<s.length
  ·simp only[zU,ai hi,av,qG,aB]
   cases decide (s.getD i 0=0) with
   |false=>exact⟨_,rfl⟩
   |true=>
    simp only[aY,ao]
    rw[qO hi (by omega)]
    exact ySk hs n (i+1) (by omega) hi
  ·simp only[zU,aj hi,ao]
   exact⟨_,rfl⟩
theorem ySo {k:Nat}(hk:10≤k)(f:jB):∃b,tu k f=some b:=by
 unfold tu
 obtain⟨n,h1,h2,h3⟩:=vNa k f.1
 rw[h1]
 simp only[ak]
 by_cases h0:n<0
 ·rw[ai h0];exact⟨_,rfl⟩
 ·rw[aj h0,ai (show(0:Int)≤n by omega),ai h3]
  simp only[ao,Bool.and_true,av]
  have hl:(yB [f.2.1,f.2.2.1,f.2.2.2.1,f.2.2.2.2.1,f.2.2.2.2.2.1,f.2.2.2.2.2.2] n.toNat (6-n.toNat)).length≤6:=by
   unfold yB
   rw[List.length_take,List.length_drop]
   omega
  obtain⟨x,hx⟩:=ySk (k:=k) hl k 0 (by omega) (Nat.zero_le _)
  rw[show((0:Nat):Int)=0 from rfl] at hx
  rw[hx]
  cases x<;>exact⟨_,rfl⟩
theorem RV (k:Nat)(a:Int):KK k a=some (decide (a≥10)&&decide (a≤14)):=by
 unfold KK;cases decide (a≥10)<;>rfl
theorem RW (k:Nat)(a:Int):GL k a=some (decide (a≥1)&&decide (a≤14)):=by
 unfold GL;cases decide (a≥1)<;>rfl
def yNv (A B C D E F G b o:Bool):Int:=
 bif !(D&&C) then 5 else bif !b then 5 else bif B&&C then(bif !E then 5 else bif o&& !G then 7 else 0) else bif !(A&&F) then 5 else bif o&& !G then 7 else 0
theorem vCy:∀{A B C D E F G b o:Bool},yNv A B C D E F G b o=0→(D&&C&&((B&&E)||(!B&&A&&F))&&(!o||G))=true:=by
 intro A B C D E F G b o h
 cases A<;>cases B<;>cases C<;>cases D<;>cases E<;>cases F<;>cases G<;>cases b<;>cases o<;>first|rfl|exact absurd h (by decide)
theorem vFj {k:Nat}(hk:10≤k)(r:qR)(s:qL)(c:nD):∃b,tv k r s.st c=some (yNv (decide (c.1≥0)) (decide (c.2.1≥10)) (decide (c.2.1≤14)) (decide (c.2.1≥1)) (decide (c.1= -1)) (decide (c.1<r.1)) (decide (c.2.1=9)) b s.ov):=by
 unfold tv
 rw[RV,RW]
 simp only[ak]
 obtain⟨b,hb⟩:=ySo hk c.2
 rw[hb]
 simp only[ak]
 have eo:s.st.2.2.2.2.2.2.2.2.2.2=s.ov:=rfl
 rw[eo]
 refine⟨b,?_⟩
 generalize decide (c.1≥0)=A
 generalize decide (c.2.1≥10)=B
 generalize decide (c.2.1≤14)=C
 generalize decide (c.2.1≥1)=D
 generalize decide (c.1= -1)=E
 generalize decide (c.1<r.1)=F
 generalize decide (c.2.1=9)=G
 generalize s.ov=o
 cases A<;>cases B<;>cases C<;>cases D<;>cases E<;>cases F<;>cases G<;>cases b<;>cases o<;>rfl
theorem yYo {k:Nat}(hk:10≤k)(r:qR)(s:qL)(c:nD):∃e,tv k r s.st c=some e∧
  (e=0→((10≤c.2.1∧c.2.1≤14∧c.1= -1)∨(1≤c.2.1∧c.2.1≤9∧0≤c.1∧c.1<r.1))∧(s.ov=true→c.2.1=9)):=by
 obtain⟨b,hb⟩:=vFj hk r s c
 refine⟨_,hb,fun e=>?_⟩
 have:=vCy e
 simp only[bN,Bool.or_eq_true,Bool.not_eq_true',bI,decide_eq_false_iff_not] at this
 refine⟨by omega,fun ho=>?_⟩
 rcases this.2 with g|g
 ·rw[ho] at g;cases g
 ·exact g
structure KL (r:qR) (s:qL) (f:jB) (t:qL) (l:List yI):Prop where
 inv:yV r t
 tk:t.t=s.t
 ov:t.ov=s.ov
 few:l.length≤2
 to:t.to=s.to+(if f.1=10 then f.2.2.1 else if f.1=11 then-f.2.2.1 else 0)
theorem vI1 (r:qR)(s:qL)(who:Int)(f:jB):(ki r s who f).2.t=s.t∧(ki r s who f).2.ov=s.ov∧(ki r s who f).2.to=s.to:=by
 unfold ki
 cases decide (f.1=5) with
 |true=>
  cases !((decide (f.2.1≥0)&&decide (f.2.1≤r.1-1))&& !decide (f.2.1=who))<;>cases !(decide (f.2.2.1≥-1)&&decide (f.2.2.1≤1152921504606846976))<;>exact⟨rfl,rfl,rfl⟩
 |false=>
  cases decide (f.1=6) with
  |true=>cases !(decide (f.2.1≥-1)&&decide (f.2.1≤1152921504606846976))<;>exact⟨rfl,rfl,rfl⟩
  |false=>cases !(decide (f.2.1≥0)&&decide (f.2.1≤1152921504606846976))<;>exact⟨rfl,rfl,rfl⟩
theorem vFl (r:qR)(s:qL)(who a n:Int):(kj r s who a n).2.t=s.t∧(kj r s who a n).2.ov=s.ov∧(kj r s who a n).2.to=s.to:=by
 unfold kj
 cases !(decide (a≥0)&&decide (a≤(r.2.1.length:Int)-1)) with
 |true=>exact⟨rfl,rfl,rfl⟩
 |false=>
 cases !(decide (n≥0)&&decide (n≤1099511627776)) with
 |true=>exact⟨rfl,rfl,rfl⟩
 |false=>
 simp only[ao]
 unfold FT
 generalize (s.ho.getD who.toNat []).set a.toNat n=h
 cases decide (kb r.2.1 s.pr h>1152921504606846976) with
 |true=>exact⟨rfl,rfl,rfl⟩
 |false=>cases decide (kb r.2.1 s.pr h<(s.B.1.getD who.toNat ad).2.1)&&decide ((s.B.1.getD who.toNat ad).1+kb r.2.1 s.pr h<0)<;>exact⟨rfl,rfl,rfl⟩
theorem yR6 (r:qR)(s:qL)(a p:Int):(kl r s a p).2.t=s.t∧(kl r s a p).2.ov=s.ov∧(kl r s a p).2.to=s.to:=by
 unfold kl
 cases !(decide (a≥0)&&decide (a≤(r.2.1.length:Int)-1)) with
 |true=>exact⟨rfl,rfl,rfl⟩
 |false=>
 cases !(decide (p≥0)&&decide (p≤1048576)) with
 |true=>exact⟨rfl,rfl,rfl⟩
 |false=>
 simp only[ao]
 unfold F0
 cases qK (fun j=> !decide (jN r.2.1 (s.pr.set a.toNat p) s.ho j>1152921504606846976)) s.B.1.length 0<;>exact⟨rfl,rfl,rfl⟩
theorem ySc {r:qR}{s:qL}{kd to n:Int}:(iP r s kd to n).2.ov=s.ov:=by
 unfold iP
 cases !(decide (to≥0)&&decide (to≤r.1-1)) with
 |true=>rfl
 |false=>
 cases !(decide (n≥1)&&decide (n≤1099511627776)) with
 |true=>rfl
 |false=>
 simp only[ao]
 cases decide (kd=11) with
 |true=>
  simp only[av]
  unfold FW
  cases decide ((s.B.1.getD to.toNat ad).1+(s.B.1.getD to.toNat ad).2.1-(s.B.1.getD to.toNat ad).2.2<n)<;>cases decide (s.to-n<0)<;>cases decide ((wR (s.B.1.getD to.toNat ad) (-n)).2=0)<;>cases decide (s.to-n>1152921504606846976)<;>rfl
 |false=>
  simp only[ao]
  unfold FX
  cases decide ((wR (s.B.1.getD to.toNat ad) n).2=0)<;>cases decide (s.to+n>1152921504606846976)<;>rfl
theorem vIg {r:qR}{s:qL}{who:Int}{f:jB}:(kh r s who f).2.2.length≤1:=by
 unfold kh
 cases vN s.m f.2.1 with
 |none=>exact Nat.zero_le _
 |some x=>
  simp only[]
  cases !decide ((s.m.getD x pd).2.1=who) with
  |true=>exact Nat.zero_le _
  |false=>
  cases decide (f.1=2) with
  |true=>exact Nat.le_refl _
  |false=>
  cases decide (f.1=4) with
  |true=>
   cases !(decide (f.2.2.1≥1)&&decide (f.2.2.1≤3))<;>cases !decide (nB r.2.2.1 r.2.2.2.1 s.t f.2.2.1=0)<;>exact Nat.zero_le _
  |false=>
  cases decide (f.2.2.1=0)<;>cases decide (f.2.2.1=1)<;>exact Nat.zero_le _
theorem vQf {k:Nat}(hk:1000≤k){r:qR}(hr:jR r){s:qL}(h:yV r s)(who:Int){f:jB}(hf:10≤f.1∧f.1≤14):
  ∃e d,tw k (jS r s who) f=some (e,d)∧(e=0→∃t l,d=dk r t who l∧KL r s f t l):=by
 unfold tw
 rw[aj (show¬f.1=1 by omega),aj (show¬f.1=2 by omega),aj (show¬f.1=3 by omega),aj (show¬f.1=4 by omega),aj (show¬f.1=5 by omega),aj (show¬f.1=6 by omega),aj (show¬f.1=7 by omega),aj (show¬f.1=8 by omega)]
 by_cases hq:f.1=10∨f.1=11
 ·obtain⟨d,e1,e2⟩:=yO8 hk hr h who f.1 f.2.1 f.2.2.1
  have g:∃e d,(wh k (jS r s who) f.1 f.2.1 f.2.2.1).bind (fun x=>some (x.1,x.2))=some (e,d)∧(e=0→∃t l,d=dk r t who l∧KL r s f t l):=by
   rw[e1]
   refine⟨_,d,rfl,fun e=>?_⟩
   obtain⟨g1,g2,g3,g4,g5⟩:=yNw h e
   refine⟨_,_,e2 e,g1,g5,ySc,by simp,?_⟩
   rw[g2]
   rcases hq with e|e
   ·rw[if_neg (by omega),if_pos e]
   ·rw[if_pos e,if_neg (by omega),if_pos e]
  rcases hq with e|e
  ·rw[ai e];exact g
  ·rw[aj (show¬f.1=10 by omega),ai e];exact g
 have h0:s.to=s.to+(if f.1=10 then f.2.2.1 else if f.1=11 then-f.2.2.1 else 0):=by rw[if_neg (by omega),if_neg (by omega)];omega
 rw[aj (show¬f.1=10 by omega),aj (show¬f.1=11 by omega)]
 by_cases hp:f.1=12
 ·rw[ai hp]
  obtain⟨d,e1,e2⟩:=yM6 hk hr h who f.2.1 f.2.2.1
  simp only[av,ao]
  rw[e1]
  have bp:=yR6 r s f.2.1 f.2.2.1
  exact⟨_,d,rfl,fun e=>⟨_,_,e2 e,yD4 h e,bp.1,bp.2.1,by simp,bp.2.2.trans h0⟩⟩
 ·rw[aj hp]
  exact⟨_,_,rfl,fun _=>⟨s,[],rfl,h,rfl,rfl,by simp,h0⟩⟩
structure RX (k:Nat) (r:qR) (s:qL) (c:nD) (t:qL) (o:List yI) (e:Int):Prop where
 inv:yV r t
 bad:e≠0→t=s∧o=[]
 to:e=0→t.to=s.to+(if c.2.1=10 then c.2.2.2.1 else if c.2.1=11 then-c.2.2.2.1 else 0)
 still:t=s∨(t.ov=false→jL k t.B (vM t.m t.t)=none)
theorem yV.settled {r:qR}{s:qL}(h:yV r s)(ho:s.ov=false){C:BT}(hc:qV C)(kc:fx s.B C){m:List zB}(hm:List.Sublist m s.m):yV r {s with B:=C,m:=m}:=by
  have hl:=kc.len
  exact{
    tk:=h.tk
    bk:=hc
    n:=by show((C.1.length:Nat):Int)=r.1;rw[hl];exact h.n
    hol:=by show s.ho.length=C.1.length;rw[hl];exact h.hol
    laid:=by show∀i,i<C.1.length→_;rw[hl];exact h.laid
    cred:=by show∀i,i<C.1.length→_;rw[hl];intro i hi;show(C.1.getD i ad).2.1=_;rw[kc.cred i hi];exact h.cred i hi
    most:=by show∀i,i<C.1.length→_;rw[hl];intro i hi;show(C.1.getD i ad).2.1≤_;rw[kc.cred i hi];exact h.most i hi
    waits:=by show jT C.1.length m s.ids;rw[hl];exact h.waits.sub hm
    sum:=by show qM (fun i=>(C.1.getD i ad).1) C.1.length=s.to;rw[hl,kc.sum];exact h.sum
    tot:=h.tot
    over:=h.over
    none:=fun e=>by rw[show s.ov=true from e] at ho;cases ho}
theorem vQe {k:Nat}(hk:1000≤k){r:qR}(hr:jR r){s:qL}(h:yV r s)(ho:s.ov=false)(c:nD)(hc:c.2.1=14):
    ∃t o,(sX k r.1 r.2.1 r.2.2.1 r.2.2.2.1 r.2.2.2.2 s.t s.B.1 s.B.2.1 s.B.2.2.1 s.B.2.2.2 s.pr s.ho s.m s.ids s.to s.ov).bind (fun x4=>some ((yD x4),x4.2.2.2.2.2.2.2.2.2.2.2,(0:Int)))=some (t.st,o,(0:Int))∧RX k r s c t o 0:=by
  have DE:=hr.cl
  have FQ:=hr.pe
  have htk:=h.tk
  have hn:=h.n
  have aU:s.t≠r.2.2.2.1:=by
    have:=h.over
    rw[ho] at this
    exact jh this.symm
  have hbk:=h.bk
  have hm:=h.waits.len
  rw[ho]
  obtain⟨C,m',ov,o,e1,e2,e3,e4,e5⟩:=yU0 (k:=k) (by omega) hbk h.waits.dist h.waits.may (by omega) r.1 r.2.1 r.2.2.1 r.2.2.2.1 r.2.2.2.2 s.t (by omega) (by omega) s.pr s.ho s.ids s.to
  rw[e1]
  simp only[ak]
  have hl:=e3.len
  refine⟨{s with t:=s.t+1,B:=C,m:=m',ov:=ov},o,rfl,?_,fun e=>absurd rfl e,fun _=>?_,.inr e4⟩
  · exact{
      tk:=by show 0≤s.t+1∧s.t+1≤_;omega
      bk:=e2.bk
      n:=by show((C.1.length:Nat):Int)=r.1;rw[hl];exact h.n
      hol:=by show s.ho.length=C.1.length;rw[hl];exact h.hol
      laid:=by show∀i,i<C.1.length→_;rw[hl];exact h.laid
      cred:=by show∀i,i<C.1.length→_;rw[hl];intro i hi;show(C.1.getD i ad).2.1=_;rw[e3.cred i hi];exact h.cred i hi
      most:=by show∀i,i<C.1.length→_;rw[hl];intro i hi;show(C.1.getD i ad).2.1≤_;rw[e3.cred i hi];exact h.most i hi
      waits:=by show jT C.1.length m' s.ids;rw[hl];exact h.waits.sub e2.sub
      sum:=by show qM (fun i=>(C.1.getD i ad).1) C.1.length=s.to;rw[hl,e3.sum];exact h.sum
      tot:=h.tot
      over:=e2.over
      none:=e2.none}
  · show s.to=_
    rw[if_neg (by omega),if_neg (by omega)]
    omega
end Go.Ab.Gi
