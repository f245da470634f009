/- part 2 -/
import Derived.Test.YtbejmoaalcabdaaGreatGiAbB
import Derived.ProofKit
import Derived.Below
import Derived.Carry
set_option linter.unusedVariables false
set_option linter.unusedSimpArgs false
set_option linter.unusedSectionVars false
namespace Go.Ab
theorem XX {t t':Nat→zD}{d:Option Nat}{v:zD}{x:Nat}(h:t x=t' x):gM t d v x=gM t' d v x:=by
 cases d with
 |none=>exact h
 |some d=>
  show wX t d v x=wX t' d v x
  unfold wX
  cases Nat.beq x d with
  |true=>rfl
  |false=>exact h
theorem Hj {t:Nat→zD}{d:Option Nat}{v:zD}{x:Nat}(h:d≠some x):gM t d v x=t x:=by
 cases d with
 |none=>rfl
 |some d=>
  show wX t d v x=_
  unfold wX
  cases e:Nat.beq x d with
  |false=>rfl
  |true=>exact absurd (by rw[show x=d by simpa using e]) h
theorem vMr {t t':Nat→zD}{v:zD}{x:Nat}:gM t (some x) v x=gM t' (some x) v x:=by
 show wX t x v x=wX t' x v x
 unfold wX
 simp
theorem yV1 {t:Nat→zD}{d e:Option Nat}{v u:zD}(h:∀x,d=some x→e≠some x):gM (gM t d v) e u=gM (gM t e u) d v:=by
 funext x
 by_cases hd:d=some x
 ·subst hd
  rw[Hj (h x rfl)]
  exact vMr
 ·rw[Hj hd]
  exact XX (Hj hd)
theorem uL {n:Nat}:∀{u:zZ} {h h':Hp},h n=h' n→qJ h u n=qJ h' u n
 |[],_,_,e=>e
 | (id, o) :: u, h, h', e => uL (u := u) (by
   by_cases hn:n=id
   ·subst hn;rw[yH,yH]
   ·rw[yJ _ _ hn,yJ _ _ hn];exact e)
theorem XY {n:Nat}:∀{u:zZ} {h h':Hp},n∈jA u→qJ h u n=qJ h' u n
 |[],_,_,hm=>by simp[jA] at hm
 |(id,o)::u,h,h',hm=>by
  by_cases hu:n∈jA u
  ·exact XY (u:=u) hu
  ·have e:n=id:=by
    simp only[jA,List.map_cons,List.mem_cons] at hm hu
    exact hm.resolve_right hu
   subst e
   exact uL (u:=u) (by rw[yH,yH])
theorem yX1 {u v:zZ}{h:Hp}(hd:∀a∈jA u,a∉jA v):qJ (qJ h u) v=qJ (qJ h v) u:=by
 funext n
 by_cases hu:n∈jA u
 ·rw[ya (hd n hu)]
  exact XY hu
 ·rw[ya (u:=u) (h:=qJ h v) hu]
  exact uL (ya hu)
theorem vJ4 {st:St}{x y:It}(hd:∀t,x.o.dst=some t→y.o.dst≠some t)(hu:∀a∈jA x.u,a∉jA y.u):vL (vL st x) y=vL (vL st y) x:=by
 unfold vL
 simp only[St.mk.injEq]
 exact⟨yV1 hd,yX1 hu⟩
theorem XZ {x:It}:∀{l:List It} {st:St},(∀y∈l,(∀t,x.o.dst=some t→y.o.dst≠some t)∧∀a∈jA x.u,a∉jA y.u)→vL (l.foldl vL st) x=l.foldl vL (vL st x)
 |[],_,_=>rfl
 |y::l,st,h=>by
  rw[List.foldl_cons,List.foldl_cons,vJ4 (h y (List.mem_cons_self ..)).1 (h y (List.mem_cons_self ..)).2]
  exact XZ fun z hz=>h z (List.mem_cons_of_mem _ hz)
theorem Hk (t:Nat):∀(l:List It) (st bJ:St),st.t t=bJ.t t→(l.foldl vL st).t t=((l.filter fun it=>it.o.dst==some t).foldl vL bJ).t t
 |[],_,_,h=>h
 |y::l,st,bJ,h=>by
  rw[List.foldl_cons,List.filter_cons]
  cases hy:y.o.dst==some t with
  |true=>
   rw[if_pos rfl,List.foldl_cons]
   exact Hk t l _ _ (XX h)
  |false=>
   rw[if_neg (by simp)]
   exact Hk t l _ _ (by
    show gM st.t y.o.dst y.v t=_
    rw[Hj (by simpa using hy)];exact h)
theorem Hl (n:Nat):∀(l:List It) (st bJ:St),st.h n=bJ.h n→(l.foldl vL st).h n=((l.filter fun it=>(jA it.u).contains n).foldl vL bJ).h n
 |[],_,_,h=>h
 |y::l,st,bJ,h=>by
  rw[List.foldl_cons,List.filter_cons]
  cases hy:(jA y.u).contains n with
  |true=>
   rw[if_pos rfl,List.foldl_cons]
   exact Hl n l _ _ (uL h)
  |false=>
   rw[if_neg (by simp)]
   exact Hl n l _ _ (by
    show qJ st.h y.u n=_
    rw[ya (by simpa[jA] using hy)];exact h)
theorem X0 {S W:It→Bool}{bO post:List It}{it:It}(iy:S it=false)(h1:∀y∈bO,W y=true→S y=true)(h2:∀y∈post,W y=true→S y=false):((bO++it::post).filter S).filter W=bO.filter W:=by
 rw[List.filter_append,List.filter_append,List.filter_cons,iy,if_neg (by simp)]
 have e1:(bO.filter S).filter W=bO.filter W:=by
  rw[List.filter_filter]
  refine List.filter_congr fun y hy=>?_
  cases hw:W y with
  |false=>simp
  |true=>simp[h1 y hy hw]
 have e2:(post.filter S).filter W=[]:=by
  rw[List.filter_filter,List.filter_eq_nil_iff]
  intro y hy
  cases hw:W y with
  |false=>simp
  |true=>simp[h2 y hy hw]
 rw[e1,e2,List.append_nil]
def yh (d:sb)(a:Nat):Prop:=match d.refs with
 |none=>True
 |some l=>a∈l∨lv d.nm a=true
theorem N0 {x y:sb}(h:pC x y=false):(∀a∈x.upd,¬yh y a)∧(∀a∈y.upd,¬yh x a)∧∀a∈x.upd,a∉y.upd:=by
 unfold pC at h
 simp only[Bool.or_eq_false_iff] at h
 obtain⟨⟨⟨⟨h1,h2⟩,h3⟩,h4⟩,h5⟩:=h
 have key:∀(d e:sb),Gx d.upd e.refs=false→d.upd.any (lv e.nm)=false→∀a∈d.upd,¬yh e a:=by
  intro d e hm ho a ha hl
  unfold Gx at hm
  unfold yh at hl
  cases hr:e.refs with
  |none=>
   rw[hr] at hm
   have:d.upd=[]:=by simpa using hm
   rw[this] at ha;cases ha
  |some l=>
   rw[hr] at hm hl
   rcases hl with hl|hl
   ·have:=List.any_eq_false.1 hm a ha
    simp at this
    exact this hl
   ·have:=List.any_eq_false.1 ho a ha
    rw[hl] at this;exact this rfl
 refine⟨key x y h1 h3,key y x h2 h4,fun a ha hb=>?_⟩
 have:=List.any_eq_false.1 h5 a ha
 simp at this
 exact this hb
section
variable {E:qE} {A:qB} {k pre na nt:Nat} {R:Type} {ops:Array Oper}
theorem N1 {i j:Nat}{x y:Oper}(hi:ops[i]? =some x)(hj:ops[j]? =some y)(h:pD ops i j=true):
  (∀d,x.dst=some d→d∉y.looksAt ops)∧(∀d,x.dst=some d→y.dst≠some d)∧(∀d,y.dst=some d→d∉x.looksAt ops):=by
 unfold pD at h
 rw[hi,hj] at h
 exact Oper.apart_spec h
theorem yTy (hE:jZ E)(hS:gV E.sums){S:Nat→Bool}(hC:Dw ops S){st:St}{bO post:List It}{it:It}(fi:∀y∈bO++it::post,ops[y.i]? =some y.o)(hg:Hi E A k pre na nt ops (bO.foldl vL st) it)
  (hu:∀y∈bO++it::post,y.wt=false→y.u=[]) (hp:(bO++it::post).Pairwise (NY pre ops (Region.before ops))) (iy:S it.i=false)
  (hr:∀o,ops[it.i]? =some o→∀e∈o.after.toList,Region.binds .any e=true→S e.on=true):
  Hi E A k pre na nt ops (((bO++it::post).filter fun y=>S y.i).foldl vL st) it∧
   (∀y∈post,S y.i=true→(∀t,it.o.dst=some t→y.o.dst≠some t)∧∀a∈jA it.u,a∉jA y.u):=by
 have pY:ops[it.i]? =some it.o:=fi it (by simp)
 obtain⟨Hb,Dn,hp3⟩:=List.pairwise_append.1 hp
 have before:∀y∈bO,S y.i=false→pD ops y.i it.i=true∧(y.wt=true→it.wt=true→pC (y.dn pre) (it.dn pre)=false):=fun y hy hs=>by
  rcases hp3 y hy it (List.mem_cons_self ..) with h|h
  ·rw[vMl hC h hr] at hs;cases hs
  ·exact h
 have behind:∀y∈post,S y.i=true→pD ops it.i y.i=true∧(it.wt=true→y.wt=true→pC (it.dn pre) (y.dn pre)=false):=fun y hy hs=>by
  rcases(List.pairwise_cons.1 Dn).1 y hy with h|h
  ·rw[XW hC _ _ rfl h hs] at iy;cases iy
  ·exact h
 have mW:∀t,t∈it.o.looksAt ops→(((bO++it::post).filter fun y=>S y.i).foldl vL st).t t=(bO.foldl vL st).t t:=fun t ht=>by
  rw[Hk t _ st st rfl,Hk t bO st st rfl,X0 iy (fun y hy hw=>?_) fun y hy hw=>?_]
  ·cases hs:S y.i with
   |true=>rfl
   |false=>
    have:=(N1 (fi y (by simp[hy])) pY (before y hy hs).1).1 t (by simpa using hw)
    exact absurd ht this
  ·cases hs:S y.i with
   |false=>rfl
   |true=>
    have:=(N1 pY (fi y (by simp[hy])) (behind y hy hs).1).2.2 t (by simpa using hw)
    exact absurd ht this
 have X1:it.wt=true→∀n,yh (it.dn pre) n→(((bO++it::post).filter fun y=>S y.i).foldl vL st).h n=(bO.foldl vL st).h n:=fun hw n hn=>by
  rw[Hl n _ st st rfl,Hl n bO st st rfl,X0 iy (fun y hy uK=>?_) fun y hy uK=>?_]
  ·cases hs:S y.i with
   |true=>rfl
   |false=>
    have hm:n∈jA y.u:=by simpa using uK
    have N2:y.wt=true:=by
     cases h:y.wt with
     |true=>rfl
     |false=>rw[hu y (by simp[hy]) h] at hm;simp[jA] at hm
    exact absurd hn ((N0 ((before y hy hs).2 N2 hw)).1 n hm)
  ·cases hs:S y.i with
   |false=>rfl
   |true=>
    have hm:n∈jA y.u:=by simpa using uK
    have N2:y.wt=true:=by
     cases h:y.wt with
     |true=>rfl
     |false=>rw[hu y (by simp[hy]) h] at hm;simp[jA] at hm
    exact absurd hn ((N0 ((behind y hy hs).2 hw N2)).2.1 n hm)
 generalize hL:((bO++it::post).filter fun y=>S y.i).foldl vL st=Hm at mW X1⊢
 refine⟨⟨?_,fun hw=>?_,hg.n⟩,fun y hy hs=>?_⟩
 ·rw[←hg.w]
  unfold yf
  cases uM:it.o.guard with
  |none=>rfl
  |some p=>
   obtain⟨j,want⟩:=p
   dsimp only
   cases iz:Gz ops j with
   |none=>rfl
   |some s=>
    have:s∈it.o.looksAt ops:=by
     have iz:(ops[j]?).bind (·.dst)=some s:=iz
     simp only[Oper.looksAt,uM,iz]
     simp
    simp only[mW s this]
 ·obtain⟨hd,hy,X2⟩:=hg.y hw
  have aO:∀x∈it.o.op.operands,Hm.ev x=(bO.foldl vL st).ev x:=fun x hx=>by
   cases x with
   |tmp t=>exact mW t (List.mem_append_left _ (List.mem_filterMap.2 ⟨.tmp t,by simpa using hx,rfl⟩))
   |_=>rfl
  have hrefs:oh Hm.ev it.o=oh (bO.foldl vL st).ev it.o:=by
   unfold oh
   have:it.o.op.operands.toList.map Hm.ev=it.o.op.operands.toList.map (bO.foldl vL st).ev:=List.map_congr_left fun x hx=>aO x (by simpa using hx)
   simp only[this]
  refine⟨hd,?_,by rw[X2,hrefs]⟩
  rw[vCa aO]
  have hh : iX E A k pre it.o (bO.foldl vL st).ev Hm.h = iX E A k pre it.o (bO.foldl vL st).ev (bO.foldl vL st).h := vGg hS (by
   rw[←X2]
   have:=X1 hw
   unfold yh at this
   have hdn:(it.dn pre).refs=it.r:=rfl
   rw[hdn] at this
   cases h:it.r with
   |none=>
    rw[h] at this
    exact funext fun n=>this n trivial
   |some l=>
    rw[h] at this
    exact this)
  rw[hh]
  exact hy
 ·obtain⟨h1,h2⟩:=behind y hy hs
  refine⟨(N1 pY (fi y (by simp[hy])) h1).2.1,fun a ha hb=>?_⟩
  have hwi:it.wt=true:=by
   cases h:it.wt with
   |true=>rfl
   |false=>rw[hu it (by simp) h] at ha;simp[jA] at ha
  have hwy:y.wt=true:=by
   cases h:y.wt with
   |true=>rfl
   |false=>rw[hu y (by simp[hy]) h] at hb;simp[jA] at hb
  exact(N0 (h2 hwi hwy)).2.2 a ha hb
end
theorem vK8 {ops:Array Oper}(h:CL ops=true){j:Nat}{o:Oper}(ho:ops[j]? =some o):∀e∈o.after.toList,Region.binds .any e=true→e.on<j:=by
 intro e he hb
 have hj:=(Array.getElem?_eq_some_iff.1 ho).1
 have hm:(o,j)∈ops.toList.zipIdx:=by
  rw[List.mem_zipIdx_iff_getElem?]
  simpa using ho
 have:=List.all_eq_true.1 (List.all_eq_true.1 h _ hm) e he
 simpa[hb,Nat.blt_eq] using this
theorem Hn {L:Array Bool}{i:Nat}(hi:i<L.size)(j:Nat):(L.setIfInBounds i true).getD j false=(L.getD j false||i==j):=by
 by_cases h:i=j
 ·subst h;simp[hi]
 ·rw[getD_set_ne false h]
  have:(i==j)=false:=by simpa using h
  rw[this,Bool.or_false]
section
variable {E:qE} {A:qB} {nl:Bool} {k pre na nt:Nat} {a0:Nat→Value} {R:Type} {ops:Array Oper} {M0:zB} {w0:World} {Q:Exit→Act→World→Prop}
theorem vEo (hE:jZ E)(hS:gV E.sums)(he:CL ops=true){dF:List It}{st:St}(hi:dF.map (·.i)=List.range ops.size)(fi:∀y∈dF,ops[y.i]? =some y.o)(hg:∀bO it post,dF=bO++it::post→Hi E A k pre na nt ops (bO.foldl vL st) it)
  (hp:dF.Pairwise (NY pre ops (Region.before ops))) (hQ:∀a w,vG nl na nt a0 M0 w0 (dF.foldl vL st) a w→Q .normal a w):
  ∀(fuel:Nat) (L:Array Bool) (a:Act) (w:World),L.size=ops.size→(∃U:List Nat,U.length≤fuel∧∀j,j<ops.size→L.getD j false=false→j∈U)→Dw ops (fun j=>L.getD j false)→
   vG nl na nt a0 M0 w0 ((dF.filter fun y=>L.getD y.i false).foldl vL st) a w→wpAny E.P .any ops Q fuel L a w:=by
 have hu:∀y∈dF,y.wt=false→y.u=[]:=fun y hy hw=>by
  obtain⟨bO,post,e⟩:=List.append_of_mem hy
  exact((hg bO y post e).n hw).2.1
 have N3:∀y∈dF,y.i<ops.size:=fun y hy=>(Array.getElem?_eq_some_iff.1 (fi y hy)).1
 have dd:(dF.map (·.i)).Nodup:=by rw[hi];exact List.nodup_range
 have full:∀(L:Array Bool) (a:Act) (w:World),(∀j,j<ops.size→L.getD j false=true)→vG nl na nt a0 M0 w0 ((dF.filter fun y=>L.getD y.i false).foldl vL st) a w→Q .normal a w:=fun L a w hl r=>by
  rw[List.filter_eq_self.2 fun y hy=>hl y.i (N3 y hy)] at r
  exact hQ a w r
 have rdy:∀(L:Array Bool),L.size=ops.size→Region.ready .any ops L=[]→∀j,j<ops.size→L.getD j false=true:=fun L hL hr j=>by
  induction j using Nat.strongRecOn with
  |_ j ih=>
   intro hj
   cases hb:L.getD j false with
   |true=>rfl
   |false=>
    have ho:ops[j]? =some ops[j]:=Array.getElem?_eq_getElem hj
    have:j∈Region.ready .any ops L:=mem_ready.2 ⟨by
     have N4:j<L.size:=by omega
     simpa[Array.getD,N4] using hb,ops[j],ho,fun e he' bB=>by
      have aV:=vK8 he ho e (by simpa using he') bB
      exact ih e.on aV (by omega)⟩
    rw[hr] at this;cases this
 intro fuel
 induction fuel with
 |zero=>
  intro L a w hL hU hC r
  obtain⟨U,hUl,hU⟩:=hU
  have hU0:U=[]:=List.eq_nil_of_length_eq_zero (by omega)
  have bn:∀j,j<ops.size→L.getD j false=true:=fun j hj=>by
   cases hb:L.getD j false with
   |true=>rfl
   |false=>have:=hU j hj hb;rw[hU0] at this;cases this
  refine⟨?_,full L a w bn r⟩
  cases hr:Region.ready .any ops L with
  |nil=>rfl
  |cons j l=>
   have:j∈Region.ready .any ops L:=by rw[hr];exact List.mem_cons_self ..
   obtain⟨h0,o,ho,_⟩:=mem_ready.1 this
   have hj:=(Array.getElem?_eq_some_iff.1 ho).1
   have:=bn j hj
   have N4:j<L.size:=by omega
   simp[Array.getD,N4] at this h0
   rw[this] at h0;cases h0
 |succ fuel ih=>
  intro L a w hL hU hC r
  refine⟨fun hr=>full L a w (rdy L hL hr) r,fun i hir=>?_⟩
  obtain⟨h0,o,ho,mX⟩:=mem_ready.1 hir
  have Dy:=(Array.getElem?_eq_some_iff.1 ho).1
  have Dz:i<L.size:=by omega
  have Ho:L.getD i false=false:=by simpa[Array.getD,Dz] using h0
  obtain⟨it,iy,lG⟩:∃it∈dF,it.i=i:=by
   have:i∈dF.map (·.i):=by rw[hi];simpa using Dy
   obtain⟨it,h1,h2⟩:=List.mem_map.1 this
   exact⟨it,h1,h2⟩
  obtain⟨bO,post,e⟩:=List.append_of_mem iy
  have pY:ops[it.i]? =some it.o:=fi it iy
  have fI:o=it.o:=by rw[lG,ho] at pY;exact Option.some.inj pY
  subst fI
  have sA := yTy hE hS hC (by rw [← e]; exact fi) (hg bO it post e) (by rw [← e]; exact hu) (by rw [← e]; exact hp) (by rw [lG]; exact Ho) (fun o' gP ed Hq hb=>by
   rw[pY] at gP
   cases gP
   exact mX ed (by simpa using Hq) hb)
  rw[←e] at sA
  obtain⟨uM,DA⟩:=sA
  have hw:=XR uM.w r
  have yG:(dF.filter fun y=>(L.setIfInBounds i true).getD y.i false).foldl vL st=vL ((dF.filter fun y=>L.getD y.i false).foldl vL st) it:=by
   have other:∀y∈bO++post,(L.setIfInBounds i true).getD y.i false=L.getD y.i false:=fun y hy=>by
    rw[Hn Dz]
    have:y.i≠i:=fun h=>by
     rw[e,List.map_append,List.map_cons] at dd
     have h2:=List.nodup_append.1 dd
     rcases List.mem_append.1 hy with hy|hy
     ·exact h2.2.2 y.i (List.mem_map_of_mem hy) it.i (List.mem_cons_self ..) (by rw[h,lG])
     ·exact(List.nodup_cons.1 h2.2.1).1 (by rw[lG,←h];exact List.mem_map_of_mem hy)
    have:(i==y.i)=false:=by simpa using Ne.symm this
    rw[this,Bool.or_false]
   have e1:dF.filter (fun y=>L.getD y.i false)=bO.filter (fun y=>L.getD y.i false)++post.filter (fun y=>L.getD y.i false):=by
    conv=>lhs;rw[e]
    rw[List.filter_append,List.filter_cons,if_neg (by rw[lG,Ho];simp)]
   have e2:dF.filter (fun y=>(L.setIfInBounds i true).getD y.i false)=bO.filter (fun y=>L.getD y.i false)++it::post.filter (fun y=>L.getD y.i false):=by
    conv=>lhs;rw[e]
    rw[List.filter_append,List.filter_cons,if_pos (by rw[lG,Hn Dz];simp),List.filter_congr fun y hy=>other y (List.mem_append_left _ hy),List.filter_congr fun y hy=>other y (List.mem_append_right _ hy)]
   rw[e1,e2,List.foldl_append,List.foldl_append,List.foldl_cons]
   exact (XZ fun y hy=>by
    obtain⟨hy1,hy2⟩:=List.mem_filter.1 hy
    exact DA y hy1 hy2).symm
  have ax:Dw ops fun j=>(L.setIfInBounds i true).getD j false:=fun j o' hj gP ed Hq hb=>by
   dsimp only at hj⊢
   rw[Hn Dz] at hj
   refine getD_set_true ?_
   rw[Bool.or_eq_true] at hj
   rcases hj with hj|hj
   ·exact hC j o' hj gP ed Hq hb
   ·have:i=j:=by simpa using hj
    subst this
    rw[ho] at gP;cases gP
    exact mX ed (by simpa using Hq) hb
  have X3:∃U:List Nat,U.length≤fuel∧∀j,j<ops.size→(L.setIfInBounds i true).getD j false=false→j∈U:=by
   obtain⟨U,hl,hU⟩:=hU
   refine⟨U.erase i,?_,fun j hj hb=>?_⟩
   ·rw[List.length_erase_of_mem (hU i Dy Ho)];omega
   ·rw[Hn Dz,Bool.or_eq_false_iff] at hb
    exact(List.mem_erase_of_ne (by have:=hb.2;simp at this;exact fun h=>this h.symm)).2 (hU j hj hb.1)
  unfold wpOp
  rw[ho]
  dsimp only
  cases Hr:it.wt with
  |true=>
   rw[Hr] at hw
   rw[if_pos hw]
   obtain⟨hd,hy,_⟩:=uM.y Hr
   refine .inl (vG.op hE r hd hy fun a' w' r'=>?_)
   exact ih _ _ _ (by simpa using hL) X3 ax (by rw[yG];exact r')
  |false=>
   rw[Hr] at hw
   rw[if_neg (by simp[hw])]
   obtain⟨hv,X4,pX⟩:=uM.n Hr
   refine ih _ _ _ (by simpa using hL) X3 ax ?_
   rw[yG]
   have:=r.skip (dst:=it.o.dst) fun d hd=>(pX d hd).1
   unfold vL
   rw[hv,X4]
   exact this
theorem vKm (hE:jZ E)(hS:gV E.sums){id:Nat}{st:St}{K:St→Option R}{out:R}{a:Act}{w:World}(hm:E.P.follows .mixedOrders=true)(he:CL ops=true)
  (h:xI E A k pre na nt ops (Region.before ops) (ops.toList.zipIdx.map fun p=>(p.2,p.1)) [] st K=some out) (r:vG nl na nt a0 M0 w0 st a w)
  (hK:∀bJ a' w',vG nl na nt a0 M0 w0 bJ a' w'→K bJ=some out→Q .normal a' w'):(Code.region id ops true).wp E.P Q a w:=by
 obtain⟨dF,h1,h2,h3,_,h5⟩:=NZ hE _ _ _ _ _ h
 have hi:dF.map (·.i)=List.range ops.size:=by
  have:=congrArg (List.map Prod.fst) h1
  rw[List.map_map,List.map_map] at this
  refine Eq.trans this ?_
  have e:(Prod.fst∘fun p:Oper×Nat=>(p.2,p.1))=Prod.snd:=rfl
  rw[e,List.zipIdx_map_snd,←List.range_eq_range']
  simp
 have fi:∀y∈dF,ops[y.i]? =some y.o:=fun y hy=>by
  have:(y.i,y.o)∈ops.toList.zipIdx.map fun p=>(p.2,p.1):=by rw[←h1];exact List.mem_map.2 ⟨y,hy,rfl⟩
  obtain⟨p,hp,e⟩:=List.mem_map.1 this
  have:=List.mem_zipIdx_iff_getElem?.1 hp
  rw[(Prod.mk.inj e).1,(Prod.mk.inj e).2] at this
  simpa using this
 refine wp_region_any hm (vEo hE hS he (nt:=nt) (na:=na) (a0:=a0) (M0:=M0) (w0:=w0) hi fi h3 h5 (fun a w r=>hK _ a w r h2) _ _ _ _ (by simp) ⟨List.range ops.size,by simp,fun j hj _=>by simpa using hj⟩ (fun j o hj=>?_) ?_)
 ·exfalso
  by_cases h:j<ops.size<;>simp[Array.getD,h] at hj
 ·rw[List.filter_eq_nil_iff.2 fun y hy=>by
   by_cases h:y.i<ops.size<;>simp[Array.getD,h]]
  exact⟨r.ex,r.defers,r.size,r.os,r.tape,r.output,r.keep⟩
end
def zB.nilObj (M:zB)(nm:Nat)(o:Obj)(sz:Nat):zB:={M with κ:=κset M.κ nm ⟨none,0,sz,0,[]⟩,h:=yG M.h nm o}
def iA (t:Ty)(rows:Bool):Obj:=bif rows then .mat 0 [] else .arr true t []
def j7 (t:Ty)(rows:Bool):Nat:=bif rows then 1 else t.size
theorem zB.nilObj_ok {M:zB}(ok:Ok M){nm:Nat}(aL:M.h nm=none)(t:Ty)(rows:Bool):
  Ok (M.nilObj nm (iA t rows) (j7 t rows))∧yK M (M.nilObj nm (iA t rows) (j7 t rows))∧(∀b,qR (M.nilObj nm (iA t rows) (j7 t rows)) b→qR M b):=by
 have hO:∀M':zB,yR M' (iA t rows) ⟨none,0,j7 t rows,0,[]⟩:=fun M'=>by
  cases rows with
  |false=>exact⟨rfl,rfl,fun _=>rfl,rfl⟩
  |true=>exact⟨rfl,rfl,rfl,rfl,by simp[zS.fp],rfl⟩
 have x:yK M (M.nilObj nm (iA t rows) (j7 t rows)):=⟨fun id C h=>by
  have bc:id≠nm:=fun e=>by rw[e,ok.non nm aL] at h;cases h
  exact⟨C,by show κset M.κ nm _ id=_;rw[κset_ne _ _ bc];exact h,C.le_refl⟩,fun _ h=>h,fun _ h=>h,fun _ _=>rfl,fun _ _=>rfl,fun _ _=>rfl⟩
 refine⟨Ok.build ok x (fun id=>id=nm) (fun id h=>yJ _ _ h) (fun id h=>κset_ne _ _ h) (fun _ _ _ _ _ _ _ _ _=>rfl) (fun id o C h1 h2 h3 h4 b hb=>(ok.own b ⟨id,o,C,h2,h3,h4,hb⟩).1) (Nat.le_refl _)
  (fun id o e h=>?_) (fun id e h=>?_) (fun id o C b e h1 h2 h3 h4=>?_) ok.GF ok.Flt,x,fun b hb=>?_⟩
 ·subst e
  have e1:(M.nilObj id (iA t rows) (j7 t rows)).h id=some (iA t rows):=yH _ _ _
  rw[e1] at h
  cases h
  exact⟨_,κset_same _ _ _,hO _⟩
 ·subst e
  have e1:(M.nilObj id (iA t rows) (j7 t rows)).h id=some (iA t rows):=yH _ _ _
  rw[e1] at h;cases h
 ·subst e
  have e1:(M.nilObj id (iA t rows) (j7 t rows)).κ id=some _:=κset_same _ _ _
  rw[e1] at h3
  cases h3
  simp[zS.fp] at h4
 ·obtain⟨id,o,C,h1,h2,h3,h4⟩:=hb
  by_cases e:id=nm
  ·subst e
   have e1:(M.nilObj id (iA t rows) (j7 t rows)).κ id=some _:=κset_same _ _ _
   rw[e1] at h3
   cases h3
   simp[zS.fp] at h4
  ·exact⟨id,o,C,by rw[←h1];exact(yJ _ _ e).symm,h2,by rw[←h3];exact(κset_ne _ _ e).symm,h4⟩
theorem gW.same_mem {M M':zB}(hF:M'.F=M.F)(hG:M'.G=M.G)(hH:M'.H=M.H)(ho:∀b,qR M' b→qR M b):gW M M':=
 ⟨fun b h=>by rw[hF];exact h,fun b h=>by rw[hG];exact h,fun _ _=>by rw[hH],fun _ _=>by rw[hH],fun _ _=>by rw[hH],by rw[hH];exact Nat.le_refl _,fun _ _ _=>by rw[hH],fun b h _=>ho b h,
  fun b h _=>.inl (by rw[hG] at h;exact h),fun b h _=>.inl (by rw[hF] at h;exact h)⟩
theorem gW.refl (M:zB):gW M M:=.same_mem rfl rfl rfl fun _ h=>h
section
variable {na nt:Nat} {a0:Nat→Value} {M0:zB} {w0 w:World} {a:Act}
theorem zP.set_left {α β:Type}{R:α→β→Prop}{l:List α}{m:List β}(h:zP R l m){j:Nat}{c:α}(hc:∀(h1:j<l.length) (h2:j<m.length),R c m[j]):zP R (l.set j c) m:=by
 refine zP.of_get (by rw[List.length_set];exact h.length) fun i hi bS=>?_
 rw[List.length_set] at hi
 by_cases e:j=i
 ·subst e
  rw[List.getElem_set_self]
  exact hc hi bS
 ·rw[List.getElem_set_ne e]
  exact h.get i hi bS
theorem vLi {st:St}{s:Nat}{j:Option Nat}(r:vG false na nt a0 M0 w0 st a w):vG false na nt a0 M0 w0 (MJ st s j) a w:=by
 obtain⟨M,h1,h2,h3,h4,h5⟩:=r.ex
 unfold MJ
 split
 ·split
  ·rename_i c hs
   split
   ·rename_i c' u hf
    have hv:=h5 s
    rw[hs] at hv
    rw[←h1] at hf
    obtain⟨L,k1,k2,k3,k4,k5,_⟩:=CR h3 (wN.refl _) (show zW M c _ from hv) hf
    refine⟨⟨L,by rw[k2,h1],k1.trans h2,k3,h4.trans k4.grow,fun t=>?_⟩,r.defers,r.size,r.os,r.tape,r.output,r.keep⟩
    show zU _ (wX st.t s _ t) _
    unfold wX
    cases e:Nat.beq t s with
    |false=>exact(h5 t).ext k4.ext
    |true=>
     have e:t=s:=by simpa using e
     subst e
     exact k5
   ·exact r
  ·exact r
 ·rename_i j
  split
  ·rename_i id hs
   split
   ·rename_i cells aa
    split
    ·rename_i c yC
     split
     ·rename_i c' u hf
      have aaj:=aa
      rw[←h1] at hf aa
      obtain⟨C0,ou,hO0⟩:=h3.obj id _ aa
      obtain⟨B0,sB,e0,b10,b20,X5,X6,b50⟩:=hO0
      have hj:j<cells.length:=(List.getElem?_eq_some_iff.1 yC).1
      have N5:j<sB.toList.length:=by rw[←X6.length];exact hj
      have j5:=X6.get j hj N5
      have ec:cells[j]=c:=(List.getElem?_eq_some_iff.1 yC).2
      rw[ec] at j5
      obtain⟨L,k1,k2,k3,k4,k5,k6,_⟩:=CR h3 (wN.refl _) j5 hf
      have uN:L.h id=some (.box true cells):=by
       rcases k6 id with h|⟨own,t,xs,h,_⟩|⟨ver,xs,h,_⟩
       ·rw[h,aa]
       ·rw[aa] at h;cases h
       ·rw[aa] at h;cases h
      obtain⟨C,hC,hO⟩:=k3.obj id _ uN
      obtain⟨B,vals,e,b1,b2,b3,b4,b5⟩:=hO
      obtain⟨C1,gi,le⟩:=k4.ext.κ id C0 ou
      rw[hC] at gi;cases gi
      have eB:B=B0:=by rw[le.blk,b10] at b1;exact(Option.some.inj b1).symm
      subst eB
      rw[k1,X5] at b3
      cases b3
      have hx:=zB.write_ext (H':=L.H) k3 uN rfl hC C.le_refl (fun _ _=>rfl) (fun _ _=>rfl) (.box true (cells.set j c'))
      have hw := zB.write_ok (H' := L.H) (o' := .box true (cells.set j c')) k3 uN rfl hC C.le_refl (fun _ h => h) rfl (fun _ _ => rfl) (fun _ _ => rfl) (by
       refine⟨B,sB,e0,b1,b2,by show L.H[B]? =_;rw[k1];exact X5,?_,fun h=>(by cases h)⟩
       exact(b4.mono fun _ _ h=>h.ext hx).set_left fun _ _=>k5.ext hx)
      refine⟨⟨L.write id (.box true (cells.set j c')) C L.H,?_,k1.trans h2,hw.1,(h4.trans k4.grow).trans hw.2.grow,fun t=>((h5 t).ext k4.ext).ext hx⟩,r.defers,r.size,r.os,r.tape,r.output,r.keep⟩
      show yG L.h id _=yG (qJ st.h u) id _
      rw[k2,h1]
     ·exact r
    ·exact r
   ·exact r
  ·rename_i cells hs
   split
   ·rename_i c yC
    split
    ·rename_i c' u hf
     have hv:=h5 s
     rw[hs] at hv
     obtain⟨vs,dz,bn⟩:=hv
     rw[←h1] at hf
     have hj:j<cells.length:=(List.getElem?_eq_some_iff.1 yC).1
     have N5:j<vs.toList.length:=by rw[←bn.length];exact hj
     have j5:=bn.get j hj N5
     have ec:cells[j]=c:=(List.getElem?_eq_some_iff.1 yC).2
     rw[ec] at j5
     obtain⟨L,k1,k2,k3,k4,k5,k6,_⟩:=CR h3 (wN.refl _) j5 hf
     refine⟨⟨L,by rw[k2,h1],k1.trans h2,k3,h4.trans k4.grow,fun t=>?_⟩,r.defers,r.size,r.os,r.tape,r.output,r.keep⟩
     show zU _ (wX st.t s _ t) _
     unfold wX
     cases e:Nat.beq t s with
     |false=>exact(h5 t).ext k4.ext
     |true=>
      have e:t=s:=by simpa using e
      subst e
      exact⟨vs,dz,(bn.mono fun _ _ h=>h.ext k4.ext).set_left fun _ _=>k5⟩
    ·exact r
   ·exact r
  ·exact r
theorem vH5 {st:St}{nm:Nat}{g:Nat×Option Nat×Ty×Bool}(r:vG false na nt a0 M0 w0 st a w)(aL:st.h nm=none):vG false na nt a0 M0 w0 (MK st nm g) a w:=by
 obtain⟨M,h1,h2,h3,h4,h5⟩:=r.ex
 have hM:M.h nm=none:=by rw[h1];exact aL
 obtain⟨k1,k2,k3⟩:=M.nilObj_ok h3 hM g.2.2.1 g.2.2.2
 have cd:zW (M.nilObj nm (iA g.2.2.1 g.2.2.2) (j7 g.2.2.1 g.2.2.2)) (.osl nm none) (.slice none 0 0):=⟨_,κset_same _ _ _,none,0,rfl,rfl,rfl,rfl⟩
 have gr:pW false M0 (M.nilObj nm (iA g.2.2.1 g.2.2.2) (j7 g.2.2.1 g.2.2.2)):=h4.trans (.same_mem rfl rfl rfl k3)
 unfold MK
 cases X7:g.2.2.2&&Wv g.2.2.1 with
 |true=>exact vLi r
 |false=>
 rw[cond_false]
 split
 ·split
  ·rename_i hs
   refine⟨⟨M.nilObj nm (iA g.2.2.1 g.2.2.2) (j7 g.2.2.1 g.2.2.2),?_,h2,k1,gr,fun t=>?_⟩,r.defers,r.size,r.os,r.tape,r.output,r.keep⟩
   ·show yG M.h nm _=yG st.h nm _
    rw[h1];rfl
   ·show zU _ (wX st.t g.1 _ t) _
    unfold wX
    cases e:Nat.beq t g.1 with
    |false=>exact(h5 t).ext k2
    |true=>
     have e:t=g.1:=by simpa using e
     subst e
     have hv:=h5 g.1
     rw[hs] at hv
     have hv:a.tmps.getD g.1 undef=.slice none 0 0:=hv
     rw[hv];exact cd
  ·exact r
 ·rename_i j hj
  split
  ·rename_i id hs
   split
   ·rename_i cells aa
    split
    ·rename_i yC
     have bc:id≠nm:=fun e=>by rw[e,aL] at aa;cases aa
     let M1:=M.nilObj nm (iA g.2.2.1 g.2.2.2) (j7 g.2.2.1 g.2.2.2)
     have mR:M1.h id=some (.box true cells):=by
      show yG M.h nm _ id=_
      rw[yJ _ _ bc,h1];exact aa
     obtain⟨C,hC,hO⟩:=k1.obj id _ mR
     obtain⟨B,vals,e,b1,b2,b3,b4,b5⟩:=hO
     have hx:=zB.write_ext (H':=M1.H) k1 mR rfl hC C.le_refl (fun _ _=>rfl) (fun _ _=>rfl) (.box true (cells.set j (.osl nm none)))
     have hw := zB.write_ok (H' := M1.H) (o' := .box true (cells.set j (.osl nm none))) k1 mR rfl hC C.le_refl (fun _ h => h) rfl (fun _ _ => rfl) (fun _ _ => rfl) (by
      refine⟨B,vals,e,b1,b2,b3,?_,fun h=>(by cases h)⟩
      have hl:=b4.length
      refine zP.of_get (by simpa using hl) fun i hi bS=>?_
      have hb:=b4.get i (by simpa using hi) bS
      by_cases X8:j=i
      ·subst X8
       rw[List.getElem_set_self]
       have aV:j<cells.length:=by simpa using hi
       have ec:cells[j]=.nsl:=by
        rw[List.getElem?_eq_getElem aV] at yC
        exact Option.some.inj yC
       rw[ec] at hb
       have hb:vals.toList[j]=.slice none 0 0:=hb
       rw[hb]
       exact cd.ext hx
      ·rw[List.getElem_set_ne X8]
       exact hb.ext hx)
     refine⟨⟨M1.write id (.box true (cells.set j (.osl nm none))) C M1.H,?_,h2,hw.1,gr.trans hw.2.grow,fun t=>((h5 t).ext k2).ext hx⟩,r.defers,r.size,r.os,r.tape,r.output,r.keep⟩
     show yG (yG M.h nm _) id _=yG (yG st.h nm _) id _
     rw[h1];rfl
    ·exact r
   ·exact r
  ·exact r
theorem X9:∀{l:List (Nat×Option Nat×Ty×Bool)} {st bJ:St} {nm:Nat},vG false na nt a0 M0 w0 st a w→GB st nm l=some bJ→vG false na nt a0 M0 w0 bJ a w
 |[],st,bJ,nm,r,h=>by cases h;exact r
 |g::l,st,bJ,nm,r,h=>by
  unfold GB at h
  split at h
  ·rename_i aL
   exact X9 (vH5 r aL) h
  ·cases h
theorem Ya {id:Nat}:∀{l:List Nat} {n i:Nat},jH id l n=some i→n≤i∧l[i-n]? =some id
 |[],n,i,h=>by cases h
 |x::l,n,i,h=>by
  unfold jH at h
  cases e:Nat.beq x id with
  |true=>
   rw[e] at h
   cases h
   have:x=id:=by simpa using e
   exact⟨Nat.le_refl _,by simp[this]⟩
  |false=>
   rw[e] at h
   obtain⟨h1,h2⟩:=Ya (l:=l) h
   refine⟨by omega,?_⟩
   rw[show i-n=(i-(n+1))+1 by omega,List.getElem?_cons_succ]
   exact h2
theorem N6 {h:Hp}:∀(n:Nat) {todo seen:List Nat},seen.Nodup→(xJ h n todo seen).Nodup
 |0,_,_,hs=>hs
 |n+1,[],_,hs=>hs
 |n+1,id::todo,seen,hs=>by
  unfold xJ
  cases e:seen.any (Nat.beq id) with
  |true=>exact N6 n hs
  |false=>
   refine N6 n (List.nodup_append.2 ⟨hs,by simp,fun x hx y hy exy=>?_⟩)
   have:y=id:=by simpa using hy
   subst this
   subst exy
   have:=List.any_eq_false.1 e x hx
   simp at this
def mY (base : Nat) (κ : Nat → Option zS) (ids : List Nat) : Nat → Option zS := fun n => if base ≤ n then (match ids[n-base]? with
 |some id=>(κ id).map fun C=>{C with ver:=0}
 |none=>none) else none
def zB.ren (M:zB)(base:Nat)(ids:List Nat):zB:={M with κ:=mY base M.κ ids,h:=ui base M.h ids}
theorem vAe {base:Nat}{h:Hp}{ids:List Nat}{n:Nat}{o:Obj}(e:ui base h ids n=some o):∃id o',base≤n∧ids[n-base]? =some id∧h id=some o'∧o=se h (fun i=>(jH i ids 0).map (base+·)) o':=by
 unfold ui at e
 cases hb:Nat.ble base n with
 |false=>rw[hb] at e;cases e
 |true=>
  rw[hb] at e
  simp only[cond_true] at e
  split at e
  ·rename_i id aa
   obtain⟨o',h1,h2⟩:=Option.map_eq_some_iff.1 e
   exact⟨id,o',Nat.le_of_ble_eq_true hb,aa,h1,h2.symm⟩
  ·cases e
theorem vAi {base:Nat}{κ:Nat→Option zS}{ids:List Nat}{id i:Nat}{C:zS}(hi:jH id ids 0=some i)(hC:κ id=some C):mY base κ ids (base+i)=some {C with ver:=0}:=by
 obtain⟨_,h⟩:=Ya hi
 unfold mY
 rw[if_pos (by omega),show base+i-base=i by omega]
 rw[Nat.sub_zero] at h
 rw[h]
 simp[hC]
theorem N7 {M:zB}(ok:Ok M){base:Nat}{ids:List Nat}{c:zG}{v:Value}(h:zW M c v):zW (M.ren base ids) (sd M.h (fun i=>(jH i ids 0).map (base+·)) c) v:=by
 have h1:=h.one
 have look:∀id C,M.κ id=some C→∀i,(jH id ids 0).map (base+·)=some i→(M.ren base ids).κ i=some {C with ver:=0}:=fun id C hC i hi=>by
  obtain⟨j,hj,rfl⟩:=Option.map_eq_some_iff.1 hi
  exact vAi hj hC
 unfold sd
 cases c with
 |osl id r=>
  dsimp only
  obtain⟨C,hC,h⟩:=h
  cases e:(jH id ids 0).map (base+·) with
  |none=>exact h1
  |some i=>cases r with
   |none=>exact⟨_,look id C hC i e,h⟩
   |some p=>exact⟨_,look id C hC i e,h⟩
 |bsl id x y=>
  dsimp only
  obtain⟨C,B,hC,h⟩:=h
  cases e:(jH id ids 0).map (base+·) with
  |none=>exact h1
  |some i=>exact⟨_,B,look id C hC i e,h⟩
 |ptr id x=>
  dsimp only
  obtain⟨C,B,hC,h⟩:=h
  cases e:(jH id ids 0).map (base+·) with
  |none=>exact h1
  |some i=>exact⟨_,B,look id C hC i e,h⟩
 |eptr id x y=>
  dsimp only
  obtain⟨C,B,hC,h⟩:=h
  cases e:(jH id ids 0).map (base+·) with
  |none=>exact h1
  |some i=>exact⟨_,B,look id C hC i e,h⟩
 |mrow id x ver=>
  dsimp only
  obtain⟨C,hC,ho,hle,h⟩:=h
  cases e:(jH id ids 0).map (base+·) with
  |none=>exact h1
  |some i=>
   split
   ·rename_i i' v' xs ei aa
    cases ei
    cases cM:Nat.beq v' ver with
    |false=>exact h1
    |true=>
     have pK:v'=ver:=by simpa using cM
     obtain⟨C',ax,hO⟩:=ok.obj id _ aa
     rw[hC] at ax;cases ax
     exact⟨_,look id C hC i e,h1,Nat.le_refl _,fun _=>h (by rw[hO.1,pK])⟩
   ·exact h1
 |mptr id x=>
  dsimp only
  obtain⟨C,B,hC,h⟩:=h
  cases e:(jH id ids 0).map (base+·) with
  |none=>exact h1
  |some i=>exact⟨_,B,look id C hC i e,h⟩
 |meptr id x y ver=>
  dsimp only
  obtain⟨C,hC,ho,hle,h⟩:=h
  cases e:(jH id ids 0).map (base+·) with
  |none=>exact h1
  |some i=>
   split
   ·rename_i i' v' xs ei aa
    cases ei
    cases cM:Nat.beq v' ver with
    |false=>exact h1
    |true=>
     have pK:v'=ver:=by simpa using cM
     obtain⟨C',ax,hO⟩:=ok.obj id _ aa
     rw[hC] at ax;cases ax
     exact⟨_,look id C hC i e,h1,Nat.le_refl _,fun _=>h (by rw[hO.1,pK])⟩
   ·exact h1
 |map id=>
  dsimp only
  obtain⟨C,B,hC,h⟩:=h
  cases e:(jH id ids 0).map (base+·) with
  |none=>exact h1
  |some i=>exact⟨_,B,look id C hC i e,h⟩
 |fn f cap=>
  dsimp only
  obtain⟨cv,rfl,h⟩:=h
  split
  ·rename_i c hc
   refine⟨cv,rfl,?_⟩
   have:=Ds _ _ _ hc
   generalize cv.toList=l at h
   clear hc h1
   induction cap generalizing c l with
   |nil=>cases c with
    |nil=>cases l with
     |nil=>trivial
     |cons _ _=>exact h.elim
    |cons _ _=>exact this.elim
   |cons x cap ih=>cases c with
    |nil=>exact this.elim
    |cons y c=>cases l with
     |nil=>exact h.elim
     |cons u l=>
      obtain⟨⟨C,B,hC,hh⟩,h⟩:=h
      exact⟨⟨_,B,look x C hC y this.1,hh⟩,ih c this.2 l h⟩
  ·exact h1
 |fsl sh t xs=>exact h
 |fptr sh t x off=>exact h
 |_=>exact h
theorem DB {M:zB}(ok:Ok M){base:Nat}{ids:List Nat}:∀{cs:List zG} {vs:List Value},zP (zW M) cs vs→zP (zW (M.ren base ids)) (cs.map (sd M.h fun i=>(jH i ids 0).map (base+·))) vs
 |[],[],_=>trivial
 |_::_,_::_,h=>⟨N7 ok h.1,DB ok h.2⟩
 |[],_::_,h=>h.elim
 |_::_,[],h=>h.elim
theorem vL4 {M:zB}(ok:Ok M){base:Nat}{ids:List Nat}{x:zD}{v:Value}(h:zU M x v):zU (M.ren base ids) (Wu M.h (fun i=>(jH i ids 0).map (base+·)) x) v:=by
 cases x with
 |undef=>trivial
 |skp=>exact h
 |c x=>exact N7 (c:=x) ok h
 |agg cs=>
  obtain⟨vs,h1,h2⟩:=h
  exact⟨vs,h1,DB ok h2⟩
 |tup xs=>
  obtain⟨vs,h1,h2⟩:=h
  refine⟨vs,h1,zP.map_left (h2.mono fun p u hp=>?_)⟩
  obtain⟨b,cs⟩:=p
  cases b with
  |true=>
   obtain⟨us,q1,q2⟩:=hp
   exact⟨us,q1,DB ok q2⟩
  |false=>
   cases cs with
   |nil=>exact hp
   |cons c cs=>cases cs with
    |nil=>exact N7 (c:=c) ok hp
    |cons _ _=>exact hp
theorem Yb {M:zB}(ok:Ok M){base:Nat}{ids:List Nat}{o:Obj}{C:zS}(h:yR M o C):yR (M.ren base ids) (se M.h (fun i=>(jH i ids 0).map (base+·)) o) {C with ver:=0}:=by
 cases o with
 |box own cells=>
  obtain⟨B,vals,e,h1,h2,h3,h4,h5⟩:=h
  exact⟨B,vals,e,h1,h2,h3,DB ok h4,h5⟩
 |robox cells=>
  obtain⟨B,vals,e,h1,h2,h3,h4,h5⟩:=h
  exact⟨B,vals,e,h1,h2,h3,DB ok h4,h5⟩
 |arr own t xs=>exact h
 |mat ver xs=>
  obtain⟨h1,h2⟩:=h
  exact⟨rfl,h2⟩
 |pmat ver xs n=>
  obtain⟨h1,h2⟩:=h
  exact⟨rfl,h2⟩
 |imap cX=>exact h
 |gone=>trivial
theorem N8 {h:Hp}{ρ:Nat→Option Nat}(o:Obj):(se h ρ o).owned=o.owned:=by cases o<;>rfl
theorem zB.ren_ok {M:zB}(ok:Ok M){base:Nat}{ids:List Nat}(dd:ids.Nodup):Ok (M.ren base ids)∧∀b,qR (M.ren base ids) b→qR M b:=by
 have at':∀n o,(M.ren base ids).h n=some o→∃id o' C,base≤n∧ids[n-base]? =some id∧M.h id=some o'∧M.κ id=some C∧o=se M.h (fun i=>(jH i ids 0).map (base+·)) o'∧yR M o' C∧(M.ren base ids).κ n=some {C with ver:=0}:=fun n o h=>by
  obtain⟨id,o',h1,h2,h3,h4⟩:=vAe h
  obtain⟨C,hC,hO⟩:=ok.obj id _ h3
  refine⟨id,o',C,h1,h2,h3,hC,h4,hO,?_⟩
  show mY base M.κ ids n=_
  unfold mY
  rw[if_pos h1,h2]
  simp[hC]
 have lr:∀b,qR (M.ren base ids) b→qR M b:=fun b ⟨n,o,C,h1,h2,h3,h4⟩=>by
  obtain⟨id,o',C',k1,k2,k3,k4,k5,k6,k7⟩:=at' n o h1
  rw[k7] at h3
  cases h3
  exact⟨id,o',C',k3,by rw[←h2,k5,N8],k4,h4⟩
 refine⟨⟨fun n o h=>?_,fun n h=>?_,fun i j oi oj Ci Cj b j0 h1 h2 h3 h4 h5 h6 h7 h8=>?_,fun b h=>ok.own b (lr b h),ok.GF,ok.Flt⟩,lr⟩
 ·obtain⟨id,o',C,k1,k2,k3,k4,rfl,k6,k7⟩:=at' n o h
  exact⟨_,k7,Yb ok k6⟩
 ·show mY base M.κ ids n=none
  unfold mY
  split
  ·rename_i hb
   split
   ·rename_i id aa
    have:M.h id=none:=by
     cases e:M.h id with
     |none=>rfl
     |some o=>
      have:(M.ren base ids).h n=some (se M.h (fun i=>(jH i ids 0).map (base+·)) o):=by
       show ui base M.h ids n=_
       unfold ui
       rw[show Nat.ble base n=true from Nat.ble_eq_true_of_le hb,aa]
       simp[e]
      rw[this] at h;cases h
    rw[ok.non id this];rfl
   ·rfl
  ·rfl
 ·obtain⟨id,o',C,k1,k2,k3,k4,k5,k6,k7⟩:=at' i oi h1
  obtain⟨jd,p',D,q1,q2,q3,q4,q5,q6,q7⟩:=at' j oj h2
  rw[k7] at h5
  rw[q7] at h6
  cases h5
  cases h6
  refine ok.disj id jd o' p' C D b (fun e=>?_) k3 q3 (by rw[←h3,k5,N8]) (by rw[←h4,q5,N8]) k4 q4 h7 h8
  subst e
  have hi:=(List.getElem?_eq_some_iff.1 k2)
  have hj:=(List.getElem?_eq_some_iff.1 q2)
  have:=(List.getElem_inj (h₀:=hi.1) (h₁:=hj.1) dd).1 (by rw[hi.2,hj.2])
  omega
theorem Yc:∀{a b:List Nat},Gu a b=true→a=b
 |[],[],_=>rfl
 |x::a,y::b,h=>by
  simp only[Gu,Bool.and_eq_true] at h
  rw[Nat.eq_of_beq_eq_true h.1,Yc h.2]
 |[],_::_,h=>by cases h
 |_::_,[],h=>by cases h
theorem yU9 {c v:zG}(h:MD c v=true):c=.undef∨c=v:=by
 unfold MD at h
 split at h
 ·exact .inl rfl
 ·exact .inr rfl
 ·exact .inr rfl
 ·exact .inr rfl
 ·exact .inr rfl
 ·exact .inr (by rw[Nat.eq_of_beq_eq_true h])
 ·simp only[Bool.and_eq_true] at h
  exact .inr (by rw[Nat.eq_of_beq_eq_true h.1.1,Nat.eq_of_beq_eq_true h.1.2,Nat.eq_of_beq_eq_true h.2])
 ·simp only[Bool.and_eq_true] at h
  exact .inr (by rw[Nat.eq_of_beq_eq_true h.1,Nat.eq_of_beq_eq_true h.2])
 ·simp only[Bool.and_eq_true] at h
  exact .inr (by rw[Nat.eq_of_beq_eq_true h.1,Yc h.2])
 ·exact .inr (by rw[Nat.eq_of_beq_eq_true h])
 ·cases h
theorem lH {α:Type}{c:Bool}{x:Option α}{y:α}(h:(bif c then x else none)=some y):c=true∧x=some y:=by
 cases c with
 |true=>exact⟨rfl,h⟩
 |false=>cases h
theorem pZ {M:zB}(ok:Ok M):∀{l:List CS} {cs:List zG} {d:SL l} {vs:List Value},ij l cs=some d→zP (zW M) cs vs→zP (zW M) (mK l d) vs
 |[],[],_,[],_,_=>trivial
 |.int k::l,c::cs,d,v::vs,h,hv=>by
  cases c<;>first|(cases h;done)|skip
  unfold ij at h
  obtain⟨hk,h⟩:=lH h
  split at h
  ·rename_i d' hd
   cases h
   refine⟨?_,pZ ok hd hv.2⟩
   rw[←rU hk];exact hv.1
  ·cases h
 |.bool::l,c::cs,d,v::vs,h,hv=>by
  cases c<;>first|(cases h;done)|skip
  unfold ij at h
  split at h
  ·rename_i d' hd
   cases h
   exact⟨hv.1,pZ ok hd hv.2⟩
  ·cases h
 |.dat sh t::l,c::cs,d,v::vs,h,hv=>by
  cases c<;>first|(cases h;done)|skip
  ·rename_i CK s xs
   unfold ij at h
   obtain⟨hs,h⟩:=lH h
   split at h
   ·rename_i ys d' hx hd
    cases h
    obtain⟨e,hx⟩:=ja hx
    subst e
    subst hx
    refine⟨?_,pZ ok hd hv.2⟩
    have h1:zY M.H (bif CK then M.G else M.F) (.sl s) xs (fun _=>some v):=hv.1
    cases sh with
    |true=>
     have:CK=true:=by simpa using hs
     subst this
     exact h1
    |false=>cases CK with
     |false=>exact h1
     |true=>exact yQ ok.GF (fun _ _=>rfl) _ _ _ _ (fun _ _=>rfl) h1
   ·cases h
  ·unfold ij at h
   split at h
   ·rename_i d' hd
    cases h
    refine⟨?_,pZ ok hd hv.2⟩
    rw[show v=.slice none 0 0 from hv.1]
    exact⟨none,0,0,rfl,rfl,Nat.le_refl _,.inl ⟨rfl,fun _=>rfl⟩⟩
   ·cases h
 |.lit c::l,x::cs,d,v::vs,h,hv=>by
  unfold ij at h
  obtain⟨he,h⟩:=lH h
  refine⟨?_,pZ ok h hv.2⟩
  rcases yU9 he with rfl|rfl
  ·exact hv.1.one
  ·exact hv.1
 |[],_::_,_,_,h,_=>by cases h
 |.int _::_,[],_,_,h,_=>by cases h
 |.bool::_,[],_,_,h,_=>by cases h
 |.dat _ _::_,[],_,_,h,_=>by cases h
 |.lit _::_,[],_,_,h,_=>by cases h
 |[],[],_,_::_,_,hv=>hv.elim
 |_::_,_::_,_,[],_,hv=>hv.elim
theorem vEm {M:zB}(ok:Ok M){v:VS}{a:zD}{d:SL v.cells}{rv:Value}(h:ME v a=some d)(hv:zU M a rv):zU M (MF v d) rv:=by
 cases v with
 |c x=>
  cases a with
  |c y=>
   have:=pZ ok (vs:=[rv]) (show ij [x] [y]=some d from h) ⟨hv,trivial⟩
   show zU M (match mK [x] d with|c::_=>.c c|[]=>.undef) rv
   match hh:mK [x] d,this with
   |[c],this=>exact this.1
  |_=>cases h
 |agg l=>
  cases a with
  |agg vs=>
   obtain⟨us,rfl,hx⟩:=hv
   exact⟨us,rfl,pZ ok (show ij l vs=some d from h) hx⟩
  |_=>cases h
theorem yUz {M:zB}(ok:Ok M){o:OS}{x:Obj}{d:o.den}{C:zS}(h:Gv o x=some d)(hO:yR M x C)(hv:C.ver=0):yR M (Gw o d) C∧(Gw o d).owned=x.owned:=by
 unfold Gv at h
 split at h
 ·obtain⟨he,h'⟩:=lH h
  have he:=eq_of_beq he
  subst he
  clear h
  obtain⟨B,vals,e,h1,h2,h3,h4,h5⟩:=hO
  exact⟨⟨B,vals,e,h1,h2,h3,pZ ok h' h4,h5⟩,rfl⟩
 ·obtain⟨B,vals,e,h1,h2,h3,h4,h5⟩:=hO
  exact⟨⟨B,vals,e,h1,h2,h3,pZ ok h h4,h5⟩,rfl⟩
 ·obtain⟨he,h'⟩:=lH h
  have he:=eq_of_beq he
  subst he
  clear h
  obtain⟨e,hx⟩:=ja h'
  subst e
  subst hx
  exact⟨hO,rfl⟩
 ·cases h
  exact⟨⟨hv,hO.2⟩,rfl⟩
 ·cases h
  exact⟨⟨hv,hO.2⟩,rfl⟩
 ·cases h
  exact⟨hO,rfl⟩
 ·cases h
theorem Yd {f:zD→zD}{t:Nat→zD}:∀{l:List (Nat×VS)} {d:SV l} {n:Nat} {v:zD},GC f t l=some d→(xH l d).lookup n=some v→∃(s:VS) (x:SL s.cells),ME s (f (t n))=some x∧v=MF s x
 |[],d,n,v,_,h=>by cases h
 |s::l,d,n,v,hr,h=>by
  unfold GC at hr
  split at hr
  ·rename_i x ds h1 h2
   cases hr
   unfold xH at h
   rw[List.lookup_cons] at h
   cases e:n==s.1 with
   |true=>
    rw[e] at h
    cases h
    have:n=s.1:=by simpa using e
    rw[this]
    exact⟨s.2,x,h1,rfl⟩
   |false=>
    rw[e] at h
    exact Yd h2 h
  ·cases hr
theorem Ye {f:Obj→Obj}{h0:Hp}:∀{l:List OS} {ids:List Nat} {d:OL l},GD f h0 l ids=some d→(mL l d).length=ids.length∧∀(i:Nat) (o:Obj),(mL l d)[i]? =some o→∃(s:OS) (x:s.den) (id:Nat) (y:Obj),ids[i]? =some id∧h0 id=some y∧Gv s (f y)=some x∧o=Gw s x
 |[],[],d,_=>⟨rfl,fun i o h=>by simp[mL] at h⟩
 |s::l,id::ids,d,h=>by
  unfold GD at h
  split at h
  ·rename_i x ds h1 h2
   cases h
   obtain⟨y,h3,h4⟩:=Option.bind_eq_some_iff.1 h1
   obtain⟨k1,k2⟩:=Ye h2
   refine⟨by simp[mL,k1],fun i o hi=>?_⟩
   cases i with
   |zero=>
    simp only[mL,List.getElem?_cons_zero,Option.some.injEq] at hi
    exact⟨s,x,id,y,rfl,h3,h4,hi.symm⟩
   |succ i=>
    simp only[mL,List.getElem?_cons_succ] at hi
    exact k2 i o hi
  ·cases h
 |[],_::_,_,h=>by cases h
 |_::_,[],_,h=>by cases h
theorem yXn {g0 base n:Nat}{S:zL}{st:St}{d:S.den}(r:vG false na nt a0 M0 w0 st a w)(h:ML g0 base n S st=some d):vG false na nt a0 M0 w0 (zV base S d) a w:=by
 unfold ML at h
 split at h
 ·cases h
 rename_i st1 hg
 have r:=X9 r hg
 dsimp only at h
 generalize iu:xJ st1.h n _ []=ids at h
 have dd:ids.Nodup:=by rw[←iu];exact N6 n List.nodup_nil
 split at h
 case h_2=>cases h
 rename_i da db ha hb
 cases h
 obtain⟨M,h1,h2,h3,h4,h5⟩:=r.ex
 rw[←h1] at ha hb
 obtain⟨k1,k2⟩:=M.ren_ok h3 (base:=base) dd
 obtain⟨ol,oa⟩:=Ye hb
 let M':zB:={M.ren base ids with h:=(zV base S (da,db)).h}
 have Hs:∀n o',M'.h n=some o'→∃o C,(M.ren base ids).h n=some o∧M'.κ n=some C∧yR (M.ren base ids) o' C∧o'.owned=o.owned:=fun m o' e=>by
  have e:(bif Nat.ble base m then(mL S.objs db)[m-base]? else none)=some o':=e
  obtain⟨hle,e⟩:=lH e
  obtain⟨s,x,id,y,q1,q2,q3,rfl⟩:=oa _ _ e
  obtain⟨C,hC,hO⟩:=h3.obj id y q2
  have hκ:(M.ren base ids).κ m=some {C with ver:=0}:=by
   show mY base M.κ ids m=_
   unfold mY
   rw[if_pos (Nat.le_of_ble_eq_true hle),q1]
   simp[hC]
  have hh:(M.ren base ids).h m=some (se M.h (fun i=>(jH i ids 0).map (base+·)) y):=by
   show ui base M.h ids m=_
   unfold ui
   rw[hle,q1]
   simp[q2]
  obtain⟨p1,p2⟩:=yUz k1 q3 (Yb h3 hO) rfl
  exact⟨_,_,hh,hκ,p1,p2⟩
 have x:yK (M.ren base ids) M':=⟨fun _ C h=>⟨C,h,C.le_refl⟩,fun _ h=>h,fun _ h=>h,fun _ _=>rfl,fun _ _=>rfl,fun _ _=>rfl⟩
 have aD:∀b,qR M' b→qR (M.ren base ids) b:=fun b ⟨id,o',C,q1,q2,q3,q4⟩=>by
  obtain⟨o,D,p1,p2,p3,p4⟩:=Hs id o' q1
  exact⟨id,o,C,p1,by rw[←p4];exact q2,q3,q4⟩
 have iq:Ok M':=by
  refine⟨fun id o' q=>?_,fun id q=>?_,fun i j oi oj Ci Cj b j0 q1 q2 q3 q4 q5 q6 q7 q8=>?_,fun b hb=>k1.own b (aD b hb),k1.GF,k1.Flt⟩
  ·obtain⟨o,C,p1,p2,p3,p4⟩:=Hs id o' q
   exact⟨C,p2,p3.ext x fun _ _ _=>rfl⟩
  ·have q:(bif Nat.ble base id then(mL S.objs db)[id-base]? else none)=none:=q
   show mY base M.κ ids id=none
   unfold mY
   cases hle:Nat.ble base id with
   |false=>rw[if_neg fun h=>by rw[Nat.ble_eq_true_of_le h] at hle;cases hle]
   |true=>
    rw[hle] at q
    have q:(mL S.objs db)[id-base]? =none:=q
    rw[List.getElem?_eq_none_iff,ol] at q
    rw[List.getElem?_eq_none q]
    split<;>rfl
  ·obtain⟨o1,C1,p1,p2,p3,p4⟩:=Hs i oi q1
   obtain⟨o2,C2,p5,p6,p7,p8⟩:=Hs j oj q2
   exact k1.disj i j o1 o2 Ci Cj b j0 p1 p5 (by rw[←p4];exact q3) (by rw[←p8];exact q4) q5 q6 q7 q8
 refine⟨⟨M',rfl,h2,iq,h4.trans (.same_mem rfl rfl rfl fun b hb=>k2 b (aD b hb)),fun m=>?_⟩,r.defers,r.size,r.os,r.tape,r.output,r.keep⟩
 show zU M' (match(xH S.slots da).lookup m with|some v=>v|none=>.undef) _
 cases hl:(xH S.slots da).lookup m with
 |none=>trivial
 |some v=>
  obtain⟨s,y,q1,rfl⟩:=Yd ha hl
  exact(vEm k1 q1 (vL4 h3 (h5 m))).ext x
theorem Ht {pre:Nat}{S:zL}{st:St}{d:S.den}(r:vG false na nt a0 M0 w0 st a w)(h:CN pre S st=some d):vG false na nt a0 M0 w0 (zV (pre+fH) S d) a w:=yXn r h
end
def Ex.toExit:Ex→Exit
 |.normal=>.normal
 |.ret=>.ret
 |.exit id=>.exit id
theorem Yf {P:Program}{Q:Exit→Act→World→Prop}{c:Code}(I:Nat→Act→World→Prop)(round:∀n a w,I n a w→c.wp P (Exit.then (fun a' w'=>∃m,m<n∧I m a' w') Q) a w){n:Nat}{a:Act}{w:World}(h₀:I n a w):(Code.loop c).wp P Q a w:=by
 intro b k cs
 have key:∀n a w,I n a w→∃e a' w',Q e a' w'∧Arrives P (lone (b.at a (.code c::.inLoop c::k)) cs w) b k cs e a' w':=by
  intro n
  induction n using Nat.strongRecOn with
  |_ n ih=>
   intro a w hI
   obtain⟨e,a₁,w₁,hq,iB⟩:=round n a w hI b (.inLoop c::k) cs
   cases e with
   |normal=>
    obtain⟨m,hm,hI₁⟩:=hq
    obtain⟨e₂,a₂,w₂,hq₂,harr₂⟩:=ih m hm a₁ w₁ hI₁
    exact⟨e₂,a₂,w₂,hq₂,.of_steps (Steps.trans iB (.one step_inLoop)) harr₂⟩
   |exit id=>exact⟨_,a₁,w₁,hq,.pass (x:=.inLoop c) rfl (fun _ _=>.inl (by simp)) iB⟩
   |goto l=>exact⟨_,a₁,w₁,hq,.pass (x:=.inLoop c) rfl (fun _ _=>.inl (by simp)) iB⟩
   |ret=>exact⟨_,a₁,w₁,hq,.pass (x:=.inLoop c) rfl (fun _ _=>.inl (by simp)) iB⟩
   |panic ch=>exact⟨_,a₁,w₁,hq,.pass (x:=.inLoop c) rfl (fun _ _=>.inl (by simp)) iB⟩
   |outgrown=>exact⟨_,a₁,w₁,hq,.pass (x:=.inLoop c) rfl (fun _ _=>.inl (by simp)) iB⟩
 obtain⟨e,a',w',hq,iB⟩:=key n a w h₀
 exact⟨e,a',w',hq,.of_steps (.one step_loop) iB⟩
def Hu (tmps:Array Value):ResultVar→Sem Value
 |.tmp t=>pure (tmps.getD t undef)
 |.cell c t=>do loadVar t (←asAddr (tmps.getD c undef))
def uO (base:Nat):(l:List (Ex×zL))→mc l→Ex×St
 |[],d=>(.normal,⟨fun _=>.undef,fun _=>none⟩)
 |[p],d=>(p.1,zV base p.2 d)
 |p::q::l,d=>match d with
  |.inl d=>(p.1,zV base p.2 d)
  |.inr d=>uO base (q::l) d
theorem Yg {R:Type}{base:Nat}{K:Ex→St→Option R}{out:R}:∀{l:List (Ex×zL)} {d:mc l},xL base l d K=some out→K (uO base l d).1 (uO base l d).2=some out
 |[],_,h=>by cases h
 |[p],_,h=>h
 |p::q::l,.inl d,h=>h
 |p::q::l,.inr d,h=>Yg (l:=q::l) h
def DC (base:Nat):(l:List zL)→lu l→St
 |[],_=>⟨fun _=>.undef,fun _=>none⟩
 |[S],d=>zV base S d
 |S::T::l,d=>match d with
  |.inl d=>zV base S d
  |.inr d=>DC base (T::l) d
theorem Yh {R:Type}{base:Nat}{K:St→Option R}{out:R}:∀{l:List zL} {d:lu l},GG base l d K=some out→K (DC base l d)=some out
 |[],_,h=>by cases h
 |[S],_,h=>h
 |S::T::l,.inl d,h=>h
 |S::T::l,.inr d,h=>Yh (l:=T::l) h
def qH (P:Program)(pre na nt:Nat)(b:Code)(L:qI):Prop:=∀k d x,L.sum k d=some x→∀(a0:Nat→Value) (M0:zB) (w0:World) (a:Act) (w:World) (Q:Exit→Act→World→Prop),
 vG false na nt a0 M0 w0 (DC (pre+fH) L.ins d) a w→
 (∀(o:mc L.outs) a' w',(∀R K,L.elim (pre+fH) x R K=xL (pre+fH) L.outs o K)→vG false na nt a0 M0 w0 (uO (pre+fH) L.outs o).2 a' w'→Q (uO (pre+fH) L.outs o).1.toExit a' w')→
 (Code.loop b).wp P Q a w
def vN (P:Program)(A:qB)(pre na nt:Nat):Code→Prop
 |.seq a b=>vN P A pre na nt a∧vN P A pre na nt b
 |.cond _ a b=>vN P A pre na nt a∧vN P A pre na nt b
 |.block _ b=>vN P A pre na nt b
 |.loop b=>(∀L,sf A b=some L→qH P pre na nt b L)∧(sf A b=none→vN P A pre na nt b)
 |_=>True
theorem Yi {A:qB}{c:Operand}{b:Bool}{st:St}(h:st.ev c=.c (.bool b)):GH A c b st=st:=by
 unfold GH
 split
 ·rename_i s _
  have h:st.t s=.c (.bool b):=h
  rw[NW h]
 ·rfl
section
variable {nl:Bool} {E:qE} {A:qB} {k pre na nt:Nat} {a0:Nat→Value} {R:Type} {M0:zB} {w0:World} {out:R}
theorem N9 {a:Act}{w:World}{st:St}(r:vG false na nt a0 M0 w0 st a w):∀{l:List zL} {x:lu l},xK pre l st=some x→vG false na nt a0 M0 w0 (DC (pre+fH) l x) a w
 |[],_,h=>by cases h
 |[S],x,h=>Ht r h
 |S::T::l,x,h=>by
  unfold xK at h
  split at h
  ·rename_i d hd
   cases h
   exact Ht r hd
  ·split at h
   ·rename_i d hd
    cases h
    exact N9 r (l:=T::l) hd
   ·cases h
theorem Yj (hE:jZ E)(hS:gV E.sums)(hm:E.P.follows .mixedOrders=true)(ye:nl=true→A.loops=[]):∀(c:Code),vN E.P A pre na nt c→∀(st:St) (K:Ex→St→Option R) (a:Act) (w:World) (Q:Exit→Act→World→Prop),gd E A k pre na nt c st K=some out→vG nl na nt a0 M0 w0 st a w→
  (∀e bJ a' w',vG nl na nt a0 M0 w0 bJ a' w'→K e bJ=some out→Q e.toExit a' w')→c.wp E.P Q a w:=by
 intro c
 induction c with
 |skip=>exact fun _ st K a w Q h r hK=>wp_skip (hK .normal st a w r h)
 |region id ops draw=>
  intro _ st K a w Q h r hK
  cases draw with
  |true=>
   cases he:CL ops with
   |false=>simp only[gd,he] at h;cases h
   |true=>
    simp only[gd,he] at h
    exact vKm hE hS hm he h r fun bJ a' w' r' h'=>hK .normal bJ a' w' r' h'
  |false=>
   simp only[gd] at h
   have := XT hE (Q := Q) _ _ _ _ a w (fun p hp=>by
    obtain⟨q,hq,rfl⟩:=List.mem_map.1 hp
    have:=List.mem_zipIdx_iff_getElem?.1 hq
    simpa using this) h r fun bJ a' w' r' h'=>hK .normal bJ a' w' r' h'
   refine wp_region ?_
   have e:(ops.toList.zipIdx.map fun p=>(p.2,p.1)).map (·.1)=List.range ops.size:=by
    rw[List.map_map]
    have e:(Prod.fst∘fun p:Oper×Nat=>(p.2,p.1))=Prod.snd:=rfl
    have e2:((fun x:Nat×Oper=>x.1)∘fun p:Oper×Nat=>(p.2,p.1))=Prod.snd:=rfl
    rw[e2,List.zipIdx_map_snd,←List.range_eq_range']
    simp
   rw[e] at this
   exact this
 |seq x y Oa Ob=>
  intro hL st K a w Q h r hK
  simp only[gd] at h
  refine wp_seq (Oa hL.1 st _ a w _ h r fun e bJ a' w' r' h'=>?_)
  cases e with
  |normal=>exact Ob hL.2 bJ K a' w' Q h' r' hK
  |ret=>exact hK .ret bJ a' w' r' h'
  |exit id=>exact hK (.exit id) bJ a' w' r' h'
 |cond c x y Oa Ob=>
  intro hL st K a w Q h r hK
  simp only[gd] at h
  split at h
  ·rename_i t ht
   obtain⟨M,_,_,_,_,hv⟩:=r.ex
   have hc:=XP hv c
   rw[ht] at hc
   refine wp_cond (t:=t) hc ?_
   cases t with
   |true=>
    rw[Yi ht,cond_true] at h
    exact Oa hL.1 st K a w Q h r hK
   |false=>
    rw[Yi ht,cond_false] at h
    exact Ob hL.2 st K a w Q h r hK
  ·cases h
 |block id b ih=>
  intro hL st K a w Q h r hK
  simp only[gd] at h
  refine wp_block (ih hL st _ a w _ h r fun e bJ a' w' r' h'=>?_)
  cases e with
  |normal=>exact hK .normal bJ a' w' r' h'
  |ret=>exact hK .ret bJ a' w' r' h'
  |exit i=>
   show if i=id then Q .normal a' w' else Q (.exit i) a' w'
   dsimp only at h'
   cases e:Nat.beq i id with
   |true=>
    rw[e] at h'
    rw[if_pos (by simpa using e)]
    exact hK .normal bJ a' w' r' h'
   |false=>
    rw[e] at h'
    rw[if_neg (fun e'=>by subst e';simp at e)]
    exact hK (.exit i) bJ a' w' r' h'
 |loop b ih=>
  intro hL st K a w Q h r hK
  simp only[gd] at h
  split at h
  ·rename_i hN
   refine Yf (fun n a w=>∃st,vG nl na nt a0 M0 w0 st a w∧MM (gd E A k pre na nt b) n st K=some out) (fun n a w ⟨st,r,hi⟩=>?_) ⟨st,r,h⟩
   cases n with
   |zero=>cases hi
   |succ n=>
    refine ih (hL.2 hN) st _ a w _ hi r fun e bJ a' w' r' h'=>?_
    cases e with
    |normal=>exact⟨n,Nat.lt_succ_self n,bJ,r',h'⟩
    |ret=>exact hK .ret bJ a' w' r' h'
    |exit id=>exact hK (.exit id) bJ a' w' r' h'
  ·rename_i L hN
   split at h
   ·cases h
   ·rename_i d hd
    obtain⟨x,hx,h⟩:=Option.bind_eq_some_iff.1 h
    cases nl with
    |true=>
     unfold sf at hN
     rw[ye rfl] at hN
     split at hN<;>cases hN
    |false=>exact hL.1 L hN k d x hx a0 M0 w0 a w Q (N9 r hd) fun o a' w' ho r'=>hK _ _ a' w' r' (Yg (by rw[←ho];exact h))
 |exit id=>exact fun _ st K a w Q h r hK=>wp_exit (hK (.exit id) st a w r h)
 |ret=>exact fun _ st K a w Q h r hK=>wp_ret (hK .ret st a w r h)
 |_=>intro _ st K a w Q h;simp only[gd] at h;cases h
theorem Yk {a b:Ex}(h:MG a b=true):a=b:=by
 cases a<;>cases b<;>first|rfl|(cases h;done)|skip
 rw[Nat.eq_of_beq_eq_true h]
theorem Yl {a:Act}{w:World}{st:St}{e:Ex}(r:vG false na nt a0 M0 w0 st a w):∀{l:List (Ex×zL)} {x:mc l},CO pre l e st=some x→(uO (pre+fH) l x).1=e∧vG false na nt a0 M0 w0 (uO (pre+fH) l x).2 a w
 |[],_,h=>by cases h
 |[p],x,h=>by
  obtain⟨he,h⟩:=lH h
  exact⟨Yk he,Ht r h⟩
 |p::q::l,x,h=>by
  unfold CO at h
  split at h
  ·rename_i d hd
   cases h
   obtain⟨he,hd⟩:=lH hd
   exact⟨Yk he,Ht r hd⟩
  ·split at h
   ·rename_i d hd
    cases h
    exact Yl r (l:=q::l) hd
   ·cases h
theorem vC2 (hE:jZ E)(hS:gV E.sums)(hm:E.P.follows .mixedOrders=true){b:Code}{ins:List zL}{outs:List (Ex×zL)}(hL:vN E.P A pre na nt b){X:Type}(kF:mc outs→X)(elim:Nat→X→(R:Type)→(Ex→St→Option R)→Option R)(hX:∀o R K,elim (pre+fH) (kF o) R K=xL (pre+fH) outs o K)
  (rec:Nat→Nat→lu ins→Option X) (h0:∀k d,rec k 0 d=none)
  (aF:∀k n d,rec k (n+1) d=GG (pre+fH) ins d fun st=>gd E A k pre na nt b st (Ww pre ins outs kF (rec k n))):qH E.P pre na nt b ⟨ins,outs,X,fun k d=>rec k k d,elim⟩:=by
 intro k d x hx a0 M0 w0 a w Q r hQ
 refine Yf (fun n a w=>∃d,vG false na nt a0 M0 w0 (DC (pre+fH) ins d) a w∧rec k n d=some x) (fun n a w ⟨d,r,hi⟩=>?_) ⟨d,r,hx⟩
 cases n with
 |zero=>rw[h0] at hi;cases hi
 |succ n=>
  rw[aF k n d] at hi
  refine Yj hE hS hm (fun h=>by cases h) b hL _ _ a w _ (Yh hi) r fun e bJ a' w' r' h'=>?_
  have out:∀e,(match CO pre outs e bJ with|some o=>some (kF o)|none=>none)=some x→Q e.toExit a' w':=fun e h'=>by
   split at h'
   ·rename_i o ho
    cases h'
    obtain⟨h1,h2⟩:=Yl (pre:=pre) r' ho
    have:=hQ o a' w' (fun R K=>hX o R K) h2
    rw[h1] at this
    exact this
   ·cases h'
  cases e with
  |normal=>
   have h':(match xK pre ins bJ with|some d=>rec k n d|none=>none)=some x:=h'
   split at h'
   ·rename_i d' hd
    exact⟨n,Nat.lt_succ_self n,d',N9 r' hd,h'⟩
   ·cases h'
  |ret=>exact out .ret h'
  |exit id=>exact out (.exit id) h'
theorem vC8 (fn:Func)(tmps:Array Value):results fn tmps=(do let vs←fn.results.mapM (Hu tmps);pure (if h:vs.size=1 then vs[0] else .tuple vs)):=rfl
theorem yZy (hE:jZ E)(hS:gV E.sums)(hm:E.P.follows .mixedOrders=true){st:St}{a:Act}{w:World}{x:ResultVar}{v:zD}{M:zB}(hM:M.h=st.h)(hH:M.H=w.heap)(ok:Ok M)(ht:∀t,zU M (st.t t) (a.tmps.getD t undef))(h:sg E st x=some v):
  ∃rv,(Hu a.tmps x).run E.P w=.ok rv w∧zU M v rv:=by
 unfold sg at h
 split at h
 ·rename_i t
  cases h
  exact⟨_,rfl,ht t⟩
 ·rename_i c t
  split at h
  ·rename_i id off hc
   split at h
   ·rename_i own cells aa
    split at h
    ·rename_i vs ew
     have hv:=ht c
     rw[hc] at hv
     obtain⟨C,B,hC,hB,e⟩:=hv
     obtain⟨C',ax,hO⟩:=ok.obj id _ (by rw[hM];exact aa)
     rw[hC] at ax;cases ax
     obtain⟨B',im,aA⟩:=WD hO
     rw[hB] at im;cases im
     obtain⟨rv2,lF,dh⟩:∃rv,(loadVar t ⟨B,0+off,none⟩).run E.P w=.ok rv w∧zU M v rv:=WC ok hH aA ew h
     refine⟨rv2,?_,dh⟩
     simp only[Nat.zero_add] at lF
     unfold Hu
     dsimp only
     rw[e]
     simp[asAddr,lF]
    ·cases h
   ·cases h
  ·cases h
theorem vGw {M:zB}{v:zD}{p:Bool×List zG}{rv:Value}(h:xM v=some p)(hv:zU M v rv):pG M p rv:=by
 unfold xM at h
 split at h
 ·cases h;exact hv
 ·cases h;exact hv
 ·cases h
theorem Ym {M:zB}:∀{vs:List zD} {xs:List (Bool×List zG)} {rs:List Value},zP (fun a b=>xM a=some b) vs xs→zP (zU M) vs rs→zP (pG M) xs rs
 |[],[],[],_,_=>trivial
 |_::_,_::_,_::_,h,k=>⟨vGw h.1 k.1,Ym h.2 k.2⟩
 |[],[],_::_,_,k=>k.elim
 |[],_::_,_,h,_=>h.elim
 |_::_,[],_,h,_=>h.elim
 |_::_,_::_,[],_,k=>k.elim
theorem Yn {st:St}:∀(l:List ResultVar) (xs:List (Bool×List zG)),l.mapM (fun r=>(sg E st r).bind xM)=some xs→∃vs,l.mapM (sg E st)=some vs∧vs.mapM xM=some xs
 |[],xs,h=>by simp at h;subst h;exact⟨[],rfl,rfl⟩
 |x::l,xs,h=>by
  simp only[List.mapM_cons,Option.bind_eq_bind,Option.bind_eq_some_iff] at h
  obtain⟨p,⟨v,h1,h2⟩,ps,h3,h4⟩:=h
  cases h4
  obtain⟨vs,k1,k2⟩:=Yn l ps h3
  exact⟨v::vs,by simp[List.mapM_cons,h1,k1],by simp[List.mapM_cons,h2,k2]⟩
theorem vCx (hE:jZ E)(hS:gV E.sums)(hm:E.P.follows .mixedOrders=true){fn:Func}{st:St}{a:Act}{w:World}{v:zD}{M:zB}(hM:M.h=st.h)(hH:M.H=w.heap)(ok:Ok M)(ht:∀t,zU M (st.t t) (a.tmps.getD t undef))(h:GI E fn st=some v):
  ∃rv,(results fn a.tmps).run E.P w=.ok rv w∧zU M v rv:=by
 have one:=fun x v=>yZy hE hS hm (x:=x) (v:=v) hM hH ok ht
 have key:∀(l:List ResultVar) (vs:List zD),l.mapM (sg E st)=some vs→∃rs:List Value,(l.mapM (Hu a.tmps)).run E.P w=.ok rs w∧zP (zU M) vs rs:=by
  intro l
  induction l with
  |nil=>exact fun vs h=>by simp at h;subst h;exact⟨[],rfl,trivial⟩
  |cons x l ih=>
   intro vs h
   simp only[List.mapM_cons,Option.bind_eq_bind,Option.bind_eq_some_iff] at h
   obtain⟨v,h1,Ni,h2,h3⟩:=h
   cases h3
   obtain⟨rv,k1,k2⟩:=one x v h1
   obtain⟨rs,k3,k4⟩:=ih Ni h2
   refine⟨rv::rs,?_,k2,k4⟩
   rw[List.mapM_cons]
   simp only[Sem.run_bind,k1,Result.andThen_ok,k3,Sem.run_pure]
 have run:∀(vs:List zD),fn.results.toList.mapM (sg E st)=some vs→∃rs:List Value,(results fn a.tmps).run E.P w=.ok (if h:rs.length=1 then rs[0] else .tuple rs.toArray) w∧zP (zU M) vs rs:=fun vs h=>by
  obtain⟨rs,k1,k2⟩:=key _ vs h
  refine⟨rs,?_,k2⟩
  rw[vC8,Array.mapM_eq_mapM_toList]
  simp only[Sem.run_map,Sem.run_bind,k1,Result.andThen_ok,Sem.run_pure]
  congr 1
 unfold GI at h
 split at h
 ·rename_i hl
  cases h
  obtain⟨rs,k1,k2⟩:=run [] (by rw[hl];rfl)
  cases rs with
  |cons _ _=>exact k2.elim
  |nil=>exact⟨_,k1,#[],rfl,trivial⟩
 ·rename_i x hl
  obtain⟨rs,k1,k2⟩:=run [v] (by rw[hl];simp[h])
  match rs,k2 with
  |[r],k2=>exact⟨_,k1,k2.1⟩
 ·rename_i h0 h1
  split at h
  ·rename_i xs Dt
   cases h
   obtain⟨vs,k1,k2⟩:=Yn _ _ Dt
   obtain⟨rs,r1,r2⟩:=run vs k1
   have hlen:rs.length≠1:=fun e=>by
    have e1:=r2.length
    have e2:=(Ds _ _ _ k1).length
    have h3:fn.results.toList.length=1:=by omega
    match hl:fn.results.toList,h3 with
    |[x],_=>exact h1 x hl
   rw[dif_neg hlen] at r1
   exact⟨_,r1,rs.toArray,rfl,Ym (Ds _ _ _ k2) r2⟩
  ·cases h
theorem Oc (hE:jZ E)(hS:gV E.sums)(hm:E.P.follows .mixedOrders=true){f:FuncId}{fn:Func}(hf:E.P.funcs[f]? =some fn)(hL:∀c,fn.body=some c→vN E.P A pre na fn.ntmps c){args:List zD}{h:Hp}{K:zD→St→Option R}(aO:ik E A k pre na fn args h K=some out){M:zB}{w:World}{vs:Array Value}(hh:M.h=h)(hH:M.H=w.heap)(ok:Ok M)
  (hv:zP (zU M) args vs.toList):Calls E.P f vs w fun
   |.returned rv,w'=>∃(M':zB) (v:zD) (st:St),K v st=some out∧M'.h=st.h∧M'.H=w'.heap∧Ok M'∧gW M M'∧(A.loops=[]→Hh M M')∧zU M' v rv∧w'.os=w.os∧w'.tape=w.tape∧w'.output=w.output∧
     (∀t,t<na→zU M' (st.t t) (vs.getD t undef))
   |_,_=>False:=by
 unfold ik at aO
 cases hb:fn.body with
 |none=>rw[hb] at aO;cases aO
 |some c=>
  rw[hb] at aO
  dsimp only at aO
  cases hle:Nat.ble args.length fn.ntmps with
  |false=>rw[hle] at aO;cases aO
  |true=>
   rw[hle] at aO
   rw[cond_true] at aO
   have hl:=hv.length
   have hle:args.length≤fn.ntmps:=Nat.le_of_ble_eq_true hle
   have dM:vs.size≤fn.ntmps:=by simp at hl;omega
   have DD:∀t,zU M (GJ args t) ((vs++Array.replicate (fn.ntmps-vs.size) undef).getD t undef):=fun t=>by
    unfold GJ
    by_cases ht:t<args.length
    ·have DE:t<vs.size:=by simp at hl;omega
     have:=hv.get t ht (by simpa using DE)
     simp only[List.getD_eq_getElem?_getD,List.getElem?_eq_getElem ht,Option.getD_some]
     simp only[Array.getD_eq_getD_getElem?,Array.getElem?_append_left DE,Array.getElem?_eq_getElem DE,Option.getD_some]
     simpa using this
    ·have DE:¬t<vs.size:=by simp at hl;omega
     simp only[List.getD_eq_getElem?_getD,List.getElem?_eq_none (Nat.not_lt.1 ht),Option.getD_none]
     show _=undef
     simp only[Array.getD_eq_getD_getElem?,Array.getElem?_append_right (Nat.not_lt.1 DE)]
     by_cases h2:t-vs.size<fn.ntmps-vs.size<;>simp[h2]
   have r:vG A.loops.isEmpty na fn.ntmps (fun t=>(vs++Array.replicate (fn.ntmps-vs.size) undef).getD t undef) M w {t:=GJ args,h:=h} {tmps:=vs++Array.replicate (fn.ntmps-vs.size) undef,defers:=[]} w:=
    ⟨⟨M,hh,hH,ok,⟨.refl M,fun _ _ C h=>⟨C,h,rfl⟩⟩,DD⟩,rfl,by simp;omega,rfl,rfl,rfl,fun _ _=>rfl⟩
   refine calls_of_wp hf hb (Yj hE hS hm (fun h=>List.isEmpty_iff.1 h) c (hL c hb) _ _ _ _ _ aO r fun e bJ a' w' r' hK=>?_)
   obtain⟨M',q1,q2,q3,q4,q5⟩:=r'.ex
   have fin:∀v,GI E fn bJ=some v→K v bJ=some out→a'.defers=[]∧∃rv,(results fn a'.tmps).run E.P w'=.ok rv w'∧∃(M':zB) (v:zD) (st:St),K v st=some out∧M'.h=st.h∧M'.H=w'.heap∧Ok M'∧gW M M'∧(A.loops=[]→Hh M M')∧zU M' v rv∧w'.os=w.os∧w'.tape=w.tape∧w'.output=w.output∧
     (∀t,t<na→zU M' (st.t t) (vs.getD t undef)):=fun v j8 hK=>by
    obtain⟨rv,k1,k2⟩:=vCx hE hS hm q1 q2 q3 q5 j8
    refine⟨r'.defers,rv,k1,M',v,bJ,hK,q1,q2,q3,q4.g,fun h=>q4.k (List.isEmpty_iff.2 h),k2,r'.os,r'.tape,r'.output,fun t ht=>?_⟩
    have:=q5 t
    rw[r'.keep t ht] at this
    have e:(vs++Array.replicate (fn.ntmps-vs.size) undef).getD t undef=vs.getD t undef:=by
     by_cases h1:t<vs.size
     ·simp[Array.getD_eq_getD_getElem?,Array.getElem?_append_left h1]
     ·simp only[Array.getD_eq_getD_getElem?,Array.getElem?_append_right (Nat.not_lt.1 h1),Array.getElem?_eq_none (Nat.not_lt.1 h1)]
      by_cases h2:t-vs.size<fn.ntmps-vs.size<;>simp[h2]
    rw[e] at this
    exact this
   cases e with
   |exit id=>cases hK
   |normal=>
    dsimp only at hK
    split at hK
    ·rename_i v j8
     exact fin v j8 hK
    ·cases hK
   |ret=>
    dsimp only at hK
    split at hK
    ·rename_i v j8
     exact fin v j8 hK
    ·cases hK
end
inductive PC where
 |int (k:IntKind)|bool|dat (sh:Bool) (t:Ty)|fn (f:Nat)
 |nil|nilp
abbrev PC.den:PC→Type
 |.int _=>Int|.bool=>Bool|.dat _ t=>List t.den|.fn _=>Unit|.nil=>Unit|.nilp=>Unit
abbrev PL:List PC→Type
 |[]=>Unit
 |p::l=>p.den×PL l
inductive AS where
 |c (p:PC)|agg (l:List PC)|ptr (l:List PC)|fn (f:Nat) (bq:List (List PC))
def AS.cells:AS→List PC
 |.c p=>[p]
 |.agg l=>l
 |.ptr l=>l
 |.fn _ bq=>bq.flatten
abbrev AD (l:List AS):Type:=PL (l.flatMap AS.cells)
def uP (h:Hp)(t:Ty):zG→Option (List t.den)
 |.nsl=>some []
 |c=>match ig h c with
  |some ⟨s,xs⟩=>fD s t xs
  |none=>none
def qa (h:Hp):(p:PC)→zG→Option p.den
 |.int k,.int j n=>bif jz j k then some n else none
 |.bool,.bool b=>some b
 |.dat false t,c=>uP h t c
 |.dat true t,.fsl true s xs=>fD s t xs
 |.dat true t,.nsl=>some []
 |.fn f,.fn g []=>bif Nat.beq f g then some () else none
 |.nil,.nsl=>some ()
 |.nilp,.nilp=>some ()
 |_,_=>none
def uQ (h:Hp):(l:List PC)→List zG→Option (PL l)
 |[],[]=>some ()
 |p::l,c::cs=>match qa h p c,uQ h l cs with
  |some d,some ds=>some (d,ds)
  |_,_=>none
 |_,_=>none
def yi (h:Hp)(id:Nat):Option (List zG):=match h id with
 |some (.box _ cells)=>some cells
 |some (.robox cells)=>some cells
 |_=>none
def qb (h:Hp):List (List PC)→List Nat→Option (List zG)
 |[],[]=>some []
 |l::ls,id::ids=>match yi h id,qb h ls ids with
  |some cells,some rest=>bif Nat.beq cells.length l.length then some (cells++rest) else none
  |_,_=>none
 |_,_=>none
def AS.get (h:Hp):AS→zD→Option (List zG)
 |.c _,.c x=>some [x]
 |.agg l,.agg xs=>bif Nat.beq xs.length l.length then some xs else none
 |.ptr l,.c (.ptr id 0)=>qb h [l] [id]
 |.fn f bq,.c (.fn g ids)=>bif Nat.beq f g then qb h bq ids else none
 |_,_=>none
def oC (h:Hp):List AS→List zD→Option (List zG)
 |[],[]=>some []
 |s::l,a::as=>match s.get h a,oC h l as with
  |some cs,some rest=>some (cs++rest)
  |_,_=>none
 |_,_=>none
def uR (h:Hp)(l:List AS)(as:List zD):Option (AD l):=match oC h l as with
 |some cs=>uQ h (l.flatMap AS.cells) cs
 |none=>none
def yj:(p:PC)→p.den→zG
 |.int k,n=>.int k n
 |.bool,b=>.bool b
 |.dat sh t,xs=>.fsl sh t xs
 |.fn f,_=>.fn f []
 |.nil,_=>.nsl
 |.nilp,_=>.nilp
def vK:(l:List PC)→PL l→List zG
 |[],_=>[]
 |p::l,d=>yj p d.1::vK l d.2
def Hv:List (List PC)→List zG→List (List zG)
 |[],_=>[]
 |l::ls,cs=>cs.take l.length::Hv ls (cs.drop l.length)
def AS.mk (n:Nat)(cs:List zG):AS→zD
 |.c _=>match cs with|x::_=>.c x|[]=>.undef
 |.agg _=>.agg cs
 |.ptr _=>.c (.ptr n 0)
 |.fn f bq=>.c (.fn f ((List.range bq.length).map (n+·)))
def AS.boxes (cs:List zG):AS→List (List zG)
 |.ptr _=>[cs]
 |.fn _ bq=>Hv bq cs
 |_=>[]
def j9:List AS→List zG→Nat→List zD×List (List zG)
 |[],_,_=>([],[])
 |s::l,cs,n=>
  let ak:=cs.take s.cells.length
  let bs:=s.boxes ak
  let rest:=j9 l (cs.drop s.cells.length) (n+bs.length)
  (s.mk n ak::rest.1,bs++rest.2)
def ka (bs:List (List zG)):Hp:=fun n=>match bs[n]? with
 |some cells=>some (.robox cells)
 |none=>none
def mZ (l:List AS)(d:AD l):List zD×Hp:=
 let r:=j9 l (vK (l.flatMap AS.cells) d) 0
 (r.1,ka r.2)
inductive RC where
 |int (k:IntKind)|bool|fro (t:Ty)|own (t:Ty)|mat
 |jun
 |map
 |nilp|link (j:Nat)
abbrev RC.den:RC→Type
 |.int _=>Int|.bool=>Bool|.fro t=>List t.den|.own t=>List t.den|.mat=>List (List Int)|.jun=>Nat|.map=>List (Int×Bool)|.nilp=>Unit|.link _=>Unit
abbrev RL:List RC→Type
 |[]=>Unit
 |r::l=>r.den×RL l
inductive RS where
 |c (r:RC)|agg (l:List RC)|tup (l:List (Bool×List RC))
def RS.cells:RS→List RC
 |.c r=>[r]
 |.agg l=>l
 |.tup l=>l.flatMap (·.2)
def Hw:List (Bool×List RC)→List (Bool×List zG)→Option (List zG)
 |[],[]=>some []
 | (b, l) :: ls, (g, cs) :: rest => bif (bif b then g else !g && Nat.beq cs.length 1) && Nat.beq cs.length l.length then (match Hw ls rest with
   |some r=>some (cs++r)
   |none=>none) else none
 |_,_=>none
def RS.get:RS→zD→Option (List zG)
 |.c _,.c x=>some [x]
 |.agg l,.agg xs=>bif Nat.beq xs.length l.length then some xs else none
 |.tup l,.tup xs=>Hw l xs
 |_,_=>none
def Hy:List (Bool×List RC)→List zG→List (Bool×List zG)
 |[],_=>[]
 |(b,l)::ls,cs=>(b,cs.take l.length)::Hy ls (cs.drop l.length)
def RS.mk (cs:List zG):RS→zD
 |.c _=>match cs with|x::_=>.c x|[]=>.undef
 |.agg _=>.agg cs
 |.tup l=>.tup (Hy l cs)
def eX (h:Hp):List Bool→List zG→Option (List zG×zZ)
 |true::l,c::cs=>match ma h c,eX h l cs with
  |some (c,u),some (cs,us)=>some (c::cs,u++us)
  |_,_=>none
 |false::l,c::cs=>match eX h l cs with
  |some (cs,us)=>some (c::cs,us)
  |none=>none
 |_,cs=>some (cs,[])
def RC.isFro:RC→Bool
 |.fro _=>true
 |_=>false
def PC.isKept:PC→Bool
 |.dat true _=>true
 |_=>false
def nc (h:Hp):(r:RC)→zG→Option r.den
 |.int k,.int j n=>bif jz j k then some n else none
 |.bool,.bool b=>some b
 |.fro t,.fsl true s xs=>fD s t xs
 |.fro t,.nsl=>some []
 |.own t,.osl id none=>match h id with
  |some (.arr true s xs)=>fD s t xs
  |_=>none
 |.own t,.osl id (some (0,n))=>match h id with
  |some (.arr true s xs)=>fD s t (xs.take n)
  |_=>none
 |.own t,.nsl=>some []
 |.mat,.osl id none=>match h id with
  |some (.mat _ xs)=>some xs
  |some (.pmat _ xs n)=>bif Nat.beq xs.length n then some xs else none
  |_=>none
 |.mat,.nsl=>some []
 |.jun,.osl id none=>match h id with
  |some (.arr true (.sl (.int .i64)) xs)=>some xs.length
  |_=>none
 |.jun,.nsl=>some 0
 |.map,.map id=>match h id with
  |some (.imap cX)=>some cX
  |_=>none
 |.nilp,.nilp=>some ()
 |.link _,.ptr _ 0=>some ()
 |_,_=>none
def iC (h:Hp):(l:List RC)→List zG→Option (RL l)
 |[],[]=>some ()
 |r::l,c::cs=>match nc h r c,iC h l cs with
  |some d,some ds=>some (d,ds)
  |_,_=>none
 |_,_=>none
def vJ:List RC→List zG→List Nat
 |.own _::l,.osl id _::cs=>id::vJ l cs
 |.mat::l,.osl id _::cs=>id::vJ l cs
 |.jun::l,.osl id _::cs=>id::vJ l cs
 |.map::l,.map id::cs=>id::vJ l cs
 |_::l,_::cs=>vJ l cs
 |_,_=>[]
def DF (h:Hp)(s:RS)(v:zD):Option (RL s.cells):=match s.get v with
 |some cs=>match eX h (s.cells.map RC.isFro) cs with
  |some (cs,u)=>bif pA (vJ s.cells cs) then iC (qJ h u) s.cells cs else none
  |none=>none
 |none=>none
def kQ (rs:RS){X:Type}(unpack:RL rs.cells→X)(v:zD)(st:St):Option X:=match DF st.h rs v with
 |some d=>some (unpack d)
 |none=>none
def oD (nm:Nat):(r:RC)→r.den→zG×zZ
 |.int k,n=>(.int k n,[])
 |.bool,b=>(.bool b,[])
 |.fro t,xs=>(.fsl true t xs,[])
 |.own t,xs=>(.osl nm none,[(nm,.arr true t xs)])
 |.mat,xs=>(.osl nm none,[(nm,.mat 0 xs)])
 |.jun,n=>(.osl nm none,[(nm,.pmat 0 [] n)])
 |.map,cX=>(.map nm,[(nm,.imap cX)])
 |.nilp,_=>(.nilp,[])
 |.link _,_=>(.undef,[])
def mj (nm:Nat):(l:List RC)→RL l→List zG×zZ
 |[],_=>([],[])
 |r::l,d=>
  let x:=oD nm r d.1
  let y:=mj (nm+1) l d.2
  (x.1::y.1,x.2++y.2)
def Yo (nm:Nat)(s:RS)(d:RL s.cells):zD×zZ:=
 let r:=mj nm s.cells d
 (s.mk r.1,r.2)
def sC (h:Hp):Nat→Nat→Bool
 |_,0=>true
 |nm,n+1=>(match h nm with|none=>true|some _=>false)&&sC h (nm+1) n
def sD (h:Hp):AS→zD→Option (zD×zZ)
 |.c p,.c x=>match eX h [p.isKept] [x] with
  |some ([x],u)=>some (.c x,u)
  |_=>none
 |.agg l,.agg xs=>match eX h (l.map PC.isKept) xs with
  |some (xs,u)=>some (.agg xs,u)
  |none=>none
 |_,a=>some (a,[])
def oE (h:Hp):List AS→List zD→Option (List zD×zZ)
 |s::l,a::as=>match sD h s a,oE h l as with
  |some (a,u),some (as,us)=>some (a::as,u++us)
  |_,_=>none
 |_,as=>some (as,[])
def mm (as:List AS)(rs:RS){X:Type}(S:AD as→Option X)(pack:X→RL rs.cells)(nm:Nat)(args:List zD)(h:Hp):yE:=
 match oE h as args with
 |none=>.stuck
 |some (args,u)=>match uR (qJ h u) as args with
  |some d=>bif sC h nm rs.cells.length&&Nat.ble rs.cells.length 100 then .call X (S d) (fun r=>((Yo nm rs (pack r)).1,u++(Yo nm rs (pack r)).2)) else .stuck
  |none=>.stuck
structure Lo (M Ml:zB):Prop where
 H:Ml.H=M.H
 F:Ml.F=fun b=>b<M.H.size
 G:Ml.G=M.G
theorem Od {M M':zB}(ok:Ok M')(hH:M'.H=M.H){t:Ty}{xs:List t.den}{v:Value}(h:zY M'.H M'.G (.sl t) xs (fun _=>some v)):zY M.H (fun b=>b<M.H.size) (.sl t) xs (fun _=>some v):=by
 refine yQ (fun b hb=>?_) (fun b _=>by rw[hH]) _ _ _ _ (fun _ _=>rfl) h
 have:=ok.Flt b (ok.GF b hb)
 rw[hH] at this
 exact this
theorem vBj {M:zB}(ok:Ok M){c:zG}{v:Value}{t:Ty}{xs:List t.den}(hv:zW M c v)(h:ig M.h c=some ⟨t,xs⟩):zY M.H (fun b=>b<M.H.size) (.sl t) xs (fun _=>some v):=by
 unfold ig at h
 split at h
 ·rename_i sh s ys
  cases h
  cases sh with
  |true=>exact yQ (fun b hb=>ok.Flt b (ok.GF b hb)) (fun _ _=>rfl) _ _ _ _ (fun _ _=>rfl) hv
  |false=>exact yQ (fun b hb=>ok.Flt b hb) (fun _ _=>rfl) _ _ _ _ (fun _ _=>rfl) hv
 ·rename_i id r
  split at h
  ·rename_i own s ys aa
   cases h
   cases own with
   |false=>
    obtain⟨C,hC,hO⟩:=ok.obj _ _ aa
    exact Od ok rfl (uo hC hO hv)
   |true=>
    obtain⟨M',h1,h2,h3,h4⟩:=WI ok aa
    obtain⟨C,hC,hO⟩:=h3.obj id _ (by rw[h2];exact yH _ _ _)
    exact Od h3 h1 (uo hC hO (hv.ext h4.ext))
  ·rename_i ver ys aa
   cases r with
   |some p=>cases h
   |none=>
    cases h
    obtain⟨M',h1,h2,h3,h4⟩:=WK ok aa
    obtain⟨C,hC,hO⟩:=h3.obj id _ (by rw[h2];exact yH _ _ _)
    exact Od h3 h1 (uo (r:=none) hC hO (hv.ext h4.ext))
  ·cases h
 ·rename_i id i ver
  split at h
  ·rename_i v' ys aa
   cases cM:Nat.beq v' ver with
   |false=>rw[cM] at h;cases h
   |true=>
    rw[cM] at h
    cases h
    have e:v'=ver:=by simpa using cM
    subst e
    obtain⟨C,hC,hO⟩:=ok.obj _ _ aa
    obtain⟨C',ax,ca,_,aK⟩:=hv
    rw[hC] at ax;cases ax
    obtain⟨rb,rl,mi,sv⟩:=aK hO.1
    by_cases hi:i<ys.length
    ·obtain⟨B,mP,v2,k1,k2,k3,k4,k5,k6⟩:=xQ hO hi
     rw[mi] at k3
     cases k3
     rw[show ys.getD i []=ys[i] by simp[List.getD,hi]]
     simp only[zY]
     cases rb with
     |none=>
      obtain⟨rfl,h0⟩:=sv
      exact⟨none,0,0,rfl,h0.symm,Nat.le_refl _,.inl ⟨List.eq_nil_of_length_eq_zero h0,fun _=>rfl⟩⟩
     |some R=>
      obtain⟨a,c,rfl,h1,h2,h3⟩:=sv
      refine⟨_,_,c,rfl,rfl,h1,?_⟩
      by_cases h0:ys[i].length=0
      ·exact .inl ⟨List.eq_nil_of_length_eq_zero h0,fun h=>by cases h⟩
      ·have ha:a=0:=by rcases h2 with h|h<;>omega
       subst ha
       refine .inr ⟨R,0,rfl,?_,fun j hj=>?_⟩
       ·have:=k6 R rfl 0 (by omega)
        unfold yC at this
        cases hR:M.H[R]? with
        |none=>rw[hR] at this;cases this
        |some x=>exact(Array.getElem?_eq_some_iff.1 hR).1
       ·simp only[zY,Ty.size,Nat.zero_add,Nat.mul_one,Nat.add_zero]
        exact k6 R rfl j hj
    ·have:C.rows[i]? =none:=List.getElem?_eq_none (by have:=hO.2.2.2.1;omega)
     rw[this] at mi;cases mi
  ·cases h
 ·cases h
theorem DG {H:Array Go.Obj}{F:Nat→Prop}{t:Ty}:zY H F (.sl t) ([]:List t.den) (fun _=>some (.slice none 0 0)):=⟨none,0,0,rfl,rfl,Nat.le_refl _,.inl ⟨rfl,fun _=>rfl⟩⟩
theorem yTc {M:zB}(ok:Ok M){c:zG}{v:Value}{t:Ty}{xs:List t.den}(hv:zW M c v)(h:uP M.h t c=some xs):zY M.H (fun b=>b<M.H.size) (.sl t) xs (fun _=>some v):=by
 unfold uP at h
 split at h
 ·cases h
  rw[show v=.slice none 0 0 from hv]
  exact DG
 ·split at h
  ·rename_i s ys hr
   obtain⟨e,hx⟩:=ja h
   subst e
   subst hx
   exact vBj ok hv hr
  ·cases h
def Tr (M:zB)(c c':zG):Prop:=∀v Ml,Lo M Ml→zW M c v→zW Ml c' v
theorem vLw {M:zB}(ok:Ok M){p:PC}{c:zG}{d:p.den}(h:qa M.h p c=some d):Tr M c (yj p d):=by
 intro v Ml lo hv
 unfold qa at h
 split at h
 ·rename_i k j n
  cases e:jz j k with
  |false=>rw[e] at h;cases h
  |true=>rw[e] at h;cases h;rw[←rU e];exact hv
 ·cases h;exact hv
 ·rename_i t c
  have:=yTc ok hv h
  show zY Ml.H Ml.F _ _ _
  rw[lo.H,lo.F]
  exact this
 ·rename_i t s xs
  obtain⟨e,hx⟩:=ja h
  subst e
  subst hx
  show zY Ml.H Ml.G _ _ _
  rw[lo.H,lo.G]
  exact hv
 ·cases h
  rw[show v=.slice none 0 0 from hv]
  exact DG
 ·rename_i f g
  cases e:Nat.beq f g with
  |false=>rw[e] at h;cases h
  |true=>
   have:f=g:=by simpa using e
   subst this
   obtain⟨cv,rfl,hc⟩:=hv
   refine⟨cv,rfl,?_⟩
   generalize cv.toList=l at hc
   cases l with
   |nil=>trivial
   |cons _ _=>exact hc.elim
 ·exact hv
 ·exact hv
 ·cases h
theorem Yp {M:zB}(ok:Ok M):∀{l:List PC} {cs:List zG} {d:PL l},uQ M.h l cs=some d→zP (Tr M) cs (vK l d)
 |[],[],_,_=>trivial
 |p::l,c::cs,d,h=>by
  unfold uQ at h
  split at h
  ·rename_i x xs h1 h2
   cases h
   exact⟨vLw ok h1,Yp ok h2⟩
  ·cases h
 |[],_::_,_,h=>by cases h
 |_::_,[],_,h=>by cases h
theorem Oe {M Ml:zB}(lo:Lo M Ml):∀{cs aM:List zG} {vs:List Value},zP (Tr M) cs aM→zP (zW M) cs vs→zP (zW Ml) aM vs
 |[],[],[],_,_=>trivial
 |_::_,_::_,_::_,h,k=>⟨h.1 _ _ lo k.1,Oe lo h.2 k.2⟩
 |[],[],_::_,_,k=>k.elim
 |[],_::_,_,h,_=>h.elim
 |_::_,[],_,h,_=>h.elim
 |_::_,_::_,[],_,k=>k.elim
def sE (M:zB)(C:zS)(cells:List zG):Prop:=∃B vals e,C.blk=some B∧C.rows=[]∧M.H[B]? =some (.cells vals e (0,0))∧zP (zW M) cells vals.toList
theorem Yq {M:zB}(ok:Ok M){id:Nat}{cells:List zG}(h:yi M.h id=some cells):∃C,M.κ id=some C∧sE M C cells:=by
 unfold yi at h
 split at h
 ·rename_i own cs aa
  cases h
  obtain⟨C,hC,B,vals,e,h1,h2,h3,h4,_⟩:=ok.obj id _ aa
  exact⟨C,hC,B,vals,e,h1,h2,h3,h4⟩
 ·rename_i cs aa
  cases h
  obtain⟨C,hC,B,vals,e,h1,h2,h3,h4,_⟩:=ok.obj id _ aa
  exact⟨C,hC,B,vals,e,h1,h2,h3,h4⟩
 ·cases h
theorem sE.tr {M Ml:zB}(lo:Lo M Ml){C:zS}{cs aM:List zG}(h:sE M C cs)(ht:zP (Tr M) cs aM):sE Ml C aM:=by
 obtain⟨B,vals,e,h1,h2,h3,h4⟩:=h
 exact⟨B,vals,e,h1,h2,by rw[lo.H];exact h3,Oe lo ht h4⟩
theorem Of {M:zB}(ok:Ok M):∀{ls:List (List PC)} {ids:List Nat} {cs aM:List zG},qb M.h ls ids=some cs→zP (Tr M) cs aM→cs.length=ls.flatten.length∧ids.length=ls.length∧
  ∃Cs:List zS,zP (fun id C=>M.κ id=some C) ids Cs∧∀Ml,Lo M Ml→zP (sE Ml) Cs (Hv ls aM)
 |[],[],cs,aM,h,ht=>by cases h;exact⟨rfl,rfl,[],trivial,fun _ _=>trivial⟩
 |l::ls,id::ids,cs,aM,h,ht=>by
  unfold qb at h
  split at h
  ·rename_i cells rest h1 h2
   obtain⟨hl,h⟩:cells.length=l.length∧cells++rest=cs:=by
    cases e:Nat.beq cells.length l.length with
    |false=>rw[e] at h;cases h
    |true=>rw[e] at h;cases h;exact⟨by simpa using e,rfl⟩
   subst h
   have jc:=zP.take l.length ht
   have kb:=zP.drop l.length ht
   rw[←hl,List.take_left] at jc
   rw[←hl,List.drop_left] at kb
   obtain⟨C,hC,hB⟩:=Yq ok h1
   obtain⟨k1,k2,Cs,k3,k4⟩:=Of ok h2 kb
   refine⟨by simp[hl,k1],by simp[k2],C::Cs,⟨hC,k3⟩,fun Ml lo=>⟨?_,?_⟩⟩
   ·rw[←hl];exact hB.tr lo jc
   ·rw[←hl];exact k4 Ml lo
  ·cases h
 |[],_::_,_,_,h,_=>by cases h
 |_::_,[],_,_,h,_=>by cases h
theorem yW1 {M:zB}(ok:Ok M){s:AS}{a:zD}{v:Value}{cs aM:List zG}{n:Nat}(hv:zU M a v)(h:s.get M.h a=some cs)(ht:zP (Tr M) cs aM):
  ∃Cs:List zS,(∀Ml,Lo M Ml→zP (sE Ml) Cs (s.boxes aM))∧(∀Ml,Lo M Ml→(∀i C,Cs[i]? =some C→Ml.κ (n+i)=some C)→zU Ml (s.mk n aM) v):=by
 unfold AS.get at h
 split at h
 ·rename_i p x
  cases h
  match aM,ht with
  |[c'],ht=>exact⟨[],fun _ _=>trivial,fun Ml lo _=>ht.1 v Ml lo hv⟩
 ·rename_i l xs
  cases e:Nat.beq xs.length l.length with
  |false=>rw[e] at h;cases h
  |true=>
   rw[e] at h
   cases h
   obtain⟨vs,rfl,hx⟩:=hv
   exact⟨[],fun _ _=>trivial,fun Ml lo _=>⟨vs,rfl,Oe lo ht hx⟩⟩
 ·rename_i l id
  have:=Of ok h ht
  obtain⟨k1,k2,Cs,k3,k4⟩:=this
  obtain⟨C,B,hC,hB,e⟩:=hv
  have hl:aM.length=l.length:=by rw[←ht.length,k1];simp
  match Cs,k3 with
  |[C'],k3=>
   have e':C'=C:=by
    have:M.κ id=some C':=k3.1
    rw[hC] at this;exact(Option.some.inj this).symm
   subst e'
   refine⟨[C'],fun Ml lo=>?_,fun Ml lo hκ=>⟨C',B,hκ 0 C' rfl,hB,e⟩⟩
   have:=k4 Ml lo
   simp only[Hv] at this
   rw[List.take_of_length_le (by omega)] at this
   exact this
 ·rename_i f bq g ids
  cases e:Nat.beq f g with
  |false=>rw[e] at h;cases h
  |true=>
   rw[e] at h
   have Og:f=g:=by simpa using e
   subst Og
   obtain⟨k1,k2,Cs,k3,k4⟩:=Of ok h ht
   refine⟨Cs,k4,fun Ml lo hκ=>?_⟩
   obtain⟨cv,rfl,hc⟩:=hv
   refine⟨cv,rfl,?_⟩
   have l1:=k3.length
   have l2:=hc.length
   refine zP.of_get (by rw[List.length_map,List.length_range];omega) fun i h1 h2=>?_
   simp only[List.getElem_map,List.getElem_range]
   have hi:i<ids.length:=by simp at h1;omega
   have bS:i<Cs.length:=by omega
   obtain⟨C,B,q1,q2,q3⟩:=hc.get i hi h2
   have q4:=k3.get i hi bS
   have q4:M.κ ids[i]=some Cs[i]:=q4
   rw[q1] at q4
   exact⟨Cs[i],B,hκ i _ (List.getElem?_eq_getElem bS),by rw[←Option.some.inj q4];exact q2,q3⟩
 ·cases h
theorem Oh {h:Hp}:∀{ls:List (List PC)} {ids:List Nat} {cs:List zG},qb h ls ids=some cs→cs.length=ls.flatten.length
 |[],[],cs,e=>by cases e;rfl
 |l::ls,id::ids,cs,e=>by
  unfold qb at e
  split at e
  ·rename_i cells rest h1 h2
   cases el:Nat.beq cells.length l.length with
   |false=>rw[el] at e;cases e
   |true=>
    rw[el] at e
    cases e
    have:cells.length=l.length:=by simpa using el
    simp[this,Oh h2]
  ·cases e
 |[],_::_,_,e=>by cases e
 |_::_,[],_,e=>by cases e
theorem yWy {h:Hp}{s:AS}{a:zD}{cs:List zG}(e:s.get h a=some cs):cs.length=s.cells.length:=by
 unfold AS.get at e
 split at e
 ·cases e;rfl
 ·rename_i l xs
  cases el:Nat.beq xs.length l.length with
  |false=>rw[el] at e;cases e
  |true=>rw[el] at e;cases e;exact Nat.eq_of_beq_eq_true el
 ·rw[Oh e];simp[AS.cells]
 ·rename_i f bq g ids
  cases el:Nat.beq f g with
  |false=>rw[el] at e;cases e
  |true=>rw[el] at e;exact Oh e
 ·cases e
theorem Yr {M:zB}(ok:Ok M):∀{l:List AS} {as:List zD} {vs:List Value} {cs aM:List zG} {n:Nat},zP (zU M) as vs→oC M.h l as=some cs→zP (Tr M) cs aM→
  ∃Cs:List zS,(∀Ml,Lo M Ml→zP (sE Ml) Cs (j9 l aM n).2)∧(∀Ml,Lo M Ml→(∀i C,Cs[i]? =some C→Ml.κ (n+i)=some C)→zP (zU Ml) (j9 l aM n).1 vs)
 |[],[],[],cs,aM,n,_,_,_=>⟨[],fun _ _=>trivial,fun _ _ _=>trivial⟩
 |s::l,a::as,v::vs,cs,aM,n,hv,h,ht=>by
  unfold oC at h
  split at h
  ·rename_i kN rest h1 h2
   cases h
   have hl:=yWy h1
   have jc:=zP.take s.cells.length ht
   have kb:=zP.drop s.cells.length ht
   rw[←hl,List.take_left,hl] at jc
   rw[←hl,List.drop_left,hl] at kb
   obtain⟨C1,k1,k2⟩:=yW1 ok (n:=n) hv.1 h1 jc
   obtain⟨C2,k3,k4⟩:=Yr ok (n:=n+(s.boxes (aM.take s.cells.length)).length) hv.2 h2 kb
   refine⟨C1++C2,fun Ml lo=>(k1 Ml lo).append (k3 Ml lo),fun Ml lo hκ=>⟨k2 Ml lo fun i C hi=>hκ i C ?_,k4 Ml lo fun i C hi=>?_⟩⟩
   ·have:i<C1.length:=by
     rcases Nat.lt_or_ge i C1.length with h|h
     ·exact h
     ·rw[List.getElem?_eq_none h] at hi;cases hi
    rw[List.getElem?_append_left this];exact hi
   ·have hb:=(k1 Ml lo).length
    have:=hκ (C1.length+i) C (by rw[List.getElem?_append_right (by omega)];rw[show C1.length+i-C1.length=i by omega];exact hi)
    rw[hb,←Nat.add_assoc] at this
    exact this
  ·cases h
 |[],[],_::_,_,_,_,hv,_,_=>hv.elim
 |[],_::_,_,_,_,_,_,h,_=>by cases h
 |_::_,[],_,_,_,_,_,h,_=>by cases h
 |_::_,_::_,[],_,_,_,hv,_,_=>hv.elim
def zB.below (M:zB)(Cs:List zS)(bs:List (List zG)):zB:={κ:=fun n=>Cs[n]?,F:=fun b=>b<M.H.size,G:=M.G,h:=ka bs,H:=M.H}
theorem zB.below_lo (M:zB)(Cs:List zS)(bs:List (List zG)):Lo M (M.below Cs bs):=⟨rfl,rfl,rfl⟩
theorem zB.below_ok {M:zB}(ok:Ok M){Cs:List zS}{bs:List (List zG)}(h:zP (sE (M.below Cs bs)) Cs bs):Ok (M.below Cs bs)∧∀b,¬qR (M.below Cs bs) b:=by
 have hr:∀id o,(M.below Cs bs).h id=some o→∃cells,bs[id]? =some cells∧o=.robox cells:=fun id o e=>by
  have e:ka bs id=some o:=e
  unfold ka at e
  split at e
  ·rename_i cells hc
   cases e
   exact⟨cells,hc,rfl⟩
  ·cases e
 have lI:∀b,¬qR (M.below Cs bs) b:=fun b ⟨id,o,C,h1,h2,_,_⟩=>by
  obtain⟨cells,_,rfl⟩:=hr id o h1
  cases h2
 refine⟨⟨fun id o e=>?_,fun id e=>?_,fun i j oi oj Ci Cj b _ h1 _ h3 _ _ _ _ _=>?_,fun b hb=>absurd hb (lI b),fun b hb=>ok.Flt b (ok.GF b hb),fun b hb=>hb⟩,lI⟩
 ·obtain⟨cells,hc,rfl⟩:=hr id o e
  have aV:id<bs.length:=by
   rcases Nat.lt_or_ge id bs.length with h|h
   ·exact h
   ·rw[List.getElem?_eq_none h] at hc;cases hc
  have eG:id<Cs.length:=by rw[h.length];exact aV
  obtain⟨B,vals,ev,q1,q2,q3,q4⟩:=h.get id eG aV
  rw[List.getElem?_eq_getElem aV] at hc
  cases hc
  refine⟨Cs[id],List.getElem?_eq_getElem eG,B,vals,ev,q1,q2,q3,q4,?_⟩
  exact(Array.getElem?_eq_some_iff.1 q3).1
 ·have e:ka bs id=none:=e
  unfold ka at e
  split at e
  ·cases e
  ·rename_i hc
   show Cs[id]? =none
   rw[List.getElem?_eq_none_iff] at hc⊢
   rw[h.length];exact hc
 ·obtain⟨cells,_,rfl⟩:=hr i oi h1
  cases h3
theorem yTb {M:zB}(ok:Ok M){l:List AS}{as:List zD}{vs:List Value}{d:AD l}(hv:zP (zU M) as vs)(h:uR M.h l as=some d):
  ∃Ml:zB,Lo M Ml∧Ml.h=(mZ l d).2∧Ok Ml∧(∀b,¬qR Ml b)∧zP (zU Ml) (mZ l d).1 vs:=by
 unfold uR at h
 split at h
 ·rename_i cs hg
  obtain⟨Cs,h1,h2⟩:=Yr ok (n:=0) hv hg (Yp ok h)
  have lo:=M.below_lo Cs (j9 l (vK (l.flatMap AS.cells) d) 0).2
  have:=zB.below_ok ok (h1 _ lo)
  exact⟨_,lo,rfl,this.1,this.2,h2 _ lo fun i C hi=>by rw[Nat.zero_add];exact hi⟩
 ·cases h
theorem sF {h0:Hp}:∀{l:List Bool} {cs aM:List zG} {vs:List Value} {u:zZ} {M:zB},Ok M→wN h0 M.h→zP (zW M) cs vs→eX h0 l cs=some (aM,u)→
  ∃L:zB,L.H=M.H∧L.h=qJ M.h u∧Ok L∧yT M L∧zP (zW L) aM vs∧wN h0 L.h
 |[],cs,aM,vs,u,M,ok,hf,hc,h=>by
  cases cs<;>cases h<;>exact⟨M,rfl,rfl,ok,.refl M,hc,hf⟩
 |true::l,[],aM,vs,u,M,ok,hf,hc,h=>by cases h;exact⟨M,rfl,rfl,ok,.refl M,hc,hf⟩
 |false::l,[],aM,vs,u,M,ok,hf,hc,h=>by cases h;exact⟨M,rfl,rfl,ok,.refl M,hc,hf⟩
 |true::l,c::cs,aM,v::vs,u,M,ok,hf,hc,h=>by
  unfold eX at h
  split at h
  ·rename_i c1 u1 kN om e1 e2
   cases h
   obtain⟨M1,h1,h2,h3,h4,h5,h6,_⟩:=CR ok hf hc.1 e1
   obtain⟨M2,k1,k2,k3,k4,k5,k6⟩:=sF h3 h6 (hc.2.mono fun _ _ h=>h.ext h4.ext) e2
   exact⟨M2,k1.trans h1,by rw[k2,h2,iZ],k3,h4.trans k4,⟨h5.ext k4.ext,k5⟩,k6⟩
  ·cases h
 |false::l,c::cs,aM,v::vs,u,M,ok,hf,hc,h=>by
  unfold eX at h
  split at h
  ·rename_i kN om e2
   cases h
   obtain⟨M2,k1,k2,k3,k4,k5,k6⟩:=sF ok hf hc.2 e2
   exact⟨M2,k1,k2,k3,k4,⟨hc.1.ext k4.ext,k5⟩,k6⟩
  ·cases h
 |true::_,_::_,_,[],_,_,_,_,hc,_=>hc.elim
 |false::_,_::_,_,[],_,_,_,_,hc,_=>hc.elim
def zB.add (M:zB)(nm:Nat)(o:Obj)(C:zS):zB:={M with κ:=κset M.κ nm C,h:=yG M.h nm o}
theorem zB.add_ok {M:zB}(ok:Ok M){nm:Nat}(aL:M.h nm=none){o:Obj}{C:zS}(hO:yR (M.add nm o C) o C)(hb:∀b∈C.fp,¬qR M b∧¬M.F b∧b<M.H.size):
  Ok (M.add nm o C)∧yK M (M.add nm o C)∧(∀b,qR (M.add nm o C) b→qR M b∨b∈C.fp):=by
 have x:yK M (M.add nm o C):=⟨fun id D h=>by
  have bc:id≠nm:=fun e=>by rw[e,ok.non nm aL] at h;cases h
  exact⟨D,by show κset M.κ nm _ id=_;rw[κset_ne _ _ bc];exact h,D.le_refl⟩,fun _ h=>h,fun _ h=>h,fun _ _=>rfl,fun _ _=>rfl,fun _ _=>rfl⟩
 refine⟨Ok.build ok x (fun id=>id=nm) (fun id h=>yJ _ _ h) (fun id h=>κset_ne _ _ h) (fun _ _ _ _ _ _ _ _ _=>rfl) (fun id o' D h1 h2 h3 h4 b bB=>(ok.own b ⟨id,o',D,h2,h3,h4,bB⟩).1) (Nat.le_refl _)
  (fun id o' e h=>?_) (fun id e h=>?_) (fun id o' D b e h1 h2 h3 h4=>?_) ok.GF ok.Flt,x,fun b bB=>?_⟩
 ·subst e
  have e1:(M.add id o C).h id=some o:=yH _ _ _
  rw[e1] at h
  cases h
  exact⟨_,κset_same _ _ _,hO⟩
 ·subst e
  have e1:(M.add id o C).h id=some o:=yH _ _ _
  rw[e1] at h;cases h
 ·subst e
  have e1:(M.add id o C).κ id=some C:=κset_same _ _ _
  rw[e1] at h3
  cases h3
  obtain⟨k1,k2,k3⟩:=hb b h4
  refine⟨fun j oj Cj hj q1 q2 q3 q4=>k1 ⟨j,oj,Cj,?_,q2,?_,q4⟩,k2,k3⟩
  ·rw[←q1];exact(yJ _ _ hj).symm
  ·rw[←q3];exact(κset_ne _ _ hj).symm
 ·obtain⟨id,o',D,h1,h2,h3,h4⟩:=bB
  by_cases e:id=nm
  ·subst e
   have e1:(M.add id o C).κ id=some C:=κset_same _ _ _
   rw[e1] at h3
   cases h3
   exact .inr h4
  ·exact .inl ⟨id,o',D,by rw[←h1];exact(yJ _ _ e).symm,h2,by rw[←h3];exact(κset_ne _ _ e).symm,h4⟩
structure Up (L Mc:zB):Prop where
 H:Mc.H=L.H
 G:Mc.G=L.G
theorem Ys {L Mc:zB}(up:Up L Mc){t:Ty}{xs:List t.den}{C:zS}(h:yR L (.arr true t xs) C):yR Mc (.arr true t xs) C:=by
 obtain⟨h1,h2,h3,h4⟩:=h
 refine⟨h1,h2,h3,?_⟩
 rw[up.H,up.G]
 exact h4
theorem yYt {L Mc:zB}(up:Up L Mc){ver:Nat}{xs:List (List Int)}{C:zS}(h:yR L (.mat ver xs) C):yR Mc (.mat 0 xs) {C with ver:=0}:=by
 obtain⟨h1,h2⟩:=h
 refine⟨rfl,?_⟩
 rw[up.H]
 exact h2
theorem vKq {L Mc:zB}(up:Up L Mc){ver n:Nat}{xs:List (List Int)}{C:zS}(h:yR L (.pmat ver xs n) C)(hn:xs.length=n):yR Mc (.mat 0 xs) {C with ver:=0}:=by
 obtain⟨h1,h2,h3,h4,h5,_,h6⟩:=h
 refine⟨rfl,by rw[hn];exact h2,h3,h4,h5,?_⟩
 rw[up.H]
 subst hn
 cases hB:C.blk with
 |none=>rw[hB] at h6;exact List.eq_nil_of_length_eq_zero h6
 |some B=>rw[hB] at h6;exact h6
theorem vHb {L Mc:zB}(up:Up L Mc){xs:List (List Int)}{C:zS}(h:yR L (.arr true (.sl (.int .i64)) xs) C):yR Mc (.pmat 0 [] xs.length) {C with ver:=0}:=by
 obtain⟨h1,h2,h3,h4⟩:=h
 have hr:=h3 rfl
 refine⟨rfl,h1,h2,by show C.rows.length=0;rw[hr];rfl,?_,Nat.zero_le _,?_⟩
 ·simp only[zS.fp,hr]
  cases C.blk<;>simp
 ·cases hB:C.blk with
  |none=>rw[hB] at h4;show xs.length=0;rw[h4];rfl
  |some B=>
   rw[hB] at h4
   obtain⟨vals,e,h5,_,h7,_⟩:=h4
   refine⟨vals,e,by rw[up.H];exact h5,by simpa[Ty.size] using h7,fun i hi=>by simp at hi⟩
theorem yTa {L Mc:zB}(gk:Ok L)(ok:Ok Mc)(up:Up L Mc){nm:Nat}(aL:Mc.h nm=none){r:RC}{c:zG}{d:r.den}(h:nc L.h r c=some d)
  (hb:∀id∈vJ [r] [c],∀C,L.κ id=some C→∀b∈C.fp,¬qR Mc b∧¬Mc.F b∧b<Mc.H.size):
  ∃eg:zB,eg.H=Mc.H∧eg.G=Mc.G∧eg.F=Mc.F∧eg.h=qJ Mc.h (oD nm r d).2∧Ok eg∧yK Mc eg∧
   (∀b,qR eg b→qR Mc b∨∃id∈vJ [r] [c],∃C,L.κ id=some C∧b∈C.fp)∧∀v,zW L c v→zW eg (oD nm r d).1 v:=by
 have same : (oD nm r d).2 = [] → (∀ v, zW L c v → zW Mc (oD nm r d).1 v) → _ := fun e hv => (⟨Mc,rfl,rfl,rfl,by rw[e];rfl,ok,.refl Mc,fun b h=>.inl h,hv⟩:
  ∃eg:zB,eg.H=Mc.H∧eg.G=Mc.G∧eg.F=Mc.F∧eg.h=qJ Mc.h (oD nm r d).2∧Ok eg∧yK Mc eg∧
   (∀b,qR eg b→qR Mc b∨∃id∈vJ [r] [c],∃C,L.κ id=some C∧b∈C.fp)∧∀v,zW L c v→zW eg (oD nm r d).1 v)
 unfold nc at h
 split at h
 ·rename_i k j n
  cases e:jz j k with
  |false=>rw[e] at h;cases h
  |true=>
   rw[e] at h
   cases h
   exact same rfl fun v hv=>by rw[←rU e];exact hv
 ·cases h
  exact same rfl fun v hv=>hv
 ·obtain⟨e,hx⟩:=ja h
  subst e
  subst hx
  refine same rfl fun v hv=>?_
  show zY Mc.H Mc.G _ _ _
  rw[up.H,up.G]
  exact hv
 ·cases h
  refine same rfl fun v hv=>?_
  rw[show v=.slice none 0 0 from hv]
  exact DG
 ·rename_i t id
  split at h
  ·rename_i s xs aa
   obtain⟨e,hx⟩:=ja h
   subst e
   subst hx
   obtain⟨C,hC,hO⟩:=gk.obj id _ aa
   obtain⟨k1,k2,k3⟩:=zB.add_ok ok aL (o:=.arr true s xs) (C:=C) (Ys (Mc:=Mc.add nm (.arr true s xs) C) ⟨up.H,up.G⟩ hO) (hb id (by simp[vJ]) C hC)
   refine⟨Mc.add nm (.arr true s xs) C,rfl,rfl,rfl,rfl,k1,k2,fun b bB=>(k3 b bB).imp (fun h=>h) fun h=>⟨id,by simp[vJ],C,hC,h⟩,fun v hv=>?_⟩
   obtain⟨C',ax,hS⟩:=hv
   rw[hC] at ax;cases ax
   refine⟨C,κset_same _ _ _,?_⟩
   show wH Mc.H C 0 C.len v
   rw[up.H];exact hS
  ·cases h
 ·rename_i t id n
  split at h
  ·rename_i s xs aa
   obtain⟨e,hx⟩:=ja h
   subst e
   subst hx
   obtain⟨C,hC,hO⟩:=gk.obj id _ aa
   let C':zS:={C with len:=(xs.take n).length}
   have pH:yR (Mc.add nm (.arr true s (xs.take n)) C') (.arr true s (xs.take n)) C':=by
    obtain⟨q1,q2,q3,q4⟩:=Ys (Mc:=Mc.add nm (.arr true s (xs.take n)) C') ⟨up.H,up.G⟩ hO
    refine⟨rfl,q2,q3,?_⟩
    show match C.blk with
     |none=>_
     |some B=>_
    cases hB:C.blk with
    |none=>rw[hB] at q4;show xs.take n=[];rw[q4];simp
    |some B=>
     rw[hB] at q4
     obtain⟨vals,e,r1,r2,r3,r4⟩:=q4
     have hle:(xs.take n).length≤xs.length:=by rw[List.length_take];omega
     have:=Nat.mul_le_mul_right s.size hle
     refine⟨vals,e,r1,r2,by omega,fun i hi=>?_⟩
     rw[List.getElem_take]
     exact r4 i (by omega)
   obtain⟨k1,k2,k3⟩:=zB.add_ok ok aL (o:=.arr true s (xs.take n)) (C:=C') pH (hb id (by simp[vJ]) C hC)
   refine⟨Mc.add nm (.arr true s (xs.take n)) C',rfl,rfl,rfl,rfl,k1,k2,fun b bB=>(k3 b bB).imp (fun h=>h) fun h=>⟨id,by simp[vJ],C,hC,h⟩,fun v hv=>?_⟩
   obtain⟨C1,gi,h1,hS,_⟩:=hv
   rw[hC] at gi;cases gi
   have hl:(xs.take n).length=n:=by rw[List.length_take,←hO.1];omega
   refine⟨C',κset_same _ _ _,?_⟩
   show wH Mc.H C' 0 (xs.take n).length v
   rw[hl,up.H]
   exact hS
  ·cases h
 ·rename_i t
  cases h
  obtain⟨k1,k2,k3⟩:=Mc.nilObj_ok ok aL t false
  refine⟨Mc.nilObj nm (iA t false) (j7 t false),rfl,rfl,rfl,rfl,k1,k2,fun b bB=>.inl (k3 b bB),fun v hv=>?_⟩
  rw[show v=.slice none 0 0 from hv]
  exact⟨_,κset_same _ _ _,none,0,rfl,rfl,rfl,rfl⟩
 ·rename_i id
  split at h
  ·rename_i ver xs aa
   cases h
   obtain⟨C,hC,hO⟩:=gk.obj id _ aa
   obtain⟨k1,k2,k3⟩:=zB.add_ok ok aL (o:=.mat 0 d) (C:={C with ver:=0}) (yYt (Mc:=Mc.add nm (.mat 0 d) {C with ver:=0}) ⟨up.H,up.G⟩ hO) (hb id (by simp[vJ]) C hC)
   refine⟨Mc.add nm (.mat 0 d) {C with ver:=0},rfl,rfl,rfl,rfl,k1,k2,fun b bB=>(k3 b bB).imp (fun h=>h) fun h=>⟨id,by simp[vJ],C,hC,h⟩,fun v hv=>?_⟩
   obtain⟨C',ax,hS⟩:=hv
   rw[hC] at ax;cases ax
   refine⟨_,κset_same _ _ _,?_⟩
   show wH Mc.H C 0 C.len v
   rw[up.H];exact hS
  ·rename_i ver xs n aa
   obtain⟨hc,h⟩:Nat.beq xs.length n=true∧some xs=some d:=by
    cases e:Nat.beq xs.length n with
    |true=>rw[e] at h;exact⟨rfl,h⟩
    |false=>rw[e] at h;cases h
   cases h
   obtain⟨C,hC,hO⟩:=gk.obj id _ aa
   obtain⟨k1,k2,k3⟩:=zB.add_ok ok aL (o:=.mat 0 d) (C:={C with ver:=0}) (vKq (Mc:=Mc.add nm (.mat 0 d) {C with ver:=0}) ⟨up.H,up.G⟩ hO (Nat.eq_of_beq_eq_true hc)) (hb id (by simp[vJ]) C hC)
   refine⟨Mc.add nm (.mat 0 d) {C with ver:=0},rfl,rfl,rfl,rfl,k1,k2,fun b bB=>(k3 b bB).imp (fun h=>h) fun h=>⟨id,by simp[vJ],C,hC,h⟩,fun v hv=>?_⟩
   obtain⟨C',ax,hS⟩:=hv
   rw[hC] at ax;cases ax
   refine⟨_,κset_same _ _ _,?_⟩
   show wH Mc.H C 0 C.len v
   rw[up.H];exact hS
  ·cases h
 ·cases h
  obtain⟨k1,k2,k3⟩:=Mc.nilObj_ok ok aL (.int .i64) true
  refine⟨Mc.nilObj nm (iA (.int .i64) true) (j7 (.int .i64) true),rfl,rfl,rfl,rfl,k1,k2,fun b bB=>.inl (k3 b bB),fun v hv=>?_⟩
  rw[show v=.slice none 0 0 from hv]
  exact⟨_,κset_same _ _ _,none,0,rfl,rfl,rfl,rfl⟩
 ·rename_i id
  split at h
  ·rename_i xs aa
   cases h
   obtain⟨C,hC,hO⟩:=gk.obj id _ aa
   obtain⟨k1,k2,k3⟩:=zB.add_ok ok aL (o:=.pmat 0 [] xs.length) (C:={C with ver:=0}) (vHb (Mc:=Mc.add nm (.pmat 0 [] xs.length) {C with ver:=0}) ⟨up.H,up.G⟩ hO) (hb id (by simp[vJ]) C hC)
   refine⟨Mc.add nm (.pmat 0 [] xs.length) {C with ver:=0},rfl,rfl,rfl,rfl,k1,k2,fun b bB=>(k3 b bB).imp (fun h=>h) fun h=>⟨id,by simp[vJ],C,hC,h⟩,fun v hv=>?_⟩
   obtain⟨C',ax,hS⟩:=hv
   rw[hC] at ax;cases ax
   refine⟨_,κset_same _ _ _,?_⟩
   show wH Mc.H C 0 C.len v
   rw[up.H];exact hS
  ·cases h
 ·cases h
  obtain⟨k1,k2,k3⟩:=zB.add_ok ok aL (o:=.pmat 0 [] 0) (C:=⟨none,0,1,0,[]⟩) ⟨rfl,rfl,rfl,rfl,by simp[zS.fp],Nat.le_refl _,rfl⟩ (fun b hb=>by simp[zS.fp] at hb)
  refine⟨Mc.add nm (.pmat 0 [] 0) ⟨none,0,1,0,[]⟩,rfl,rfl,rfl,rfl,k1,k2,fun b bB=>(k3 b bB).imp (fun h=>h) fun h=>by simp[zS.fp] at h,fun v hv=>?_⟩
  rw[show v=.slice none 0 0 from hv]
  exact⟨_,κset_same _ _ _,none,0,rfl,rfl,rfl,rfl⟩
 ·rename_i id
  split at h
  ·rename_i cX aa
   cases h
   obtain⟨C,hC,hO⟩:=gk.obj id _ aa
   have pH:yR (Mc.add nm (.imap d) C) (.imap d) C:=by
    obtain⟨B,es,ck,h1,h2,h3,h4,h5⟩:=hO
    refine⟨B,es,ck,h1,h2,?_,h4,h5⟩
    show Mc.H[B]? =_
    rw[up.H];exact h3
   obtain⟨k1,k2,k3⟩:=zB.add_ok ok aL (o:=.imap d) (C:=C) pH (hb id (by simp[vJ]) C hC)
   refine⟨Mc.add nm (.imap d) C,rfl,rfl,rfl,rfl,k1,k2,fun b bB=>(k3 b bB).imp (fun h=>h) fun h=>⟨id,by simp[vJ],C,hC,h⟩,fun v hv=>?_⟩
   obtain⟨C',B,ax,hB,e⟩:=hv
   rw[hC] at ax;cases ax
   exact⟨C,B,κset_same _ _ _,hB,e⟩
  ·cases h
 ·exact same rfl fun v hv=>hv
 ·exact same rfl fun v hv=>hv.one
 ·cases h
theorem Hz (r:RC)(c:zG)(l:List RC)(cs:List zG):vJ (r::l) (c::cs)=vJ [r] [c]++vJ l cs:=by
 cases r<;>cases c<;>rfl
theorem Yt {nm:Nat}{r:RC}{d:r.den}{n:Nat}(h:n≠nm)(hh:Hp):qJ hh (oD nm r d).2 n=hh n:=by
 cases r<;>first|rfl|exact yJ _ _ h
theorem Oi {h:Hp}:∀{n nm:Nat},sC h nm n=true→∀i,i<n→h (nm+i)=none
 |n+1,nm,e,i,hi=>by
  unfold sC at e
  rw[Bool.and_eq_true] at e
  cases i with
  |zero=>
   have:=e.1
   split at this
   ·assumption
   ·cases this
  |succ i=>rw[←Oi e.2 i (by omega)];congr 1;omega
theorem Oj {L:zB}(gk:Ok L):∀{l:List RC} {cs:List zG} {d:RL l} {nm:Nat} {Mc:zB},Ok Mc→Up L Mc→(∀i,i<l.length→Mc.h (nm+i)=none)→iC L.h l cs=some d→(vJ l cs).Nodup→
  (∀id∈vJ l cs,∃o,L.h id=some o∧o.owned=true)→
  (∀id∈vJ l cs,∀C,L.κ id=some C→∀b∈C.fp,¬qR Mc b∧¬Mc.F b∧b<Mc.H.size)→
  ∃eg:zB,eg.H=Mc.H∧eg.G=Mc.G∧eg.F=Mc.F∧eg.h=qJ Mc.h (mj nm l d).2∧Ok eg∧yK Mc eg∧
   (∀b,qR eg b→qR Mc b∨∃id∈vJ l cs,∃C,L.κ id=some C∧b∈C.fp)∧∀vs,zP (zW L) cs vs→zP (zW eg) (mj nm l d).1 vs
 |[],[],d,nm,Mc,ok,up,_,_,_,_,_=>⟨Mc,rfl,rfl,rfl,rfl,ok,.refl Mc,fun b h=>.inl h,fun vs h=>by
  cases vs with
  |nil=>trivial
  |cons _ _=>exact h.elim⟩
 |r::l,c::cs,d,nm,Mc,ok,up,hf,h,dd,aD,hb=>by
  unfold iC at h
  split at h
  ·rename_i x xs e1 e2
   cases h
   rw[Hz] at dd aD hb
   obtain⟨nd1,nd2,nd3⟩:=List.nodup_append.1 dd
   obtain⟨M1,a1,a2,a3,a4,a5,a6,a7,a8⟩:=yTa gk ok up (by have:=hf 0 (by simp);simpa using this) e1 (fun id aa=>hb id (List.mem_append_left _ aa))
   have up1:Up L M1:=⟨a1.trans up.H,a2.trans up.G⟩
   obtain ⟨M2, b1, b2, b3, b4, b5, b6, b7, b8⟩ := Oj gk (nm := nm + 1) a5 up1 (fun i hi=>by
     rw[a4,Yt (by omega)]
     have:=hf (i+1) (by simp;omega)
     rw [← this]; congr 1; omega) e2 nd2 (fun id aa => aD id (List.mem_append_right _ aa)) (fun id aa C hC b yk=>by
     obtain⟨q1,q2,q3⟩:=hb id (List.mem_append_right _ aa) C hC b yk
     refine⟨fun ho=>?_,by rw[a3];exact q2,by rw[a1];exact q3⟩
     rcases a7 b ho with ho|⟨jd,cH,D,hD,Ol⟩
     ·exact q1 ho
     ·have bc:id≠jd:=fun e=>nd3 jd cH id aa e.symm
      obtain⟨o1,p1,p2⟩:=aD id (List.mem_append_right _ aa)
      obtain⟨o2,p3,p4⟩:=aD jd (List.mem_append_left _ cH)
      exact gk.disj id jd o1 o2 C D b bc p1 p3 p2 p4 hC hD yk Ol)
   refine⟨M2,b1.trans a1,b2.trans a2,b3.trans a3,?_,b5,a6.trans (by rw[a1];exact Nat.le_refl _) b6,fun b bB=>?_,fun vs dz=>?_⟩
   ·show M2.h=qJ Mc.h ((oD nm r x).2++(mj (nm+1) l xs).2)
    rw[iZ,←a4];exact b4
   ·rw[Hz]
    rcases b7 b bB with h|⟨id,aa,C,h⟩
    ·rcases a7 b h with h|⟨id,aa,C,h⟩
     ·exact .inl h
     ·exact .inr ⟨id,List.mem_append_left _ aa,C,h⟩
    ·exact .inr ⟨id,List.mem_append_right _ aa,C,h⟩
   ·cases vs with
    |nil=>exact dz.elim
    |cons v vs=>exact⟨(a8 v dz.1).ext b6,b8 vs dz.2⟩
  ·cases h
 |[],_::_,_,_,_,_,_,_,h,_,_,_=>by cases h
 |_::_,[],_,_,_,_,_,_,h,_,_,_=>by cases h
theorem vE {α:Type}{c:Bool}{x:Option α}{y:α}(h:(bif c then x else none)=some y):c=true∧x=some y:=by
 cases c with
 |true=>exact⟨rfl,h⟩
 |false=>cases h
theorem Yu {M:zB}:∀{l:List (Bool×List RC)} {xs:List (Bool×List zG)} {cs:List zG} {vs:List Value},Hw l xs=some cs→zP (pG M) xs vs→
  cs.length=(l.flatMap (·.2)).length∧∃us:List Value,zP (zW M) cs us∧∀(M':zB) (aM:List zG),zP (zW M') aM us→zP (pG M') (Hy l aM) vs
 |[],[],cs,[],h,_=>by cases h;exact⟨rfl,[],trivial,fun _ _ _=>trivial⟩
 |(b,l)::ls,(g,kN)::rest,cs,v::vs,h,hv=>by
  unfold Hw at h
  obtain⟨hc,h⟩:=vE h
  split at h
  ·rename_i r hr
   cases h
   rw[Bool.and_eq_true] at hc
   have hl:kN.length=l.length:=by simpa using hc.2
   obtain⟨k1,us,k2,k3⟩:=Yu hr hv.2
   refine⟨by simp[hl,k1],?_⟩
   cases b with
   |true=>
    have hg:g=true:=hc.1
    subst hg
    obtain⟨ws,rfl,hw⟩:=hv.1
    refine⟨ws.toList++us,hw.append k2,fun M' aM h'=>⟨?_,?_⟩⟩
    ·have h1:=zP.take l.length h'
     have Om:=hw.length
     rw[show(ws.toList++us).take l.length=ws.toList from by rw[List.take_append_of_le_length (by omega),List.take_of_length_le (by omega)]] at h1
     exact⟨ws,rfl,h1⟩
    ·have h1:=zP.drop l.length h'
     have Om:=hw.length
     rw[show(ws.toList++us).drop l.length=us from by rw[show l.length=ws.toList.length by omega,List.drop_left]] at h1
     exact k3 M' _ h1
   |false=>
    have hg:=hc.1
    simp only[cond_false,Bool.and_eq_true,Bool.not_eq_true'] at hg
    obtain⟨HA,hg2⟩:=hg
    subst HA
    have xU:kN.length=1:=by simpa using hg2
    match kN,xU with
    |[c],_=>
     have DH:zW M c v:=hv.1
     refine⟨v::us,⟨DH,k2⟩,fun M' aM h'=>?_⟩
     match aM,h' with
     |c'::uS,h'=>
      have e:l.length=1:=by rw[←hl];rfl
      refine⟨?_,?_⟩
      ·show pG M' (false,(c'::uS).take l.length) v
       rw[e]
       exact h'.1
      ·show zP _ (Hy ls ((c'::uS).drop l.length)) vs
       rw[e]
       exact k3 M' uS h'.2
  ·cases h
 |[],_::_,_,_,h,_=>by cases h
 |(_,_)::_,[],_,_,h,_=>by cases h
 |[],[],_,_::_,_,hv=>hv.elim
 |_::_,_::_,_,[],_,hv=>hv.elim
theorem Yv {M:zB}{s:RS}{v:zD}{cs:List zG}{rv:Value}(h:s.get v=some cs)(hv:zU M v rv):
  cs.length=s.cells.length∧∃us:List Value,zP (zW M) cs us∧∀(M':zB) (aM:List zG),zP (zW M') aM us→zU M' (s.mk aM) rv:=by
 unfold RS.get at h
 split at h
 ·rename_i r x
  cases h
  refine⟨rfl,[rv],⟨hv,trivial⟩,fun M' aM h'=>?_⟩
  match aM,h' with
  |[c'],h'=>exact h'.1
 ·rename_i l xs
  obtain⟨hl,h⟩:=vE h
  cases h
  obtain⟨vs,rfl,hx⟩:=hv
  exact⟨Nat.eq_of_beq_eq_true hl,vs.toList,hx,fun M' aM h'=>⟨vs,rfl,h'⟩⟩
 ·rename_i l xs
  obtain⟨vs,rfl,hx⟩:=hv
  obtain⟨k1,us,k2,k3⟩:=Yu h hx
  exact⟨k1,us,k2,fun M' aM h'=>⟨vs,rfl,k3 M' aM h'⟩⟩
 ·cases h
theorem yVh {h0:Hp}{s:AS}{a a':zD}{v:Value}{u:zZ}{M:zB}(ok:Ok M)(hf:wN h0 M.h)(hv:zU M a v)(h:sD h0 s a=some (a',u)):
  ∃L:zB,L.H=M.H∧L.h=qJ M.h u∧Ok L∧yT M L∧zU L a' v∧wN h0 L.h:=by
 unfold sD at h
 split at h
 ·rename_i p x
  split at h
  ·rename_i y u1 e
   cases h
   obtain⟨L,h1,h2,h3,h4,h5,h6⟩:=sF (cs:=[x]) (vs:=[v]) ok hf ⟨hv,trivial⟩ e
   exact⟨L,h1,h2,h3,h4,h5.1,h6⟩
  ·cases h
 ·rename_i l xs
  split at h
  ·rename_i ys u1 e
   cases h
   obtain⟨vs,rfl,hx⟩:=hv
   obtain⟨L,h1,h2,h3,h4,h5,h6⟩:=sF ok hf hx e
   exact⟨L,h1,h2,h3,h4,⟨vs,rfl,h5⟩,h6⟩
  ·cases h
 ·cases h
  exact⟨M,rfl,rfl,ok,.refl M,hv,hf⟩
theorem sG.ext {M M':zB}(x:yK M M'):∀{as:List zD} {vs:List Value},zP (zU M) as vs→zP (zU M') as vs:=fun h=>h.mono fun _ _ h=>h.ext x
theorem Yw {h0:Hp}:∀{l:List AS} {as ez:List zD} {vs:List Value} {u:zZ} {M:zB},Ok M→wN h0 M.h→zP (zU M) as vs→oE h0 l as=some (ez,u)→
  ∃L:zB,L.H=M.H∧L.h=qJ M.h u∧Ok L∧yT M L∧zP (zU L) ez vs∧wN h0 L.h
 |s::l,a::as,ez,v::vs,u,M,ok,hf,hv,h=>by
  unfold oE at h
  split at h
  ·rename_i a1 u1 On om e1 e2
   cases h
   obtain⟨M1,h1,h2,h3,h4,h5,h6⟩:=yVh ok hf hv.1 e1
   obtain⟨M2,k1,k2,k3,k4,k5,k6⟩:=Yw h3 h6 (sG.ext h4.ext hv.2) e2
   exact⟨M2,k1.trans h1,by rw[k2,h2,iZ],k3,h4.trans k4,⟨h5.ext k4.ext,k5⟩,k6⟩
  ·cases h
 |[],as,ez,vs,u,M,ok,hf,hv,h=>by
  cases as<;>cases h<;>exact⟨M,rfl,rfl,ok,.refl M,hv,hf⟩
 |s::l,[],ez,vs,u,M,ok,hf,hv,h=>by cases h;exact⟨M,rfl,rfl,ok,.refl M,hv,hf⟩
 |_::_,_::_,_,[],_,_,_,_,hv,_=>hv.elim
def zB.over (M L:zB):zB:={κ:=M.κ,F:=fun b=>M.F b∨L.G b,G:=L.G,h:=M.h,H:=L.H}
theorem zB.over_ok {M Ml L:zB}(ok:Ok M)(gk:Ok L)(lo:Lo M Ml)(lI:∀b,¬qR Ml b)(g:gW Ml L):Ok (M.over L)∧yT M (M.over L):=by
 have aV:∀b,Ml.F b↔b<M.H.size:=fun b=>by rw[lo.F]
 have cR:∀b,b<M.H.size→L.H[b]? =M.H[b]? :=fun b hb=>by rw[g.same b ((aV b).2 hb),lo.H]
 have dM:M.H.size≤L.H.size:=by have:=g.size;rw[lo.H] at this;exact this
 have hG:∀b,L.G b→b<M.H.size→M.G b:=fun b hb hs=>by
  rcases g.Gb b hb (by rw[lo.H];exact hs) with h|h
  ·rw[lo.G] at h;exact h
  ·exact absurd h (lI b)
 have eG:∀b,M.F b→b<M.H.size:=ok.Flt
 have x:yK M (M.over L):=⟨fun id C h=>⟨C,h,C.le_refl⟩,fun b h=>.inl h,fun b h=>g.G b (by rw[lo.G];exact h),fun b h=>cR b (ok.Flt b h),fun b h=>cR b (ok.Flt b (ok.GF b h)),fun b h=>xN (cR b h)⟩
 have aD:∀b,qR (M.over L) b→qR M b:=fun b h=>h
 refine⟨⟨fun id o h=>?_,fun id h=>ok.non id h,ok.disj,fun b h=>⟨fun hf=>?_,?_⟩,fun b h=>.inr h,fun b h=>?_⟩,⟨x,dM,fun b hb _=>cR b hb,fun b h _=>h,fun b h hs=>.inl (hG b h hs),fun b h hs=>?_⟩⟩
 ·obtain⟨C,hC,hO⟩:=ok.obj id o h
  exact⟨C,hC,hO.ext x fun ho b hb=>cR b (ok.own b ⟨id,o,C,h,ho,hC,hb⟩).2⟩
 ·have:=ok.own b (aD b h)
  rcases hf with hf|hf
  ·exact this.1 hf
  ·exact this.1 (ok.GF b (hG b hf this.2))
 ·have h1:=(ok.own b (aD b h)).2
  show b<L.H.size
  omega
 ·show b<L.H.size
  rcases h with h|h
  ·have:=ok.Flt b h;omega
  ·exact gk.Flt b (gk.GF b h)
 ·rcases h with h|h
  ·exact .inl h
  ·exact .inl (ok.GF b (hG b h hs))
theorem yTm {h0:Hp}{r:RC}{c:zG}{d:r.den}(h:nc h0 r c=some d):∀id∈vJ [r] [c],∃o,h0 id=some o∧o.owned=true:=by
 unfold nc at h
 split at h
 all_goals (try (intro id aa;simp[vJ] at aa;done))
 ·rename_i t id
  intro pU aa
  have:=List.mem_singleton.1 aa
  subst this
  split at h
  ·exact⟨_,by assumption,rfl⟩
  ·cases h
 ·rename_i t id n
  intro pU aa
  have:=List.mem_singleton.1 aa
  subst this
  split at h
  ·exact⟨_,by assumption,rfl⟩
  ·cases h
 ·rename_i id
  intro pU aa
  have:=List.mem_singleton.1 aa
  subst this
  split at h
  ·exact⟨_,by assumption,rfl⟩
  ·exact⟨_,by assumption,rfl⟩
  ·cases h
 ·rename_i id
  intro pU aa
  have:=List.mem_singleton.1 aa
  subst this
  split at h
  ·exact⟨_,by assumption,rfl⟩
  ·cases h
 ·rename_i id
  intro pU aa
  have:=List.mem_singleton.1 aa
  subst this
  split at h
  ·exact⟨_,by assumption,rfl⟩
  ·cases h
 ·cases h
theorem sH {L:zB}:∀{l:List RC} {cs:List zG} {d:RL l},iC L.h l cs=some d→∀id∈vJ l cs,∃o,L.h id=some o∧o.owned=true
 |[],[],_,_,id,aa=>by cases aa
 |r::l,c::cs,d,h,id,aa=>by
  unfold iC at h
  split at h
  ·rename_i x xs e1 e2
   rw[Hz] at aa
   rcases List.mem_append.1 aa with aa|aa
   ·exact yTm e1 id aa
   ·exact sH e2 id aa
  ·cases h
 |[],_::_,_,h,_,_=>by cases h
 |_::_,[],_,h,_,_=>by cases h
theorem Yx {E:qE}(hE:jZ E)(hS:gV E.sums)(hm:E.P.follows .mixedOrders=true){A:qB}{k pre na:Nat}{f:FuncId}{fn:Func}(hf:E.P.funcs[f]? =some fn)(hL:∀c,fn.body=some c→vN E.P A pre na fn.ntmps c)(cf:∀vs w,(callFunc f vs).run E.P w=.ok (.enter f vs) w)
  {as:List AS} {rs:RS} {X:Type} {S:AD as→Option X} {pack:X→RL rs.cells} {unpack:RL rs.cells→X} (dQ:∀d,pack (unpack d)=d) (aO:∀d x,S d=some x→∀(Ml:zB) (vs:List Value),zP (zU Ml) (mZ as d).1 vs→∃eh,zP (zU Ml) eh vs∧ik E A k pre na fn eh (mZ as d).2 (kQ rs unpack)=some x)
  {nm:Nat} {args:List zD} {h:Hp} {v:zD} {u:zZ} (hy:yI (mm as rs S pack nm args h) v u):pT E.P f args h v u:=by
 intro M w vs hh hH ok hv
 refine .inl ⟨cf vs w,?_⟩
 unfold mm at hy
 split at hy
 ·exact hy.elim
 rename_i eh u0 uT
 split at hy
 case h_2=>exact hy.elim
 rename_i d hd
 obtain⟨hc,hy⟩:=uD hy
 rw[Bool.and_eq_true] at hc
 obtain⟨x,hx,rfl,rfl⟩:=hy
 subst hh
 obtain⟨M1,a1,a2,a3,a4,a5,a6⟩:=Yw ok (wN.refl _) hv uT
 rw[←a2] at hd
 obtain⟨Ml,lo,b2,b3,b4,b5⟩:=yTb a3 a5 hd
 obtain⟨Yy,uU,Oo⟩:=aO d x hx Ml _ b5
 refine Calls.mono (Oc hE hS hm hf hL Oo b2 (by rw[lo.H,a1];exact hH) b3 uU) fun e w' he=>?_
 cases e with
 |panicked _=>exact he.elim
 |outgrown=>exact he.elim
 |returned rv=>
  obtain⟨L0,v0,st,hK,c1,c2,c3,c4,_,c5,c6,c7,c8,_⟩:=he
  have hK:DF st.h rs v0=some (pack x):=by
   unfold kQ at hK
   split at hK
   ·rename_i d' gj
    cases hK
    rw[gj,dQ]
   ·cases hK
  unfold DF at hK
  split at hK
  case h_2=>cases hK
  rename_i cs lJ
  split at hK
  case h_2=>cases hK
  rename_i aM u1 uV
  obtain⟨dd,hK⟩:=vE hK
  obtain⟨hlen,us,d1,d2⟩:=Yv lJ c5
  rw[←c1] at uV hK
  obtain⟨L,e1,e2,e3,e4,e5,e6⟩:=sF c3 (wN.refl _) d1 uV
  rw[←e2] at hK
  have g:gW Ml L:=c4.trans e4.grow
  obtain⟨f1,f2⟩:=zB.over_ok a3 e3 lo b4 g
  have nf:∀i,i<rs.cells.length→(M1.over L).h (nm+i)=none:=fun i hi=>by
   have h1:=Oi hc.1 i hi
   show M1.h (nm+i)=none
   rw[a2]
   rcases a6 (nm+i) with h|⟨own,t,xs,h,_⟩|⟨ver,xs,h,_⟩
   ·rw[a2] at h;rw[h];exact h1
   ·rw[h1] at h;cases h
   ·rw[h1] at h;cases h
  obtain ⟨Mc, g1, g2, g3, g4, g5, g6, g7, g8⟩ := Oj e3 f1 ⟨rfl, rfl⟩ nf hK (xZ dd) (sH hK) (fun id aa C hC b hb=>by
   obtain⟨o,ho,fI⟩:=sH hK id aa
   have aD:qR L b:=⟨id,o,C,ho,fI,hC,hb⟩
   have iY:¬b<M1.H.size:=fun aV=>b4 b (g.own b aD (by rw[lo.H];exact aV))
   refine⟨fun h=>iY (a3.own b h).2,fun h=>?_,(e3.own b aD).2⟩
   rcases h with h|h
   ·exact iY (a3.Flt b h)
   ·exact(e3.own b aD).1 (e3.GF b h))
  have Oq:yT M1 Mc:=by
   have aD:∀b,qR Mc b→b<M1.H.size→qR M1 b:=fun b hb aV=>by
    rcases g7 b hb with h|⟨id,aa,C,hC,yk⟩
    ·exact h
    ·obtain⟨o,ho,fI⟩:=sH hK id aa
     exact absurd (g.own b ⟨id,o,C,ho,fI,hC,yk⟩ (by rw[lo.H];exact aV)) (b4 b)
   refine⟨f2.ext.trans f2.size g6,?_,fun b hb hn=>?_,aD,fun b hb aV=>?_,fun b hb aV=>?_⟩
   ·rw[g1];exact f2.size
   ·rw[g1];exact f2.frame b hb hn
   ·rw[g2] at hb;exact f2.Gb b hb aV
   ·rw[g3] at hb;exact f2.Fb b hb aV
  refine⟨Mc,⟨c6,c7,c8,?_,?_,g5,a4.trans Oq⟩,?_⟩
  ·rw[g1];show L.H=_;rw[e1,c2]
  ·rw[iZ,←a2];exact g4
  ·exact d2 Mc _ (g8 us e5)
theorem yUg {E:qE}(hE:jZ E)(hS:gV E.sums)(hm:E.P.follows .mixedOrders=true){A:qB}{k pre na:Nat}{f:FuncId}{fn:Func}(hf:E.P.funcs[f]? =some fn)(hL:∀c,fn.body=some c→vN E.P A pre na fn.ntmps c)(cf:∀vs w,(callFunc f vs).run E.P w=.ok (.enter f vs) w)
  {as:List AS} {rs:RS} {X:Type} {S:AD as→Option X} {pack:X→RL rs.cells} {unpack:RL rs.cells→X} (dQ:∀d,pack (unpack d)=d) (aO:∀d,ik E A k pre na fn (mZ as d).1 (mZ as d).2 (kQ rs unpack)=S d)
  {nm:Nat} {args:List zD} {h:Hp} {v:zD} {u:zZ} (hy:yI (mm as rs S pack nm args h) v u):pT E.P f args h v u:=
 Yx hE hS hm hf hL cf dQ (fun d x hx _ _ hv=>⟨_,hv,(aO d).trans hx⟩) hy
theorem vMc {E:qE}(hE:jZ E)(hS:gV E.sums)(hm:E.P.follows .mixedOrders=true){A:qB}{k pre na:Nat}{f:FuncId}{fn:Func}(hf:E.P.funcs[f]? =some fn)(hL:∀c,fn.body=some c→vN E.P A pre na fn.ntmps c)(cf:∀vs w,(callFunc f vs).run E.P w=.ok (.enter f vs) w)
  {sh:Bool} {t:Ty} {rs:RS} {X:Type} {S:List t.den→Option X} {pack:X→RL rs.cells} {unpack:RL rs.cells→X} (dQ:∀d,pack (unpack d)=d) (cd:∀x,S []=some x→ik E A k pre na fn [.c .nsl] (ka []) (kQ rs unpack)=some x)
  (aO:∀xs x,S xs=some x→ik E A k pre na fn [.c (.nfl sh t xs)] (ka []) (kQ rs unpack)=some x)
  {nm:Nat} {args:List zD} {h:Hp} {v:zD} {u:zZ} (hy:yI (mm [.c (.dat sh t)] rs (fun d=>S d.1) pack nm args h) v u):pT E.P f args h v u:=
 Yx hE hS hm hf hL cf dQ (fun d x hx Ml vs hv=>by
  obtain⟨xs,_⟩:=d
  match vs,hv with
  |[v],hv=>
   have DH:zY Ml.H (bif sh then Ml.G else Ml.F) (.sl t) xs (fun _=>some v):=hv.1
   have Nj:=DH
   simp only[zY,Option.some.injEq] at DH
   obtain⟨A',n,c,rfl,hn,hc,h⟩:=DH
   cases A' with
   |some a=>exact⟨[.c (.nfl sh t xs)],⟨⟨⟨a,n,c,rfl⟩,Nj⟩,trivial⟩,aO xs x hx⟩
   |none=>
    rcases h with⟨rfl,h0⟩|⟨B,o,e,_⟩
    ·have h0:=h0 rfl
     subst h0
     have hn:n=0:=hn
     subst hn
     exact⟨[.c .nsl],⟨rfl,trivial⟩,cd x hx⟩
    ·cases e) hy
def yE.orElse:yE→yE→yE
 |.alts [],b=>b
 |a,_=>a
abbrev zH:=Nat→Nat→List zD→Hp→yE
def qS:List (Nat×zH)→Gt
 |[],_,_,_,_,_=>.stuck
 |(g,e)::l,k,nm,f,args,h=>bif Nat.beq g f then(e k nm args h).orElse (qS l k nm f args h) else qS l k nm f args h
def Yz (P:Program)(r:Nat×zH):Prop:=∀k nm args h v u,yI (r.2 k nm args h) v u→pT P r.1 args h v u
def DI (e:zH):Prop:=∀k nm (args:List zD) h h',(args.any yW=false→∀id,(id∈args.flatMap yL∨lv nm id=true)→h id=h' id)→(args.any yW=true→h=h')→e k nm args h=e k nm args h'
theorem vLr {a b:yE}{v:zD}{u:zZ}(h:yI (a.orElse b) v u):yI a v u∨yI b v u:=by
 unfold yE.orElse at h
 split at h
 ·exact .inr h
 ·exact .inl h
theorem YA {P:Program}:∀{l:List (Nat×zH)},(∀r∈l,Yz P r)→XE P (qS l)
 |[],_=>fun k nm f args h v u hy=>hy.elim
 |(g,e)::l,hl=>fun k nm f args h v u hy=>by
  have ih:=YA (l:=l) fun r hr=>hl r (List.mem_cons_of_mem _ hr)
  unfold qS at hy
  cases hg:Nat.beq g f with
  |false=>rw[hg] at hy;exact ih k nm f args h v u hy
  |true=>
   rw[hg] at hy
   have:g=f:=by simpa using hg
   subst this
   rcases vLr hy with hy|hy
   ·exact hl (g,e) (List.mem_cons_self ..) k nm args h v u hy
   ·exact ih k nm g args h v u hy
theorem YB:∀{l:List (Nat×zH)},(∀r∈l,DI r.2)→gV (qS l)
 |[],_=>fun k nm f args h h' _ _=>rfl
 |(g,e)::l,hl=>fun k nm f args h h' h1 h2=>by
  have ih:=YB (l:=l) (fun r hr=>hl r (List.mem_cons_of_mem _ hr)) k nm f args h h' h1 h2
  unfold qS
  have he:e k nm args h=e k nm args h':=hl (g,e) (List.mem_cons_self ..) k nm args h h' h1 h2
  rw[ih,he]
section
variable {h h':Hp}
theorem yUh {t:Ty}{c:zG}(hh:∀id∈vA c,h id=h' id):uP h t c=uP h' t c:=by
 have e:=Hg hh
 unfold uP
 cases c<;>first|rfl|simp only[e]
theorem YC {p:PC}{c:zG}(hh:∀id∈vA c,h id=h' id):qa h p c=qa h' p c:=by
 have e:=fun t=>yUh (t:=t) hh
 unfold qa
 cases p with
 |dat sh t=>cases sh with
  |false=>cases c<;>exact e t
  |true=>cases c<;>first|rfl|(rename_i b _ _;cases b<;>rfl)
 |fn f=>cases c<;>first|rfl|(rename_i cap;cases cap<;>rfl)
 |_=>cases c<;>rfl
theorem YD:∀{l:List PC} {cs:List zG},(∀id∈cs.flatMap vA,h id=h' id)→uQ h l cs=uQ h' l cs
 |[],[],_=>rfl
 |[],_::_,_=>rfl
 |_::_,[],_=>rfl
 |p::l,c::cs,hh=>by
  simp only[List.flatMap_cons,List.mem_append] at hh
  unfold uQ
  rw[YC fun id hi=>hh id (.inl hi),YD fun id hi=>hh id (.inr hi)]
theorem vD7 {ls:List (List PC)}:qb h ls []=qb h' ls []:=by
 cases ls<;>rfl
theorem vCr {s:AS}{a:zD}(hb:yW a=false):s.get h a=s.get h' a:=by
 unfold AS.get
 cases s with
 |c p=>cases a<;>rfl
 |agg l=>cases a<;>rfl
 |ptr l=>
  cases a with
  |c x=>cases x<;>first|rfl|(exact absurd hb (by simp[yW]))
  |_=>rfl
 |fn f bq=>
  cases a with
  |c x=>cases x with
   |fn g ids=>
    cases ids with
    |nil=>dsimp only;rw[vD7]
    |cons _ _=>exact absurd hb (by simp[yW])
   |_=>rfl
  |_=>rfl
theorem vLb {s:AS}{a:zD}{cs:List zG}(hb:yW a=false)(e:s.get h a=some cs):∀id∈cs.flatMap vA,id∈yL a:=by
 unfold AS.get at e
 split at e
 ·cases e;intro id aa;simp only[List.flatMap_cons,List.flatMap_nil,List.append_nil] at aa;exact aa
 ·obtain⟨_,e⟩:=vE e
  cases e;exact fun id aa=>aa
 ·exact absurd hb (by simp[yW])
 ·rename_i f bq g ids
  obtain⟨_,e⟩:=vE e
  cases ids with
  |nil=>cases bq with
   |nil=>cases e;intro id aa;simp at aa
   |cons _ _=>cases e
  |cons _ _=>exact absurd hb (by simp[yW])
 ·cases e
theorem YE:∀{l:List AS} {as:List zD},as.any yW=false→oC h l as=oC h' l as
 |[],[],_=>rfl
 |[],_::_,_=>rfl
 |_::_,[],_=>rfl
 |s::l,a::as,hb=>by
  simp only[List.any_cons,Bool.or_eq_false_iff] at hb
  unfold oC
  rw[vCr (h:=h) (h':=h') hb.1,YE hb.2]
theorem YF:∀{l:List AS} {as:List zD} {cs:List zG},as.any yW=false→oC h l as=some cs→∀id∈cs.flatMap vA,id∈as.flatMap yL
 |[],[],cs,_,e=>by cases e;intro id aa;simp at aa
 |[],_::_,_,_,e=>by cases e
 |_::_,[],_,_,e=>by cases e
 |s::l,a::as,cs,hb,e=>by
  simp only[List.any_cons,Bool.or_eq_false_iff] at hb
  unfold oC at e
  split at e
  ·rename_i c1 rest e1 e2
   cases e
   intro id aa
   rw[List.flatMap_append,List.mem_append] at aa
   rw[List.flatMap_cons,List.mem_append]
   rcases aa with aa|aa
   ·exact .inl (vLb hb.1 e1 id aa)
   ·exact .inr (YF hb.2 e2 id aa)
  ·cases e
theorem vK4 {l:List AS}{as:List zD}(hb:as.any yW=false)(hh:∀id∈as.flatMap yL,h id=h' id):uR h l as=uR h' l as:=by
 unfold uR
 rw[YE (h:=h) (h':=h') hb]
 cases e:oC h' l as with
 |none=>rfl
 |some cs=>exact YD fun id aa=>hh id (YF hb e id aa)
theorem yl {x:zG}:[x].flatMap vA=yL (.c x):=by simp[yL]
theorem Ot {c c':zG}{u:zZ}(e:ma h c=some (c',u)):(∀id∈vA c',id∈vA c)∧(yW (.c c')=true→yW (.c c)=true):=by
 cases c with
 |osl id r=>
  unfold ma at e
  dsimp only at e
  split at e
  ·cases e;exact⟨fun id aa=>(by cases aa),fun hb=>(by cases hb)⟩
  ·cases r with
   |none=>cases e;exact⟨fun id aa=>(by cases aa),fun hb=>(by cases hb)⟩
   |some _=>cases e
  ·cases e
 |mrow _ _ _=>cases e
 |_=>cases e;exact⟨fun _ h=>h,fun h=>h⟩
theorem ym:∀{l:List Bool} {cs:List zG},(∀id∈cs.flatMap vA,h id=h' id)→eX h l cs=eX h' l cs
 |[],cs,_=>by cases cs<;>rfl
 |true::l,[],_=>rfl
 |false::l,[],_=>rfl
 |true::l,c::cs,hh=>by
  simp only[List.flatMap_cons,List.mem_append] at hh
  unfold eX
  rw[XK fun id hi=>hh id (.inl hi),ym fun id hi=>hh id (.inr hi)]
 |false::l,c::cs,hh=>by
  simp only[List.flatMap_cons,List.mem_append] at hh
  unfold eX
  rw[ym fun id hi=>hh id (.inr hi)]
theorem yn:∀{l:List Bool} {cs aM:List zG} {u:zZ},eX h l cs=some (aM,u)→∀id∈aM.flatMap vA,id∈cs.flatMap vA
 |[],cs,aM,u,e=>by cases cs<;>cases e<;>exact fun _ h=>h
 |true::l,[],aM,u,e=>by cases e;exact fun _ h=>h
 |false::l,[],aM,u,e=>by cases e;exact fun _ h=>h
 |true::l,c::cs,aM,u,e=>by
  unfold eX at e
  split at e
  ·rename_i c1 u1 kN om e1 e2
   cases e
   intro id aa
   rw[List.flatMap_cons,List.mem_append] at aa⊢
   exact aa.imp ((Ot e1).1 id) (yn e2 id)
  ·cases e
 |false::l,c::cs,aM,u,e=>by
  unfold eX at e
  split at e
  ·rename_i kN om e2
   cases e
   intro id aa
   rw[List.flatMap_cons,List.mem_append] at aa⊢
   exact aa.imp (fun h=>h) (yn e2 id)
  ·cases e
theorem vD3 {s:AS}{a:zD}(hh:∀id∈yL a,h id=h' id):sD h s a=sD h' s a:=by
 unfold sD
 cases s with
 |c p=>cases a with
  |c x=>
   have:=ym (h:=h) (h':=h') (l:=[p.isKept]) (cs:=[x]) (by rw[yl];exact hh)
   simp only[this]
  |_=>rfl
 |agg l=>cases a with
  |agg xs=>
   have:=ym (h:=h) (h':=h') (l:=l.map PC.isKept) (cs:=xs) hh
   simp only[this]
  |_=>rfl
 |_=>rfl
theorem vIz {s:AS}{a a':zD}{u:zZ}(e:sD h s a=some (a',u)):(∀id∈yL a',id∈yL a)∧(yW a=false→yW a'=false):=by
 unfold sD at e
 split at e
 ·rename_i p x
  split at e
  ·rename_i y u1 e1
   cases e
   refine⟨fun id aa=>by have:=yn e1 id (by rw[yl];exact aa);rwa [yl] at this,fun hb=>?_⟩
   cases hk:p.isKept with
   |false=>rw[hk] at e1;cases e1;exact hb
   |true=>
    rw[hk] at e1
    unfold eX at e1
    split at e1
    ·rename_i c1 u2 kN om e2 e3
     cases e3
     cases e1
     cases hy:yW (.c y) with
     |false=>rfl
     |true=>rw[(Ot e2).2 hy] at hb;cases hb
    ·cases e1
  ·cases e
 ·rename_i l xs
  split at e
  ·rename_i ys u1 e1
   cases e
   exact⟨yn e1,fun _=>rfl⟩
  ·cases e
 ·cases e;exact⟨fun _ h=>h,fun h=>h⟩
theorem YG:∀{l:List AS} {as:List zD},(∀id∈as.flatMap yL,h id=h' id)→oE h l as=oE h' l as
 |[],as,_=>by cases as<;>rfl
 |_::_,[],_=>rfl
 |s::l,a::as,hh=>by
  simp only[List.flatMap_cons,List.mem_append] at hh
  unfold oE
  rw[vD3 fun id hi=>hh id (.inl hi),YG fun id hi=>hh id (.inr hi)]
theorem YH:∀{l:List AS} {as ez:List zD} {u:zZ},oE h l as=some (ez,u)→(∀id∈ez.flatMap yL,id∈as.flatMap yL)∧(as.any yW=false→ez.any yW=false)
 |[],as,ez,u,e=>by cases as<;>cases e<;>exact⟨fun _ h=>h,fun h=>h⟩
 |s::l,[],ez,u,e=>by cases e;exact⟨fun _ h=>h,fun h=>h⟩
 |s::l,a::as,ez,u,e=>by
  unfold oE at e
  split at e
  ·rename_i a1 u1 On om e1 e2
   cases e
   obtain⟨k1,k2⟩:=vIz e1
   obtain⟨k3,k4⟩:=YH e2
   refine⟨fun id aa=>?_,fun hb=>?_⟩
   ·rw[List.flatMap_cons,List.mem_append] at aa⊢
    exact aa.imp (k1 id) (k3 id)
   ·simp only[List.any_cons,Bool.or_eq_false_iff] at hb⊢
    exact⟨k2 hb.1,k4 hb.2⟩
  ·cases e
theorem Ou:∀{n nm:Nat},(∀i,i<n→h (nm+i)=h' (nm+i))→sC h nm n=sC h' nm n
 |0,_,_=>rfl
 |n+1,nm,hh=>by
  unfold sC
  have:=hh 0 (by omega)
  rw[Nat.add_zero] at this
  rw[this,Ou fun i hi=>by have:=hh (i+1) (by omega);rw[show nm+(i+1)=nm+1+i by omega] at this;exact this]
end
theorem YI {as:List AS}{rs:RS}{X:Type}{S:Nat→AD as→Option X}{pack:X→RL rs.cells}:DI fun k nm args h=>mm as rs (S k) pack nm args h:=by
 intro k nm args h h' h1 h2
 cases hb:args.any yW with
 |true=>rw[h2 hb]
 |false=>
  have hh:=h1 hb
  show mm as rs (S k) pack nm args h=mm as rs (S k) pack nm args h'
  unfold mm
  rw[YG (h:=h) (h':=h') fun id aa=>hh id (.inl aa)]
  cases e:oE h' as args with
  |none=>rfl
  |some p=>
   obtain⟨eh,u⟩:=p
   obtain⟨k1,k2⟩:=YH e
   dsimp only
   rw[vK4 (h:=qJ h u) (h':=qJ h' u) (k2 hb) fun id aa=>uL (hh id (.inl (k1 id aa)))]
   cases uR (qJ h' u) as eh with
   |none=>rfl
   |some d=>
    dsimp only
    cases hle:Nat.ble rs.cells.length 100 with
    |false=>simp
    |true=>
     have hle:=Nat.le_of_ble_eq_true hle
     rw [Ou (h := h) (h' := h') fun i hi => hh _ (.inr (by
      simp only[lv,Bool.and_eq_true]
      exact⟨Nat.ble_eq_true_of_le (by omega),by simp[Nat.blt_eq];omega⟩))]
def lK:Code→List Code
 |.seq a b=>lK a++lK b
 |.cond _ a b=>lK a++lK b
 |.block _ b=>lK b
 |.loop b=>[b]
 |_=>[]
def qD (c:Code)(i:Nat):Code:=match(lK c)[i]? with
 |some b=>b
 |none=>.skip
def qG (fn:Func):Code:=match fn.body with
 |some c=>c
 |none=>.skip
def YJ (P:Program)(A:qB)(pre na nt:Nat)(b:Code):Prop:=(∃L,sf A b=some L∧qH P pre na nt b L)∨(sf A b=none∧vN P A pre na nt b)
theorem vC4 {P:Program}{A:qB}{pre na nt:Nat}:∀(c:Code),(∀b∈lK c,YJ P A pre na nt b)→vN P A pre na nt c:=by
 intro c
 induction c with
 |seq a b uy uz=>exact fun h=>⟨uy fun x hx=>h x (List.mem_append_left _ hx),uz fun x hx=>h x (List.mem_append_right _ hx)⟩
 |cond t a b uy uz=>exact fun h=>⟨uy fun x hx=>h x (List.mem_append_left _ hx),uz fun x hx=>h x (List.mem_append_right _ hx)⟩
 |block id b ih=>exact fun h=>ih h
 |loop b ih=>
  intro h
  rcases h b (List.mem_cons_self ..) with⟨L,h1,h2⟩|⟨h1,h2⟩
  ·refine⟨fun L' h3=>?_,fun h3=>?_⟩
   ·rw[h1] at h3;cases h3;exact h2
   ·rw[h1] at h3;cases h3
  ·refine⟨fun L' h3=>?_,fun _=>h2⟩
   rw[h1] at h3;cases h3
 |_=>exact fun _=>trivial
theorem yo {P:Program}{A:qB}{pre na nt:Nat}{c:Code}{n:Nat}(hn:(lK c).length=n)(h:∀i,i<n→YJ P A pre na nt (qD c i)):vN P A pre na nt c:=
 vC4 c fun b hb=>by
  obtain⟨i,hi,rfl⟩:=List.getElem_of_mem hb
  have e:qD c i=(lK c)[i]:=by
   unfold qD
   rw[List.getElem?_eq_getElem hi]
  have:=h i (by omega)
  rwa [e] at this
theorem loopsOK_of {P:Program}{A:qB}{pre na nt:Nat}{c:Code}{n:Nat}(hn:(lK c).length=n)(h:∀i,i<n→∃L,sf A (qD c i)=some L∧qH P pre na nt (qD c i) L):vN P A pre na nt c:=
 yo hn fun i hi=>.inl (h i hi)
theorem yZ2 {P:Program}{A:qB}{pre na nt:Nat}{c:Code}(hn:(lK c).length=0):vN P A pre na nt c:=loopsOK_of hn fun i hi=>absurd hi (Nat.not_lt_zero i)
theorem body_loops {P:Program}{A:qB}{pre na:Nat}{fn:Func}(h:vN P A pre na fn.ntmps (qG fn)):∀c,fn.body=some c→vN P A pre na fn.ntmps c:=fun c hc=>by
 unfold qG at h
 rw[hc] at h
 exact h
theorem DJ {P:Program}{f:FuncId}{fn:Func}(hf:P.funcs[f]? =some fn)(hb:fn.body.isNone=false)(hn:(fn.name== "runtime.NumGoroutine")=false):∀vs w,(callFunc f vs).run P w=.ok (.enter f vs) w:=fun vs w=>by
 have h1:(program).run P w=.ok P w:=rfl
 unfold callFunc
 simp only[Sem.run_bind,h1,Result.andThen_ok,hf,hn,hb,Bool.false_eq_true,if_false,Sem.run_pure]
abbrev zA (x:Int):Int:=IntKind.wrap .i64 x
abbrev gl (k:IntKind)(x y:Int):Int:=ue (fun _ a b=>a&&&b) k x y
abbrev ke (k:IntKind)(x y:Int):Int:=ue (fun _ a b=>a|||b) k x y
abbrev shl (k:IntKind)(x y:Int):Int:=k.wrap (x*2^(min y.toNat k.bits))
abbrev shr (k:IntKind)(x y:Int):Int:=x.fdiv (2^(min y.toNat k.bits))
abbrev zX (n b:Nat):Bool:=Nat.ble (n*b) 140737488355328&&Nat.ble n 140737488355328
abbrev lL (l c:Int)(b:Nat):Bool:=decide (0≤l)&&decide (l≤c)&&decide (c*(b:Int)≤140737488355328)&&decide (c≤140737488355328)
abbrev wC (lt:Bool)(x y:Int):Int:=bif lt then(bif decide (y<x) then y else x) else(bif decide (y>x) then y else x)
abbrev Ov (xs:List (List Int))(n:Nat):Option (List (List Int)):=
 kQ (.c .mat) (fun d=>d.1) (.c (.osl 0 none)) ⟨fun _=>.undef,fun _=>some (.pmat 0 xs n)⟩
theorem vMt (xs:List (List Int))(n:Nat):Ov xs n=bif Nat.beq xs.length n then some xs else none:=by
 unfold Ov kQ DF RS.get RS.cells
 dsimp only[List.map,RC.isFro,eX,vJ,pA,qJ]
 cases h:Nat.beq xs.length n<;>simp[iC,nc,h]
theorem vFk {P:Program}:G0 P (fun _=>false):=fun t h=>by cases h
open Go.ChangeShapes Go.WideShapes Go.ChangeAt Go.RowKit
def DK (f:TypeId→Option Ty):Nat→List (Nat×TypeId)→Option Ty
 |_,[]=>none
 |off,[x]=>bif Nat.beq x.1 off then f x.2 else none
 | off, x :: y :: l => bif Nat.beq x.1 off then (match f x.2 with
  |some a=>(match DK f (off+a.size) (y::l) with|some b=>some (.pair a b)|none=>none)
  |none=>none) else none
def uW (P:Program):TypeDesc→List (Nat×TypeId)
 |.struct fs=>fs.toList.map fun f=>(f.offset,f.type)
 |.array n e=>(List.range n).map fun i=>(i*P.cellsOf e,e)
 |_=>[]
def mn (P:Program):Nat→TypeId→Option Ty
 |0,_=>none
 |d+1,t=>match P.underlying t with
  |some (.int k)=>bif Nat.beq (P.cellsOf t) 1 then some (.int k) else none
  |some .bool=>bif Nat.beq (P.cellsOf t) 1 then some .bool else none
  |some (.slice e)=>bif Nat.beq (P.cellsOf t) 1 then(match mn P d e with|some a=>some (.sl a)|none=>none) else none
  |some x=>match DK (mn P d) 0 (uW P x) with
   |some a=>bif Nat.beq (P.cellsOf t) a.size then some a else none
   |none=>none
  |none=>none
def Wf:(t:Ty)→t.den→Prop
 |.int k,n=>(Lit.int k n).wf=true
 |.bool,_=>True
 |.sl t,xs=>xs.length≤maxLen∧∀i (h:i<xs.length),Wf t xs[i]
 |.pair a b,p=>Wf a p.1∧Wf b p.2
theorem Ow {P:Program}:∀{d:Nat} {t:TypeId} {ty:Ty},mn P d t=some ty→P.cellsOf t=ty.size
 |0,_,_,h=>by cases h
 |d+1,t,ty,h=>by
  unfold mn at h
  split at h
  ·obtain⟨h1,h2⟩:=vE h;cases h2;exact Nat.eq_of_beq_eq_true h1
  ·obtain⟨h1,h2⟩:=vE h;cases h2;exact Nat.eq_of_beq_eq_true h1
  ·obtain⟨h1,h2⟩:=vE h
   split at h2
   ·cases h2;exact Nat.eq_of_beq_eq_true h1
   ·cases h2
  ·split at h
   ·obtain⟨h1,h2⟩:=vE h;cases h2;simpa using h1
   ·cases h
  ·cases h
section
variable {H:Type} {enc:TypeId×Value→H} {P:Program} {w:World}
abbrev DL (w:World):Nat→Prop:=fun b=>b<w.heap.size
theorem vJc {a:Addr}{n:Nat}{cs:List Value}(h:w.cells? 0 a n=some cs):cs.length=n∧∀i,i<n→∃v,cs[i]? =some v∧w.cell? (a.add i)=some v:=by
 unfold World.cells? at h
 rw[if_pos (Nat.zero_le _)] at h
 have hl:=mapM_some_length h
 have hg:=mapM_some_get h
 simp at hl
 refine⟨hl,fun i hi=>?_⟩
 have:=hg i i (by simp[hi])
 have aV:i<cs.length:=by omega
 rw[List.getElem?_eq_getElem aV] at this
 exact⟨cs[i],List.getElem?_eq_getElem aV,this⟩
theorem YK {a:Addr}{v:Value}(h:w.cell? a=some v):a.spot=none∧a.block<w.heap.size∧yC w.heap a.block a.off=some v:=by
 unfold World.cell? at h
 cases hb:w.heap[a.block]? with
 |none=>rw[hb] at h;cases h
 |some o=>
  rw[hb] at h
  cases o with
  |cells c e z=>
   dsimp only at h
   split at h
   ·cases h
   ·rename_i hs
    refine⟨by simpa using hs,?_,?_⟩
    ·exact(Array.getElem?_eq_some_iff.1 hb).1
    ·unfold yC;rw[hb];exact h
  |_=>cases h
theorem YL {α:Type}{p:Nat→α→Prop}:∀(n:Nat),(∀i,i<n→∃x,p i x)→∃xs:List α,xs.length=n∧∀i (h:i<xs.length),p i xs[i]
 |0,_=>⟨[],rfl,fun i h=>absurd h (Nat.not_lt_zero i)⟩
 |n+1,h=>by
  obtain⟨xs,h1,h2⟩:=YL n fun i hi=>h i (by omega)
  obtain⟨x,hx⟩:=h n (by omega)
  refine⟨xs++[x],by simp[h1],fun i hi=>?_⟩
  by_cases ey:i<xs.length
  ·rw[List.getElem_append_left ey];exact h2 i ey
  ·have:i=n:=by simp at hi;omega
   subst this
   rw[List.getElem_append_right (by omega)]
   simp[h1]
   exact hx
def HB (P:Program)(w:World)(ty:Ty)(cs:List Value):Prop:=∃x:ty.den,cs.length=ty.size∧zY w.heap (DL w) ty x (fun j=>cs[j]?)∧Wf ty x
theorem YM {d:Nat}{fuel:Nat}(ih:∀(t:TypeId) (ty:Ty) (cs:List Value) (x:DataW H×List MemPlace),mn P d t=some ty→DataW.trod enc P w 0 (fun _=>true) true fuel t cs=some x→HB P w ty cs):
  ∀(l:List (Nat×TypeId)) (off:Nat) (ty:Ty) (cs:List Value) (out:List (DataW H×List MemPlace)),DK (mn P d) off l=some ty→off+ty.size≤cs.length→
   (l.mapM fun p=>DataW.trod enc P w 0 (fun _=>true) true fuel p.2 ((cs.drop p.1).take (P.cellsOf p.2)))=some out→HB P w ty ((cs.drop off).take ty.size)
 |[],off,ty,cs,out,h,_,_=>by cases h
 |[x],off,ty,cs,out,h,hc,hm=>by
  obtain⟨h1,h2⟩:=vE h
  have ho:x.1=off:=by simpa using h1
  simp only[List.mapM_cons,List.mapM_nil,Option.pure_def,Option.bind_eq_bind,Option.bind_eq_some_iff] at hm
  obtain⟨y,hy,_⟩:=hm
  rw[ho,Ow h2] at hy
  exact ih _ _ _ _ h2 hy
 |x::y::l,off,ty,cs,out,h,hc,hm=>by
  obtain⟨h1,h2⟩:=vE h
  have ho:x.1=off:=by simpa using h1
  split at h2
  ·rename_i a ha
   split at h2
   ·rename_i b hb
    cases h2
    simp only[Ty.size] at hc⊢
    rw[List.mapM_cons] at hm
    simp only[Option.pure_def,Option.bind_eq_bind,Option.bind_eq_some_iff] at hm
    obtain⟨z,hz,zs,hzs,_⟩:=hm
    rw[ho,Ow ha] at hz
    obtain⟨p,p1,p2,p3⟩:=ih _ _ _ _ ha hz
    obtain⟨q,q1,q2,q3⟩:=YM ih (y::l) (off+a.size) b cs zs hb (by omega) hzs
    refine⟨(p,q),by simp only[List.length_take,List.length_drop,Ty.size];omega,⟨?_,?_⟩,p3,q3⟩
    ·refine yQ (fun _ h=>h) (fun _ _=>rfl) a p _ _ (fun j hj=>?_) p2
     simp only[List.getElem?_take,List.getElem?_drop]
     rw[if_pos (by omega),if_pos hj]
    ·refine yQ (fun _ h=>h) (fun _ _=>rfl) b q _ _ (fun j hj=>?_) q2
     simp only[List.getElem?_take,List.getElem?_drop]
     rw[if_pos (by omega),if_pos hj]
     congr 1;omega
   ·cases h2
  ·cases h2
theorem Ox:∀(d:Nat) (t:TypeId) (ty:Ty) (fuel:Nat) (cs:List Value) (x:DataW H×List MemPlace),mn P d t=some ty→DataW.trod enc P w 0 (fun _=>true) true fuel t cs=some x→HB P w ty cs
 |0,_,_,_,_,_,h,_=>by cases h
 |d+1,t,ty,0,cs,x,_,h=>by simp[DataW.trod] at h
 |d+1,t,ty,fuel+1,cs,x,hl,h=>by
  unfold mn at hl
  split at hl
  ·rename_i k hu
   obtain⟨_,hl⟩:=vE hl
   cases hl
   obtain⟨n,rfl,_,hw⟩:=DataW.trod_int hu h
   exact⟨n,rfl,rfl,hw⟩
  ·rename_i hu
   obtain⟨_,hl⟩:=vE hl
   cases hl
   obtain⟨b,rfl,_⟩:=DataW.trod_bool hu h
   exact⟨b,rfl,rfl,trivial⟩
  ·rename_i e hu
   obtain⟨_,hl⟩:=vE hl
   split at hl
   ·rename_i a ha
    cases hl
    rcases DataW.trod_slice hu h with⟨rfl,_⟩|⟨ad,len,cap,elems,rest,n,hn,rfl,_,_,GZ,hm,hel,hg,_,_⟩
    ·refine⟨([]:List a.den),rfl,?_,?_⟩
     ·simp only[zY]
      exact⟨none,0,0,rfl,rfl,Nat.le_refl _,.inl ⟨trivial,fun _=>rfl⟩⟩
     ·simp only[Wf]
      exact⟨Nat.zero_le _,fun i hi=>absurd hi (Nat.not_lt_zero i)⟩
    ·have key:∀i,i<len→∃x:a.den,(zY w.heap (DL w) a x (fun j=>yC w.heap ad.block (ad.off+i*a.size+j))∧(i=0→ad.spot=none)∧ad.block<w.heap.size)∧Wf a x:=by
      intro i hi
      have h1:=hg i hi
      have N3:i<elems.length:=by omega
      rw[List.getElem?_eq_getElem N3,Option.bind_eq_some_iff] at h1
      obtain⟨cs,lJ,htr⟩:=h1
      rw[Ow ha] at lJ
      obtain⟨y,y1,y2,y3⟩:=Ox d e a n cs _ ha htr
      obtain⟨c1,c2⟩:=vJc lJ
      have uX:∀j,((ad.add (i*a.size)).add j).block=ad.block∧((ad.add (i*a.size)).add j).off=ad.off+i*a.size+j:=by
       intro j
       unfold Addr.add
       constructor
       ·split<;>split<;>rfl
       ·split<;>split<;>simp_all
      have at0:(i=0→ad.spot=none)∧ad.block<w.heap.size:=by
       obtain⟨v,_,hv⟩:=c2 0 a.size_pos
       have h1:=YK hv
       refine⟨fun h0=>?_,by have:=h1.2.1;rwa [(uX 0).1] at this⟩
       have h2:=h1.1
       subst h0
       simpa[Addr.add] using h2
      refine⟨y,⟨yQ (fun _ h=>h) (fun _ _=>rfl) a y _ _ (fun j hj=>?_) y2,at0⟩,y3⟩
      obtain⟨v,v1,v2⟩:=c2 j hj
      rw[v1]
      have h1:=(YK v2).2.2
      rwa [(uX j).1,(uX j).2] at h1
     obtain⟨xs,x1,x2⟩:=YL len key
     refine⟨xs,rfl,?_,?_⟩
     ·simp only[zY]
      refine⟨some ad,len,cap,rfl,x1.symm,GZ,?_⟩
      by_cases h0:xs=[]
      ·exact .inl ⟨h0,fun h=>by cases h⟩
      ·refine .inr ⟨ad.block,ad.off,?_,?_,fun i hi=>(x2 i hi).1.1⟩
       ·have:=(x2 0 (List.length_pos_iff.2 h0)).1.2.1 rfl
        cases ad
        simp at this
        rw[this]
       ·exact(x2 0 (List.length_pos_iff.2 h0)).1.2.2
     ·simp only[Wf]
      exact⟨by omega,fun i hi=>(x2 i hi).2⟩
   ·cases hl
  ·rename_i y n1 n2 n3 hu
   split at hl
   ·rename_i a ha
    obtain⟨dM,hl⟩:=vE hl
    cases hl
    have dM:P.cellsOf t=ty.size:=by simpa using dM
    have fin:∀out,cs.length=P.cellsOf t→((uW P y).mapM fun p=>DataW.trod enc P w 0 (fun _=>true) true fuel p.2 ((cs.drop p.1).take (P.cellsOf p.2)))=some out→HB P w ty cs:=by
     intro out hlen iw
     have:=YM (fun t' ty' aM x' h1 h2=>Ox d t' ty' fuel aM x' h1 h2) (uW P y) 0 ty cs out ha (by omega) iw
     rwa [List.drop_zero,List.take_of_length_le (by omega)] at this
    unfold DataW.trod at h
    rw[hu] at h
    cases y with
    |struct fs=>
     dsimp only at h
     split at h
     ·rename_i hlen
      rw[Option.map_eq_some_iff] at h
      obtain⟨out,ho,_⟩:=h
      refine fin out hlen ?_
      simp only[uW,List.mapM_map]
      exact ho
     ·cases h
    |array n e=>
     dsimp only at h
     split at h
     ·rename_i hlen
      rw[Option.map_eq_some_iff] at h
      obtain⟨out,ho,_⟩:=h
      refine fin out hlen ?_
      simp only[uW,List.mapM_map]
      exact ho
     ·cases h
    |_=>simp[uW,DK] at ha
   ·cases hl
  ·cases hl
end
open Go.ChangeShapes Go.WideShapes Go.ChangeAt Go.RowKit
def qc (sh:Bool):Ty→List PC
 |.int k=>[.int k]
 |.bool=>[.bool]
 |.sl t=>[.dat sh t]
 |.pair a b=>qc sh a++qc sh b
def sI:(l m:List PC)→PL l→PL m→PL (l++m)
 |[],_,_,e=>e
 |_::l,m,d,e=>(d.1,sI l m d.2 e)
theorem Oy:∀(l m:List PC) (d:PL l) (e:PL m),vK (l++m) (sI l m d e)=vK l d++vK m e
 |[],_,_,_=>rfl
 |p::l,m,d,e=>by
  show yj p d.1::vK (l++m) (sI l m d.2 e)=yj p d.1::(vK l d.2++vK m e)
  rw[Oy l m d.2 e]
def oF (sh:Bool):(t:Ty)→t.den→PL (qc sh t)
 |.int _,n=>(n,())
 |.bool,b=>(b,())
 |.sl _,xs=>(xs,())
 |.pair a b,p=>sI _ _ (oF sh a p.1) (oF sh b p.2)
def WfP:(p:PC)→p.den→Prop
 |.int k,n=>(Lit.int k n).wf=true
 |.bool,_=>True
 |.dat _ t,xs=>Wf (.sl t) xs
 |.fn _,_=>True
 |.nil,_=>True
 |.nilp,_=>True
def qd:(l:List PC)→PL l→Prop
 |[],_=>True
 |p::l,d=>WfP p d.1∧qd l d.2
theorem Oz:∀(l m:List PC) (d:PL l) (e:PL m),qd l d→qd m e→qd (l++m) (sI l m d e)
 |[],_,_,_,_,h=>h
 |_::l,m,d,e,h,h'=>⟨h.1,Oz l m d.2 e h.2 h'⟩
theorem OA (sh:Bool):∀(t:Ty) (x:t.den),Wf t x→qd (qc sh t) (oF sh t x)
 |.int _,_,h=>⟨h,trivial⟩
 |.bool,_,h=>⟨h,trivial⟩
 |.sl _,_,h=>⟨h,trivial⟩
 |.pair a b,p,h=>Oz _ _ _ _ (OA sh a p.1 h.1) (OA sh b p.2 h.2)
theorem DM:∀(l:List PC) (d:PL l),(vK l d).length=l.length
 |[],_=>rfl
 |p::l,d=>by
  show(vK l d.2).length+1=l.length+1
  rw[DM l d.2]
def M0 (w:World):zB:=⟨fun _=>none,DL w,DL w,ka [],w.heap⟩
theorem vKn (w:World):Ok (M0 w) where
 obj:=fun id o h=>by cases h
 non:=fun _ _=>rfl
 disj:=fun i j oi oj Ci Cj b _ h=>by cases h
 own:=fun b h=>by
  obtain⟨id,o,C,h1,_⟩:=h
  cases h1
 GF:=fun _ h=>h
 Flt:=fun _ h=>h
theorem OB (sh:Bool){w:World}:∀(t:Ty) (x:t.den) (cs:List Value),cs.length=t.size→zY w.heap (DL w) t x (fun j=>cs[j]?)→zP (zW (M0 w)) (vK (qc sh t) (oF sh t x)) cs
 |.int k,n,cs,hl,h=>by
  match cs,hl with
  |[c],_=>
   have e:c=.int k n:=by simpa[zY] using h
   exact⟨e,trivial⟩
 |.bool,b,cs,hl,h=>by
  match cs,hl with
  |[c],_=>
   have e:c=.bool b:=by simpa[zY] using h
   exact⟨e,trivial⟩
 |.sl t,xs,cs,hl,h=>by
  match cs,hl with
  |[c],_=>
   refine⟨?_,trivial⟩
   have h' := yQ (F' := (bif sh then (M0 w).G else (M0 w).F)) (fun b h => by cases sh <;> exact h) (fun b _ => rfl) (.sl t) xs (fun j => [c][j]?) (fun _ => some c) (fun j hj=>by
    have:j=0:=by simp[Ty.size] at hj;exact hj
    subst this;rfl) h
   exact h'
 |.pair a b,p,cs,hl,h=>by
  have fj:cs.length=a.size+b.size:=hl
  have h1 := OB sh a p.1 (cs.take a.size) (by rw [List.length_take]; omega) (yQ (fun _ h => h) (fun _ _ => rfl) a p.1 _ _ (fun j hj=>by
   rw[List.getElem?_take,if_pos hj]) h.1)
  have h2 := OB sh b p.2 (cs.drop a.size) (by rw [List.length_drop]; omega) (yQ (fun _ h => h) (fun _ _ => rfl) b p.2 _ _ (fun j hj=>by
   rw[List.getElem?_drop];congr 1;omega) h.2)
  show zP _ (vK (qc sh a++qc sh b) (sI _ _ (oF sh a p.1) (oF sh b p.2))) cs
  rw[Oy]
  have:=zP.append h1 h2
  rwa [List.take_append_drop] at this
def oG (sh : Bool) (P : Program) (t : TypeId) (ty : Ty) : AS := bif gb P t == some true then .agg (qc sh ty) else (match ty with
 |.int k=>.c (.int k)|.bool=>.c .bool|.sl t=>.c (.dat sh t)|.pair a b=>.agg (qc sh (.pair a b)))
def HC (P:Program):List TypeId→Option (List Ty)
 |[]=>some []
 |t::ts=>match mn P 8 t,HC P ts with
  |some a,some l=>some (a::l)
  |_,_=>none
def qe (sh:Bool)(P:Program):List TypeId→List Ty→List AS
 |t::ts,a::l=>oG sh P t a::qe sh P ts l
 |_,_=>[]
theorem vCl {P:Program}{t:TypeId}{ty:Ty}(h:mn P 8 t=some ty)(ha:(gb P t==some true)=false):(∃k,P.underlying t=some (.int k)∧ty=.int k)∨(P.underlying t=some .bool∧ty=.bool)∨∃e a,P.underlying t=some (.slice e)∧ty=.sl a:=by
 unfold mn at h
 split at h
 ·rename_i k hu
  obtain⟨_,h⟩:=vE h
  cases h
  exact .inl ⟨k,hu,rfl⟩
 ·rename_i hu
  obtain⟨_,h⟩:=vE h
  cases h
  exact .inr (.inl ⟨hu,rfl⟩)
 ·rename_i e hu
  obtain⟨_,h⟩:=vE h
  split at h
  ·cases h;exact .inr (.inr ⟨e,_,hu,rfl⟩)
  ·cases h
 ·rename_i x _ _ _ hu
  split at h
  ·rename_i a hx
   exfalso
   unfold gb at ha
   rw[hu] at ha
   cases x<;>first|(simp[uW,DK] at hx;done)|(cases ha)
  ·cases h
 ·cases h
section
variable {H:Type} {enc:TypeId×Value→H} {P:Program} {w:World}
theorem vEr (sh:Bool){t:TypeId}{ty:Ty}{v:Value}{d:DataW H}{ps:List MemPlace}{base:Nat}(hl:mn P 8 t=some ty)(eI:Value.okWide P w .any base t v)(h:DataW.Trod enc P w 0 (fun _=>true) true t v d ps):
  ∃x:PL (oG sh P t ty).cells,(∀n,zU (M0 w) ((oG sh P t ty).mk n (vK _ x)) v)∧(oG sh P t ty).boxes (vK _ x)=[]∧qd _ x:=by
 obtain⟨fuel,hf⟩:=h
 obtain⟨x,x1,x2,x3⟩:=Ox 8 t ty fuel _ _ hl hf
 have dh:=OB sh ty x _ x1 x2
 have yp:=OA sh ty x x3
 unfold oG
 cases ha:(gb P t==some true) with
 |true=>
  simp only[cond_true]
  refine⟨oF sh ty x,fun n=>?_,rfl,yp⟩
  have kL:gb P t=some true:=by simpa using ha
  have hv:∃cs,v=.agg cs:=by
   unfold gb at kL
   unfold Value.okWide at eI
   split at kL<;>first|(rename_i e;rw[e] at eI;obtain⟨cs,h1,_⟩:=eI;exact⟨cs,h1⟩)|(cases kL)
  obtain⟨cs,rfl⟩:=hv
  exact⟨cs,rfl,dh⟩
 |false=>
  simp only[cond_false]
  rcases vCl hl ha with⟨k,hu,rfl⟩|⟨hu,rfl⟩|⟨e,a,hu,rfl⟩
  ·have hv:∃n,v=.int k n:=by
    simp only[Value.okWide,hu,Cell.okWide] at eI
    cases v<;>simp_all[Cell.ok]
   obtain⟨n0,rfl⟩:=hv
   exact⟨oF sh _ x,fun n=>dh.1,rfl,yp⟩
  ·have hv:∃b,v=.bool b:=by
    simp only[Value.okWide,hu,Cell.okWide] at eI
    cases v<;>simp_all[Cell.ok]
   obtain⟨b,rfl⟩:=hv
   exact⟨oF sh _ x,fun n=>dh.1,rfl,yp⟩
  ·obtain⟨ad,len,cap,rfl⟩:=okWide_slice hu eI
   exact⟨oF sh _ x,fun n=>dh.1,rfl,yp⟩
theorem YN (sh:Bool){base:Nat}:∀(ts:List TypeId) (tys:List Ty) (vs:List Value) (ds:List (DataW H)) (ps:List MemPlace) (n:Nat),HC P ts=some tys→(∀(j:Nat) (t:TypeId) (v:Value),ts[j]? =some t→vs[j]? =some v→Value.okWide P w .any base t v)→
  DataW.TrodAll enc P w 0 (fun _=>true) true ts vs ds ps→∃x:AD (qe sh P ts tys),zP (zU (M0 w)) (j9 (qe sh P ts tys) (vK _ x) n).1 vs∧(j9 (qe sh P ts tys) (vK _ x) n).2=[]∧qd _ x
 |[],tys,vs,ds,ps,n,hl,eI,h=>by
  cases hl
  match vs,ds,h with
  |[],[],_=>exact⟨(),trivial,rfl,trivial⟩
  |_::_,[],h=>exact False.elim h
  |_::_,_::_,h=>exact False.elim h
  |[],_::_,h=>exact False.elim h
 |t::ts,tys,vs,ds,ps,n,hl,eI,h=>by
  unfold HC at hl
  split at hl
  ·rename_i a l ha fj
   cases hl
   match vs,ds,h with
   |[],[],h=>exact False.elim h
   |[],_::_,h=>exact False.elim h
   |_::_,[],h=>exact False.elim h
   |v::vs,d::ds,h=>
    obtain⟨p,q,h1,h2,_⟩:=h
    obtain⟨x,x1,x2,x3⟩:=vEr sh ha (eI 0 t v rfl rfl) h1
    obtain⟨y,y1,y2,y3⟩:=YN sh ts l vs ds q n fj (fun j t' v' h1 h2=>eI (j+1) t' v' h1 h2) h2
    refine⟨sI _ _ x y,?_⟩
    have e:vK ((qe sh P (t::ts) (a::l)).flatMap AS.cells) (sI _ _ x y)=vK _ x++vK _ y:=Oy _ _ _ _
    have ht:(vK _ x++vK _ y).take (oG sh P t a).cells.length=vK _ x:=by
     rw[List.take_append_of_le_length (by rw[DM];exact Nat.le_refl _),List.take_of_length_le (by rw[DM];exact Nat.le_refl _)]
    have hd:(vK _ x++vK _ y).drop (oG sh P t a).cells.length=vK _ y:=by
     rw[List.drop_append_of_le_length (by rw[DM];exact Nat.le_refl _),List.drop_of_length_le (by rw[DM];exact Nat.le_refl _),List.nil_append]
    rw[e]
    have em:j9 (qe sh P (t::ts) (a::l)) (vK _ x++vK _ y) n=((oG sh P t a).mk n (vK _ x)::(j9 (qe sh P ts l) (vK _ y) n).1,(j9 (qe sh P ts l) (vK _ y) n).2):=by
     show((oG sh P t a).mk n _::_,(oG sh P t a).boxes _++_)=_
     rw[ht,hd,x2]
     rfl
    rw[em]
    exact⟨⟨x1 n,y1⟩,y2,Oz _ _ _ _ x3 y3⟩
  ·cases hl
theorem lawArgs (sh:Bool){base:Nat}{ts:List TypeId}{tys:List Ty}{asp:List AS}{vs:List Value}{ds:List (DataW H)}{ps:List MemPlace}(hl:HC P ts=some tys)(yP:qe sh P ts tys=asp)
  (eI:∀(j:Nat) (t:TypeId) (v:Value),ts[j]? =some t→vs[j]? =some v→Value.okWide P w .any base t v) (h:DataW.TrodAll enc P w 0 (fun _=>true) true ts vs ds ps):
  ∃x:AD asp,zP (zU (M0 w)) (j9 asp (vK _ x) 0).1 vs∧(j9 asp (vK _ x) 0).2=[]∧qd _ x:=by
 subst yP
 exact YN sh ts tys vs ds ps 0 hl eI h
theorem law_calls {E:qE}(hE:jZ E)(hS:gV E.sums)(hm:E.P.follows .mixedOrders=true){A:qB}{k pre:Nat}{f:FuncId}{fn:Func}(hf:E.P.funcs[f]? =some fn)(hL:∀c,fn.body=some c→vN E.P A pre 0 fn.ntmps c)
  {as:List AS} {d:AD as} {unpack:RL (RS.c .bool).cells→Bool} (hup:∀d,unpack d=d.1) (aO:ik E A k pre 0 fn (mZ as d).1 (mZ as d).2 (kQ (.c .bool) unpack)=some true) (hb:(j9 as (vK _ d) 0).2=[]) {vs:Array Value} (hv:zP (zU (M0 w)) (j9 as (vK _ d) 0).1 vs.toList):
  Calls E.P f vs w fun e w'=>e=.returned (.bool true)∧Below w.heap.size w w':=by
 have hh:(M0 w).h=(mZ as d).2:=by
  show ka []=ka (j9 as (vK _ d) 0).2
  rw[hb]
 refine Calls.mono (Oc hE hS hm hf hL aO (M:=M0 w) (w:=w) hh rfl (vKn w) hv) fun e w' he=>?_
 cases e with
 |returned rv=>
  obtain⟨M',v,st,hK,_,hH,_,hg,_,hrv,o1,o2,o3,_⟩:=he
  refine⟨?_,o1,o2,o3,?_,fun b hb=>?_⟩
  ·unfold kQ at hK
   split at hK
   ·rename_i r hr
    have hKe:unpack r=true:=by injection hK
    unfold DF at hr
    split at hr
    ·rename_i cs lJ
     split at hr
     ·rename_i aM u uv
      obtain⟨_,hr⟩:=vE hr
      cases v with
      |c x=>
       cases lJ
       have e1:aM=[x]:=by
        simp only[RS.cells,List.map,RC.isFro,eX] at uv
        cases uv;rfl
       subst e1
       have lE:iC (qJ st.h u) [.bool] [x]=some r:=hr
       cases x with
       |bool b=>
        have e2:r=(b,()):=by simp only[iC,nc] at lE;cases lE;rfl
        have:rv=.bool b:=hrv
        have hb:b=true:=by have:=(hup r).symm.trans hKe;rw[e2] at this;exact this
        rw[this,hb]
       |_=>simp[iC,nc] at lE
      |_=>cases lJ
     ·cases hr
    ·cases hr
   ·cases hK
  ·have:=hg.size
   rw[hH] at this
   exact this
  ·have:=hg.same b hb
   rw[hH] at this
   exact this
 |_=>exact he.elim
end
inductive XC where
 |p (c:PC)|own (t:Ty)|mat|map
 |link (j:Nat)
abbrev XC.den:XC→Type
 |.p c=>c.den|.own t=>List t.den|.mat=>List (List Int)|.map=>List (Int×Bool)|.link _=>Unit
def XC.lnk:XC→Option Nat
 |.link j=>some j
 |_=>none
def RC.lnk:RC→Option Nat
 |.link j=>some j
 |_=>none
def oH:List (Option Nat)→List Nat→List zG→Bool
 |none::l,ids,_::cs=>oH l ids cs
 |some j::l,ids,.ptr id 0::cs=>(match ids[j]? with|some k=>Nat.beq id k|none=>false)&&oH l ids cs
 |some _::_,_,_=>false
 |_,_,_=>true
def sJ:List (Option Nat)→List Nat→List zG→List zG
 |none::l,ids,c::cs=>c::sJ l ids cs
 |some j::l,ids,c::cs=>(match ids[j]? with|some id=>.ptr id 0|none=>c)::sJ l ids cs
 |_,_,cs=>cs
def OC:List zG→Option Nat
 |[]=>none
 |.ptr id 0::_=>some id
 |_::l=>OC l
def DN (h:Hp):Nat→Nat→Option (List Nat)
 |0,_=>none
 |1,id=>some [id]
 |n+2,id=>match yi h id with
  | some cells => (match OC cells with
   |some id2=>(match DN h (n+1) id2 with|some l=>some (id::l)|none=>none)
   |none=>none)
  |none=>none
def kf:Nat→Nat→List Nat
 |_,0=>[]
 |n,m+1=>n::kf (n+1) m
abbrev XL:List XC→Type
 |[]=>Unit
 |c::l=>c.den×XL l
inductive AX where
 |c (x:XC)|agg (l:List PC)|ptr (io:Bool) (l:List XC)|fn (f:Nat) (bq:List (Bool×List XC))
 |chn (ls:List (List XC))
def AX.cells:AX→List XC
 |.c x=>[x]
 |.agg l=>l.map .p
 |.ptr _ l=>l
 |.fn _ bq=>bq.flatMap (·.2)
 |.chn ls=>ls.flatten
def AX.nb:AX→Nat
 |.ptr _ _=>1
 |.fn _ bq=>bq.length
 |.chn ls=>ls.length
 |_=>0
def AX.isChn:AX→Bool
 |.chn _=>true
 |_=>false
def yq (ls:List (List XC)):List (Bool×List XC):=ls.map fun l=>(true,l)
abbrev XD (l:List AX):Type:=XL (l.flatMap AX.cells)
def AX.looks:AX→Bool
 |.ptr _ _=>true
 |.fn _ _=>true
 |_=>false
def qf (l:List AX)(na:Nat):Bool:=l.zipIdx.all fun p=> !p.1.looks||Nat.blt p.2 na
def yr (h:Hp)(io:Bool)(id:Nat):Option (List zG):=match io,h id with
 |true,some (.box true cells)=>some cells
 |false,some (.box _ cells)=>some cells
 |false,some (.robox cells)=>some cells
 |_,_=>none
def gX (h:Hp):List (Bool×List XC)→List Nat→Option (List zG×List (Bool×Nat))
 |[],[]=>some ([],[])
 |(io,l)::ls,id::ids=>match yr h io id,gX h ls ids with
  |some cells,some (rest,bs)=>bif Nat.beq cells.length l.length then some (cells++rest,(io,id)::bs) else none
  |_,_=>none
 |_,_=>none
def AX.get (h:Hp):AX→zD→Option (List zG×List (Bool×Nat))
 |.c _,.c x=>some ([x],[])
 |.agg l,.agg xs=>bif Nat.beq xs.length l.length then some (xs,[]) else none
 |.ptr io l,.c (.ptr id 0)=>gX h [(io,l)] [id]
 |.fn f bq,.c (.fn g ids)=>bif Nat.beq f g then gX h bq ids else none
 |.chn ls,.c (.ptr id 0)=>match DN h ls.length id with
  |some ids=>gX h (yq ls) ids
  |none=>none
 |_,_=>none
def iD (h:Hp):List AX→List zD→Option (List zG×List (Bool×Nat))
 |[],[]=>some ([],[])
 |s::l,a::as=>match s.get h a,iD h l as with
  |some (cs,bs),some (aM,uY)=>some (cs++aM,bs++uY)
  |_,_=>none
 |_,_=>none
def DO (h:Hp):(x:XC)→zG→Option x.den
 |.p p,c=>qa h p c
 |.own t,.osl id none=>match h id with
  |some (.arr true s xs)=>fD s t xs
  |_=>none
 |.mat,.osl id none=>match h id with
  |some (.mat _ xs)=>some xs
  |_=>none
 |.map,.map id=>match h id with
  |some (.imap cX)=>some cX
  |_=>none
 |.link _,.ptr _ 0=>some ()
 |_,_=>none
def ng (h:Hp):(l:List XC)→List zG→Option (XL l)
 |[],[]=>some ()
 |x::l,c::cs=>match DO h x c,ng h l cs with
  |some d,some ds=>some (d,ds)
  |_,_=>none
 |_,_=>none
def wO:List XC→List zG→List Nat
 |.p _::l,_::cs=>wO l cs
 |.link _::l,_::cs=>wO l cs
 |_::l,.osl id _::cs=>id::wO l cs
 |_::l,.map id::cs=>id::wO l cs
 |_::l,_::cs=>wO l cs
 |_,_=>[]
def DP:List XC→List zG→List Nat
 |.p _::l,c::cs=>vA c++DP l cs
 |_::l,_::cs=>DP l cs
 |_,_=>[]
def vR:Nat:=500
def fk:(l:List XC)→XL l→Nat→List zG×List Obj
 |[],_,_=>([],[])
 |.p p::l,d,n=>let r:=fk l d.2 n;(yj p d.1::r.1,r.2)
 |.own t::l,d,n=>let r:=fk l d.2 (n+1);(.osl n none::r.1,.arr true t d.1::r.2)
 |.mat::l,d,n=>let r:=fk l d.2 (n+1);(.osl n none::r.1,.mat 0 d.1::r.2)
 |.map::l,d,n=>let r:=fk l d.2 (n+1);(.map n::r.1,.imap d.1::r.2)
 |.link j::l,d,n=>let r:=fk l d.2 n;(.ptr j 0::r.1,r.2)
def DQ:List (Bool×List XC)→List zG→List Obj
 |[],_=>[]
 |(io,l)::ls,cs=>(bif io then .box true (cs.take l.length) else .robox (cs.take l.length))::DQ ls (cs.drop l.length)
def AX.mk (n:Nat)(cs:List zG):AX→zD
 |.c _=>match cs with|x::_=>.c x|[]=>.undef
 |.agg _=>.agg cs
 |.ptr _ _=>.c (.ptr n 0)
 |.fn f bq=>.c (.fn f ((List.range bq.length).map (n+·)))
 |.chn _=>.c (.ptr n 0)
def AX.boxes (cs:List zG):AX→List Obj
 |.ptr io l=>DQ [(io,l)] cs
 |.fn _ bq=>DQ bq cs
 |.chn ls=>DQ (yq ls) cs
 |_=>[]
def sK:List AX→List zG→Nat→List zD×List Obj
 |[],_,_=>([],[])
 |s::l,cs,n=>
  let ak:=cs.take s.cells.length
  let bs:=s.boxes ak
  let rest:=sK l (cs.drop s.cells.length) (n+bs.length)
  (s.mk n ak::rest.1,bs++rest.2)
def DR (bs rows:List Obj):Hp:=fun n=>bif Nat.ble vR n then rows[n-vR]? else bs[n]?
def iE (l:List AX)(d:XD l):List zD×Hp:=
 let r:=fk (l.flatMap AX.cells) d vR
 let m:=sK l r.1 0
 (m.1,DR m.2 r.2)
def DS:List (Bool×List XC)→List Nat→Option (List Nat)
 |[],[]=>some []
 |(io,_)::ls,id::ids=>match DS ls ids with
  |some l=>some (bif io then id::l else l)
  |none=>none
 |_,_=>none
def AX.io (b:Nat):AX→zD→Option (List Nat)
 |.c _,_=>some []
 |.agg _,_=>some []
 |.ptr io l,.c (.ptr id 0)=>DS [(io,l)] [id]
 |.fn _ bq,.c (.fn _ ids)=>DS bq ids
 |.chn ls,_=>some (kf b ls.length)
 |_,_=>none
def HD:List AX→(Nat→zD)→Nat→Nat→Option (List Nat)
 |[],_,_,_=>some []
 |s::l,t,n,b=>match s.io b (t n),HD l t (n+1) (b+s.nb) with
  |some a,some b=>some (a++b)
  |_,_=>none
def yt (h:Hp):List (List RC)→List Nat→Option (List zG)
 |[],[]=>some []
 |o::os,n::ns=>match h n,yt h os ns with
  |some (.box true cells),some rest=>bif Nat.beq cells.length o.length then some (cells++rest) else none
  |_,_=>none
 |_,_=>none
def OD (h:Hp)(ns:Nat)(cs:List zG):Option (List Nat):=bif Nat.beq ns 0 then some [] else match OC cs with
 |some id=>DN h ns id
 |none=>none
def sL (st:St)(as:List AX)(rs:RS)(os:List (List RC))(ns:Nat)(v:zD):Option (RL (rs.cells++os.flatten)):=
 match HD as st.t 0 0 with
 |none=>none
 |some io=>match rs.get v with
  |none=>none
  |some cs=>match OD st.h ns cs with
   |none=>none
   |some nw=>match yt st.h os (io++nw) with
    |none=>none
    | some bs => bif pA (io ++ nw) then (match eX st.h ((rs.cells++os.flatten).map RC.isFro) (cs++bs) with
     |some (cs,u)=>bif pA (vJ (rs.cells++os.flatten) cs)&&oH ((rs.cells++os.flatten).map RC.lnk) (io++nw) cs then iC (qJ st.h u) (rs.cells++os.flatten) cs else none
     |none=>none) else none
def DT (as:List AX)(rs:RS)(os:List (List RC))(ns:Nat){X:Type}(unpack:RL (rs.cells++os.flatten)→X)(v:zD)(st:St):Option X:=match sL st as rs os ns v with
 |some d=>some (unpack d)
 |none=>none
def HE (as:List AX)(rs:RS)(os:List (List RC))(ns:Nat)(rs2:RS)(os2:List (List RC))(ns2:Nat){X Y:Type}(up:RL (rs.cells++os.flatten)→X)(kg:RL (rs2.cells++os2.flatten)→Y)(v:zD)(st:St):Option (X⊕Y):=match sL st as rs os ns v with
 |some d=>some (.inl (up d))
 |none=>match sL st as rs2 os2 ns2 v with
  |some d=>some (.inr (kg d))
  |none=>none
def sM:List (List RC)→List zG→List (List zG)
 |[],_=>[]
 |o::os,cs=>cs.take o.length::sM os (cs.drop o.length)
def yZ:List (Bool×Nat)→List Nat
 |[]=>[]
 |(true,id)::l=>id::yZ l
 |(false,_)::l=>yZ l
def HF:List (Bool×Nat)→List Nat
 |[]=>[]
 |(true,_)::l=>HF l
 |(false,id)::l=>id::HF l
def yu:List Nat→List (List zG)→zZ
 |id::ids,cs::css=>(id,.box true cs)::yu ids css
 |_,_=>[]
def mo (ids:List Nat):zZ:=ids.map fun id=>(id,.gone)
def yY7 (nm:Nat)(rs:RS)(os:List (List RC))(ids:List Nat)(d:RL (rs.cells++os.flatten)):zD×zZ:=
 let r:=mj nm (rs.cells++os.flatten) d
 let cs:=sJ ((rs.cells++os.flatten).map RC.lnk) ids r.1
 (rs.mk (cs.take rs.cells.length),r.2++yu ids (sM os (cs.drop rs.cells.length)))
def OE (a b:List Nat):Bool:=a.all fun x=> !b.any (Nat.beq x)
def sN (h:Hp):AX→zD→Option (zD×zZ)
 |.c (.p p),.c x=>match eX h [p.isKept] [x] with
  |some ([x],u)=>some (.c x,u)
  |_=>none
 |.agg l,.agg xs=>match eX h (l.map PC.isKept) xs with
  |some (xs,u)=>some (.agg xs,u)
  |none=>none
 |_,a=>some (a,[])
def oI (h:Hp):List AX→List zD→Option (List zD×zZ)
 |s::l,a::as=>match sN h s a,oI h l as with
  |some (a,u),some (as,us)=>some (a::as,u++us)
  |_,_=>none
 |_,as=>some (as,[])
def uZ (as:List AX)(nm n:Nat)(args:List zD)(h:Hp):Option (zZ×List Nat×List Nat×XD as):=
 match oI h as args with
 |none=>none
 |some (args,u)=>match iD (qJ h u) as args with
  |none=>none
  |some (cs,bs)=>match ng (qJ h u) (as.flatMap AX.cells) cs with
   |none=>none
   |some d=>
    let rows:=wO (as.flatMap AX.cells) cs
    let ak:=yZ bs++rows
    bif sC h nm n&&Nat.ble n 100&&Nat.ble bs.length vR&&pA ak&&OE ak (DP (as.flatMap AX.cells) cs)&&OE ak (HF bs)&&oH ((as.flatMap AX.cells).map XC.lnk) (bs.map (·.2)) cs then
     some (u,yZ bs,rows,d)
    else none
def DU (u:zZ)(io rows:List Nat)(rs:RS)(os:List (List RC))(ns nm:Nat)(d:RL (rs.cells++os.flatten)):zD×zZ:=
 let r:=yY7 nm rs os (io++kf (nm+(rs.cells++os.flatten).length) ns) d
 (r.1,u++(mo rows++r.2))
def oJ (as:List AX)(rs:RS)(os:List (List RC))(ns:Nat){X:Type}(S:XD as→Option X)(pack:X→RL (rs.cells++os.flatten))(nm:Nat)(args:List zD)(h:Hp):yE:=
 match uZ as nm ((rs.cells++os.flatten).length+ns) args h with
 |none=>.stuck
 |some (u,io,rows,d)=>.call X (S d) fun r=>DU u io rows rs os ns nm (pack r)
def qg (as:List AX)(rs:RS)(os:List (List RC))(ns:Nat)(rs2:RS)(os2:List (List RC))(ns2:Nat){X Y:Type}(S:XD as→Option (X⊕Y))(pk:X→RL (rs.cells++os.flatten))(gm:Y→RL (rs2.cells++os2.flatten))(nm:Nat)(args:List zD)(h:Hp):yE:=
 match uZ as nm (((rs.cells++os.flatten).length+ns)+((rs2.cells++os2.flatten).length+ns2)) args h with
 |none=>.stuck
 |some (u,io,rows,d)=>.call2 X Y (S d) (fun r=>DU u io rows rs os ns nm (pk r)) (fun r=>DU u io rows rs2 os2 ns2 nm (gm r))
def je (M:zB)(ak:List Nat)(b:Nat):Prop:=∃id∈ak,∃C,M.κ id=some C∧b∈C.fp
structure oK (M:zB) (ak:List Nat) (Ml:zB):Prop where
 H:Ml.H=M.H
 F:Ml.F=fun b=>b<M.H.size∧¬je M ak b
 G:Ml.G=M.G
def lM (M:zB)(ak:List Nat):Prop:=∀id∈ak,∃o,M.h id=some o∧o.owned=true
theorem je.own {M:zB}{ak:List Nat}(ho:lM M ak){b:Nat}(h:je M ak b):qR M b:=by
 obtain⟨id,aa,C,hC,hb⟩:=h
 obtain⟨o,h1,h2⟩:=ho id aa
 exact⟨id,o,C,h1,h2,hC,hb⟩
theorem qh {M:zB}(ok:Ok M){ak:List Nat}(ho:lM M ak){b:Nat}(h:M.F b):b<M.H.size∧¬je M ak b:=⟨ok.Flt b h,fun hh=>(ok.own b (hh.own ho)).1 h⟩
theorem YO {M M':zB}(ok:Ok M){ak:List Nat}(ho:lM M ak){id:Nat}{o:Obj}(hn:id∉ak)(hh:M'.h=yG M.h id o)(hκ:M'.κ=M.κ)(hH:M'.H=M.H)(iq:Ok M'){b:Nat}(h:M'.G b):b<M.H.size∧¬je M ak b:=by
 have hf:=iq.GF b h
 refine⟨by have:=iq.Flt b hf;rwa [hH] at this,fun hd=>?_⟩
 obtain⟨jd,hj,C,hC,hb⟩:=hd
 obtain⟨q,h1,h2⟩:=ho jd hj
 refine(iq.own b ⟨jd,q,C,?_,h2,?_,hb⟩).1 hf
 ·rw[hh,yJ _ _ (fun e=>hn (by rw[←e];exact hj))];exact h1
 ·rw[hκ];exact hC
theorem vD2 {M:zB}(ok:Ok M){ak:List Nat}(ho:lM M ak){c:zG}{v:Value}{t:Ty}{xs:List t.den}(hn:∀id∈vA c,id∉ak)(hv:zW M c v)(h:ig M.h c=some ⟨t,xs⟩):
  zY M.H (fun b=>b<M.H.size∧¬je M ak b) (.sl t) xs (fun _=>some v):=by
 unfold ig at h
 split at h
 ·rename_i sh s ys
  cases h
  cases sh with
  |true=>exact yQ (fun b hb=>qh ok ho (ok.GF b hb)) (fun _ _=>rfl) _ _ _ _ (fun _ _=>rfl) hv
  |false=>exact yQ (fun b hb=>qh ok ho hb) (fun _ _=>rfl) _ _ _ _ (fun _ _=>rfl) hv
 ·rename_i id r
  have lB:id∉ak:=hn id (by simp[vA])
  split at h
  ·rename_i own s ys aa
   cases h
   cases own with
   |false=>
    obtain⟨C,hC,hO⟩:=ok.obj _ _ aa
    exact yQ (fun b hb=>qh ok ho (ok.GF b hb)) (fun _ _=>rfl) _ _ _ _ (fun _ _=>rfl) (uo hC hO hv)
   |true=>
    obtain⟨M',h1,h2,h3,h4,h5⟩:=WH ok aa
    obtain⟨C,hC,hO⟩:=h3.obj id _ (by rw[h2];exact yH _ _ _)
    have:=uo hC hO (hv.ext h4.ext)
    exact yQ (fun b hb=>YO ok ho lB h2 h5 h1 h3 hb) (fun b _=>by rw[h1]) _ _ _ _ (fun _ _=>rfl) this
  ·rename_i ver ys aa
   cases r with
   |some p=>cases h
   |none=>
    cases h
    obtain⟨M',h1,h2,h3,h4,h5⟩:=WJ ok aa
    obtain⟨C,hC,hO⟩:=h3.obj id _ (by rw[h2];exact yH _ _ _)
    have:=uo (r:=none) hC hO (hv.ext h4.ext)
    exact yQ (fun b hb=>YO ok ho lB h2 h5 h1 h3 hb) (fun b _=>by rw[h1]) _ _ _ _ (fun _ _=>rfl) this
  ·cases h
 ·rename_i id i ver
  have lB:id∉ak:=hn id (by simp[vA])
  split at h
  ·rename_i v' ys aa
   cases cM:Nat.beq v' ver with
   |false=>rw[cM] at h;cases h
   |true=>
    rw[cM] at h
    cases h
    have e:v'=ver:=by simpa using cM
    subst e
    obtain⟨C,hC,hO⟩:=ok.obj _ _ aa
    obtain⟨C',ax,ca,_,aK⟩:=hv
    rw[hC] at ax;cases ax
    obtain⟨rb,rl,mi,sv⟩:=aK hO.1
    by_cases hi:i<ys.length
    ·obtain⟨B,mP,v2,k1,k2,k3,k4,k5,k6⟩:=xQ hO hi
     rw[mi] at k3
     cases k3
     rw[show ys.getD i []=ys[i] by simp[List.getD,hi]]
     simp only[zY]
     cases rb with
     |none=>
      obtain⟨rfl,h0⟩:=sv
      exact⟨none,0,0,rfl,h0.symm,Nat.le_refl _,.inl ⟨List.eq_nil_of_length_eq_zero h0,fun _=>rfl⟩⟩
     |some R=>
      obtain⟨a,c,rfl,h1,h2,h3⟩:=sv
      refine⟨_,_,c,rfl,rfl,h1,?_⟩
      by_cases h0:ys[i].length=0
      ·exact .inl ⟨List.eq_nil_of_length_eq_zero h0,fun h=>by cases h⟩
      ·have ha:a=0:=by rcases h2 with h|h<;>omega
       subst ha
       have hR:R∈C.fp:=by
        have:(some R,ys[i].length)∈C.rows:=List.mem_of_getElem? mi
        simp only[zS.fp,List.mem_append,List.mem_filterMap]
        exact .inr ⟨_,this,rfl⟩
       refine .inr ⟨R,0,rfl,⟨?_,fun hd=>?_⟩,fun j hj=>?_⟩
       ·have:=k6 R rfl 0 (by omega)
        unfold yC at this
        cases hR:M.H[R]? with
        |none=>rw[hR] at this;cases this
        |some x=>exact(Array.getElem?_eq_some_iff.1 hR).1
       ·obtain⟨jd,hj,D,hD,hb⟩:=hd
        obtain⟨q,q1,q2⟩:=ho jd hj
        exact ok.disj jd id q _ D C R (fun e=>lB (by rw[←e];exact hj)) q1 aa q2 rfl hD hC hb hR
       ·simp only[zY,Ty.size,Nat.zero_add,Nat.mul_one,Nat.add_zero]
        exact k6 R rfl j hj
    ·have:C.rows[i]? =none:=List.getElem?_eq_none (by have:=hO.2.2.2.1;omega)
     rw[this] at mi;cases mi
  ·cases h
 ·cases h
def TrX (M:zB)(ak:List Nat)(c c':zG):Prop:=∀v Ml,oK M ak Ml→zW M c v→zW Ml c' v
theorem vKb {M:zB}(ok:Ok M){ak:List Nat}(ho:lM M ak){p:PC}{c:zG}{d:p.den}(hn:∀id∈vA c,id∉ak)(h:qa M.h p c=some d):TrX M ak c (yj p d):=by
 intro v Ml lo hv
 unfold qa at h
 split at h
 ·rename_i k j n
  cases e:jz j k with
  |false=>rw[e] at h;cases h
  |true=>rw[e] at h;cases h;rw[←rU e];exact hv
 ·cases h;exact hv
 ·rename_i t c
  show zY Ml.H Ml.F _ _ _
  rw[lo.H,lo.F]
  unfold uP at h
  split at h
  ·cases h
   rw[show v=.slice none 0 0 from hv]
   exact DG
  ·split at h
   ·rename_i s ys hr
    obtain⟨e,hx⟩:=ja h
    subst e
    subst hx
    exact vD2 ok ho hn hv hr
   ·cases h
 ·rename_i t s xs
  obtain⟨e,hx⟩:=ja h
  subst e
  subst hx
  show zY Ml.H Ml.G _ _ _
  rw[lo.H,lo.G]
  exact hv
 ·cases h
  rw[show v=.slice none 0 0 from hv]
  exact DG
 ·rename_i f g
  cases e:Nat.beq f g with
  |false=>rw[e] at h;cases h
  |true=>
   have:f=g:=by simpa using e
   subst this
   obtain⟨cv,rfl,hc⟩:=hv
   refine⟨cv,rfl,?_⟩
   generalize cv.toList=l at hc
   cases l with
   |nil=>trivial
   |cons _ _=>exact hc.elim
 ·exact hv
 ·exact hv
 ·cases h
def oL (M:zB)(ak:List Nat)(κ:Nat→Option zS)(c c':zG):Prop:=∀v Ml,oK M ak Ml→Ml.κ=κ→zW M c v→zW Ml c' v
structure vHp (M:zB) (id:Nat) (o:Obj) (C:zS):Prop where
 κ:M.κ id=some C
 rep:∀Ml:zB,Ml.H=M.H→Ml.G=M.G→yR Ml o {C with ver:=0}
 own:o.owned=true
 was:∃q,M.h id=some q∧q.owned=true
theorem yXm {M Ml:zB}(hH:Ml.H=M.H){cX:List (Int×Bool)}{C:zS}(h:yR M (.imap cX) C):yR Ml (.imap cX) {C with ver:=0}:=by
 obtain⟨B,es,ck,h1,h2,h3,h4,h5⟩:=h
 exact⟨B,es,ck,h1,h2,by rw[hH];exact h3,h4,h5⟩
theorem YP {j:Nat}{l:List (Option Nat)}{ids:List Nat}{c:zG}{cs:List zG}(h:oH (some j::l) ids (c::cs)=true):∃id,c=.ptr id 0∧ids[j]? =some id∧oH l ids cs=true:=by
 cases c with
 |ptr id off=>
  cases off with
  |zero=>
   have h:((match ids[j]? with|some k=>Nat.beq id k|none=>false)&&oH l ids cs)=true:=h
   rw[Bool.and_eq_true] at h
   have h1:=h.1
   split at h1
   ·rename_i k hk
    exact⟨id,rfl,by rw[hk,Nat.eq_of_beq_eq_true h1],h.2⟩
   ·cases h1
  |succ _=>cases h
 |_=>cases h
theorem yv {M:zB}(ok:Ok M){ak:List Nat}(ho:lM M ak){κ:Nat→Option zS}:∀{l:List XC} {cs:List zG} {d:XL l} {n:Nat} {ids:List Nat},ng M.h l cs=some d→oH (l.map XC.lnk) ids cs=true→(∀id∈DP l cs,id∉ak)→
  (wO l cs).length=(fk l d n).2.length∧(∀(i:Nat) (id:Nat) (o:Obj),(wO l cs)[i]? =some id→(fk l d n).2[i]? =some o→∃C,vHp M id o C)∧
   ((∀(i:Nat) (id:Nat) (C:zS),(wO l cs)[i]? =some id→M.κ id=some C→κ (n+i)=some {C with ver:=0})→(∀j id,ids[j]? =some id→κ j=M.κ id)→zP (oL M ak κ) cs (fk l d n).1)
 |[],[],_,n,_,_,_,_=>⟨rfl,fun i id o h=>by simp[wO] at h,fun _ _=>trivial⟩
 |x::l,c::cs,d,n,ids,h,hl,hn=>by
  unfold ng at h
  split at h
  ·rename_i y ys h1 h2
   cases h
   cases x with
   |p p=>
    have mq:∀id∈vA c,id∉ak:=fun id aa=>hn id (List.mem_append_left _ aa)
    obtain⟨k1,k2,k3⟩:=yv ok ho (κ:=κ) (n:=n) (ids:=ids) h2 hl (fun id aa=>hn id (List.mem_append_right _ aa))
    exact⟨k1,k2,fun hκ hj=>⟨fun v Ml lo _ hv=>vKb ok ho mq h1 v Ml lo hv,k3 hκ hj⟩⟩
   |own t=>
    cases c with
    |osl id r=>
     cases r with
     |some _=>cases h1
     |none=>
      have h1:(match M.h id with|some (.arr true s xs)=>fD s t xs|_=>none)=some y:=h1
      split at h1
      ·rename_i s xs aa
       obtain⟨e,hx⟩:=ja h1
       subst e
       subst hx
       obtain⟨C,hC,hO⟩:=ok.obj id _ aa
       obtain⟨k1,k2,k3⟩:=yv ok ho (κ:=κ) (n:=n+1) (ids:=ids) h2 hl hn
       refine⟨by simp only[wO,fk,List.length_cons,k1],fun i jd o hi gP=>?_,fun hκ hj=>⟨fun v Ml lo hk hv=>?_,k3 (fun i jd D hi hD=>?_) hj⟩⟩
       ·cases i with
        |zero=>
         cases hi
         cases gP
         refine⟨C,hC,fun Ml e1 e2=>?_,rfl,_,aa,rfl⟩
         obtain⟨q1,q2,q3,q4⟩:=hO
         refine⟨q1,q2,q3,?_⟩
         rw[e1,e2]
         exact q4
        |succ i=>exact k2 i jd o hi gP
       ·obtain⟨D,hD,hS⟩:=hv
        rw[hC] at hD;cases hD
        refine⟨{C with ver:=0},by rw[hk];exact hκ 0 id C rfl hC,?_⟩
        show wH Ml.H {C with ver:=0} 0 C.len v
        rw[lo.H]
        exact hS
       ·have:=hκ (i+1) jd D hi hD
        rw[←this];congr 1;omega
      ·cases h1
    |_=>cases h1
   |mat=>
    cases c with
    |osl id r=>
     cases r with
     |some _=>cases h1
     |none=>
      have h1:(match M.h id with|some (.mat _ xs)=>some xs|_=>none)=some y:=h1
      split at h1
      ·rename_i ver xs aa
       cases h1
       obtain⟨C,hC,hO⟩:=ok.obj id _ aa
       obtain⟨k1,k2,k3⟩:=yv ok ho (κ:=κ) (n:=n+1) (ids:=ids) h2 hl hn
       refine⟨by simp only[wO,fk,List.length_cons,k1],fun i jd o hi gP=>?_,fun hκ hj=>⟨fun v Ml lo hk hv=>?_,k3 (fun i jd D hi hD=>?_) hj⟩⟩
       ·cases i with
        |zero=>
         cases hi
         cases gP
         refine⟨C,hC,fun Ml e1 e2=>?_,rfl,_,aa,rfl⟩
         obtain⟨q1,q2⟩:=hO
         refine⟨rfl,?_⟩
         rw[e1]
         exact q2
        |succ i=>exact k2 i jd o hi gP
       ·obtain⟨D,hD,hS⟩:=hv
        rw[hC] at hD;cases hD
        refine⟨{C with ver:=0},by rw[hk];exact hκ 0 id C rfl hC,?_⟩
        show wH Ml.H {C with ver:=0} 0 C.len v
        rw[lo.H]
        exact hS
       ·have:=hκ (i+1) jd D hi hD
        rw[←this];congr 1;omega
      ·cases h1
    |_=>cases h1
   |map=>
    cases c with
    |map id=>
     have h1:(match M.h id with|some (.imap cX)=>some cX|_=>none)=some y:=h1
     split at h1
     ·rename_i cX aa
      cases h1
      obtain⟨C,hC,hO⟩:=ok.obj id _ aa
      obtain⟨k1,k2,k3⟩:=yv ok ho (κ:=κ) (n:=n+1) (ids:=ids) h2 hl hn
      refine⟨by simp only[wO,fk,List.length_cons,k1],fun i jd o hi gP=>?_,fun hκ hj=>⟨fun v Ml lo hk hv=>?_,k3 (fun i jd D hi hD=>?_) hj⟩⟩
      ·cases i with
       |zero=>
        cases hi
        cases gP
        exact⟨C,hC,fun Ml e1 e2=>yXm e1 hO,rfl,_,aa,rfl⟩
       |succ i=>exact k2 i jd o hi gP
      ·obtain⟨D,B,hD,hB,e⟩:=hv
       rw[hC] at hD;cases hD
       exact⟨{C with ver:=0},B,by rw[hk];exact hκ 0 id C rfl hC,hB,e⟩
      ·have:=hκ (i+1) jd D hi hD
       rw[←this];congr 1;omega
     ·cases h1
    |_=>cases h1
   |link j=>
    obtain⟨id,rfl,aa,fj⟩:=YP hl
    obtain⟨k1,k2,k3⟩:=yv ok ho (κ:=κ) (n:=n) (ids:=ids) h2 fj hn
    refine⟨k1,k2,fun hκ hj=>⟨fun v Ml lo hk hv=>?_,k3 hκ hj⟩⟩
    obtain⟨C,B,hC,hB,e⟩:=hv
    exact⟨C,B,by rw[hk,hj j id aa];exact hC,hB,e⟩
  ·cases h
 |[],_::_,_,_,_,h,_,_=>by cases h
 |_::_,[],_,_,_,h,_,_=>by cases h
end Go.Ab
