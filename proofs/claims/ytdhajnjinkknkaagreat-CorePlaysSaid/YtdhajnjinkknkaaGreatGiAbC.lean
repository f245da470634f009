/- part 2 -/
import Derived.Test.YtdhajnjinkknkaaGreatGiAbB
import Derived.ProofKit
import Derived.Below
import Derived.Carry
set_option linter.unusedVariables false
set_option linter.unusedSimpArgs false
set_option linter.unusedSectionVars false
namespace Go.Ab
theorem ZE {t t':Nat→zI}{d:Option Nat}{v:zI}{x:Nat}(h:t x=t' x):gZ t d v x=gZ t' d v x:=by
 cases d with
 |none=>exact h
 |some d=>
  show jG t d v x=jG t' d v x
  unfold jG
  cases Nat.beq x d with
  |true=>rfl
  |false=>exact h
theorem H4 {t:Nat→zI}{d:Option Nat}{v:zI}{x:Nat}(h:d≠some x):gZ t d v x=t x:=by
 cases d with
 |none=>rfl
 |some d=>
  show jG t d v x=_
  unfold jG
  cases e:Nat.beq x d with
  |false=>rfl
  |true=>exact absurd (by rw[show x=d by simpa using e]) h
theorem vSo {t t':Nat→zI}{v:zI}{x:Nat}:gZ t (some x) v x=gZ t' (some x) v x:=by
 show jG t x v x=jG t' x v x
 unfold jG
 simp
theorem vLx {t:Nat→zI}{d e:Option Nat}{v u:zI}(h:∀x,d=some x→e≠some x):gZ (gZ t d v) e u=gZ (gZ t e u) d v:=by
 funext x
 by_cases hd:d=some x
 ·subst hd
  rw[H4 (h x rfl)]
  exact vSo
 ·rw[H4 hd]
  exact ZE (H4 hd)
theorem ux {n:Nat}:∀{u:qH} {h h':Hp},h n=h' n→qP h u n=qP h' u n
 |[],_,_,e=>e
 | (id, o) :: u, h, h', e => ux (u := u) (by
   by_cases hn:n=id
   ·subst hn;rw[yQ,yQ]
   ·rw[yZ _ _ hn,yZ _ _ hn];exact e)
theorem ZF {n:Nat}:∀{u:qH} {h h':Hp},n∈jM u→qP h u n=qP h' u n
 |[],_,_,hm=>by simp[jM] at hm
 |(id,o)::u,h,h',hm=>by
  by_cases hu:n∈jM u
  ·exact ZF (u:=u) hu
  ·have e:n=id:=by
    simp only[jM,List.map_cons,List.mem_cons] at hm hu
    exact hm.resolve_right hu
   subst e
   exact ux (u:=u) (by rw[yQ,yQ])
theorem vBy {u v:qH}{h:Hp}(hd:∀a∈jM u,a∉jM v):qP (qP h u) v=qP (qP h v) u:=by
 funext n
 by_cases hu:n∈jM u
 ·rw[yd (hd n hu)]
  exact ZF hu
 ·rw[yd (u:=u) (h:=qP h v) hu]
  exact ux (yd hu)
theorem vN8 {st:St}{x y:It}(hd:∀t,x.o.dst=some t→y.o.dst≠some t)(hu:∀a∈jM x.u,a∉jM y.u):vR (vR st x) y=vR (vR st y) x:=by
 unfold vR
 simp only[St.mk.injEq]
 exact⟨vLx hd,vBy hu⟩
theorem ZG {x:It}:∀{l:List It} {st:St},(∀y∈l,(∀t,x.o.dst=some t→y.o.dst≠some t)∧∀a∈jM x.u,a∉jM y.u)→vR (l.foldl vR st) x=l.foldl vR (vR st x)
 |[],_,_=>rfl
 |y::l,st,h=>by
  rw[List.foldl_cons,List.foldl_cons,vN8 (h y (List.mem_cons_self ..)).1 (h y (List.mem_cons_self ..)).2]
  exact ZG fun z hz=>h z (List.mem_cons_of_mem _ hz)
theorem H5 (t:Nat):∀(l:List It) (st bR:St),st.t t=bR.t t→(l.foldl vR st).t t=((l.filter fun it=>it.o.dst==some t).foldl vR bR).t t
 |[],_,_,h=>h
 |y::l,st,bR,h=>by
  rw[List.foldl_cons,List.filter_cons]
  cases hy:y.o.dst==some t with
  |true=>
   rw[if_pos rfl,List.foldl_cons]
   exact H5 t l _ _ (ZE h)
  |false=>
   rw[if_neg (by simp)]
   exact H5 t l _ _ (by
    show gZ st.t y.o.dst y.v t=_
    rw[H4 (by simpa using hy)];exact h)
theorem H6 (n:Nat):∀(l:List It) (st bR:St),st.h n=bR.h n→(l.foldl vR st).h n=((l.filter fun it=>(jM it.u).contains n).foldl vR bR).h n
 |[],_,_,h=>h
 |y::l,st,bR,h=>by
  rw[List.foldl_cons,List.filter_cons]
  cases hy:(jM y.u).contains n with
  |true=>
   rw[if_pos rfl,List.foldl_cons]
   exact H6 n l _ _ (ux h)
  |false=>
   rw[if_neg (by simp)]
   exact H6 n l _ _ (by
    show qP st.h y.u n=_
    rw[yd (by simpa[jM] using hy)];exact h)
theorem ZH {S W:It→Bool}{bT post:List It}{it:It}(iF:S it=false)(h1:∀y∈bT,W y=true→S y=true)(h2:∀y∈post,W y=true→S y=false):((bT++it::post).filter S).filter W=bT.filter W:=by
 rw[List.filter_append,List.filter_append,List.filter_cons,iF,if_neg (by simp)]
 have e1:(bT.filter S).filter W=bT.filter W:=by
  rw[List.filter_filter]
  refine List.filter_congr fun y hy=>?_
  cases hw:W y with
  |false=>simp
  |true=>simp[h1 y hy hw]
 have e2:(post.filter S).filter W=[]:=by
  rw[List.filter_filter,List.filter_eq_nil_iff]
  intro y hy
  cases hw:W y with
  |false=>simp
  |true=>simp[h2 y hy hw]
 rw[e1,e2,List.append_nil]
def yj (d:rD)(a:Nat):Prop:=match d.refs with
 |none=>True
 |some l=>a∈l∨lY d.nm a=true
theorem O3 {x y:rD}(h:oW x y=false):(∀a∈x.upd,¬yj y a)∧(∀a∈y.upd,¬yj x a)∧∀a∈x.upd,a∉y.upd:=by
 unfold oW at h
 simp only[Bool.or_eq_false_iff] at h
 obtain⟨⟨⟨⟨h1,h2⟩,h3⟩,h4⟩,h5⟩:=h
 have key:∀(d e:rD),Hm d.upd e.refs=false→d.upd.any (lY e.nm)=false→∀a∈d.upd,¬yj e a:=by
  intro d e hm ho a ha hl
  unfold Hm at hm
  unfold yj at hl
  cases hr:e.refs with
  |none=>
   rw[hr] at hm
   have:d.upd=[]:=by simpa using hm
   rw[this] at ha;cases ha
  |some l=>
   rw[hr] at hm hl
   rcases hl with hl|hl
   ·have:=List.any_eq_false.1 hm a ha
    simp at this
    exact this hl
   ·have:=List.any_eq_false.1 ho a ha
    rw[hl] at this;exact this rfl
 refine⟨key x y h1 h3,key y x h2 h4,fun a ha hb=>?_⟩
 have:=List.any_eq_false.1 h5 a ha
 simp at this
 exact this hb
section
variable {E:qB} {A:zY} {k pre na nt:Nat} {R:Type} {ops:Array Oper}
theorem O4 {i j:Nat}{x y:Oper}(hi:ops[i]? =some x)(hj:ops[j]? =some y)(h:oX ops i j=true):
  (∀d,x.dst=some d→d∉y.looksAt ops)∧(∀d,x.dst=some d→y.dst≠some d)∧(∀d,y.dst=some d→d∉x.looksAt ops):=by
 unfold oX at h
 rw[hi,hj] at h
 exact Oper.apart_spec h
theorem vFg (hE:ga E)(hS:jb E.sums){S:Nat→Bool}(hC:DY ops S){st:St}{bT post:List It}{it:It}(fJ:∀y∈bT++it::post,ops[y.i]? =some y.o)(hg:H3 E A k pre na nt ops (bT.foldl vR st) it)
  (hu:∀y∈bT++it::post,y.wt=false→y.u=[]) (hp:(bT++it::post).Pairwise (O1 pre ops (Region.before ops))) (iF:S it.i=false)
  (hr:∀o,ops[it.i]? =some o→∀e∈o.after.toList,Region.binds .any e=true→S e.on=true):
  H3 E A k pre na nt ops (((bT++it::post).filter fun y=>S y.i).foldl vR st) it∧
   (∀y∈post,S y.i=true→(∀t,it.o.dst=some t→y.o.dst≠some t)∧∀a∈jM it.u,a∉jM y.u):=by
 have nY:ops[it.i]? =some it.o:=fJ it (by simp)
 obtain⟨HX,DS,hp3⟩:=List.pairwise_append.1 hp
 have before:∀y∈bT,S y.i=false→oX ops y.i it.i=true∧(y.wt=true→it.wt=true→oW (y.dn pre) (it.dn pre)=false):=fun y hy hs=>by
  rcases hp3 y hy it (List.mem_cons_self ..) with h|h
  ·rw[vSf hC h hr] at hs;cases hs
  ·exact h
 have behind:∀y∈post,S y.i=true→oX ops it.i y.i=true∧(it.wt=true→y.wt=true→oW (it.dn pre) (y.dn pre)=false):=fun y hy hs=>by
  rcases(List.pairwise_cons.1 DS).1 y hy with h|h
  ·rw[ZD hC _ _ rfl h hs] at iF;cases iF
  ·exact h
 have mR:∀t,t∈it.o.looksAt ops→(((bT++it::post).filter fun y=>S y.i).foldl vR st).t t=(bT.foldl vR st).t t:=fun t ht=>by
  rw[H5 t _ st st rfl,H5 t bT st st rfl,ZH iF (fun y hy hw=>?_) fun y hy hw=>?_]
  ·cases hs:S y.i with
   |true=>rfl
   |false=>
    have:=(O4 (fJ y (by simp[hy])) nY (before y hy hs).1).1 t (by simpa using hw)
    exact absurd ht this
  ·cases hs:S y.i with
   |false=>rfl
   |true=>
    have:=(O4 nY (fJ y (by simp[hy])) (behind y hy hs).1).2.2 t (by simpa using hw)
    exact absurd ht this
 have ZI:it.wt=true→∀n,yj (it.dn pre) n→(((bT++it::post).filter fun y=>S y.i).foldl vR st).h n=(bT.foldl vR st).h n:=fun hw n hn=>by
  rw[H6 n _ st st rfl,H6 n bT st st rfl,ZH iF (fun y hy uw=>?_) fun y hy uw=>?_]
  ·cases hs:S y.i with
   |true=>rfl
   |false=>
    have hm:n∈jM y.u:=by simpa using uw
    have O5:y.wt=true:=by
     cases h:y.wt with
     |true=>rfl
     |false=>rw[hu y (by simp[hy]) h] at hm;simp[jM] at hm
    exact absurd hn ((O3 ((before y hy hs).2 O5 hw)).1 n hm)
  ·cases hs:S y.i with
   |false=>rfl
   |true=>
    have hm:n∈jM y.u:=by simpa using uw
    have O5:y.wt=true:=by
     cases h:y.wt with
     |true=>rfl
     |false=>rw[hu y (by simp[hy]) h] at hm;simp[jM] at hm
    exact absurd hn ((O3 ((behind y hy hs).2 hw O5)).2.1 n hm)
 generalize hL:((bT++it::post).filter fun y=>S y.i).foldl vR st=H7 at mR ZI⊢
 refine⟨⟨?_,fun hw=>?_,hg.n⟩,fun y hy hs=>?_⟩
 ·rw[←hg.w]
  unfold yh
  cases uy:it.o.guard with
  |none=>rfl
  |some p=>
   obtain⟨j,want⟩:=p
   dsimp only
   cases eM:Ho ops j with
   |none=>rfl
   |some s=>
    have:s∈it.o.looksAt ops:=by
     have eM:(ops[j]?).bind (·.dst)=some s:=eM
     simp only[Oper.looksAt,uy,eM]
     simp
    simp only[mR s this]
 ·obtain⟨hd,hy,ZJ⟩:=hg.y hw
  have ba:∀x∈it.o.op.operands,H7.ev x=(bT.foldl vR st).ev x:=fun x hx=>by
   cases x with
   |tmp t=>exact mR t (List.mem_append_left _ (List.mem_filterMap.2 ⟨.tmp t,by simpa using hx,rfl⟩))
   |_=>rfl
  have hrefs:nO H7.ev it.o=nO (bT.foldl vR st).ev it.o:=by
   unfold nO
   have:it.o.op.operands.toList.map H7.ev=it.o.op.operands.toList.map (bT.foldl vR st).ev:=List.map_congr_left fun x hx=>ba x (by simpa using hx)
   simp only[this]
  refine⟨hd,?_,by rw[ZJ,hrefs]⟩
  rw[vOr ba]
  have hh : iX E A k pre it.o (bT.foldl vR st).ev H7.h = iX E A k pre it.o (bT.foldl vR st).ev (bT.foldl vR st).h := vFp hS (by
   rw[←ZJ]
   have:=ZI hw
   unfold yj at this
   have hdn:(it.dn pre).refs=it.r:=rfl
   rw[hdn] at this
   cases h:it.r with
   |none=>
    rw[h] at this
    exact funext fun n=>this n trivial
   |some l=>
    rw[h] at this
    exact this)
  rw[hh]
  exact hy
 ·obtain⟨h1,h2⟩:=behind y hy hs
  refine⟨(O4 nY (fJ y (by simp[hy])) h1).2.1,fun a ha hb=>?_⟩
  have hwi:it.wt=true:=by
   cases h:it.wt with
   |true=>rfl
   |false=>rw[hu it (by simp) h] at ha;simp[jM] at ha
  have hwy:y.wt=true:=by
   cases h:y.wt with
   |true=>rfl
   |false=>rw[hu y (by simp[hy]) h] at hb;simp[jM] at hb
  exact(O3 (h2 hwi hwy)).2.2 a ha hb
end
theorem vFe {ops:Array Oper}(h:De ops=true){j:Nat}{o:Oper}(ho:ops[j]? =some o):∀e∈o.after.toList,Region.binds .any e=true→e.on<j:=by
 intro e he hb
 have hj:=(Array.getElem?_eq_some_iff.1 ho).1
 have hm:(o,j)∈ops.toList.zipIdx:=by
  rw[List.mem_zipIdx_iff_getElem?]
  simpa using ho
 have:=List.all_eq_true.1 (List.all_eq_true.1 h _ hm) e he
 simpa[hb,Nat.blt_eq] using this
theorem H8 {L:Array Bool}{i:Nat}(hi:i<L.size)(j:Nat):(L.setIfInBounds i true).getD j false=(L.getD j false||i==j):=by
 by_cases h:i=j
 ·subst h;simp[hi]
 ·rw[getD_set_ne false h]
  have:(i==j)=false:=by simpa using h
  rw[this,Bool.or_false]
section
variable {E:qB} {A:zY} {k pre na nt:Nat} {a0:Nat→Value} {R:Type} {ops:Array Oper} {M0:zC} {w0:World} {Q:Exit→Act→World→Prop}
theorem vSk (hE:ga E)(hS:jb E.sums)(he:De ops=true){dG:List It}{st:St}(hi:dG.map (·.i)=List.range ops.size)(fJ:∀y∈dG,ops[y.i]? =some y.o)(hg:∀bT it post,dG=bT++it::post→H3 E A k pre na nt ops (bT.foldl vR st) it)
  (hp:dG.Pairwise (O1 pre ops (Region.before ops))) (hQ:∀a w,vQ na nt a0 M0 w0 (dG.foldl vR st) a w→Q .normal a w):
  ∀(fuel:Nat) (L:Array Bool) (a:Act) (w:World),L.size=ops.size→(∃U:List Nat,U.length≤fuel∧∀j,j<ops.size→L.getD j false=false→j∈U)→DY ops (fun j=>L.getD j false)→
   vQ na nt a0 M0 w0 ((dG.filter fun y=>L.getD y.i false).foldl vR st) a w→wpAny E.P .any ops Q fuel L a w:=by
 have hu:∀y∈dG,y.wt=false→y.u=[]:=fun y hy hw=>by
  obtain⟨bT,post,e⟩:=List.append_of_mem hy
  exact((hg bT y post e).n hw).2.1
 have O6:∀y∈dG,y.i<ops.size:=fun y hy=>(Array.getElem?_eq_some_iff.1 (fJ y hy)).1
 have dB:(dG.map (·.i)).Nodup:=by rw[hi];exact List.nodup_range
 have full:∀(L:Array Bool) (a:Act) (w:World),(∀j,j<ops.size→L.getD j false=true)→vQ na nt a0 M0 w0 ((dG.filter fun y=>L.getD y.i false).foldl vR st) a w→Q .normal a w:=fun L a w hl r=>by
  rw[List.filter_eq_self.2 fun y hy=>hl y.i (O6 y hy)] at r
  exact hQ a w r
 have rdy:∀(L:Array Bool),L.size=ops.size→Region.ready .any ops L=[]→∀j,j<ops.size→L.getD j false=true:=fun L hL hr j=>by
  induction j using Nat.strongRecOn with
  |_ j ih=>
   intro hj
   cases hb:L.getD j false with
   |true=>rfl
   |false=>
    have ho:ops[j]? =some ops[j]:=Array.getElem?_eq_getElem hj
    have:j∈Region.ready .any ops L:=mem_ready.2 ⟨by
     have O7:j<L.size:=by omega
     simpa[Array.getD,O7] using hb,ops[j],ho,fun e he' bJ=>by
      have aU:=vFe he ho e (by simpa using he') bJ
      exact ih e.on aU (by omega)⟩
    rw[hr] at this;cases this
 intro fuel
 induction fuel with
 |zero=>
  intro L a w hL hU hC r
  obtain⟨U,hUl,hU⟩:=hU
  have hU0:U=[]:=List.eq_nil_of_length_eq_zero (by omega)
  have bh:∀j,j<ops.size→L.getD j false=true:=fun j hj=>by
   cases hb:L.getD j false with
   |true=>rfl
   |false=>have:=hU j hj hb;rw[hU0] at this;cases this
  refine⟨?_,full L a w bh r⟩
  cases hr:Region.ready .any ops L with
  |nil=>rfl
  |cons j l=>
   have:j∈Region.ready .any ops L:=by rw[hr];exact List.mem_cons_self ..
   obtain⟨h0,o,ho,_⟩:=mem_ready.1 this
   have hj:=(Array.getElem?_eq_some_iff.1 ho).1
   have:=bh j hj
   have O7:j<L.size:=by omega
   simp[Array.getD,O7] at this h0
   rw[this] at h0;cases h0
 |succ fuel ih=>
  intro L a w hL hU hC r
  refine⟨fun hr=>full L a w (rdy L hL hr) r,fun i hir=>?_⟩
  obtain⟨h0,o,ho,mS⟩:=mem_ready.1 hir
  have D0:=(Array.getElem?_eq_some_iff.1 ho).1
  have D1:i<L.size:=by omega
  have D2:L.getD i false=false:=by simpa[Array.getD,D1] using h0
  obtain⟨it,iF,lA⟩:∃it∈dG,it.i=i:=by
   have:i∈dG.map (·.i):=by rw[hi];simpa using D0
   obtain⟨it,h1,h2⟩:=List.mem_map.1 this
   exact⟨it,h1,h2⟩
  obtain⟨bT,post,e⟩:=List.append_of_mem iF
  have nY:ops[it.i]? =some it.o:=fJ it iF
  have fZ:o=it.o:=by rw[lA,ho] at nY;exact Option.some.inj nY
  subst fZ
  have sb := vFg hE hS hC (by rw [← e]; exact fJ) (hg bT it post e) (by rw [← e]; exact hu) (by rw [← e]; exact hp) (by rw [lA]; exact D2) (fun o' fY ed H9 hb=>by
   rw[nY] at fY
   cases fY
   exact mS ed (by simpa using H9) hb)
  rw[←e] at sb
  obtain⟨uy,D3⟩:=sb
  have hw:=Zy uy.w r
  have yM:(dG.filter fun y=>(L.setIfInBounds i true).getD y.i false).foldl vR st=vR ((dG.filter fun y=>L.getD y.i false).foldl vR st) it:=by
   have other:∀y∈bT++post,(L.setIfInBounds i true).getD y.i false=L.getD y.i false:=fun y hy=>by
    rw[H8 D1]
    have:y.i≠i:=fun h=>by
     rw[e,List.map_append,List.map_cons] at dB
     have h2:=List.nodup_append.1 dB
     rcases List.mem_append.1 hy with hy|hy
     ·exact h2.2.2 y.i (List.mem_map_of_mem hy) it.i (List.mem_cons_self ..) (by rw[h,lA])
     ·exact(List.nodup_cons.1 h2.2.1).1 (by rw[lA,←h];exact List.mem_map_of_mem hy)
    have:(i==y.i)=false:=by simpa using Ne.symm this
    rw[this,Bool.or_false]
   have e1:dG.filter (fun y=>L.getD y.i false)=bT.filter (fun y=>L.getD y.i false)++post.filter (fun y=>L.getD y.i false):=by
    conv=>lhs;rw[e]
    rw[List.filter_append,List.filter_cons,if_neg (by rw[lA,D2];simp)]
   have e2:dG.filter (fun y=>(L.setIfInBounds i true).getD y.i false)=bT.filter (fun y=>L.getD y.i false)++it::post.filter (fun y=>L.getD y.i false):=by
    conv=>lhs;rw[e]
    rw[List.filter_append,List.filter_cons,if_pos (by rw[lA,H8 D1];simp),List.filter_congr fun y hy=>other y (List.mem_append_left _ hy),List.filter_congr fun y hy=>other y (List.mem_append_right _ hy)]
   rw[e1,e2,List.foldl_append,List.foldl_append,List.foldl_cons]
   exact (ZG fun y hy=>by
    obtain⟨O8,O9⟩:=List.mem_filter.1 hy
    exact D3 y O8 O9).symm
  have aC:DY ops fun j=>(L.setIfInBounds i true).getD j false:=fun j o' hj fY ed H9 hb=>by
   dsimp only at hj⊢
   rw[H8 D1] at hj
   refine getD_set_true ?_
   rw[Bool.or_eq_true] at hj
   rcases hj with hj|hj
   ·exact hC j o' hj fY ed H9 hb
   ·have:i=j:=by simpa using hj
    subst this
    rw[ho] at fY;cases fY
    exact mS ed (by simpa using H9) hb
  have ZK:∃U:List Nat,U.length≤fuel∧∀j,j<ops.size→(L.setIfInBounds i true).getD j false=false→j∈U:=by
   obtain⟨U,hl,hU⟩:=hU
   refine⟨U.erase i,?_,fun j hj hb=>?_⟩
   ·rw[List.length_erase_of_mem (hU i D0 D2)];omega
   ·rw[H8 D1,Bool.or_eq_false_iff] at hb
    exact(List.mem_erase_of_ne (by have:=hb.2;simp at this;exact fun h=>this h.symm)).2 (hU j hj hb.1)
  unfold wpOp
  rw[ho]
  dsimp only
  cases Ia:it.wt with
  |true=>
   rw[Ia] at hw
   rw[if_pos hw]
   obtain⟨hd,hy,_⟩:=uy.y Ia
   refine .inl (vQ.op hE r hd hy fun a' w' r'=>?_)
   exact ih _ _ _ (by simpa using hL) ZK aC (by rw[yM];exact r')
  |false=>
   rw[Ia] at hw
   rw[if_neg (by simp[hw])]
   obtain⟨hv,nR,pv⟩:=uy.n Ia
   refine ih _ _ _ (by simpa using hL) ZK aC ?_
   rw[yM]
   have:=r.skip (dst:=it.o.dst) fun d hd=>(pv d hd).1
   unfold vR
   rw[hv,nR]
   exact this
theorem vCg (hE:ga E)(hS:jb E.sums){id:Nat}{st:St}{K:St→Option R}{out:R}{a:Act}{w:World}(hm:E.P.follows .mixedOrders=true)(he:De ops=true)
  (h:xK E A k pre na nt ops (Region.before ops) (ops.toList.zipIdx.map fun p=>(p.2,p.1)) [] st K=some out) (r:vQ na nt a0 M0 w0 st a w)
  (hK:∀bR a' w',vQ na nt a0 M0 w0 bR a' w'→K bR=some out→Q .normal a' w'):(Code.region id ops true).wp E.P Q a w:=by
 obtain⟨dG,h1,h2,h3,_,h5⟩:=O2 hE _ _ _ _ _ h
 have hi:dG.map (·.i)=List.range ops.size:=by
  have:=congrArg (List.map Prod.fst) h1
  rw[List.map_map,List.map_map] at this
  refine Eq.trans this ?_
  have e:(Prod.fst∘fun p:Oper×Nat=>(p.2,p.1))=Prod.snd:=rfl
  rw[e,List.zipIdx_map_snd,←List.range_eq_range']
  simp
 have fJ:∀y∈dG,ops[y.i]? =some y.o:=fun y hy=>by
  have:(y.i,y.o)∈ops.toList.zipIdx.map fun p=>(p.2,p.1):=by rw[←h1];exact List.mem_map.2 ⟨y,hy,rfl⟩
  obtain⟨p,hp,e⟩:=List.mem_map.1 this
  have:=List.mem_zipIdx_iff_getElem?.1 hp
  rw[(Prod.mk.inj e).1,(Prod.mk.inj e).2] at this
  simpa using this
 refine wp_region_any hm (vSk hE hS he (nt:=nt) (na:=na) (a0:=a0) (M0:=M0) (w0:=w0) hi fJ h3 h5 (fun a w r=>hK _ a w r h2) _ _ _ _ (by simp) ⟨List.range ops.size,by simp,fun j hj _=>by simpa using hj⟩ (fun j o hj=>?_) ?_)
 ·exfalso
  by_cases h:j<ops.size<;>simp[Array.getD,h] at hj
 ·rw[List.filter_eq_nil_iff.2 fun y hy=>by
   by_cases h:y.i<ops.size<;>simp[Array.getD,h]]
  exact⟨r.ex,r.defers,r.size,r.os,r.tape,r.output,r.keep⟩
end
def zC.nilObj (M:zC)(nm:Nat)(o:Obj)(sz:Nat):zC:={M with κ:=κset M.κ nm ⟨none,0,sz,0,[]⟩,h:=yM M.h nm o}
def iG (t:Ty)(rows:Bool):Obj:=bif rows then .mat 0 [] else .arr true t []
def jz (t:Ty)(rows:Bool):Nat:=bif rows then 1 else t.size
theorem zC.nilObj_ok {M:zC}(ok:Ok M){nm:Nat}(aT:M.h nm=none)(t:Ty)(rows:Bool):
  Ok (M.nilObj nm (iG t rows) (jz t rows))∧yW M (M.nilObj nm (iG t rows) (jz t rows))∧(∀b,qU (M.nilObj nm (iG t rows) (jz t rows)) b→qU M b):=by
 have hO:∀M':zC,yU M' (iG t rows) ⟨none,0,jz t rows,0,[]⟩:=fun M'=>by
  cases rows with
  |false=>exact⟨rfl,rfl,fun _=>rfl,rfl⟩
  |true=>exact⟨rfl,rfl,rfl,rfl,by simp[zT.fp],rfl⟩
 have x:yW M (M.nilObj nm (iG t rows) (jz t rows)):=⟨fun id C h=>by
  have bn:id≠nm:=fun e=>by rw[e,ok.non nm aT] at h;cases h
  exact⟨C,by show κset M.κ nm _ id=_;rw[κset_ne _ _ bn];exact h,C.le_refl⟩,fun _ h=>h,fun _ h=>h,fun _ _=>rfl,fun _ _=>rfl,fun _ _=>rfl⟩
 refine⟨Ok.build ok x (fun id=>id=nm) (fun id h=>yZ _ _ h) (fun id h=>κset_ne _ _ h) (fun _ _ _ _ _ _ _ _ _=>rfl) (fun id o C h1 h2 h3 h4 b hb=>(ok.own b ⟨id,o,C,h2,h3,h4,hb⟩).1) (Nat.le_refl _)
  (fun id o e h=>?_) (fun id e h=>?_) (fun id o C b e h1 h2 h3 h4=>?_) ok.GF ok.Flt,x,fun b hb=>?_⟩
 ·subst e
  have e1:(M.nilObj id (iG t rows) (jz t rows)).h id=some (iG t rows):=yQ _ _ _
  rw[e1] at h
  cases h
  exact⟨_,κset_same _ _ _,hO _⟩
 ·subst e
  have e1:(M.nilObj id (iG t rows) (jz t rows)).h id=some (iG t rows):=yQ _ _ _
  rw[e1] at h;cases h
 ·subst e
  have e1:(M.nilObj id (iG t rows) (jz t rows)).κ id=some _:=κset_same _ _ _
  rw[e1] at h3
  cases h3
  simp[zT.fp] at h4
 ·obtain⟨id,o,C,h1,h2,h3,h4⟩:=hb
  by_cases e:id=nm
  ·subst e
   have e1:(M.nilObj id (iG t rows) (jz t rows)).κ id=some _:=κset_same _ _ _
   rw[e1] at h3
   cases h3
   simp[zT.fp] at h4
  ·exact⟨id,o,C,by rw[←h1];exact(yZ _ _ e).symm,h2,by rw[←h3];exact(κset_ne _ _ e).symm,h4⟩
theorem gC.same_mem {M M':zC}(hF:M'.F=M.F)(hG:M'.G=M.G)(hH:M'.H=M.H)(ho:∀b,qU M' b→qU M b):gC M M':=
 ⟨fun b h=>by rw[hF];exact h,fun b h=>by rw[hG];exact h,fun _ _=>by rw[hH],fun _ _=>by rw[hH],fun _ _=>by rw[hH],by rw[hH];exact Nat.le_refl _,fun _ _ _=>by rw[hH],fun b h _=>ho b h,
  fun b h _=>.inl (by rw[hG] at h;exact h),fun b h _=>.inl (by rw[hF] at h;exact h)⟩
theorem gC.refl (M:zC):gC M M:=.same_mem rfl rfl rfl fun _ h=>h
section
variable {na nt:Nat} {a0:Nat→Value} {M0:zC} {w0 w:World} {a:Act}
theorem zQ.set_left {α β:Type}{R:α→β→Prop}{l:List α}{m:List β}(h:zQ R l m){j:Nat}{c:α}(hc:∀(h1:j<l.length) (h2:j<m.length),R c m[j]):zQ R (l.set j c) m:=by
 refine zQ.of_get (by rw[List.length_set];exact h.length) fun i hi bM=>?_
 rw[List.length_set] at hi
 by_cases e:j=i
 ·subst e
  rw[List.getElem_set_self]
  exact hc hi bM
 ·rw[List.getElem_set_ne e]
  exact h.get i hi bM
theorem vJu {st:St}{s:Nat}{j:Option Nat}(r:vQ na nt a0 M0 w0 st a w):vQ na nt a0 M0 w0 (NH st s j) a w:=by
 obtain⟨M,h1,h2,h3,h4,h5⟩:=r.ex
 unfold NH
 split
 ·split
  ·rename_i c hs
   split
   ·rename_i c' u hf
    have hv:=h5 s
    rw[hs] at hv
    rw[←h1] at hf
    obtain⟨L,k1,k2,k3,k4,k5,_⟩:=Dp h3 (wN.refl _) (show zZ M c _ from hv) hf
    refine⟨⟨L,by rw[k2,h1],k1.trans h2,k3,h4.trans k4.grow,fun t=>?_⟩,r.defers,r.size,r.os,r.tape,r.output,r.keep⟩
    show qA _ (jG st.t s _ t) _
    unfold jG
    cases e:Nat.beq t s with
    |false=>exact(h5 t).ext k4.ext
    |true=>
     have e:t=s:=by simpa using e
     subst e
     exact k5
   ·exact r
  ·exact r
 ·rename_i j
  split
  ·rename_i id hs
   split
   ·rename_i cells ah
    split
    ·rename_i c yF
     split
     ·rename_i c' u hf
      have aam:=ah
      rw[←h1] at hf ah
      obtain⟨C0,nU,hO0⟩:=h3.obj id _ ah
      obtain⟨B0,sd,e0,b10,b20,ZL,ZM,b50⟩:=hO0
      have hj:j<cells.length:=(List.getElem?_eq_some_iff.1 yF).1
      have Pb:j<sd.toList.length:=by rw[←ZM.length];exact hj
      have jx:=ZM.get j hj Pb
      have ec:cells[j]=c:=(List.getElem?_eq_some_iff.1 yF).2
      rw[ec] at jx
      obtain⟨L,k1,k2,k3,k4,k5,k6,_⟩:=Dp h3 (wN.refl _) jx hf
      have uz:L.h id=some (.box true cells):=by
       rcases k6 id with h|⟨own,t,xs,h,_⟩|⟨ver,xs,h,_⟩
       ·rw[h,ah]
       ·rw[ah] at h;cases h
       ·rw[ah] at h;cases h
      obtain⟨C,hC,hO⟩:=k3.obj id _ uz
      obtain⟨B,vals,e,b1,b2,b3,b4,b5⟩:=hO
      obtain⟨C1,gA,le⟩:=k4.ext.κ id C0 nU
      rw[hC] at gA;cases gA
      have eB:B=B0:=by rw[le.blk,b10] at b1;exact(Option.some.inj b1).symm
      subst eB
      rw[k1,ZL] at b3
      cases b3
      have hx:=zC.write_ext (H':=L.H) k3 uz rfl hC C.le_refl (fun _ _=>rfl) (fun _ _=>rfl) (.box true (cells.set j c'))
      have hw := zC.write_ok (H' := L.H) (o' := .box true (cells.set j c')) k3 uz rfl hC C.le_refl (fun _ h => h) rfl (fun _ _ => rfl) (fun _ _ => rfl) (by
       refine⟨B,sd,e0,b1,b2,by show L.H[B]? =_;rw[k1];exact ZL,?_,fun h=>(by cases h)⟩
       exact(b4.mono fun _ _ h=>h.ext hx).set_left fun _ _=>k5.ext hx)
      refine⟨⟨L.write id (.box true (cells.set j c')) C L.H,?_,k1.trans h2,hw.1,(h4.trans k4.grow).trans hw.2.grow,fun t=>((h5 t).ext k4.ext).ext hx⟩,r.defers,r.size,r.os,r.tape,r.output,r.keep⟩
      show yM L.h id _=yM (qP st.h u) id _
      rw[k2,h1]
     ·exact r
    ·exact r
   ·exact r
  ·rename_i cells hs
   split
   ·rename_i c yF
    split
    ·rename_i c' u hf
     have hv:=h5 s
     rw[hs] at hv
     obtain⟨vs,dA,bh⟩:=hv
     rw[←h1] at hf
     have hj:j<cells.length:=(List.getElem?_eq_some_iff.1 yF).1
     have Pb:j<vs.toList.length:=by rw[←bh.length];exact hj
     have jx:=bh.get j hj Pb
     have ec:cells[j]=c:=(List.getElem?_eq_some_iff.1 yF).2
     rw[ec] at jx
     obtain⟨L,k1,k2,k3,k4,k5,k6,_⟩:=Dp h3 (wN.refl _) jx hf
     refine⟨⟨L,by rw[k2,h1],k1.trans h2,k3,h4.trans k4.grow,fun t=>?_⟩,r.defers,r.size,r.os,r.tape,r.output,r.keep⟩
     show qA _ (jG st.t s _ t) _
     unfold jG
     cases e:Nat.beq t s with
     |false=>exact(h5 t).ext k4.ext
     |true=>
      have e:t=s:=by simpa using e
      subst e
      exact⟨vs,dA,(bh.mono fun _ _ h=>h.ext k4.ext).set_left fun _ _=>k5⟩
    ·exact r
   ·exact r
  ·exact r
theorem vJ3 {st:St}{nm:Nat}{g:Nat×Option Nat×Ty×Bool}(r:vQ na nt a0 M0 w0 st a w)(aT:st.h nm=none):vQ na nt a0 M0 w0 (NI st nm g) a w:=by
 obtain⟨M,h1,h2,h3,h4,h5⟩:=r.ex
 have hM:M.h nm=none:=by rw[h1];exact aT
 obtain⟨k1,k2,k3⟩:=M.nilObj_ok h3 hM g.2.2.1 g.2.2.2
 have cf:zZ (M.nilObj nm (iG g.2.2.1 g.2.2.2) (jz g.2.2.1 g.2.2.2)) (.osl nm none) (.slice none 0 0):=⟨_,κset_same _ _ _,none,0,rfl,rfl,rfl,rfl⟩
 have gr:gC M0 (M.nilObj nm (iG g.2.2.1 g.2.2.2) (jz g.2.2.1 g.2.2.2)):=h4.trans (.same_mem rfl rfl rfl k3)
 unfold NI
 cases ZN:g.2.2.2&&Yj g.2.2.1 with
 |true=>exact vJu r
 |false=>
 rw[cond_false]
 split
 ·split
  ·rename_i hs
   refine⟨⟨M.nilObj nm (iG g.2.2.1 g.2.2.2) (jz g.2.2.1 g.2.2.2),?_,h2,k1,gr,fun t=>?_⟩,r.defers,r.size,r.os,r.tape,r.output,r.keep⟩
   ·show yM M.h nm _=yM st.h nm _
    rw[h1];rfl
   ·show qA _ (jG st.t g.1 _ t) _
    unfold jG
    cases e:Nat.beq t g.1 with
    |false=>exact(h5 t).ext k2
    |true=>
     have e:t=g.1:=by simpa using e
     subst e
     have hv:=h5 g.1
     rw[hs] at hv
     have hv:a.tmps.getD g.1 undef=.slice none 0 0:=hv
     rw[hv];exact cf
  ·exact r
 ·rename_i j hj
  split
  ·rename_i id hs
   split
   ·rename_i cells ah
    split
    ·rename_i yF
     have bn:id≠nm:=fun e=>by rw[e,aT] at ah;cases ah
     let M1:=M.nilObj nm (iG g.2.2.1 g.2.2.2) (jz g.2.2.1 g.2.2.2)
     have mJ:M1.h id=some (.box true cells):=by
      show yM M.h nm _ id=_
      rw[yZ _ _ bn,h1];exact ah
     obtain⟨C,hC,hO⟩:=k1.obj id _ mJ
     obtain⟨B,vals,e,b1,b2,b3,b4,b5⟩:=hO
     have hx:=zC.write_ext (H':=M1.H) k1 mJ rfl hC C.le_refl (fun _ _=>rfl) (fun _ _=>rfl) (.box true (cells.set j (.osl nm none)))
     have hw := zC.write_ok (H' := M1.H) (o' := .box true (cells.set j (.osl nm none))) k1 mJ rfl hC C.le_refl (fun _ h => h) rfl (fun _ _ => rfl) (fun _ _ => rfl) (by
      refine⟨B,vals,e,b1,b2,b3,?_,fun h=>(by cases h)⟩
      have hl:=b4.length
      refine zQ.of_get (by simpa using hl) fun i hi bM=>?_
      have hb:=b4.get i (by simpa using hi) bM
      by_cases ZO:j=i
      ·subst ZO
       rw[List.getElem_set_self]
       have aU:j<cells.length:=by simpa using hi
       have ec:cells[j]=.nsl:=by
        rw[List.getElem?_eq_getElem aU] at yF
        exact Option.some.inj yF
       rw[ec] at hb
       have hb:vals.toList[j]=.slice none 0 0:=hb
       rw[hb]
       exact cf.ext hx
      ·rw[List.getElem_set_ne ZO]
       exact hb.ext hx)
     refine⟨⟨M1.write id (.box true (cells.set j (.osl nm none))) C M1.H,?_,h2,hw.1,gr.trans hw.2.grow,fun t=>((h5 t).ext k2).ext hx⟩,r.defers,r.size,r.os,r.tape,r.output,r.keep⟩
     show yM (yM M.h nm _) id _=yM (yM st.h nm _) id _
     rw[h1];rfl
    ·exact r
   ·exact r
  ·exact r
theorem ZP:∀{l:List (Nat×Option Nat×Ty×Bool)} {st bR:St} {nm:Nat},vQ na nt a0 M0 w0 st a w→Hr st nm l=some bR→vQ na nt a0 M0 w0 bR a w
 |[],st,bR,nm,r,h=>by cases h;exact r
 |g::l,st,bR,nm,r,h=>by
  unfold Hr at h
  split at h
  ·rename_i aT
   exact ZP (vJ3 r aT) h
  ·cases h
theorem ZQ {id:Nat}:∀{l:List Nat} {n i:Nat},jU id l n=some i→n≤i∧l[i-n]? =some id
 |[],n,i,h=>by cases h
 |x::l,n,i,h=>by
  unfold jU at h
  cases e:Nat.beq x id with
  |true=>
   rw[e] at h
   cases h
   have:x=id:=by simpa using e
   exact⟨Nat.le_refl _,by simp[this]⟩
  |false=>
   rw[e] at h
   obtain⟨h1,h2⟩:=ZQ (l:=l) h
   refine⟨by omega,?_⟩
   rw[show i-n=(i-(n+1))+1 by omega,List.getElem?_cons_succ]
   exact h2
theorem Pc {h:Hp}:∀(n:Nat) {todo seen:List Nat},seen.Nodup→(xL h n todo seen).Nodup
 |0,_,_,hs=>hs
 |n+1,[],_,hs=>hs
 |n+1,id::todo,seen,hs=>by
  unfold xL
  cases e:seen.any (Nat.beq id) with
  |true=>exact Pc n hs
  |false=>
   refine Pc n (List.nodup_append.2 ⟨hs,by simp,fun x hx y hy exy=>?_⟩)
   have:y=id:=by simpa using hy
   subst this
   subst exy
   have:=List.any_eq_false.1 e x hx
   simp at this
def mT (base : Nat) (κ : Nat → Option zT) (ids : List Nat) : Nat → Option zT := fun n => if base ≤ n then (match ids[n-base]? with
 |some id=>(κ id).map fun C=>{C with ver:=0}
 |none=>none) else none
def zC.ren (M:zC)(base:Nat)(ids:List Nat):zC:={M with κ:=mT base M.κ ids,h:=tP base M.h ids}
theorem vEu {base:Nat}{h:Hp}{ids:List Nat}{n:Nat}{o:Obj}(e:tP base h ids n=some o):∃id o',base≤n∧ids[n-base]? =some id∧h id=some o'∧o=rF h (fun i=>(jU i ids 0).map (base+·)) o':=by
 unfold tP at e
 cases hb:Nat.ble base n with
 |false=>rw[hb] at e;cases e
 |true=>
  rw[hb] at e
  simp only[cond_true] at e
  split at e
  ·rename_i id ah
   obtain⟨o',h1,h2⟩:=Option.map_eq_some_iff.1 e
   exact⟨id,o',Nat.le_of_ble_eq_true hb,ah,h1,h2.symm⟩
  ·cases e
theorem vAt {base:Nat}{κ:Nat→Option zT}{ids:List Nat}{id i:Nat}{C:zT}(hi:jU id ids 0=some i)(hC:κ id=some C):mT base κ ids (base+i)=some {C with ver:=0}:=by
 obtain⟨_,h⟩:=ZQ hi
 unfold mT
 rw[if_pos (by omega),show base+i-base=i by omega]
 rw[Nat.sub_zero] at h
 rw[h]
 simp[hC]
theorem Pd {M:zC}(ok:Ok M){base:Nat}{ids:List Nat}{c:zL}{v:Value}(h:zZ M c v):zZ (M.ren base ids) (rE M.h (fun i=>(jU i ids 0).map (base+·)) c) v:=by
 have h1:=h.one
 have look:∀id C,M.κ id=some C→∀i,(jU id ids 0).map (base+·)=some i→(M.ren base ids).κ i=some {C with ver:=0}:=fun id C hC i hi=>by
  obtain⟨j,hj,rfl⟩:=Option.map_eq_some_iff.1 hi
  exact vAt hj hC
 unfold rE
 cases c with
 |osl id r=>
  dsimp only
  obtain⟨C,hC,h⟩:=h
  cases e:(jU id ids 0).map (base+·) with
  |none=>exact h1
  |some i=>cases r with
   |none=>exact⟨_,look id C hC i e,h⟩
   |some p=>exact⟨_,look id C hC i e,h⟩
 |bsl id x y=>
  dsimp only
  obtain⟨C,B,hC,h⟩:=h
  cases e:(jU id ids 0).map (base+·) with
  |none=>exact h1
  |some i=>exact⟨_,B,look id C hC i e,h⟩
 |ptr id x=>
  dsimp only
  obtain⟨C,B,hC,h⟩:=h
  cases e:(jU id ids 0).map (base+·) with
  |none=>exact h1
  |some i=>exact⟨_,B,look id C hC i e,h⟩
 |eptr id x y=>
  dsimp only
  obtain⟨C,B,hC,h⟩:=h
  cases e:(jU id ids 0).map (base+·) with
  |none=>exact h1
  |some i=>exact⟨_,B,look id C hC i e,h⟩
 |mrow id x ver=>
  dsimp only
  obtain⟨C,hC,ho,hle,h⟩:=h
  cases e:(jU id ids 0).map (base+·) with
  |none=>exact h1
  |some i=>
   split
   ·rename_i i' v' xs ei ah
    cases ei
    cases cN:Nat.beq v' ver with
    |false=>exact h1
    |true=>
     have gy:v'=ver:=by simpa using cN
     obtain⟨C',aC,hO⟩:=ok.obj id _ ah
     rw[hC] at aC;cases aC
     exact⟨_,look id C hC i e,h1,Nat.le_refl _,fun _=>h (by rw[hO.1,gy])⟩
   ·exact h1
 |mptr id x=>
  dsimp only
  obtain⟨C,B,hC,h⟩:=h
  cases e:(jU id ids 0).map (base+·) with
  |none=>exact h1
  |some i=>exact⟨_,B,look id C hC i e,h⟩
 |meptr id x y ver=>
  dsimp only
  obtain⟨C,hC,ho,hle,h⟩:=h
  cases e:(jU id ids 0).map (base+·) with
  |none=>exact h1
  |some i=>
   split
   ·rename_i i' v' xs ei ah
    cases ei
    cases cN:Nat.beq v' ver with
    |false=>exact h1
    |true=>
     have gy:v'=ver:=by simpa using cN
     obtain⟨C',aC,hO⟩:=ok.obj id _ ah
     rw[hC] at aC;cases aC
     exact⟨_,look id C hC i e,h1,Nat.le_refl _,fun _=>h (by rw[hO.1,gy])⟩
   ·exact h1
 |map id=>
  dsimp only
  obtain⟨C,B,hC,h⟩:=h
  cases e:(jU id ids 0).map (base+·) with
  |none=>exact h1
  |some i=>exact⟨_,B,look id C hC i e,h⟩
 |fn f cap=>
  dsimp only
  obtain⟨cv,rfl,h⟩:=h
  split
  ·rename_i c hc
   refine⟨cv,rfl,?_⟩
   have:=DV _ _ _ hc
   generalize cv.toList=l at h
   clear hc h1
   induction cap generalizing c l with
   |nil=>cases c with
    |nil=>cases l with
     |nil=>trivial
     |cons _ _=>exact h.elim
    |cons _ _=>exact this.elim
   |cons x cap ih=>cases c with
    |nil=>exact this.elim
    |cons y c=>cases l with
     |nil=>exact h.elim
     |cons u l=>
      obtain⟨⟨C,B,hC,hh⟩,h⟩:=h
      exact⟨⟨_,B,look x C hC y this.1,hh⟩,ih c this.2 l h⟩
  ·exact h1
 |fsl sh t xs=>exact h
 |fptr sh t x off=>exact h
 |_=>exact h
theorem D4 {M:zC}(ok:Ok M){base:Nat}{ids:List Nat}:∀{cs:List zL} {vs:List Value},zQ (zZ M) cs vs→zQ (zZ (M.ren base ids)) (cs.map (rE M.h fun i=>(jU i ids 0).map (base+·))) vs
 |[],[],_=>trivial
 |_::_,_::_,h=>⟨Pd ok h.1,D4 ok h.2⟩
 |[],_::_,h=>h.elim
 |_::_,[],h=>h.elim
theorem vM2 {M:zC}(ok:Ok M){base:Nat}{ids:List Nat}{x:zI}{v:Value}(h:qA M x v):qA (M.ren base ids) (Yi M.h (fun i=>(jU i ids 0).map (base+·)) x) v:=by
 cases x with
 |undef=>trivial
 |skp=>exact h
 |c x=>exact Pd (c:=x) ok h
 |agg cs=>
  obtain⟨vs,h1,h2⟩:=h
  exact⟨vs,h1,D4 ok h2⟩
 |tup xs=>
  obtain⟨vs,h1,h2⟩:=h
  refine⟨vs,h1,zQ.map_left (h2.mono fun p u hp=>?_)⟩
  obtain⟨b,cs⟩:=p
  cases b with
  |true=>
   obtain⟨us,q1,q2⟩:=hp
   exact⟨us,q1,D4 ok q2⟩
  |false=>
   cases cs with
   |nil=>exact hp
   |cons c cs=>cases cs with
    |nil=>exact Pd (c:=c) ok hp
    |cons _ _=>exact hp
theorem ZR {M:zC}(ok:Ok M){base:Nat}{ids:List Nat}{o:Obj}{C:zT}(h:yU M o C):yU (M.ren base ids) (rF M.h (fun i=>(jU i ids 0).map (base+·)) o) {C with ver:=0}:=by
 cases o with
 |box own cells=>
  obtain⟨B,vals,e,h1,h2,h3,h4,h5⟩:=h
  exact⟨B,vals,e,h1,h2,h3,D4 ok h4,h5⟩
 |robox cells=>
  obtain⟨B,vals,e,h1,h2,h3,h4,h5⟩:=h
  exact⟨B,vals,e,h1,h2,h3,D4 ok h4,h5⟩
 |arr own t xs=>exact h
 |mat ver xs=>
  obtain⟨h1,h2⟩:=h
  exact⟨rfl,h2⟩
 |pmat ver xs n=>
  obtain⟨h1,h2⟩:=h
  exact⟨rfl,h2⟩
 |imap cZ=>exact h
 |gone=>trivial
theorem Pe {h:Hp}{ρ:Nat→Option Nat}(o:Obj):(rF h ρ o).owned=o.owned:=by cases o<;>rfl
theorem zC.ren_ok {M:zC}(ok:Ok M){base:Nat}{ids:List Nat}(dB:ids.Nodup):Ok (M.ren base ids)∧∀b,qU (M.ren base ids) b→qU M b:=by
 have at':∀n o,(M.ren base ids).h n=some o→∃id o' C,base≤n∧ids[n-base]? =some id∧M.h id=some o'∧M.κ id=some C∧o=rF M.h (fun i=>(jU i ids 0).map (base+·)) o'∧yU M o' C∧(M.ren base ids).κ n=some {C with ver:=0}:=fun n o h=>by
  obtain⟨id,o',h1,h2,h3,h4⟩:=vEu h
  obtain⟨C,hC,hO⟩:=ok.obj id _ h3
  refine⟨id,o',C,h1,h2,h3,hC,h4,hO,?_⟩
  show mT base M.κ ids n=_
  unfold mT
  rw[if_pos h1,h2]
  simp[hC]
 have lf:∀b,qU (M.ren base ids) b→qU M b:=fun b ⟨n,o,C,h1,h2,h3,h4⟩=>by
  obtain⟨id,o',C',k1,k2,k3,k4,k5,k6,k7⟩:=at' n o h1
  rw[k7] at h3
  cases h3
  exact⟨id,o',C',k3,by rw[←h2,k5,Pe],k4,h4⟩
 refine⟨⟨fun n o h=>?_,fun n h=>?_,fun i j oi oj Ci Cj b jq h1 h2 h3 h4 h5 h6 h7 h8=>?_,fun b h=>ok.own b (lf b h),ok.GF,ok.Flt⟩,lf⟩
 ·obtain⟨id,o',C,k1,k2,k3,k4,rfl,k6,k7⟩:=at' n o h
  exact⟨_,k7,ZR ok k6⟩
 ·show mT base M.κ ids n=none
  unfold mT
  split
  ·rename_i hb
   split
   ·rename_i id ah
    have:M.h id=none:=by
     cases e:M.h id with
     |none=>rfl
     |some o=>
      have:(M.ren base ids).h n=some (rF M.h (fun i=>(jU i ids 0).map (base+·)) o):=by
       show tP base M.h ids n=_
       unfold tP
       rw[show Nat.ble base n=true from Nat.ble_eq_true_of_le hb,ah]
       simp[e]
      rw[this] at h;cases h
    rw[ok.non id this];rfl
   ·rfl
  ·rfl
 ·obtain⟨id,o',C,k1,k2,k3,k4,k5,k6,k7⟩:=at' i oi h1
  obtain⟨jd,p',D,q1,q2,q3,q4,q5,q6,q7⟩:=at' j oj h2
  rw[k7] at h5
  rw[q7] at h6
  cases h5
  cases h6
  refine ok.disj id jd o' p' C D b (fun e=>?_) k3 q3 (by rw[←h3,k5,Pe]) (by rw[←h4,q5,Pe]) k4 q4 h7 h8
  subst e
  have hi:=(List.getElem?_eq_some_iff.1 k2)
  have hj:=(List.getElem?_eq_some_iff.1 q2)
  have:=(List.getElem_inj (h₀:=hi.1) (h₁:=hj.1) dB).1 (by rw[hi.2,hj.2])
  omega
theorem ZS:∀{a b:List Nat},Hi a b=true→a=b
 |[],[],_=>rfl
 |x::a,y::b,h=>by
  simp only[Hi,Bool.and_eq_true] at h
  rw[Nat.eq_of_beq_eq_true h.1,ZS h.2]
 |[],_::_,h=>by cases h
 |_::_,[],h=>by cases h
theorem vMk {c v:zL}(h:NB c v=true):c=.undef∨c=v:=by
 unfold NB at h
 split at h
 ·exact .inl rfl
 ·exact .inr rfl
 ·exact .inr rfl
 ·exact .inr rfl
 ·exact .inr rfl
 ·exact .inr (by rw[Nat.eq_of_beq_eq_true h])
 ·simp only[Bool.and_eq_true] at h
  exact .inr (by rw[Nat.eq_of_beq_eq_true h.1.1,Nat.eq_of_beq_eq_true h.1.2,Nat.eq_of_beq_eq_true h.2])
 ·simp only[Bool.and_eq_true] at h
  exact .inr (by rw[Nat.eq_of_beq_eq_true h.1,Nat.eq_of_beq_eq_true h.2])
 ·simp only[Bool.and_eq_true] at h
  exact .inr (by rw[Nat.eq_of_beq_eq_true h.1,ZS h.2])
 ·exact .inr (by rw[Nat.eq_of_beq_eq_true h])
 ·cases h
theorem pw {α:Type}{c:Bool}{x:Option α}{y:α}(h:(bif c then x else none)=some y):c=true∧x=some y:=by
 cases c with
 |true=>exact⟨rfl,h⟩
 |false=>cases h
theorem px {M:zC}(ok:Ok M):∀{l:List CS} {cs:List zL} {d:SL l} {vs:List Value},ix l cs=some d→zQ (zZ M) cs vs→zQ (zZ M) (mE l d) vs
 |[],[],_,[],_,_=>trivial
 |.int k::l,c::cs,d,v::vs,h,hv=>by
  cases c<;>first|(cases h;done)|skip
  unfold ix at h
  obtain⟨hk,h⟩:=pw h
  split at h
  ·rename_i d' hd
   cases h
   refine⟨?_,px ok hd hv.2⟩
   rw[←oR hk];exact hv.1
  ·cases h
 |.bool::l,c::cs,d,v::vs,h,hv=>by
  cases c<;>first|(cases h;done)|skip
  unfold ix at h
  split at h
  ·rename_i d' hd
   cases h
   exact⟨hv.1,px ok hd hv.2⟩
  ·cases h
 |.dat sh t::l,c::cs,d,v::vs,h,hv=>by
  cases c<;>first|(cases h;done)|skip
  ·rename_i Dd s xs
   unfold ix at h
   obtain⟨hs,h⟩:=pw h
   split at h
   ·rename_i ys d' hx hd
    cases h
    obtain⟨e,hx⟩:=iY hx
    subst e
    subst hx
    refine⟨?_,px ok hd hv.2⟩
    have h1:qF M.H (bif Dd then M.G else M.F) (.sl s) xs (fun _=>some v):=hv.1
    cases sh with
    |true=>
     have:Dd=true:=by simpa using hs
     subst this
     exact h1
    |false=>cases Dd with
     |false=>exact h1
     |true=>exact yS ok.GF (fun _ _=>rfl) _ _ _ _ (fun _ _=>rfl) h1
   ·cases h
  ·unfold ix at h
   split at h
   ·rename_i d' hd
    cases h
    refine⟨?_,px ok hd hv.2⟩
    rw[show v=.slice none 0 0 from hv.1]
    exact⟨none,0,0,rfl,rfl,Nat.le_refl _,.inl ⟨rfl,fun _=>rfl⟩⟩
   ·cases h
 |.lit c::l,x::cs,d,v::vs,h,hv=>by
  unfold ix at h
  obtain⟨he,h⟩:=pw h
  refine⟨?_,px ok h hv.2⟩
  rcases vMk he with rfl|rfl
  ·exact hv.1.one
  ·exact hv.1
 |[],_::_,_,_,h,_=>by cases h
 |.int _::_,[],_,_,h,_=>by cases h
 |.bool::_,[],_,_,h,_=>by cases h
 |.dat _ _::_,[],_,_,h,_=>by cases h
 |.lit _::_,[],_,_,h,_=>by cases h
 |[],[],_,_::_,_,hv=>hv.elim
 |_::_,_::_,_,[],_,hv=>hv.elim
theorem vLu {M:zC}(ok:Ok M){v:VS}{a:zI}{d:SL v.cells}{rv:Value}(h:NC v a=some d)(hv:qA M a rv):qA M (ND v d) rv:=by
 cases v with
 |c x=>
  cases a with
  |c y=>
   have:=px ok (vs:=[rv]) (show ix [x] [y]=some d from h) ⟨hv,trivial⟩
   show qA M (match mE [x] d with|c::_=>.c c|[]=>.undef) rv
   match hh:mE [x] d,this with
   |[c],this=>exact this.1
  |_=>cases h
 |agg l=>
  cases a with
  |agg vs=>
   obtain⟨us,rfl,hx⟩:=hv
   exact⟨us,rfl,px ok (show ix l vs=some d from h) hx⟩
  |_=>cases h
theorem vFx {M:zC}(ok:Ok M){o:OS}{x:Obj}{d:o.den}{C:zT}(h:Hj o x=some d)(hO:yU M x C)(hv:C.ver=0):yU M (Hk o d) C∧(Hk o d).owned=x.owned:=by
 unfold Hj at h
 split at h
 ·obtain⟨he,h'⟩:=pw h
  have he:=eq_of_beq he
  subst he
  clear h
  obtain⟨B,vals,e,h1,h2,h3,h4,h5⟩:=hO
  exact⟨⟨B,vals,e,h1,h2,h3,px ok h' h4,h5⟩,rfl⟩
 ·obtain⟨B,vals,e,h1,h2,h3,h4,h5⟩:=hO
  exact⟨⟨B,vals,e,h1,h2,h3,px ok h h4,h5⟩,rfl⟩
 ·obtain⟨he,h'⟩:=pw h
  have he:=eq_of_beq he
  subst he
  clear h
  obtain⟨e,hx⟩:=iY h'
  subst e
  subst hx
  exact⟨hO,rfl⟩
 ·cases h
  exact⟨⟨hv,hO.2⟩,rfl⟩
 ·cases h
  exact⟨⟨hv,hO.2⟩,rfl⟩
 ·cases h
  exact⟨hO,rfl⟩
 ·cases h
theorem ZT {f:zI→zI}{t:Nat→zI}:∀{l:List (Nat×VS)} {d:SV l} {n:Nat} {v:zI},Hs f t l=some d→(xJ l d).lookup n=some v→∃(s:VS) (x:SL s.cells),NC s (f (t n))=some x∧v=ND s x
 |[],d,n,v,_,h=>by cases h
 |s::l,d,n,v,hr,h=>by
  unfold Hs at hr
  split at hr
  ·rename_i x ds h1 h2
   cases hr
   unfold xJ at h
   rw[List.lookup_cons] at h
   cases e:n==s.1 with
   |true=>
    rw[e] at h
    cases h
    have:n=s.1:=by simpa using e
    rw[this]
    exact⟨s.2,x,h1,rfl⟩
   |false=>
    rw[e] at h
    exact ZT h2 h
  ·cases hr
theorem ZU {f:Obj→Obj}{h0:Hp}:∀{l:List OS} {ids:List Nat} {d:OL l},Ht f h0 l ids=some d→(mF l d).length=ids.length∧∀(i:Nat) (o:Obj),(mF l d)[i]? =some o→∃(s:OS) (x:s.den) (id:Nat) (y:Obj),ids[i]? =some id∧h0 id=some y∧Hj s (f y)=some x∧o=Hk s x
 |[],[],d,_=>⟨rfl,fun i o h=>by simp[mF] at h⟩
 |s::l,id::ids,d,h=>by
  unfold Ht at h
  split at h
  ·rename_i x ds h1 h2
   cases h
   obtain⟨y,h3,h4⟩:=Option.bind_eq_some_iff.1 h1
   obtain⟨k1,k2⟩:=ZU h2
   refine⟨by simp[mF,k1],fun i o hi=>?_⟩
   cases i with
   |zero=>
    simp only[mF,List.getElem?_cons_zero,Option.some.injEq] at hi
    exact⟨s,x,id,y,rfl,h3,h4,hi.symm⟩
   |succ i=>
    simp only[mF,List.getElem?_cons_succ] at hi
    exact k2 i o hi
  ·cases h
 |[],_::_,_,h=>by cases h
 |_::_,[],_,h=>by cases h
theorem vBh {g0 base n:Nat}{S:zF}{st:St}{d:S.den}(r:vQ na nt a0 M0 w0 st a w)(h:NJ g0 base n S st=some d):vQ na nt a0 M0 w0 (zS base S d) a w:=by
 unfold NJ at h
 split at h
 ·cases h
 rename_i st1 hg
 have r:=ZP r hg
 dsimp only at h
 generalize lz:xL st1.h n _ []=ids at h
 have dB:ids.Nodup:=by rw[←lz];exact Pc n List.nodup_nil
 split at h
 case h_2=>cases h
 rename_i da db ha hb
 cases h
 obtain⟨M,h1,h2,h3,h4,h5⟩:=r.ex
 rw[←h1] at ha hb
 obtain⟨k1,k2⟩:=M.ren_ok h3 (base:=base) dB
 obtain⟨ol,oa⟩:=ZU hb
 let M':zC:={M.ren base ids with h:=(zS base S (da,db)).h}
 have Ib:∀n o',M'.h n=some o'→∃o C,(M.ren base ids).h n=some o∧M'.κ n=some C∧yU (M.ren base ids) o' C∧o'.owned=o.owned:=fun m o' e=>by
  have e:(bif Nat.ble base m then(mF S.objs db)[m-base]? else none)=some o':=e
  obtain⟨hle,e⟩:=pw e
  obtain⟨s,x,id,y,q1,q2,q3,rfl⟩:=oa _ _ e
  obtain⟨C,hC,hO⟩:=h3.obj id y q2
  have hκ:(M.ren base ids).κ m=some {C with ver:=0}:=by
   show mT base M.κ ids m=_
   unfold mT
   rw[if_pos (Nat.le_of_ble_eq_true hle),q1]
   simp[hC]
  have hh:(M.ren base ids).h m=some (rF M.h (fun i=>(jU i ids 0).map (base+·)) y):=by
   show tP base M.h ids m=_
   unfold tP
   rw[hle,q1]
   simp[q2]
  obtain⟨p1,p2⟩:=vFx k1 q3 (ZR h3 hO) rfl
  exact⟨_,_,hh,hκ,p1,p2⟩
 have x:yW (M.ren base ids) M':=⟨fun _ C h=>⟨C,h,C.le_refl⟩,fun _ h=>h,fun _ h=>h,fun _ _=>rfl,fun _ _=>rfl,fun _ _=>rfl⟩
 have aM:∀b,qU M' b→qU (M.ren base ids) b:=fun b ⟨id,o',C,q1,q2,q3,q4⟩=>by
  obtain⟨o,D,p1,p2,p3,p4⟩:=Ib id o' q1
  exact⟨id,o,C,p1,by rw[←p4];exact q2,q3,q4⟩
 have iB:Ok M':=by
  refine⟨fun id o' q=>?_,fun id q=>?_,fun i j oi oj Ci Cj b jq q1 q2 q3 q4 q5 q6 q7 q8=>?_,fun b hb=>k1.own b (aM b hb),k1.GF,k1.Flt⟩
  ·obtain⟨o,C,p1,p2,p3,p4⟩:=Ib id o' q
   exact⟨C,p2,p3.ext x fun _ _ _=>rfl⟩
  ·have q:(bif Nat.ble base id then(mF S.objs db)[id-base]? else none)=none:=q
   show mT base M.κ ids id=none
   unfold mT
   cases hle:Nat.ble base id with
   |false=>rw[if_neg fun h=>by rw[Nat.ble_eq_true_of_le h] at hle;cases hle]
   |true=>
    rw[hle] at q
    have q:(mF S.objs db)[id-base]? =none:=q
    rw[List.getElem?_eq_none_iff,ol] at q
    rw[List.getElem?_eq_none q]
    split<;>rfl
  ·obtain⟨o1,C1,p1,p2,p3,p4⟩:=Ib i oi q1
   obtain⟨o2,C2,p5,p6,p7,p8⟩:=Ib j oj q2
   exact k1.disj i j o1 o2 Ci Cj b jq p1 p5 (by rw[←p4];exact q3) (by rw[←p8];exact q4) q5 q6 q7 q8
 refine⟨⟨M',rfl,h2,iB,h4.trans (.same_mem rfl rfl rfl fun b hb=>k2 b (aM b hb)),fun m=>?_⟩,r.defers,r.size,r.os,r.tape,r.output,r.keep⟩
 show qA M' (match(xJ S.slots da).lookup m with|some v=>v|none=>.undef) _
 cases hl:(xJ S.slots da).lookup m with
 |none=>trivial
 |some v=>
  obtain⟨s,y,q1,rfl⟩:=ZT ha hl
  exact(vLu k1 q1 (vM2 h3 (h5 m))).ext x
theorem Ic {pre:Nat}{S:zF}{st:St}{d:S.den}(r:vQ na nt a0 M0 w0 st a w)(h:xM pre S st=some d):vQ na nt a0 M0 w0 (zS (pre+gu) S d) a w:=vBh r h
end
def Ex.toExit:Ex→Exit
 |.normal=>.normal
 |.ret=>.ret
 |.exit id=>.exit id
theorem vA6 {P:Program}{Q:Exit→Act→World→Prop}{c:Code}(I:Nat→Act→World→Prop)(round:∀n a w,I n a w→c.wp P (Exit.then (fun a' w'=>∃m,m<n∧I m a' w') Q) a w){n:Nat}{a:Act}{w:World}(h₀:I n a w):(Code.loop c).wp P Q a w:=by
 intro b k cs
 have key:∀n a w,I n a w→∃e a' w',Q e a' w'∧Arrives P (lone (b.at a (.code c::.inLoop c::k)) cs w) b k cs e a' w':=by
  intro n
  induction n using Nat.strongRecOn with
  |_ n ih=>
   intro a w hI
   obtain⟨e,a₁,w₁,hq,iH⟩:=round n a w hI b (.inLoop c::k) cs
   cases e with
   |normal=>
    obtain⟨m,hm,hI₁⟩:=hq
    obtain⟨e₂,a₂,w₂,hq₂,harr₂⟩:=ih m hm a₁ w₁ hI₁
    exact⟨e₂,a₂,w₂,hq₂,.of_steps (Steps.trans iH (.one step_inLoop)) harr₂⟩
   |exit id=>exact⟨_,a₁,w₁,hq,.pass (x:=.inLoop c) rfl (fun _ _=>.inl (by simp)) iH⟩
   |goto l=>exact⟨_,a₁,w₁,hq,.pass (x:=.inLoop c) rfl (fun _ _=>.inl (by simp)) iH⟩
   |ret=>exact⟨_,a₁,w₁,hq,.pass (x:=.inLoop c) rfl (fun _ _=>.inl (by simp)) iH⟩
   |panic ch=>exact⟨_,a₁,w₁,hq,.pass (x:=.inLoop c) rfl (fun _ _=>.inl (by simp)) iH⟩
   |outgrown=>exact⟨_,a₁,w₁,hq,.pass (x:=.inLoop c) rfl (fun _ _=>.inl (by simp)) iH⟩
 obtain⟨e,a',w',hq,iH⟩:=key n a w h₀
 exact⟨e,a',w',hq,.of_steps (.one step_loop) iH⟩
def Ie (tmps:Array Value):ResultVar→Sem Value
 |.tmp t=>pure (tmps.getD t undef)
 |.cell c t=>do loadVar t (←asAddr (tmps.getD c undef))
def uA (base:Nat):(l:List (Ex×zF))→lX l→Ex×St
 |[],d=>(.normal,⟨fun _=>.undef,fun _=>none⟩)
 |[p],d=>(p.1,zS base p.2 d)
 |p::q::l,d=>match d with
  |.inl d=>(p.1,zS base p.2 d)
  |.inr d=>uA base (q::l) d
theorem ZV {R:Type}{base:Nat}{K:Ex→St→Option R}{out:R}:∀{l:List (Ex×zF)} {d:lX l},xN base l d K=some out→K (uA base l d).1 (uA base l d).2=some out
 |[],_,h=>by cases h
 |[p],_,h=>h
 |p::q::l,.inl d,h=>h
 |p::q::l,.inr d,h=>ZV (l:=q::l) h
def qD (P:Program)(pre na nt:Nat)(b:Code)(L:qE):Prop:=∀k d x,L.sum k d=some x→∀(a0:Nat→Value) (M0:zC) (w0:World) (a:Act) (w:World) (Q:Exit→Act→World→Prop),
 vQ na nt a0 M0 w0 (zS (pre+gu) L.inS d) a w→
 (∀(o:lX L.outs) a' w',(∀R K,L.elim (pre+gu) x R K=xN (pre+gu) L.outs o K)→vQ na nt a0 M0 w0 (uA (pre+gu) L.outs o).2 a' w'→Q (uA (pre+gu) L.outs o).1.toExit a' w')→
 (Code.loop b).wp P Q a w
def wX (P:Program)(A:zY)(pre na nt:Nat):Code→Prop
 |.seq a b=>wX P A pre na nt a∧wX P A pre na nt b
 |.cond _ a b=>wX P A pre na nt a∧wX P A pre na nt b
 |.block _ b=>wX P A pre na nt b
 |.loop b=>∀L,Dh A b=some L→qD P pre na nt b L
 |_=>True
theorem ZW {A:zY}{c:Operand}{b:Bool}{st:St}(h:st.ev c=.c (.bool b)):Hu A c b st=st:=by
 unfold Hu
 split
 ·rename_i s _
  have h:st.t s=.c (.bool b):=h
  rw[OZ h]
 ·rfl
section
variable {E:qB} {A:zY} {k pre na nt:Nat} {a0:Nat→Value} {R:Type} {M0:zC} {w0:World} {out:R}
theorem ZX (hE:ga E)(hS:jb E.sums)(hm:E.P.follows .mixedOrders=true):∀(c:Code),wX E.P A pre na nt c→∀(st:St) (K:Ex→St→Option R) (a:Act) (w:World) (Q:Exit→Act→World→Prop),iy E A k pre na nt c st K=some out→vQ na nt a0 M0 w0 st a w→
  (∀e bR a' w',vQ na nt a0 M0 w0 bR a' w'→K e bR=some out→Q e.toExit a' w')→c.wp E.P Q a w:=by
 intro c
 induction c with
 |skip=>exact fun _ st K a w Q h r hK=>wp_skip (hK .normal st a w r h)
 |region id ops draw=>
  intro _ st K a w Q h r hK
  cases draw with
  |true=>
   cases he:De ops with
   |false=>simp only[iy,he] at h;cases h
   |true=>
    simp only[iy,he] at h
    exact vCg hE hS hm he h r fun bR a' w' r' h'=>hK .normal bR a' w' r' h'
  |false=>
   simp only[iy] at h
   have := ZA hE (Q := Q) _ _ _ _ a w (fun p hp=>by
    obtain⟨q,hq,rfl⟩:=List.mem_map.1 hp
    have:=List.mem_zipIdx_iff_getElem?.1 hq
    simpa using this) h r fun bR a' w' r' h'=>hK .normal bR a' w' r' h'
   refine wp_region ?_
   have e:(ops.toList.zipIdx.map fun p=>(p.2,p.1)).map (·.1)=List.range ops.size:=by
    rw[List.map_map]
    have e:(Prod.fst∘fun p:Oper×Nat=>(p.2,p.1))=Prod.snd:=rfl
    have e2:((fun x:Nat×Oper=>x.1)∘fun p:Oper×Nat=>(p.2,p.1))=Prod.snd:=rfl
    rw[e2,List.zipIdx_map_snd,←List.range_eq_range']
    simp
   rw[e] at this
   exact this
 |seq x y Pf Pg=>
  intro hL st K a w Q h r hK
  simp only[iy] at h
  refine wp_seq (Pf hL.1 st _ a w _ h r fun e bR a' w' r' h'=>?_)
  cases e with
  |normal=>exact Pg hL.2 bR K a' w' Q h' r' hK
  |ret=>exact hK .ret bR a' w' r' h'
  |exit id=>exact hK (.exit id) bR a' w' r' h'
 |cond c x y Pf Pg=>
  intro hL st K a w Q h r hK
  simp only[iy] at h
  split at h
  ·rename_i t ht
   obtain⟨M,_,_,_,_,hv⟩:=r.ex
   have hc:=Zw hv c
   rw[ht] at hc
   refine wp_cond (t:=t) hc ?_
   cases t with
   |true=>
    rw[ZW ht,cond_true] at h
    exact Pf hL.1 st K a w Q h r hK
   |false=>
    rw[ZW ht,cond_false] at h
    exact Pg hL.2 st K a w Q h r hK
  ·cases h
 |block id b ih=>
  intro hL st K a w Q h r hK
  simp only[iy] at h
  refine wp_block (ih hL st _ a w _ h r fun e bR a' w' r' h'=>?_)
  cases e with
  |normal=>exact hK .normal bR a' w' r' h'
  |ret=>exact hK .ret bR a' w' r' h'
  |exit i=>
   show if i=id then Q .normal a' w' else Q (.exit i) a' w'
   dsimp only at h'
   cases e:Nat.beq i id with
   |true=>
    rw[e] at h'
    rw[if_pos (by simpa using e)]
    exact hK .normal bR a' w' r' h'
   |false=>
    rw[e] at h'
    rw[if_neg (fun e'=>by subst e';simp at e)]
    exact hK (.exit i) bR a' w' r' h'
 |loop b ih=>
  intro hL st K a w Q h r hK
  simp only[iy] at h
  split at h
  ·cases h
  ·rename_i L hN
   split at h
   ·cases h
   ·rename_i d hd
    obtain⟨x,hx,h⟩:=Option.bind_eq_some_iff.1 h
    exact hL L hN k d x hx a0 M0 w0 a w Q (Ic r hd) fun o a' w' ho r'=>hK _ _ a' w' r' (ZV (by rw[←ho];exact h))
 |exit id=>exact fun _ st K a w Q h r hK=>wp_exit (hK (.exit id) st a w r h)
 |ret=>exact fun _ st K a w Q h r hK=>wp_ret (hK .ret st a w r h)
 |_=>intro _ st K a w Q h;simp only[iy] at h;cases h
theorem ZY {a b:Ex}(h:Hl a b=true):a=b:=by
 cases a<;>cases b<;>first|rfl|(cases h;done)|skip
 rw[Nat.eq_of_beq_eq_true h]
theorem ZZ {a:Act}{w:World}{st:St}{e:Ex}(r:vQ na nt a0 M0 w0 st a w):∀{l:List (Ex×zF)} {x:lX l},Dg pre l e st=some x→(uA (pre+gu) l x).1=e∧vQ na nt a0 M0 w0 (uA (pre+gu) l x).2 a w
 |[],_,h=>by cases h
 |[p],x,h=>by
  obtain⟨he,h⟩:=pw h
  exact⟨ZY he,Ic r h⟩
 |p::q::l,x,h=>by
  unfold Dg at h
  cases he:Hl p.1 e with
  |true=>
   rw[he] at h
   simp only[cond_true] at h
   split at h
   ·rename_i d hd
    cases h
    exact⟨ZY he,Ic r hd⟩
   ·cases h
  |false=>
   rw[he] at h
   simp only[cond_false] at h
   split at h
   ·rename_i d hd
    cases h
    exact ZZ r (l:=q::l) hd
   ·cases h
theorem vHo (hE:ga E)(hS:jb E.sums)(hm:E.P.follows .mixedOrders=true){b:Code}{inS:zF}{outs:List (Ex×zF)}(hL:wX E.P A pre na nt b){X:Type}(ky:lX outs→X)(elim:Nat→X→(R:Type)→(Ex→St→Option R)→Option R)(hX:∀o R K,elim (pre+gu) (ky o) R K=xN (pre+gu) outs o K)
  (rec:Nat→Nat→inS.den→Option X) (h0:∀k d,rec k 0 d=none)
  (aH:∀k n d,rec k (n+1) d=iy E A k pre na nt b (zS (pre+gu) inS d) (Yk pre inS outs ky (rec k n))):qD E.P pre na nt b ⟨inS,outs,X,fun k d=>rec k k d,elim⟩:=by
 intro k d x hx a0 M0 w0 a w Q r hQ
 refine vA6 (fun n a w=>∃d,vQ na nt a0 M0 w0 (zS (pre+gu) inS d) a w∧rec k n d=some x) (fun n a w ⟨d,r,hi⟩=>?_) ⟨d,r,hx⟩
 cases n with
 |zero=>rw[h0] at hi;cases hi
 |succ n=>
  rw[aH k n d] at hi
  refine ZX hE hS hm b hL _ _ a w _ hi r fun e bR a' w' r' h'=>?_
  have out:∀e,(match Dg pre outs e bR with|some o=>some (ky o)|none=>none)=some x→Q e.toExit a' w':=fun e h'=>by
   split at h'
   ·rename_i o ho
    cases h'
    obtain⟨h1,h2⟩:=ZZ (pre:=pre) r' ho
    have:=hQ o a' w' (fun R K=>hX o R K) h2
    rw[h1] at this
    exact this
   ·cases h'
  cases e with
  |normal=>
   have h':(match xM pre inS bR with|some d=>rec k n d|none=>none)=some x:=h'
   split at h'
   ·rename_i d' hd
    exact⟨n,Nat.lt_succ_self n,d',Ic r' hd,h'⟩
   ·cases h'
  |ret=>exact out .ret h'
  |exit id=>exact out (.exit id) h'
theorem vLc (fn:Func)(tmps:Array Value):results fn tmps=(do let vs←fn.results.mapM (Ie tmps);pure (if h:vs.size=1 then vs[0] else .tuple vs)):=rfl
theorem vGs (hE:ga E)(hS:jb E.sums)(hm:E.P.follows .mixedOrders=true){st:St}{a:Act}{w:World}{x:ResultVar}{v:zI}{M:zC}(hM:M.h=st.h)(hH:M.H=w.heap)(ok:Ok M)(ht:∀t,qA M (st.t t) (a.tmps.getD t undef))(h:rG E st x=some v):
  ∃rv,(Ie a.tmps x).run E.P w=.ok rv w∧qA M v rv:=by
 unfold rG at h
 split at h
 ·rename_i t
  cases h
  exact⟨_,rfl,ht t⟩
 ·rename_i c t
  split at h
  ·rename_i id off hc
   split at h
   ·rename_i own cells ah
    split at h
    ·rename_i vs eG
     have hv:=ht c
     rw[hc] at hv
     obtain⟨C,B,hC,hB,e⟩:=hv
     obtain⟨C',aC,hO⟩:=ok.obj id _ (by rw[hM];exact ah)
     rw[hC] at aC;cases aC
     obtain⟨B',iA,aF⟩:=Yq hO
     rw[hB] at iA;cases iA
     obtain⟨rv2,ly,dp⟩:∃rv,(loadVar t ⟨B,0+off,none⟩).run E.P w=.ok rv w∧qA M v rv:=Yp ok hH aF eG h
     refine⟨rv2,?_,dp⟩
     simp only[Nat.zero_add] at ly
     unfold Ie
     dsimp only
     rw[e]
     simp[asAddr,ly]
    ·cases h
   ·cases h
  ·cases h
theorem vJd {M:zC}{v:zI}{p:Bool×List zL}{rv:Value}(h:xP v=some p)(hv:qA M v rv):o0 M p rv:=by
 unfold xP at h
 split at h
 ·cases h;exact hv
 ·cases h;exact hv
 ·cases h
theorem Z0 {M:zC}:∀{vs:List zI} {xs:List (Bool×List zL)} {rs:List Value},zQ (fun a b=>xP a=some b) vs xs→zQ (qA M) vs rs→zQ (o0 M) xs rs
 |[],[],[],_,_=>trivial
 |_::_,_::_,_::_,h,k=>⟨vJd h.1 k.1,Z0 h.2 k.2⟩
 |[],[],_::_,_,k=>k.elim
 |[],_::_,_,h,_=>h.elim
 |_::_,[],_,h,_=>h.elim
 |_::_,_::_,[],_,k=>k.elim
theorem Z1 {st:St}:∀(l:List ResultVar) (xs:List (Bool×List zL)),l.mapM (fun r=>(rG E st r).bind xP)=some xs→∃vs,l.mapM (rG E st)=some vs∧vs.mapM xP=some xs
 |[],xs,h=>by simp at h;subst h;exact⟨[],rfl,rfl⟩
 |x::l,xs,h=>by
  simp only[List.mapM_cons,Option.bind_eq_bind,Option.bind_eq_some_iff] at h
  obtain⟨p,⟨v,h1,h2⟩,ps,h3,h4⟩:=h
  cases h4
  obtain⟨vs,k1,k2⟩:=Z1 l ps h3
  exact⟨v::vs,by simp[List.mapM_cons,h1,k1],by simp[List.mapM_cons,h2,k2]⟩
theorem vPi (hE:ga E)(hS:jb E.sums)(hm:E.P.follows .mixedOrders=true){fn:Func}{st:St}{a:Act}{w:World}{v:zI}{M:zC}(hM:M.h=st.h)(hH:M.H=w.heap)(ok:Ok M)(ht:∀t,qA M (st.t t) (a.tmps.getD t undef))(h:Hv E fn st=some v):
  ∃rv,(results fn a.tmps).run E.P w=.ok rv w∧qA M v rv:=by
 have one:=fun x v=>vGs hE hS hm (x:=x) (v:=v) hM hH ok ht
 have key:∀(l:List ResultVar) (vs:List zI),l.mapM (rG E st)=some vs→∃rs:List Value,(l.mapM (Ie a.tmps)).run E.P w=.ok rs w∧zQ (qA M) vs rs:=by
  intro l
  induction l with
  |nil=>exact fun vs h=>by simp at h;subst h;exact⟨[],rfl,trivial⟩
  |cons x l ih=>
   intro vs h
   simp only[List.mapM_cons,Option.bind_eq_bind,Option.bind_eq_some_iff] at h
   obtain⟨v,h1,Ob,h2,h3⟩:=h
   cases h3
   obtain⟨rv,k1,k2⟩:=one x v h1
   obtain⟨rs,k3,k4⟩:=ih Ob h2
   refine⟨rv::rs,?_,k2,k4⟩
   rw[List.mapM_cons]
   simp only[Sem.run_bind,k1,Result.andThen_ok,k3,Sem.run_pure]
 have run:∀(vs:List zI),fn.results.toList.mapM (rG E st)=some vs→∃rs:List Value,(results fn a.tmps).run E.P w=.ok (if h:rs.length=1 then rs[0] else .tuple rs.toArray) w∧zQ (qA M) vs rs:=fun vs h=>by
  obtain⟨rs,k1,k2⟩:=key _ vs h
  refine⟨rs,?_,k2⟩
  rw[vLc,Array.mapM_eq_mapM_toList]
  simp only[Sem.run_map,Sem.run_bind,k1,Result.andThen_ok,Sem.run_pure]
  congr 1
 unfold Hv at h
 split at h
 ·rename_i hl
  cases h
  obtain⟨rs,k1,k2⟩:=run [] (by rw[hl];rfl)
  cases rs with
  |cons _ _=>exact k2.elim
  |nil=>exact⟨_,k1,#[],rfl,trivial⟩
 ·rename_i x hl
  obtain⟨rs,k1,k2⟩:=run [v] (by rw[hl];simp[h])
  match rs,k2 with
  |[r],k2=>exact⟨_,k1,k2.1⟩
 ·rename_i h0 h1
  split at h
  ·rename_i xs OR
   cases h
   obtain⟨vs,k1,k2⟩:=Z1 _ _ OR
   obtain⟨rs,r1,r2⟩:=run vs k1
   have hlen:rs.length≠1:=fun e=>by
    have e1:=r2.length
    have e2:=(DV _ _ _ k1).length
    have h3:fn.results.toList.length=1:=by omega
    match hl:fn.results.toList,h3 with
    |[x],_=>exact h1 x hl
   rw[dif_neg hlen] at r1
   exact⟨_,r1,rs.toArray,rfl,Z0 (DV _ _ _ k2) r2⟩
  ·cases h
theorem Ph (hE:ga E)(hS:jb E.sums)(hm:E.P.follows .mixedOrders=true){f:FuncId}{fn:Func}(hf:E.P.funcs[f]? =some fn)(hL:∀c,fn.body=some c→wX E.P A pre na fn.ntmps c){args:List zI}{h:Hp}{K:zI→St→Option R}(ba:kz E A k pre na fn args h K=some out){M:zC}{w:World}{vs:Array Value}(hh:M.h=h)(hH:M.H=w.heap)(ok:Ok M)
  (hv:zQ (qA M) args vs.toList):Calls E.P f vs w fun
   |.returned rv,w'=>∃(M':zC) (v:zI) (st:St),K v st=some out∧M'.h=st.h∧M'.H=w'.heap∧Ok M'∧gC M M'∧qA M' v rv∧w'.os=w.os∧w'.tape=w.tape∧w'.output=w.output∧
     (∀t,t<na→qA M' (st.t t) (vs.getD t undef))
   |_,_=>False:=by
 unfold kz at ba
 cases hb:fn.body with
 |none=>rw[hb] at ba;cases ba
 |some c=>
  rw[hb] at ba
  dsimp only at ba
  cases hle:Nat.ble args.length fn.ntmps with
  |false=>rw[hle] at ba;cases ba
  |true=>
   rw[hle] at ba
   rw[cond_true] at ba
   have hl:=hv.length
   have hle:args.length≤fn.ntmps:=Nat.le_of_ble_eq_true hle
   have dV:vs.size≤fn.ntmps:=by simp at hl;omega
   have D5:∀t,qA M (Hw args t) ((vs++Array.replicate (fn.ntmps-vs.size) undef).getD t undef):=fun t=>by
    unfold Hw
    by_cases ht:t<args.length
    ·have D6:t<vs.size:=by simp at hl;omega
     have:=hv.get t ht (by simpa using D6)
     simp only[List.getD_eq_getElem?_getD,List.getElem?_eq_getElem ht,Option.getD_some]
     simp only[Array.getD_eq_getD_getElem?,Array.getElem?_append_left D6,Array.getElem?_eq_getElem D6,Option.getD_some]
     simpa using this
    ·have D6:¬t<vs.size:=by simp at hl;omega
     simp only[List.getD_eq_getElem?_getD,List.getElem?_eq_none (Nat.not_lt.1 ht),Option.getD_none]
     show _=undef
     simp only[Array.getD_eq_getD_getElem?,Array.getElem?_append_right (Nat.not_lt.1 D6)]
     by_cases h2:t-vs.size<fn.ntmps-vs.size<;>simp[h2]
   have r:vQ na fn.ntmps (fun t=>(vs++Array.replicate (fn.ntmps-vs.size) undef).getD t undef) M w {t:=Hw args,h:=h} {tmps:=vs++Array.replicate (fn.ntmps-vs.size) undef,defers:=[]} w:=
    ⟨⟨M,hh,hH,ok,.refl M,D5⟩,rfl,by simp;omega,rfl,rfl,rfl,fun _ _=>rfl⟩
   refine calls_of_wp hf hb (ZX hE hS hm c (hL c hb) _ _ _ _ _ ba r fun e bR a' w' r' hK=>?_)
   obtain⟨M',q1,q2,q3,q4,q5⟩:=r'.ex
   have fin:∀v,Hv E fn bR=some v→K v bR=some out→a'.defers=[]∧∃rv,(results fn a'.tmps).run E.P w'=.ok rv w'∧∃(M':zC) (v:zI) (st:St),K v st=some out∧M'.h=st.h∧M'.H=w'.heap∧Ok M'∧gC M M'∧qA M' v rv∧w'.os=w.os∧w'.tape=w.tape∧w'.output=w.output∧
     (∀t,t<na→qA M' (st.t t) (vs.getD t undef)):=fun v iI hK=>by
    obtain⟨rv,k1,k2⟩:=vPi hE hS hm q1 q2 q3 q5 iI
    refine⟨r'.defers,rv,k1,M',v,bR,hK,q1,q2,q3,q4,k2,r'.os,r'.tape,r'.output,fun t ht=>?_⟩
    have:=q5 t
    rw[r'.keep t ht] at this
    have e:(vs++Array.replicate (fn.ntmps-vs.size) undef).getD t undef=vs.getD t undef:=by
     by_cases h1:t<vs.size
     ·simp[Array.getD_eq_getD_getElem?,Array.getElem?_append_left h1]
     ·simp only[Array.getD_eq_getD_getElem?,Array.getElem?_append_right (Nat.not_lt.1 h1),Array.getElem?_eq_none (Nat.not_lt.1 h1)]
      by_cases h2:t-vs.size<fn.ntmps-vs.size<;>simp[h2]
    rw[e] at this
    exact this
   cases e with
   |exit id=>cases hK
   |normal=>
    dsimp only at hK
    split at hK
    ·rename_i v iI
     exact fin v iI hK
    ·cases hK
   |ret=>
    dsimp only at hK
    split at hK
    ·rename_i v iI
     exact fin v iI hK
    ·cases hK
end
inductive PC where
 |int (k:IntKind)|bool|dat (sh:Bool) (t:Ty)|fn (f:Nat)
 |nil
abbrev PC.den:PC→Type
 |.int _=>Int|.bool=>Bool|.dat _ t=>List t.den|.fn _=>Unit|.nil=>Unit
abbrev PL:List PC→Type
 |[]=>Unit
 |p::l=>p.den×PL l
inductive AS where
 |c (p:PC)|agg (l:List PC)|ptr (l:List PC)|fn (f:Nat) (bD:List (List PC))
def AS.cells:AS→List PC
 |.c p=>[p]
 |.agg l=>l
 |.ptr l=>l
 |.fn _ bD=>bD.flatten
abbrev AD (l:List AS):Type:=PL (l.flatMap AS.cells)
def uB (h:Hp)(t:Ty):zL→Option (List t.den)
 |.nsl=>some []
 |c=>match iW h c with
  |some ⟨s,xs⟩=>fU s t xs
  |none=>none
def py (h:Hp):(p:PC)→zL→Option p.den
 |.int k,.int j n=>bif fk j k then some n else none
 |.bool,.bool b=>some b
 |.dat false t,c=>uB h t c
 |.dat true t,.fsl true s xs=>fU s t xs
 |.dat true t,.nsl=>some []
 |.fn f,.fn g []=>bif Nat.beq f g then some () else none
 |.nil,.nsl=>some ()
 |_,_=>none
def uC (h:Hp):(l:List PC)→List zL→Option (PL l)
 |[],[]=>some ()
 |p::l,c::cs=>match py h p c,uC h l cs with
  |some d,some ds=>some (d,ds)
  |_,_=>none
 |_,_=>none
def Pj (h:Hp)(id:Nat):Option (List zL):=match h id with
 |some (.box _ cells)=>some cells
 |some (.robox cells)=>some cells
 |_=>none
def pz (h:Hp):List (List PC)→List Nat→Option (List zL)
 |[],[]=>some []
 |l::ls,id::ids=>match Pj h id,pz h ls ids with
  |some cells,some rest=>bif Nat.beq cells.length l.length then some (cells++rest) else none
  |_,_=>none
 |_,_=>none
def AS.get (h:Hp):AS→zI→Option (List zL)
 |.c _,.c x=>some [x]
 |.agg l,.agg xs=>bif Nat.beq xs.length l.length then some xs else none
 |.ptr l,.c (.ptr id 0)=>pz h [l] [id]
 |.fn f bD,.c (.fn g ids)=>bif Nat.beq f g then pz h bD ids else none
 |_,_=>none
def nZ (h:Hp):List AS→List zI→Option (List zL)
 |[],[]=>some []
 |s::l,a::as=>match s.get h a,nZ h l as with
  |some cs,some rest=>some (cs++rest)
  |_,_=>none
 |_,_=>none
def uD (h:Hp)(l:List AS)(as:List zI):Option (AD l):=match nZ h l as with
 |some cs=>uC h (l.flatMap AS.cells) cs
 |none=>none
def yk:(p:PC)→p.den→zL
 |.int k,n=>.int k n
 |.bool,b=>.bool b
 |.dat sh t,xs=>.fsl sh t xs
 |.fn f,_=>.fn f []
 |.nil,_=>.nsl
def vP:(l:List PC)→PL l→List zL
 |[],_=>[]
 |p::l,d=>yk p d.1::vP l d.2
def Ig:List (List PC)→List zL→List (List zL)
 |[],_=>[]
 |l::ls,cs=>cs.take l.length::Ig ls (cs.drop l.length)
def AS.mk (n:Nat)(cs:List zL):AS→zI
 |.c _=>match cs with|x::_=>.c x|[]=>.undef
 |.agg _=>.agg cs
 |.ptr _=>.c (.ptr n 0)
 |.fn f bD=>.c (.fn f ((List.range bD.length).map (n+·)))
def AS.boxes (cs:List zL):AS→List (List zL)
 |.ptr _=>[cs]
 |.fn _ bD=>Ig bD cs
 |_=>[]
def j0:List AS→List zL→Nat→List zI×List (List zL)
 |[],_,_=>([],[])
 |s::l,cs,n=>
  let au:=cs.take s.cells.length
  let bs:=s.boxes au
  let rest:=j0 l (cs.drop s.cells.length) (n+bs.length)
  (s.mk n au::rest.1,bs++rest.2)
def j3 (bs:List (List zL)):Hp:=fun n=>match bs[n]? with
 |some cells=>some (.robox cells)
 |none=>none
def mU (l:List AS)(d:AD l):List zI×Hp:=
 let r:=j0 l (vP (l.flatMap AS.cells) d) 0
 (r.1,j3 r.2)
inductive RC where
 |int (k:IntKind)|bool|fro (t:Ty)|own (t:Ty)|mat
 |jun
 |map
abbrev RC.den:RC→Type
 |.int _=>Int|.bool=>Bool|.fro t=>List t.den|.own t=>List t.den|.mat=>List (List Int)|.jun=>Nat|.map=>List (Int×Bool)
abbrev RL:List RC→Type
 |[]=>Unit
 |r::l=>r.den×RL l
inductive RS where
 |c (r:RC)|agg (l:List RC)|tup (l:List (Bool×List RC))
def RS.cells:RS→List RC
 |.c r=>[r]
 |.agg l=>l
 |.tup l=>l.flatMap (·.2)
def Ih:List (Bool×List RC)→List (Bool×List zL)→Option (List zL)
 |[],[]=>some []
 | (b, l) :: ls, (g, cs) :: rest => bif (bif b then g else !g && Nat.beq cs.length 1) && Nat.beq cs.length l.length then (match Ih ls rest with
   |some r=>some (cs++r)
   |none=>none) else none
 |_,_=>none
def RS.get:RS→zI→Option (List zL)
 |.c _,.c x=>some [x]
 |.agg l,.agg xs=>bif Nat.beq xs.length l.length then some xs else none
 |.tup l,.tup xs=>Ih l xs
 |_,_=>none
def Ii:List (Bool×List RC)→List zL→List (Bool×List zL)
 |[],_=>[]
 |(b,l)::ls,cs=>(b,cs.take l.length)::Ii ls (cs.drop l.length)
def RS.mk (cs:List zL):RS→zI
 |.c _=>match cs with|x::_=>.c x|[]=>.undef
 |.agg _=>.agg cs
 |.tup l=>.tup (Ii l cs)
def jY (h:Hp):List Bool→List zL→Option (List zL×qH)
 |true::l,c::cs=>match lV h c,jY h l cs with
  |some (c,u),some (cs,us)=>some (c::cs,u++us)
  |_,_=>none
 |false::l,c::cs=>match jY h l cs with
  |some (cs,us)=>some (c::cs,us)
  |none=>none
 |_,cs=>some (cs,[])
def RC.isFro:RC→Bool
 |.fro _=>true
 |_=>false
def PC.isKept:PC→Bool
 |.dat true _=>true
 |_=>false
def mV (h:Hp):(r:RC)→zL→Option r.den
 |.int k,.int j n=>bif fk j k then some n else none
 |.bool,.bool b=>some b
 |.fro t,.fsl true s xs=>fU s t xs
 |.fro t,.nsl=>some []
 |.own t,.osl id none=>match h id with
  |some (.arr true s xs)=>fU s t xs
  |_=>none
 |.own t,.osl id (some (0,n))=>match h id with
  |some (.arr true s xs)=>fU s t (xs.take n)
  |_=>none
 |.own t,.nsl=>some []
 |.mat,.osl id none=>match h id with
  |some (.mat _ xs)=>some xs
  |some (.pmat _ xs n)=>bif Nat.beq xs.length n then some xs else none
  |_=>none
 |.mat,.nsl=>some []
 |.jun,.osl id none=>match h id with
  |some (.arr true (.sl (.int .i64)) xs)=>some xs.length
  |_=>none
 |.jun,.nsl=>some 0
 |.map,.map id=>match h id with
  |some (.imap cZ)=>some cZ
  |_=>none
 |_,_=>none
def jc (h:Hp):(l:List RC)→List zL→Option (RL l)
 |[],[]=>some ()
 |r::l,c::cs=>match mV h r c,jc h l cs with
  |some d,some ds=>some (d,ds)
  |_,_=>none
 |_,_=>none
def vL:List RC→List zL→List Nat
 |.own _::l,.osl id _::cs=>id::vL l cs
 |.mat::l,.osl id _::cs=>id::vL l cs
 |.jun::l,.osl id _::cs=>id::vL l cs
 |.map::l,.map id::cs=>id::vL l cs
 |_::l,_::cs=>vL l cs
 |_,_=>[]
def D7 (h:Hp)(s:RS)(v:zI):Option (RL s.cells):=match s.get v with
 |some cs=>match jY h (s.cells.map RC.isFro) cs with
  |some (cs,u)=>bif mD (vL s.cells cs) then jc (qP h u) s.cells cs else none
  |none=>none
 |none=>none
def kH (rs:RS){X:Type}(unpack:RL rs.cells→X)(v:zI)(st:St):Option X:=match D7 st.h rs v with
 |some d=>some (unpack d)
 |none=>none
def pA (nm:Nat):(r:RC)→r.den→zL×qH
 |.int k,n=>(.int k n,[])
 |.bool,b=>(.bool b,[])
 |.fro t,xs=>(.fsl true t xs,[])
 |.own t,xs=>(.osl nm none,[(nm,.arr true t xs)])
 |.mat,xs=>(.osl nm none,[(nm,.mat 0 xs)])
 |.jun,n=>(.osl nm none,[(nm,.pmat 0 [] n)])
 |.map,cZ=>(.map nm,[(nm,.imap cZ)])
def lB (nm:Nat):(l:List RC)→RL l→List zL×qH
 |[],_=>([],[])
 |r::l,d=>
  let x:=pA nm r d.1
  let y:=lB (nm+1) l d.2
  (x.1::y.1,x.2++y.2)
def Z2 (nm:Nat)(s:RS)(d:RL s.cells):zI×qH:=
 let r:=lB nm s.cells d
 (s.mk r.1,r.2)
def se (h:Hp):Nat→Nat→Bool
 |_,0=>true
 |nm,n+1=>(match h nm with|none=>true|some _=>false)&&se h (nm+1) n
def sf (h:Hp):AS→zI→Option (zI×qH)
 |.c p,.c x=>match jY h [p.isKept] [x] with
  |some ([x],u)=>some (.c x,u)
  |_=>none
 |.agg l,.agg xs=>match jY h (l.map PC.isKept) xs with
  |some (xs,u)=>some (.agg xs,u)
  |none=>none
 |_,a=>some (a,[])
def n9 (h:Hp):List AS→List zI→Option (List zI×qH)
 |s::l,a::as=>match sf h s a,n9 h l as with
  |some (a,u),some (as,us)=>some (a::as,u++us)
  |_,_=>none
 |_,as=>some (as,[])
def mh (as:List AS)(rs:RS){X:Type}(S:AD as→Option X)(pack:X→RL rs.cells)(nm:Nat)(args:List zI)(h:Hp):yJ:=
 match n9 h as args with
 |none=>.stuck
 |some (args,u)=>match uD (qP h u) as args with
  |some d=>bif se h nm rs.cells.length&&Nat.ble rs.cells.length 100 then .call X (S d) (fun r=>((Z2 nm rs (pack r)).1,u++(Z2 nm rs (pack r)).2)) else .stuck
  |none=>.stuck
structure Lo (M Ml:zC):Prop where
 H:Ml.H=M.H
 F:Ml.F=fun b=>b<M.H.size
 G:Ml.G=M.G
theorem Pk {M M':zC}(ok:Ok M')(hH:M'.H=M.H){t:Ty}{xs:List t.den}{v:Value}(h:qF M'.H M'.G (.sl t) xs (fun _=>some v)):qF M.H (fun b=>b<M.H.size) (.sl t) xs (fun _=>some v):=by
 refine yS (fun b hb=>?_) (fun b _=>by rw[hH]) _ _ _ _ (fun _ _=>rfl) h
 have:=ok.Flt b (ok.GF b hb)
 rw[hH] at this
 exact this
theorem yZi {M:zC}(ok:Ok M){c:zL}{v:Value}{t:Ty}{xs:List t.den}(hv:zZ M c v)(h:iW M.h c=some ⟨t,xs⟩):qF M.H (fun b=>b<M.H.size) (.sl t) xs (fun _=>some v):=by
 unfold iW at h
 split at h
 ·rename_i sh s ys
  cases h
  cases sh with
  |true=>exact yS (fun b hb=>ok.Flt b (ok.GF b hb)) (fun _ _=>rfl) _ _ _ _ (fun _ _=>rfl) hv
  |false=>exact yS (fun b hb=>ok.Flt b hb) (fun _ _=>rfl) _ _ _ _ (fun _ _=>rfl) hv
 ·rename_i id r
  split at h
  ·rename_i own s ys ah
   cases h
   cases own with
   |false=>
    obtain⟨C,hC,hO⟩:=ok.obj _ _ ah
    exact Pk ok rfl (tS hC hO hv)
   |true=>
    obtain⟨M',h1,h2,h3,h4⟩:=Yu ok ah
    obtain⟨C,hC,hO⟩:=h3.obj id _ (by rw[h2];exact yQ _ _ _)
    exact Pk h3 h1 (tS hC hO (hv.ext h4.ext))
  ·rename_i ver ys ah
   cases r with
   |some p=>cases h
   |none=>
    cases h
    obtain⟨M',h1,h2,h3,h4⟩:=Yw ok ah
    obtain⟨C,hC,hO⟩:=h3.obj id _ (by rw[h2];exact yQ _ _ _)
    exact Pk h3 h1 (tS (r:=none) hC hO (hv.ext h4.ext))
  ·cases h
 ·rename_i id i ver
  split at h
  ·rename_i v' ys ah
   cases cN:Nat.beq v' ver with
   |false=>rw[cN] at h;cases h
   |true=>
    rw[cN] at h
    cases h
    have e:v'=ver:=by simpa using cN
    subst e
    obtain⟨C,hC,hO⟩:=ok.obj _ _ ah
    obtain⟨C',aC,cQ,_,aP⟩:=hv
    rw[hC] at aC;cases aC
    obtain⟨rb,rl,ja,nW⟩:=aP hO.1
    by_cases hi:i<ys.length
    ·obtain⟨B,mI,v2,k1,k2,k3,k4,k5,k6⟩:=xS hO hi
     rw[ja] at k3
     cases k3
     rw[show ys.getD i []=ys[i] by simp[List.getD,hi]]
     simp only[qF]
     cases rb with
     |none=>
      obtain⟨rfl,h0⟩:=nW
      exact⟨none,0,0,rfl,h0.symm,Nat.le_refl _,.inl ⟨List.eq_nil_of_length_eq_zero h0,fun _=>rfl⟩⟩
     |some R=>
      obtain⟨a,c,rfl,h1,h2,h3⟩:=nW
      refine⟨_,_,c,rfl,rfl,h1,?_⟩
      by_cases h0:ys[i].length=0
      ·exact .inl ⟨List.eq_nil_of_length_eq_zero h0,fun h=>by cases h⟩
      ·have ha:a=0:=by rcases h2 with h|h<;>omega
       subst ha
       refine .inr ⟨R,0,rfl,?_,fun j hj=>?_⟩
       ·have:=k6 R rfl 0 (by omega)
        unfold yF at this
        cases hR:M.H[R]? with
        |none=>rw[hR] at this;cases this
        |some x=>exact(Array.getElem?_eq_some_iff.1 hR).1
       ·simp only[qF,Ty.size,Nat.zero_add,Nat.mul_one,Nat.add_zero]
        exact k6 R rfl j hj
    ·have:C.rows[i]? =none:=List.getElem?_eq_none (by have:=hO.2.2.2.1;omega)
     rw[this] at ja;cases ja
  ·cases h
 ·cases h
theorem D8 {H:Array Go.Obj}{F:Nat→Prop}{t:Ty}:qF H F (.sl t) ([]:List t.den) (fun _=>some (.slice none 0 0)):=⟨none,0,0,rfl,rfl,Nat.le_refl _,.inl ⟨rfl,fun _=>rfl⟩⟩
theorem vJt {M:zC}(ok:Ok M){c:zL}{v:Value}{t:Ty}{xs:List t.den}(hv:zZ M c v)(h:uB M.h t c=some xs):qF M.H (fun b=>b<M.H.size) (.sl t) xs (fun _=>some v):=by
 unfold uB at h
 split at h
 ·cases h
  rw[show v=.slice none 0 0 from hv]
  exact D8
 ·split at h
  ·rename_i s ys hr
   obtain⟨e,hx⟩:=iY h
   subst e
   subst hx
   exact yZi ok hv hr
  ·cases h
def Tr (M:zC)(c c':zL):Prop:=∀v Ml,Lo M Ml→zZ M c v→zZ Ml c' v
theorem vJa {M:zC}(ok:Ok M){p:PC}{c:zL}{d:p.den}(h:py M.h p c=some d):Tr M c (yk p d):=by
 intro v Ml lo hv
 unfold py at h
 split at h
 ·rename_i k j n
  cases e:fk j k with
  |false=>rw[e] at h;cases h
  |true=>rw[e] at h;cases h;rw[←oR e];exact hv
 ·cases h;exact hv
 ·rename_i t c
  have:=vJt ok hv h
  show qF Ml.H Ml.F _ _ _
  rw[lo.H,lo.F]
  exact this
 ·rename_i t s xs
  obtain⟨e,hx⟩:=iY h
  subst e
  subst hx
  show qF Ml.H Ml.G _ _ _
  rw[lo.H,lo.G]
  exact hv
 ·cases h
  rw[show v=.slice none 0 0 from hv]
  exact D8
 ·rename_i f g
  cases e:Nat.beq f g with
  |false=>rw[e] at h;cases h
  |true=>
   have:f=g:=by simpa using e
   subst this
   obtain⟨cv,rfl,hc⟩:=hv
   refine⟨cv,rfl,?_⟩
   generalize cv.toList=l at hc
   cases l with
   |nil=>trivial
   |cons _ _=>exact hc.elim
 ·exact hv
 ·cases h
theorem Z3 {M:zC}(ok:Ok M):∀{l:List PC} {cs:List zL} {d:PL l},uC M.h l cs=some d→zQ (Tr M) cs (vP l d)
 |[],[],_,_=>trivial
 |p::l,c::cs,d,h=>by
  unfold uC at h
  split at h
  ·rename_i x xs h1 h2
   cases h
   exact⟨vJa ok h1,Z3 ok h2⟩
  ·cases h
 |[],_::_,_,h=>by cases h
 |_::_,[],_,h=>by cases h
theorem Pl {M Ml:zC}(lo:Lo M Ml):∀{cs aR:List zL} {vs:List Value},zQ (Tr M) cs aR→zQ (zZ M) cs vs→zQ (zZ Ml) aR vs
 |[],[],[],_,_=>trivial
 |_::_,_::_,_::_,h,k=>⟨h.1 _ _ lo k.1,Pl lo h.2 k.2⟩
 |[],[],_::_,_,k=>k.elim
 |[],_::_,_,h,_=>h.elim
 |_::_,[],_,h,_=>h.elim
 |_::_,_::_,[],_,k=>k.elim
def sg (M:zC)(C:zT)(cells:List zL):Prop:=∃B vals e,C.blk=some B∧C.rows=[]∧M.H[B]? =some (.cells vals e (0,0))∧zQ (zZ M) cells vals.toList
theorem vB2 {M:zC}(ok:Ok M){id:Nat}{cells:List zL}(h:Pj M.h id=some cells):∃C,M.κ id=some C∧sg M C cells:=by
 unfold Pj at h
 split at h
 ·rename_i own cs ah
  cases h
  obtain⟨C,hC,B,vals,e,h1,h2,h3,h4,_⟩:=ok.obj id _ ah
  exact⟨C,hC,B,vals,e,h1,h2,h3,h4⟩
 ·rename_i cs ah
  cases h
  obtain⟨C,hC,B,vals,e,h1,h2,h3,h4,_⟩:=ok.obj id _ ah
  exact⟨C,hC,B,vals,e,h1,h2,h3,h4⟩
 ·cases h
theorem sg.tr {M Ml:zC}(lo:Lo M Ml){C:zT}{cs aR:List zL}(h:sg M C cs)(ht:zQ (Tr M) cs aR):sg Ml C aR:=by
 obtain⟨B,vals,e,h1,h2,h3,h4⟩:=h
 exact⟨B,vals,e,h1,h2,by rw[lo.H];exact h3,Pl lo ht h4⟩
theorem Pm {M:zC}(ok:Ok M):∀{ls:List (List PC)} {ids:List Nat} {cs aR:List zL},pz M.h ls ids=some cs→zQ (Tr M) cs aR→cs.length=ls.flatten.length∧ids.length=ls.length∧
  ∃Cs:List zT,zQ (fun id C=>M.κ id=some C) ids Cs∧∀Ml,Lo M Ml→zQ (sg Ml) Cs (Ig ls aR)
 |[],[],cs,aR,h,ht=>by cases h;exact⟨rfl,rfl,[],trivial,fun _ _=>trivial⟩
 |l::ls,id::ids,cs,aR,h,ht=>by
  unfold pz at h
  split at h
  ·rename_i cells rest h1 h2
   obtain⟨hl,h⟩:cells.length=l.length∧cells++rest=cs:=by
    cases e:Nat.beq cells.length l.length with
    |false=>rw[e] at h;cases h
    |true=>rw[e] at h;cases h;exact⟨by simpa using e,rfl⟩
   subst h
   have je:=zQ.take l.length ht
   have j4:=zQ.drop l.length ht
   rw[←hl,List.take_left] at je
   rw[←hl,List.drop_left] at j4
   obtain⟨C,hC,hB⟩:=vB2 ok h1
   obtain⟨k1,k2,Cs,k3,k4⟩:=Pm ok h2 j4
   refine⟨by simp[hl,k1],by simp[k2],C::Cs,⟨hC,k3⟩,fun Ml lo=>⟨?_,?_⟩⟩
   ·rw[←hl];exact hB.tr lo je
   ·rw[←hl];exact k4 Ml lo
  ·cases h
 |[],_::_,_,_,h,_=>by cases h
 |_::_,[],_,_,h,_=>by cases h
theorem vMc {M:zC}(ok:Ok M){s:AS}{a:zI}{v:Value}{cs aR:List zL}{n:Nat}(hv:qA M a v)(h:s.get M.h a=some cs)(ht:zQ (Tr M) cs aR):
  ∃Cs:List zT,(∀Ml,Lo M Ml→zQ (sg Ml) Cs (s.boxes aR))∧(∀Ml,Lo M Ml→(∀i C,Cs[i]? =some C→Ml.κ (n+i)=some C)→qA Ml (s.mk n aR) v):=by
 unfold AS.get at h
 split at h
 ·rename_i p x
  cases h
  match aR,ht with
  |[c'],ht=>exact⟨[],fun _ _=>trivial,fun Ml lo _=>ht.1 v Ml lo hv⟩
 ·rename_i l xs
  cases e:Nat.beq xs.length l.length with
  |false=>rw[e] at h;cases h
  |true=>
   rw[e] at h
   cases h
   obtain⟨vs,rfl,hx⟩:=hv
   exact⟨[],fun _ _=>trivial,fun Ml lo _=>⟨vs,rfl,Pl lo ht hx⟩⟩
 ·rename_i l id
  have:=Pm ok h ht
  obtain⟨k1,k2,Cs,k3,k4⟩:=this
  obtain⟨C,B,hC,hB,e⟩:=hv
  have hl:aR.length=l.length:=by rw[←ht.length,k1];simp
  match Cs,k3 with
  |[C'],k3=>
   have e':C'=C:=by
    have:M.κ id=some C':=k3.1
    rw[hC] at this;exact(Option.some.inj this).symm
   subst e'
   refine⟨[C'],fun Ml lo=>?_,fun Ml lo hκ=>⟨C',B,hκ 0 C' rfl,hB,e⟩⟩
   have:=k4 Ml lo
   simp only[Ig] at this
   rw[List.take_of_length_le (by omega)] at this
   exact this
 ·rename_i f bD g ids
  cases e:Nat.beq f g with
  |false=>rw[e] at h;cases h
  |true=>
   rw[e] at h
   have Pn:f=g:=by simpa using e
   subst Pn
   obtain⟨k1,k2,Cs,k3,k4⟩:=Pm ok h ht
   refine⟨Cs,k4,fun Ml lo hκ=>?_⟩
   obtain⟨cv,rfl,hc⟩:=hv
   refine⟨cv,rfl,?_⟩
   have l1:=k3.length
   have l2:=hc.length
   refine zQ.of_get (by rw[List.length_map,List.length_range];omega) fun i h1 h2=>?_
   simp only[List.getElem_map,List.getElem_range]
   have hi:i<ids.length:=by simp at h1;omega
   have bM:i<Cs.length:=by omega
   obtain⟨C,B,q1,q2,q3⟩:=hc.get i hi h2
   have q4:=k3.get i hi bM
   have q4:M.κ ids[i]=some Cs[i]:=q4
   rw[q1] at q4
   exact⟨Cs[i],B,hκ i _ (List.getElem?_eq_getElem bM),by rw[←Option.some.inj q4];exact q2,q3⟩
 ·cases h
theorem Po {h:Hp}:∀{ls:List (List PC)} {ids:List Nat} {cs:List zL},pz h ls ids=some cs→cs.length=ls.flatten.length
 |[],[],cs,e=>by cases e;rfl
 |l::ls,id::ids,cs,e=>by
  unfold pz at e
  split at e
  ·rename_i cells rest h1 h2
   cases el:Nat.beq cells.length l.length with
   |false=>rw[el] at e;cases e
   |true=>
    rw[el] at e
    cases e
    have:cells.length=l.length:=by simpa using el
    simp[this,Po h2]
  ·cases e
 |[],_::_,_,e=>by cases e
 |_::_,[],_,e=>by cases e
theorem vBg {h:Hp}{s:AS}{a:zI}{cs:List zL}(e:s.get h a=some cs):cs.length=s.cells.length:=by
 unfold AS.get at e
 split at e
 ·cases e;rfl
 ·rename_i l xs
  cases el:Nat.beq xs.length l.length with
  |false=>rw[el] at e;cases e
  |true=>rw[el] at e;cases e;exact Nat.eq_of_beq_eq_true el
 ·rw[Po e];simp[AS.cells]
 ·rename_i f bD g ids
  cases el:Nat.beq f g with
  |false=>rw[el] at e;cases e
  |true=>rw[el] at e;exact Po e
 ·cases e
theorem Z4 {M:zC}(ok:Ok M):∀{l:List AS} {as:List zI} {vs:List Value} {cs aR:List zL} {n:Nat},zQ (qA M) as vs→nZ M.h l as=some cs→zQ (Tr M) cs aR→
  ∃Cs:List zT,(∀Ml,Lo M Ml→zQ (sg Ml) Cs (j0 l aR n).2)∧(∀Ml,Lo M Ml→(∀i C,Cs[i]? =some C→Ml.κ (n+i)=some C)→zQ (qA Ml) (j0 l aR n).1 vs)
 |[],[],[],cs,aR,n,_,_,_=>⟨[],fun _ _=>trivial,fun _ _ _=>trivial⟩
 |s::l,a::as,v::vs,cs,aR,n,hv,h,ht=>by
  unfold nZ at h
  split at h
  ·rename_i kE rest h1 h2
   cases h
   have hl:=vBg h1
   have je:=zQ.take s.cells.length ht
   have j4:=zQ.drop s.cells.length ht
   rw[←hl,List.take_left,hl] at je
   rw[←hl,List.drop_left,hl] at j4
   obtain⟨C1,k1,k2⟩:=vMc ok (n:=n) hv.1 h1 je
   obtain⟨C2,k3,k4⟩:=Z4 ok (n:=n+(s.boxes (aR.take s.cells.length)).length) hv.2 h2 j4
   refine⟨C1++C2,fun Ml lo=>(k1 Ml lo).append (k3 Ml lo),fun Ml lo hκ=>⟨k2 Ml lo fun i C hi=>hκ i C ?_,k4 Ml lo fun i C hi=>?_⟩⟩
   ·have:i<C1.length:=by
     rcases Nat.lt_or_ge i C1.length with h|h
     ·exact h
     ·rw[List.getElem?_eq_none h] at hi;cases hi
    rw[List.getElem?_append_left this];exact hi
   ·have hb:=(k1 Ml lo).length
    have:=hκ (C1.length+i) C (by rw[List.getElem?_append_right (by omega)];rw[show C1.length+i-C1.length=i by omega];exact hi)
    rw[hb,←Nat.add_assoc] at this
    exact this
  ·cases h
 |[],[],_::_,_,_,_,hv,_,_=>hv.elim
 |[],_::_,_,_,_,_,_,h,_=>by cases h
 |_::_,[],_,_,_,_,_,h,_=>by cases h
 |_::_,_::_,[],_,_,_,hv,_,_=>hv.elim
def zC.below (M:zC)(Cs:List zT)(bs:List (List zL)):zC:={κ:=fun n=>Cs[n]?,F:=fun b=>b<M.H.size,G:=M.G,h:=j3 bs,H:=M.H}
theorem zC.below_lo (M:zC)(Cs:List zT)(bs:List (List zL)):Lo M (M.below Cs bs):=⟨rfl,rfl,rfl⟩
theorem zC.below_ok {M:zC}(ok:Ok M){Cs:List zT}{bs:List (List zL)}(h:zQ (sg (M.below Cs bs)) Cs bs):Ok (M.below Cs bs)∧∀b,¬qU (M.below Cs bs) b:=by
 have hr:∀id o,(M.below Cs bs).h id=some o→∃cells,bs[id]? =some cells∧o=.robox cells:=fun id o e=>by
  have e:j3 bs id=some o:=e
  unfold j3 at e
  split at e
  ·rename_i cells hc
   cases e
   exact⟨cells,hc,rfl⟩
  ·cases e
 have uE:∀b,¬qU (M.below Cs bs) b:=fun b ⟨id,o,C,h1,h2,_,_⟩=>by
  obtain⟨cells,_,rfl⟩:=hr id o h1
  cases h2
 refine⟨⟨fun id o e=>?_,fun id e=>?_,fun i j oi oj Ci Cj b _ h1 _ h3 _ _ _ _ _=>?_,fun b hb=>absurd hb (uE b),fun b hb=>ok.Flt b (ok.GF b hb),fun b hb=>hb⟩,uE⟩
 ·obtain⟨cells,hc,rfl⟩:=hr id o e
  have aU:id<bs.length:=by
   rcases Nat.lt_or_ge id bs.length with h|h
   ·exact h
   ·rw[List.getElem?_eq_none h] at hc;cases hc
  have eQ:id<Cs.length:=by rw[h.length];exact aU
  obtain⟨B,vals,ev,q1,q2,q3,q4⟩:=h.get id eQ aU
  rw[List.getElem?_eq_getElem aU] at hc
  cases hc
  refine⟨Cs[id],List.getElem?_eq_getElem eQ,B,vals,ev,q1,q2,q3,q4,?_⟩
  exact(Array.getElem?_eq_some_iff.1 q3).1
 ·have e:j3 bs id=none:=e
  unfold j3 at e
  split at e
  ·cases e
  ·rename_i hc
   show Cs[id]? =none
   rw[List.getElem?_eq_none_iff] at hc⊢
   rw[h.length];exact hc
 ·obtain⟨cells,_,rfl⟩:=hr i oi h1
  cases h3
theorem vSq {M:zC}(ok:Ok M){l:List AS}{as:List zI}{vs:List Value}{d:AD l}(hv:zQ (qA M) as vs)(h:uD M.h l as=some d):
  ∃Ml:zC,Lo M Ml∧Ml.h=(mU l d).2∧Ok Ml∧(∀b,¬qU Ml b)∧zQ (qA Ml) (mU l d).1 vs:=by
 unfold uD at h
 split at h
 ·rename_i cs hg
  obtain⟨Cs,h1,h2⟩:=Z4 ok (n:=0) hv hg (Z3 ok h)
  have lo:=M.below_lo Cs (j0 l (vP (l.flatMap AS.cells) d) 0).2
  have:=zC.below_ok ok (h1 _ lo)
  exact⟨_,lo,rfl,this.1,this.2,h2 _ lo fun i C hi=>by rw[Nat.zero_add];exact hi⟩
 ·cases h
theorem si {h0:Hp}:∀{l:List Bool} {cs aR:List zL} {vs:List Value} {u:qH} {M:zC},Ok M→wN h0 M.h→zQ (zZ M) cs vs→jY h0 l cs=some (aR,u)→
  ∃L:zC,L.H=M.H∧L.h=qP M.h u∧Ok L∧yY M L∧zQ (zZ L) aR vs∧wN h0 L.h
 |[],cs,aR,vs,u,M,ok,hf,hc,h=>by
  cases cs<;>cases h<;>exact⟨M,rfl,rfl,ok,.refl M,hc,hf⟩
 |true::l,[],aR,vs,u,M,ok,hf,hc,h=>by cases h;exact⟨M,rfl,rfl,ok,.refl M,hc,hf⟩
 |false::l,[],aR,vs,u,M,ok,hf,hc,h=>by cases h;exact⟨M,rfl,rfl,ok,.refl M,hc,hf⟩
 |true::l,c::cs,aR,v::vs,u,M,ok,hf,hc,h=>by
  unfold jY at h
  split at h
  ·rename_i c1 u1 kE nP e1 e2
   cases h
   obtain⟨M1,h1,h2,h3,h4,h5,h6,_⟩:=Dp ok hf hc.1 e1
   obtain⟨M2,k1,k2,k3,k4,k5,k6⟩:=si h3 h6 (hc.2.mono fun _ _ h=>h.ext h4.ext) e2
   exact⟨M2,k1.trans h1,by rw[k2,h2,jt],k3,h4.trans k4,⟨h5.ext k4.ext,k5⟩,k6⟩
  ·cases h
 |false::l,c::cs,aR,v::vs,u,M,ok,hf,hc,h=>by
  unfold jY at h
  split at h
  ·rename_i kE nP e2
   cases h
   obtain⟨M2,k1,k2,k3,k4,k5,k6⟩:=si ok hf hc.2 e2
   exact⟨M2,k1,k2,k3,k4,⟨hc.1.ext k4.ext,k5⟩,k6⟩
  ·cases h
 |true::_,_::_,_,[],_,_,_,_,hc,_=>hc.elim
 |false::_,_::_,_,[],_,_,_,_,hc,_=>hc.elim
def zC.add (M:zC)(nm:Nat)(o:Obj)(C:zT):zC:={M with κ:=κset M.κ nm C,h:=yM M.h nm o}
theorem zC.add_ok {M:zC}(ok:Ok M){nm:Nat}(aT:M.h nm=none){o:Obj}{C:zT}(hO:yU (M.add nm o C) o C)(hb:∀b∈C.fp,¬qU M b∧¬M.F b∧b<M.H.size):
  Ok (M.add nm o C)∧yW M (M.add nm o C)∧(∀b,qU (M.add nm o C) b→qU M b∨b∈C.fp):=by
 have x:yW M (M.add nm o C):=⟨fun id D h=>by
  have bn:id≠nm:=fun e=>by rw[e,ok.non nm aT] at h;cases h
  exact⟨D,by show κset M.κ nm _ id=_;rw[κset_ne _ _ bn];exact h,D.le_refl⟩,fun _ h=>h,fun _ h=>h,fun _ _=>rfl,fun _ _=>rfl,fun _ _=>rfl⟩
 refine⟨Ok.build ok x (fun id=>id=nm) (fun id h=>yZ _ _ h) (fun id h=>κset_ne _ _ h) (fun _ _ _ _ _ _ _ _ _=>rfl) (fun id o' D h1 h2 h3 h4 b bJ=>(ok.own b ⟨id,o',D,h2,h3,h4,bJ⟩).1) (Nat.le_refl _)
  (fun id o' e h=>?_) (fun id e h=>?_) (fun id o' D b e h1 h2 h3 h4=>?_) ok.GF ok.Flt,x,fun b bJ=>?_⟩
 ·subst e
  have e1:(M.add id o C).h id=some o:=yQ _ _ _
  rw[e1] at h
  cases h
  exact⟨_,κset_same _ _ _,hO⟩
 ·subst e
  have e1:(M.add id o C).h id=some o:=yQ _ _ _
  rw[e1] at h;cases h
 ·subst e
  have e1:(M.add id o C).κ id=some C:=κset_same _ _ _
  rw[e1] at h3
  cases h3
  obtain⟨k1,k2,k3⟩:=hb b h4
  refine⟨fun j oj Cj hj q1 q2 q3 q4=>k1 ⟨j,oj,Cj,?_,q2,?_,q4⟩,k2,k3⟩
  ·rw[←q1];exact(yZ _ _ hj).symm
  ·rw[←q3];exact(κset_ne _ _ hj).symm
 ·obtain⟨id,o',D,h1,h2,h3,h4⟩:=bJ
  by_cases e:id=nm
  ·subst e
   have e1:(M.add id o C).κ id=some C:=κset_same _ _ _
   rw[e1] at h3
   cases h3
   exact .inr h4
  ·exact .inl ⟨id,o',D,by rw[←h1];exact(yZ _ _ e).symm,h2,by rw[←h3];exact(κset_ne _ _ e).symm,h4⟩
structure Up (L Mc:zC):Prop where
 H:Mc.H=L.H
 G:Mc.G=L.G
theorem Z5 {L Mc:zC}(up:Up L Mc){t:Ty}{xs:List t.den}{C:zT}(h:yU L (.arr true t xs) C):yU Mc (.arr true t xs) C:=by
 obtain⟨h1,h2,h3,h4⟩:=h
 refine⟨h1,h2,h3,?_⟩
 rw[up.H,up.G]
 exact h4
theorem vBp {L Mc:zC}(up:Up L Mc){ver:Nat}{xs:List (List Int)}{C:zT}(h:yU L (.mat ver xs) C):yU Mc (.mat 0 xs) {C with ver:=0}:=by
 obtain⟨h1,h2⟩:=h
 refine⟨rfl,?_⟩
 rw[up.H]
 exact h2
theorem vJl {L Mc:zC}(up:Up L Mc){ver n:Nat}{xs:List (List Int)}{C:zT}(h:yU L (.pmat ver xs n) C)(hn:xs.length=n):yU Mc (.mat 0 xs) {C with ver:=0}:=by
 obtain⟨h1,h2,h3,h4,h5,_,h6⟩:=h
 refine⟨rfl,by rw[hn];exact h2,h3,h4,h5,?_⟩
 rw[up.H]
 subst hn
 cases hB:C.blk with
 |none=>rw[hB] at h6;exact List.eq_nil_of_length_eq_zero h6
 |some B=>rw[hB] at h6;exact h6
theorem vGc {L Mc:zC}(up:Up L Mc){xs:List (List Int)}{C:zT}(h:yU L (.arr true (.sl (.int .i64)) xs) C):yU Mc (.pmat 0 [] xs.length) {C with ver:=0}:=by
 obtain⟨h1,h2,h3,h4⟩:=h
 have hr:=h3 rfl
 refine⟨rfl,h1,h2,by show C.rows.length=0;rw[hr];rfl,?_,Nat.zero_le _,?_⟩
 ·simp only[zT.fp,hr]
  cases C.blk<;>simp
 ·cases hB:C.blk with
  |none=>rw[hB] at h4;show xs.length=0;rw[h4];rfl
  |some B=>
   rw[hB] at h4
   obtain⟨vals,e,h5,_,h7,_⟩:=h4
   refine⟨vals,e,by rw[up.H];exact h5,by simpa[Ty.size] using h7,fun i hi=>by simp at hi⟩
theorem vO1 {L Mc:zC}(gD:Ok L)(ok:Ok Mc)(up:Up L Mc){nm:Nat}(aT:Mc.h nm=none){r:RC}{c:zL}{d:r.den}(h:mV L.h r c=some d)
  (hb:∀id∈vL [r] [c],∀C,L.κ id=some C→∀b∈C.fp,¬qU Mc b∧¬Mc.F b∧b<Mc.H.size):
  ∃eC:zC,eC.H=Mc.H∧eC.G=Mc.G∧eC.F=Mc.F∧eC.h=qP Mc.h (pA nm r d).2∧Ok eC∧yW Mc eC∧
   (∀b,qU eC b→qU Mc b∨∃id∈vL [r] [c],∃C,L.κ id=some C∧b∈C.fp)∧∀v,zZ L c v→zZ eC (pA nm r d).1 v:=by
 have same : (pA nm r d).2 = [] → (∀ v, zZ L c v → zZ Mc (pA nm r d).1 v) → _ := fun e hv => (⟨Mc,rfl,rfl,rfl,by rw[e];rfl,ok,.refl Mc,fun b h=>.inl h,hv⟩:
  ∃eC:zC,eC.H=Mc.H∧eC.G=Mc.G∧eC.F=Mc.F∧eC.h=qP Mc.h (pA nm r d).2∧Ok eC∧yW Mc eC∧
   (∀b,qU eC b→qU Mc b∨∃id∈vL [r] [c],∃C,L.κ id=some C∧b∈C.fp)∧∀v,zZ L c v→zZ eC (pA nm r d).1 v)
 unfold mV at h
 split at h
 ·rename_i k j n
  cases e:fk j k with
  |false=>rw[e] at h;cases h
  |true=>
   rw[e] at h
   cases h
   exact same rfl fun v hv=>by rw[←oR e];exact hv
 ·cases h
  exact same rfl fun v hv=>hv
 ·obtain⟨e,hx⟩:=iY h
  subst e
  subst hx
  refine same rfl fun v hv=>?_
  show qF Mc.H Mc.G _ _ _
  rw[up.H,up.G]
  exact hv
 ·cases h
  refine same rfl fun v hv=>?_
  rw[show v=.slice none 0 0 from hv]
  exact D8
 ·rename_i t id
  split at h
  ·rename_i s xs ah
   obtain⟨e,hx⟩:=iY h
   subst e
   subst hx
   obtain⟨C,hC,hO⟩:=gD.obj id _ ah
   obtain⟨k1,k2,k3⟩:=zC.add_ok ok aT (o:=.arr true s xs) (C:=C) (Z5 (Mc:=Mc.add nm (.arr true s xs) C) ⟨up.H,up.G⟩ hO) (hb id (by simp[vL]) C hC)
   refine⟨Mc.add nm (.arr true s xs) C,rfl,rfl,rfl,rfl,k1,k2,fun b bJ=>(k3 b bJ).imp (fun h=>h) fun h=>⟨id,by simp[vL],C,hC,h⟩,fun v hv=>?_⟩
   obtain⟨C',aC,hS⟩:=hv
   rw[hC] at aC;cases aC
   refine⟨C,κset_same _ _ _,?_⟩
   show wK Mc.H C 0 C.len v
   rw[up.H];exact hS
  ·cases h
 ·rename_i t id n
  split at h
  ·rename_i s xs ah
   obtain⟨e,hx⟩:=iY h
   subst e
   subst hx
   obtain⟨C,hC,hO⟩:=gD.obj id _ ah
   let C':zT:={C with len:=(xs.take n).length}
   have o9:yU (Mc.add nm (.arr true s (xs.take n)) C') (.arr true s (xs.take n)) C':=by
    obtain⟨q1,q2,q3,q4⟩:=Z5 (Mc:=Mc.add nm (.arr true s (xs.take n)) C') ⟨up.H,up.G⟩ hO
    refine⟨rfl,q2,q3,?_⟩
    show match C.blk with
     |none=>_
     |some B=>_
    cases hB:C.blk with
    |none=>rw[hB] at q4;show xs.take n=[];rw[q4];simp
    |some B=>
     rw[hB] at q4
     obtain⟨vals,e,r1,r2,r3,r4⟩:=q4
     have hle:(xs.take n).length≤xs.length:=by rw[List.length_take];omega
     have:=Nat.mul_le_mul_right s.size hle
     refine⟨vals,e,r1,r2,by omega,fun i hi=>?_⟩
     rw[List.getElem_take]
     exact r4 i (by omega)
   obtain⟨k1,k2,k3⟩:=zC.add_ok ok aT (o:=.arr true s (xs.take n)) (C:=C') o9 (hb id (by simp[vL]) C hC)
   refine⟨Mc.add nm (.arr true s (xs.take n)) C',rfl,rfl,rfl,rfl,k1,k2,fun b bJ=>(k3 b bJ).imp (fun h=>h) fun h=>⟨id,by simp[vL],C,hC,h⟩,fun v hv=>?_⟩
   obtain⟨C1,gA,h1,hS,_⟩:=hv
   rw[hC] at gA;cases gA
   have hl:(xs.take n).length=n:=by rw[List.length_take,←hO.1];omega
   refine⟨C',κset_same _ _ _,?_⟩
   show wK Mc.H C' 0 (xs.take n).length v
   rw[hl,up.H]
   exact hS
  ·cases h
 ·rename_i t
  cases h
  obtain⟨k1,k2,k3⟩:=Mc.nilObj_ok ok aT t false
  refine⟨Mc.nilObj nm (iG t false) (jz t false),rfl,rfl,rfl,rfl,k1,k2,fun b bJ=>.inl (k3 b bJ),fun v hv=>?_⟩
  rw[show v=.slice none 0 0 from hv]
  exact⟨_,κset_same _ _ _,none,0,rfl,rfl,rfl,rfl⟩
 ·rename_i id
  split at h
  ·rename_i ver xs ah
   cases h
   obtain⟨C,hC,hO⟩:=gD.obj id _ ah
   obtain⟨k1,k2,k3⟩:=zC.add_ok ok aT (o:=.mat 0 d) (C:={C with ver:=0}) (vBp (Mc:=Mc.add nm (.mat 0 d) {C with ver:=0}) ⟨up.H,up.G⟩ hO) (hb id (by simp[vL]) C hC)
   refine⟨Mc.add nm (.mat 0 d) {C with ver:=0},rfl,rfl,rfl,rfl,k1,k2,fun b bJ=>(k3 b bJ).imp (fun h=>h) fun h=>⟨id,by simp[vL],C,hC,h⟩,fun v hv=>?_⟩
   obtain⟨C',aC,hS⟩:=hv
   rw[hC] at aC;cases aC
   refine⟨_,κset_same _ _ _,?_⟩
   show wK Mc.H C 0 C.len v
   rw[up.H];exact hS
  ·rename_i ver xs n ah
   obtain⟨hc,h⟩:Nat.beq xs.length n=true∧some xs=some d:=by
    cases e:Nat.beq xs.length n with
    |true=>rw[e] at h;exact⟨rfl,h⟩
    |false=>rw[e] at h;cases h
   cases h
   obtain⟨C,hC,hO⟩:=gD.obj id _ ah
   obtain⟨k1,k2,k3⟩:=zC.add_ok ok aT (o:=.mat 0 d) (C:={C with ver:=0}) (vJl (Mc:=Mc.add nm (.mat 0 d) {C with ver:=0}) ⟨up.H,up.G⟩ hO (Nat.eq_of_beq_eq_true hc)) (hb id (by simp[vL]) C hC)
   refine⟨Mc.add nm (.mat 0 d) {C with ver:=0},rfl,rfl,rfl,rfl,k1,k2,fun b bJ=>(k3 b bJ).imp (fun h=>h) fun h=>⟨id,by simp[vL],C,hC,h⟩,fun v hv=>?_⟩
   obtain⟨C',aC,hS⟩:=hv
   rw[hC] at aC;cases aC
   refine⟨_,κset_same _ _ _,?_⟩
   show wK Mc.H C 0 C.len v
   rw[up.H];exact hS
  ·cases h
 ·cases h
  obtain⟨k1,k2,k3⟩:=Mc.nilObj_ok ok aT (.int .i64) true
  refine⟨Mc.nilObj nm (iG (.int .i64) true) (jz (.int .i64) true),rfl,rfl,rfl,rfl,k1,k2,fun b bJ=>.inl (k3 b bJ),fun v hv=>?_⟩
  rw[show v=.slice none 0 0 from hv]
  exact⟨_,κset_same _ _ _,none,0,rfl,rfl,rfl,rfl⟩
 ·rename_i id
  split at h
  ·rename_i xs ah
   cases h
   obtain⟨C,hC,hO⟩:=gD.obj id _ ah
   obtain⟨k1,k2,k3⟩:=zC.add_ok ok aT (o:=.pmat 0 [] xs.length) (C:={C with ver:=0}) (vGc (Mc:=Mc.add nm (.pmat 0 [] xs.length) {C with ver:=0}) ⟨up.H,up.G⟩ hO) (hb id (by simp[vL]) C hC)
   refine⟨Mc.add nm (.pmat 0 [] xs.length) {C with ver:=0},rfl,rfl,rfl,rfl,k1,k2,fun b bJ=>(k3 b bJ).imp (fun h=>h) fun h=>⟨id,by simp[vL],C,hC,h⟩,fun v hv=>?_⟩
   obtain⟨C',aC,hS⟩:=hv
   rw[hC] at aC;cases aC
   refine⟨_,κset_same _ _ _,?_⟩
   show wK Mc.H C 0 C.len v
   rw[up.H];exact hS
  ·cases h
 ·cases h
  obtain⟨k1,k2,k3⟩:=zC.add_ok ok aT (o:=.pmat 0 [] 0) (C:=⟨none,0,1,0,[]⟩) ⟨rfl,rfl,rfl,rfl,by simp[zT.fp],Nat.le_refl _,rfl⟩ (fun b hb=>by simp[zT.fp] at hb)
  refine⟨Mc.add nm (.pmat 0 [] 0) ⟨none,0,1,0,[]⟩,rfl,rfl,rfl,rfl,k1,k2,fun b bJ=>(k3 b bJ).imp (fun h=>h) fun h=>by simp[zT.fp] at h,fun v hv=>?_⟩
  rw[show v=.slice none 0 0 from hv]
  exact⟨_,κset_same _ _ _,none,0,rfl,rfl,rfl,rfl⟩
 ·rename_i id
  split at h
  ·rename_i cZ ah
   cases h
   obtain⟨C,hC,hO⟩:=gD.obj id _ ah
   have o9:yU (Mc.add nm (.imap d) C) (.imap d) C:=by
    obtain⟨B,es,ck,h1,h2,h3,h4,h5⟩:=hO
    refine⟨B,es,ck,h1,h2,?_,h4,h5⟩
    show Mc.H[B]? =_
    rw[up.H];exact h3
   obtain⟨k1,k2,k3⟩:=zC.add_ok ok aT (o:=.imap d) (C:=C) o9 (hb id (by simp[vL]) C hC)
   refine⟨Mc.add nm (.imap d) C,rfl,rfl,rfl,rfl,k1,k2,fun b bJ=>(k3 b bJ).imp (fun h=>h) fun h=>⟨id,by simp[vL],C,hC,h⟩,fun v hv=>?_⟩
   obtain⟨C',B,aC,hB,e⟩:=hv
   rw[hC] at aC;cases aC
   exact⟨C,B,κset_same _ _ _,hB,e⟩
  ·cases h
 ·cases h
theorem Ij (r:RC)(c:zL)(l:List RC)(cs:List zL):vL (r::l) (c::cs)=vL [r] [c]++vL l cs:=by
 cases r<;>cases c<;>rfl
theorem vSw {nm:Nat}{r:RC}{d:r.den}{n:Nat}(h:n≠nm)(hh:Hp):qP hh (pA nm r d).2 n=hh n:=by
 cases r<;>first|rfl|exact yZ _ _ h
theorem Pp {h:Hp}:∀{n nm:Nat},se h nm n=true→∀i,i<n→h (nm+i)=none
 |n+1,nm,e,i,hi=>by
  unfold se at e
  rw[Bool.and_eq_true] at e
  cases i with
  |zero=>
   have:=e.1
   split at this
   ·assumption
   ·cases this
  |succ i=>rw[←Pp e.2 i (by omega)];congr 1;omega
theorem Pq {L:zC}(gD:Ok L):∀{l:List RC} {cs:List zL} {d:RL l} {nm:Nat} {Mc:zC},Ok Mc→Up L Mc→(∀i,i<l.length→Mc.h (nm+i)=none)→jc L.h l cs=some d→(vL l cs).Nodup→
  (∀id∈vL l cs,∃o,L.h id=some o∧o.owned=true)→
  (∀id∈vL l cs,∀C,L.κ id=some C→∀b∈C.fp,¬qU Mc b∧¬Mc.F b∧b<Mc.H.size)→
  ∃eC:zC,eC.H=Mc.H∧eC.G=Mc.G∧eC.F=Mc.F∧eC.h=qP Mc.h (lB nm l d).2∧Ok eC∧yW Mc eC∧
   (∀b,qU eC b→qU Mc b∨∃id∈vL l cs,∃C,L.κ id=some C∧b∈C.fp)∧∀vs,zQ (zZ L) cs vs→zQ (zZ eC) (lB nm l d).1 vs
 |[],[],d,nm,Mc,ok,up,_,_,_,_,_=>⟨Mc,rfl,rfl,rfl,rfl,ok,.refl Mc,fun b h=>.inl h,fun vs h=>by
  cases vs with
  |nil=>trivial
  |cons _ _=>exact h.elim⟩
 |r::l,c::cs,d,nm,Mc,ok,up,hf,h,dB,aM,hb=>by
  unfold jc at h
  split at h
  ·rename_i x xs e1 e2
   cases h
   rw[Ij] at dB aM hb
   obtain⟨nd1,nd2,nd3⟩:=List.nodup_append.1 dB
   obtain⟨M1,a1,a2,a3,a4,a5,a6,a7,a8⟩:=vO1 gD ok up (by have:=hf 0 (by simp);simpa using this) e1 (fun id ah=>hb id (List.mem_append_left _ ah))
   have up1:Up L M1:=⟨a1.trans up.H,a2.trans up.G⟩
   obtain ⟨M2, b1, b2, b3, b4, b5, b6, b7, b8⟩ := Pq gD (nm := nm + 1) a5 up1 (fun i hi=>by
     rw[a4,vSw (by omega)]
     have:=hf (i+1) (by simp;omega)
     rw [← this]; congr 1; omega) e2 nd2 (fun id ah => aM id (List.mem_append_right _ ah)) (fun id ah C hC b yl=>by
     obtain⟨q1,q2,q3⟩:=hb id (List.mem_append_right _ ah) C hC b yl
     refine⟨fun ho=>?_,by rw[a3];exact q2,by rw[a1];exact q3⟩
     rcases a7 b ho with ho|⟨jd,cI,D,hD,Pr⟩
     ·exact q1 ho
     ·have bn:id≠jd:=fun e=>nd3 jd cI id ah e.symm
      obtain⟨o1,p1,p2⟩:=aM id (List.mem_append_right _ ah)
      obtain⟨o2,p3,p4⟩:=aM jd (List.mem_append_left _ cI)
      exact gD.disj id jd o1 o2 C D b bn p1 p3 p2 p4 hC hD yl Pr)
   refine⟨M2,b1.trans a1,b2.trans a2,b3.trans a3,?_,b5,a6.trans (by rw[a1];exact Nat.le_refl _) b6,fun b bJ=>?_,fun vs dA=>?_⟩
   ·show M2.h=qP Mc.h ((pA nm r x).2++(lB (nm+1) l xs).2)
    rw[jt,←a4];exact b4
   ·rw[Ij]
    rcases b7 b bJ with h|⟨id,ah,C,h⟩
    ·rcases a7 b h with h|⟨id,ah,C,h⟩
     ·exact .inl h
     ·exact .inr ⟨id,List.mem_append_left _ ah,C,h⟩
    ·exact .inr ⟨id,List.mem_append_right _ ah,C,h⟩
   ·cases vs with
    |nil=>exact dA.elim
    |cons v vs=>exact⟨(a8 v dA.1).ext b6,b8 vs dA.2⟩
  ·cases h
 |[],_::_,_,_,_,_,_,_,h,_,_,_=>by cases h
 |_::_,[],_,_,_,_,_,_,h,_,_,_=>by cases h
theorem vX {α:Type}{c:Bool}{x:Option α}{y:α}(h:(bif c then x else none)=some y):c=true∧x=some y:=by
 cases c with
 |true=>exact⟨rfl,h⟩
 |false=>cases h
theorem Z6 {M:zC}:∀{l:List (Bool×List RC)} {xs:List (Bool×List zL)} {cs:List zL} {vs:List Value},Ih l xs=some cs→zQ (o0 M) xs vs→
  cs.length=(l.flatMap (·.2)).length∧∃us:List Value,zQ (zZ M) cs us∧∀(M':zC) (aR:List zL),zQ (zZ M') aR us→zQ (o0 M') (Ii l aR) vs
 |[],[],cs,[],h,_=>by cases h;exact⟨rfl,[],trivial,fun _ _ _=>trivial⟩
 |(b,l)::ls,(g,kE)::rest,cs,v::vs,h,hv=>by
  unfold Ih at h
  obtain⟨hc,h⟩:=vX h
  split at h
  ·rename_i r hr
   cases h
   rw[Bool.and_eq_true] at hc
   have hl:kE.length=l.length:=by simpa using hc.2
   obtain⟨k1,us,k2,k3⟩:=Z6 hr hv.2
   refine⟨by simp[hl,k1],?_⟩
   cases b with
   |true=>
    have hg:g=true:=hc.1
    subst hg
    obtain⟨ws,rfl,hw⟩:=hv.1
    refine⟨ws.toList++us,hw.append k2,fun M' aR h'=>⟨?_,?_⟩⟩
    ·have h1:=zQ.take l.length h'
     have Ps:=hw.length
     rw[show(ws.toList++us).take l.length=ws.toList from by rw[List.take_append_of_le_length (by omega),List.take_of_length_le (by omega)]] at h1
     exact⟨ws,rfl,h1⟩
    ·have h1:=zQ.drop l.length h'
     have Ps:=hw.length
     rw[show(ws.toList++us).drop l.length=us from by rw[show l.length=ws.toList.length by omega,List.drop_left]] at h1
     exact k3 M' _ h1
   |false=>
    have hg:=hc.1
    simp only[cond_false,Bool.and_eq_true,Bool.not_eq_true'] at hg
    obtain⟨Ik,hg2⟩:=hg
    subst Ik
    have pc:kE.length=1:=by simpa using hg2
    match kE,pc with
    |[c],_=>
     have lx:zZ M c v:=hv.1
     refine⟨v::us,⟨lx,k2⟩,fun M' aR h'=>?_⟩
     match aR,h' with
     |c'::uF,h'=>
      have e:l.length=1:=by rw[←hl];rfl
      refine⟨?_,?_⟩
      ·show o0 M' (false,(c'::uF).take l.length) v
       rw[e]
       exact h'.1
      ·show zQ _ (Ii ls ((c'::uF).drop l.length)) vs
       rw[e]
       exact k3 M' uF h'.2
  ·cases h
 |[],_::_,_,_,h,_=>by cases h
 |(_,_)::_,[],_,_,h,_=>by cases h
 |[],[],_,_::_,_,hv=>hv.elim
 |_::_,_::_,_,[],_,hv=>hv.elim
theorem Z7 {M:zC}{s:RS}{v:zI}{cs:List zL}{rv:Value}(h:s.get v=some cs)(hv:qA M v rv):
  cs.length=s.cells.length∧∃us:List Value,zQ (zZ M) cs us∧∀(M':zC) (aR:List zL),zQ (zZ M') aR us→qA M' (s.mk aR) rv:=by
 unfold RS.get at h
 split at h
 ·rename_i r x
  cases h
  refine⟨rfl,[rv],⟨hv,trivial⟩,fun M' aR h'=>?_⟩
  match aR,h' with
  |[c'],h'=>exact h'.1
 ·rename_i l xs
  obtain⟨hl,h⟩:=vX h
  cases h
  obtain⟨vs,rfl,hx⟩:=hv
  exact⟨Nat.eq_of_beq_eq_true hl,vs.toList,hx,fun M' aR h'=>⟨vs,rfl,h'⟩⟩
 ·rename_i l xs
  obtain⟨vs,rfl,hx⟩:=hv
  obtain⟨k1,us,k2,k3⟩:=Z6 h hx
  exact⟨k1,us,k2,fun M' aR h'=>⟨vs,rfl,k3 M' aR h'⟩⟩
 ·cases h
theorem yYn {h0:Hp}{s:AS}{a a':zI}{v:Value}{u:qH}{M:zC}(ok:Ok M)(hf:wN h0 M.h)(hv:qA M a v)(h:sf h0 s a=some (a',u)):
  ∃L:zC,L.H=M.H∧L.h=qP M.h u∧Ok L∧yY M L∧qA L a' v∧wN h0 L.h:=by
 unfold sf at h
 split at h
 ·rename_i p x
  split at h
  ·rename_i y u1 e
   cases h
   obtain⟨L,h1,h2,h3,h4,h5,h6⟩:=si (cs:=[x]) (vs:=[v]) ok hf ⟨hv,trivial⟩ e
   exact⟨L,h1,h2,h3,h4,h5.1,h6⟩
  ·cases h
 ·rename_i l xs
  split at h
  ·rename_i ys u1 e
   cases h
   obtain⟨vs,rfl,hx⟩:=hv
   obtain⟨L,h1,h2,h3,h4,h5,h6⟩:=si ok hf hx e
   exact⟨L,h1,h2,h3,h4,⟨vs,rfl,h5⟩,h6⟩
  ·cases h
 ·cases h
  exact⟨M,rfl,rfl,ok,.refl M,hv,hf⟩
theorem sj.ext {M M':zC}(x:yW M M'):∀{as:List zI} {vs:List Value},zQ (qA M) as vs→zQ (qA M') as vs:=fun h=>h.mono fun _ _ h=>h.ext x
theorem Z8 {h0:Hp}:∀{l:List AS} {as eH:List zI} {vs:List Value} {u:qH} {M:zC},Ok M→wN h0 M.h→zQ (qA M) as vs→n9 h0 l as=some (eH,u)→
  ∃L:zC,L.H=M.H∧L.h=qP M.h u∧Ok L∧yY M L∧zQ (qA L) eH vs∧wN h0 L.h
 |s::l,a::as,eH,v::vs,u,M,ok,hf,hv,h=>by
  unfold n9 at h
  split at h
  ·rename_i a1 u1 Pt nP e1 e2
   cases h
   obtain⟨M1,h1,h2,h3,h4,h5,h6⟩:=yYn ok hf hv.1 e1
   obtain⟨M2,k1,k2,k3,k4,k5,k6⟩:=Z8 h3 h6 (sj.ext h4.ext hv.2) e2
   exact⟨M2,k1.trans h1,by rw[k2,h2,jt],k3,h4.trans k4,⟨h5.ext k4.ext,k5⟩,k6⟩
  ·cases h
 |[],as,eH,vs,u,M,ok,hf,hv,h=>by
  cases as<;>cases h<;>exact⟨M,rfl,rfl,ok,.refl M,hv,hf⟩
 |s::l,[],eH,vs,u,M,ok,hf,hv,h=>by cases h;exact⟨M,rfl,rfl,ok,.refl M,hv,hf⟩
 |_::_,_::_,_,[],_,_,_,_,hv,_=>hv.elim
def zC.over (M L:zC):zC:={κ:=M.κ,F:=fun b=>M.F b∨L.G b,G:=L.G,h:=M.h,H:=L.H}
theorem zC.over_ok {M Ml L:zC}(ok:Ok M)(gD:Ok L)(lo:Lo M Ml)(uE:∀b,¬qU Ml b)(g:gC Ml L):Ok (M.over L)∧yY M (M.over L):=by
 have aU:∀b,Ml.F b↔b<M.H.size:=fun b=>by rw[lo.F]
 have cg:∀b,b<M.H.size→L.H[b]? =M.H[b]? :=fun b hb=>by rw[g.same b ((aU b).2 hb),lo.H]
 have dV:M.H.size≤L.H.size:=by have:=g.size;rw[lo.H] at this;exact this
 have hG:∀b,L.G b→b<M.H.size→M.G b:=fun b hb hs=>by
  rcases g.Gb b hb (by rw[lo.H];exact hs) with h|h
  ·rw[lo.G] at h;exact h
  ·exact absurd h (uE b)
 have eQ:∀b,M.F b→b<M.H.size:=ok.Flt
 have x:yW M (M.over L):=⟨fun id C h=>⟨C,h,C.le_refl⟩,fun b h=>.inl h,fun b h=>g.G b (by rw[lo.G];exact h),fun b h=>cg b (ok.Flt b h),fun b h=>cg b (ok.Flt b (ok.GF b h)),fun b h=>xQ (cg b h)⟩
 have aM:∀b,qU (M.over L) b→qU M b:=fun b h=>h
 refine⟨⟨fun id o h=>?_,fun id h=>ok.non id h,ok.disj,fun b h=>⟨fun hf=>?_,?_⟩,fun b h=>.inr h,fun b h=>?_⟩,⟨x,dV,fun b hb _=>cg b hb,fun b h _=>h,fun b h hs=>.inl (hG b h hs),fun b h hs=>?_⟩⟩
 ·obtain⟨C,hC,hO⟩:=ok.obj id o h
  exact⟨C,hC,hO.ext x fun ho b hb=>cg b (ok.own b ⟨id,o,C,h,ho,hC,hb⟩).2⟩
 ·have:=ok.own b (aM b h)
  rcases hf with hf|hf
  ·exact this.1 hf
  ·exact this.1 (ok.GF b (hG b hf this.2))
 ·have h1:=(ok.own b (aM b h)).2
  show b<L.H.size
  omega
 ·show b<L.H.size
  rcases h with h|h
  ·have:=ok.Flt b h;omega
  ·exact gD.Flt b (gD.GF b h)
 ·rcases h with h|h
  ·exact .inl h
  ·exact .inl (ok.GF b (hG b h hs))
theorem yYl {h0:Hp}{r:RC}{c:zL}{d:r.den}(h:mV h0 r c=some d):∀id∈vL [r] [c],∃o,h0 id=some o∧o.owned=true:=by
 unfold mV at h
 split at h
 all_goals (try (intro id ah;simp[vL] at ah;done))
 ·rename_i t id
  intro uq ah
  have:=List.mem_singleton.1 ah
  subst this
  split at h
  ·exact⟨_,by assumption,rfl⟩
  ·cases h
 ·rename_i t id n
  intro uq ah
  have:=List.mem_singleton.1 ah
  subst this
  split at h
  ·exact⟨_,by assumption,rfl⟩
  ·cases h
 ·rename_i id
  intro uq ah
  have:=List.mem_singleton.1 ah
  subst this
  split at h
  ·exact⟨_,by assumption,rfl⟩
  ·exact⟨_,by assumption,rfl⟩
  ·cases h
 ·rename_i id
  intro uq ah
  have:=List.mem_singleton.1 ah
  subst this
  split at h
  ·exact⟨_,by assumption,rfl⟩
  ·cases h
 ·rename_i id
  intro uq ah
  have:=List.mem_singleton.1 ah
  subst this
  split at h
  ·exact⟨_,by assumption,rfl⟩
  ·cases h
 ·cases h
theorem sk {L:zC}:∀{l:List RC} {cs:List zL} {d:RL l},jc L.h l cs=some d→∀id∈vL l cs,∃o,L.h id=some o∧o.owned=true
 |[],[],_,_,id,ah=>by cases ah
 |r::l,c::cs,d,h,id,ah=>by
  unfold jc at h
  split at h
  ·rename_i x xs e1 e2
   rw[Ij] at ah
   rcases List.mem_append.1 ah with ah|ah
   ·exact yYl e1 id ah
   ·exact sk e2 id ah
  ·cases h
 |[],_::_,_,h,_,_=>by cases h
 |_::_,[],_,h,_,_=>by cases h
theorem Z9 {E:qB}(hE:ga E)(hS:jb E.sums)(hm:E.P.follows .mixedOrders=true){A:zY}{k pre na:Nat}{f:FuncId}{fn:Func}(hf:E.P.funcs[f]? =some fn)(hL:∀c,fn.body=some c→wX E.P A pre na fn.ntmps c)(dH:∀vs w,(callFunc f vs).run E.P w=.ok (.enter f vs) w)
  {as:List AS} {rs:RS} {X:Type} {S:AD as→Option X} {pack:X→RL rs.cells} {unpack:RL rs.cells→X} (gE:∀d,pack (unpack d)=d) (ba:∀d x,S d=some x→∀(Ml:zC) (vs:List Value),zQ (qA Ml) (mU as d).1 vs→∃eE,zQ (qA Ml) eE vs∧kz E A k pre na fn eE (mU as d).2 (kH rs unpack)=some x)
  {nm:Nat} {args:List zI} {h:Hp} {v:zI} {u:qH} (hy:yN (mh as rs S pack nm args h) v u):um E.P f args h v u:=by
 intro M w vs hh hH ok hv
 refine .inl ⟨dH vs w,?_⟩
 unfold mh at hy
 split at hy
 ·exact hy.elim
 rename_i eE u0 uG
 split at hy
 case h_2=>exact hy.elim
 rename_i d hd
 obtain⟨hc,hy⟩:=rV hy
 rw[Bool.and_eq_true] at hc
 obtain⟨x,hx,rfl,rfl⟩:=hy
 subst hh
 obtain⟨M1,a1,a2,a3,a4,a5,a6⟩:=Z8 ok (wN.refl _) hv uG
 rw[←a2] at hd
 obtain⟨Ml,lo,b2,b3,b4,b5⟩:=vSq a3 a5 hd
 obtain⟨aaa,uH,Pu⟩:=ba d x hx Ml _ b5
 refine Calls.mono (Ph hE hS hm hf hL Pu b2 (by rw[lo.H,a1];exact hH) b3 uH) fun e w' he=>?_
 cases e with
 |panicked _=>exact he.elim
 |outgrown=>exact he.elim
 |returned rv=>
  obtain⟨L0,v0,st,hK,c1,c2,c3,c4,c5,c6,c7,c8,_⟩:=he
  have hK:D7 st.h rs v0=some (pack x):=by
   unfold kH at hK
   split at hK
   ·rename_i d' jy
    cases hK
    rw[jy,gE]
   ·cases hK
  unfold D7 at hK
  split at hK
  case h_2=>cases hK
  rename_i cs lC
  split at hK
  case h_2=>cases hK
  rename_i aR u1 uI
  obtain⟨dB,hK⟩:=vX hK
  obtain⟨hlen,us,d1,d2⟩:=Z7 lC c5
  rw[←c1] at uI hK
  obtain⟨L,e1,e2,e3,e4,e5,e6⟩:=si c3 (wN.refl _) d1 uI
  rw[←e2] at hK
  have g:gC Ml L:=c4.trans e4.grow
  obtain⟨f1,f2⟩:=zC.over_ok a3 e3 lo b4 g
  have mW:∀i,i<rs.cells.length→(M1.over L).h (nm+i)=none:=fun i hi=>by
   have h1:=Pp hc.1 i hi
   show M1.h (nm+i)=none
   rw[a2]
   rcases a6 (nm+i) with h|⟨own,t,xs,h,_⟩|⟨ver,xs,h,_⟩
   ·rw[a2] at h;rw[h];exact h1
   ·rw[h1] at h;cases h
   ·rw[h1] at h;cases h
  obtain ⟨Mc, g1, g2, g3, g4, g5, g6, g7, g8⟩ := Pq e3 f1 ⟨rfl, rfl⟩ mW hK (yc dB) (sk hK) (fun id ah C hC b hb=>by
   obtain⟨o,ho,fZ⟩:=sk hK id ah
   have aM:qU L b:=⟨id,o,C,ho,fZ,hC,hb⟩
   have l9:¬b<M1.H.size:=fun aU=>b4 b (g.own b aM (by rw[lo.H];exact aU))
   refine⟨fun h=>l9 (a3.own b h).2,fun h=>?_,(e3.own b aM).2⟩
   rcases h with h|h
   ·exact l9 (a3.Flt b h)
   ·exact(e3.own b aM).1 (e3.GF b h))
  have Pv:yY M1 Mc:=by
   have aM:∀b,qU Mc b→b<M1.H.size→qU M1 b:=fun b hb aU=>by
    rcases g7 b hb with h|⟨id,ah,C,hC,yl⟩
    ·exact h
    ·obtain⟨o,ho,fZ⟩:=sk hK id ah
     exact absurd (g.own b ⟨id,o,C,ho,fZ,hC,yl⟩ (by rw[lo.H];exact aU)) (b4 b)
   refine⟨f2.ext.trans f2.size g6,?_,fun b hb hn=>?_,aM,fun b hb aU=>?_,fun b hb aU=>?_⟩
   ·rw[g1];exact f2.size
   ·rw[g1];exact f2.frame b hb hn
   ·rw[g2] at hb;exact f2.Gb b hb aU
   ·rw[g3] at hb;exact f2.Fb b hb aU
  refine⟨Mc,⟨c6,c7,c8,?_,?_,g5,a4.trans Pv⟩,?_⟩
  ·rw[g1];show L.H=_;rw[e1,c2]
  ·rw[jt,←a2];exact g4
  ·exact d2 Mc _ (g8 us e5)
theorem yYp {E:qB}(hE:ga E)(hS:jb E.sums)(hm:E.P.follows .mixedOrders=true){A:zY}{k pre na:Nat}{f:FuncId}{fn:Func}(hf:E.P.funcs[f]? =some fn)(hL:∀c,fn.body=some c→wX E.P A pre na fn.ntmps c)(dH:∀vs w,(callFunc f vs).run E.P w=.ok (.enter f vs) w)
  {as:List AS} {rs:RS} {X:Type} {S:AD as→Option X} {pack:X→RL rs.cells} {unpack:RL rs.cells→X} (gE:∀d,pack (unpack d)=d) (ba:∀d,kz E A k pre na fn (mU as d).1 (mU as d).2 (kH rs unpack)=S d)
  {nm:Nat} {args:List zI} {h:Hp} {v:zI} {u:qH} (hy:yN (mh as rs S pack nm args h) v u):um E.P f args h v u:=
 Z9 hE hS hm hf hL dH gE (fun d x hx _ _ hv=>⟨_,hv,(ba d).trans hx⟩) hy
theorem vAo {E:qB}(hE:ga E)(hS:jb E.sums)(hm:E.P.follows .mixedOrders=true){A:zY}{k pre na:Nat}{f:FuncId}{fn:Func}(hf:E.P.funcs[f]? =some fn)(hL:∀c,fn.body=some c→wX E.P A pre na fn.ntmps c)(dH:∀vs w,(callFunc f vs).run E.P w=.ok (.enter f vs) w)
  {sh:Bool} {t:Ty} {rs:RS} {X:Type} {S:List t.den→Option X} {pack:X→RL rs.cells} {unpack:RL rs.cells→X} (gE:∀d,pack (unpack d)=d) (cf:∀x,S []=some x→kz E A k pre na fn [.c .nsl] (j3 []) (kH rs unpack)=some x)
  (ba:∀xs x,S xs=some x→kz E A k pre na fn [.c (.nfl sh t xs)] (j3 []) (kH rs unpack)=some x)
  {nm:Nat} {args:List zI} {h:Hp} {v:zI} {u:qH} (hy:yN (mh [.c (.dat sh t)] rs (fun d=>S d.1) pack nm args h) v u):um E.P f args h v u:=
 Z9 hE hS hm hf hL dH gE (fun d x hx Ml vs hv=>by
  obtain⟨xs,_⟩:=d
  match vs,hv with
  |[v],hv=>
   have lx:qF Ml.H (bif sh then Ml.G else Ml.F) (.sl t) xs (fun _=>some v):=hv.1
   have mK:=lx
   simp only[qF,Option.some.injEq] at lx
   obtain⟨A',n,c,rfl,hn,hc,h⟩:=lx
   cases A' with
   |some a=>exact⟨[.c (.nfl sh t xs)],⟨⟨⟨a,n,c,rfl⟩,mK⟩,trivial⟩,ba xs x hx⟩
   |none=>
    rcases h with⟨rfl,h0⟩|⟨B,o,e,_⟩
    ·have h0:=h0 rfl
     subst h0
     have hn:n=0:=hn
     subst hn
     exact⟨[.c .nsl],⟨rfl,trivial⟩,cf x hx⟩
    ·cases e) hy
def yJ.orElse:yJ→yJ→yJ
 |.alts [],b=>b
 |a,_=>a
abbrev zH:=Nat→Nat→List zI→Hp→yJ
def qJ:List (Nat×zH)→Hh
 |[],_,_,_,_,_=>.stuck
 |(g,e)::l,k,nm,f,args,h=>bif Nat.beq g f then(e k nm args h).orElse (qJ l k nm f args h) else qJ l k nm f args h
def yUd (P:Program)(r:Nat×zH):Prop:=∀k nm args h v u,yN (r.2 k nm args h) v u→um P r.1 args h v u
def Il (e:zH):Prop:=∀k nm (args:List zI) h h',(args.any vK=false→∀id,(id∈args.flatMap yP∨lY nm id=true)→h id=h' id)→(args.any vK=true→h=h')→e k nm args h=e k nm args h'
theorem vGh {a b:yJ}{v:zI}{u:qH}(h:yN (a.orElse b) v u):yN a v u∨yN b v u:=by
 unfold yJ.orElse at h
 split at h
 ·exact .inr h
 ·exact .inl h
theorem yD8 {P:Program}:∀{l:List (Nat×zH)},(∀r∈l,yUd P r)→Zm P (qJ l)
 |[],_=>fun k nm f args h v u hy=>hy.elim
 |(g,e)::l,hl=>fun k nm f args h v u hy=>by
  have ih:=yD8 (l:=l) fun r hr=>hl r (List.mem_cons_of_mem _ hr)
  unfold qJ at hy
  cases hg:Nat.beq g f with
  |false=>rw[hg] at hy;exact ih k nm f args h v u hy
  |true=>
   rw[hg] at hy
   have:g=f:=by simpa using hg
   subst this
   rcases vGh hy with hy|hy
   ·exact hl (g,e) (List.mem_cons_self ..) k nm args h v u hy
   ·exact ih k nm g args h v u hy
theorem yA1:∀{l:List (Nat×zH)},(∀r∈l,Il r.2)→jb (qJ l)
 |[],_=>fun k nm f args h h' _ _=>rfl
 |(g,e)::l,hl=>fun k nm f args h h' h1 h2=>by
  have ih:=yA1 (l:=l) (fun r hr=>hl r (List.mem_cons_of_mem _ hr)) k nm f args h h' h1 h2
  unfold qJ
  have he:e k nm args h=e k nm args h':=hl (g,e) (List.mem_cons_self ..) k nm args h h' h1 h2
  rw[ih,he]
section
variable {h h':Hp}
theorem vSa {t:Ty}{c:zL}(hh:∀id∈vD c,h id=h' id):uB h t c=uB h' t c:=by
 have e:=OX hh
 unfold uB
 cases c<;>first|rfl|simp only[e]
theorem yOv {p:PC}{c:zL}(hh:∀id∈vD c,h id=h' id):py h p c=py h' p c:=by
 have e:=fun t=>vSa (t:=t) hh
 unfold py
 cases p with
 |dat sh t=>cases sh with
  |false=>cases c<;>exact e t
  |true=>cases c<;>first|rfl|(rename_i b _ _;cases b<;>rfl)
 |fn f=>cases c<;>first|rfl|(rename_i cap;cases cap<;>rfl)
 |_=>cases c<;>rfl
theorem yF5:∀{l:List PC} {cs:List zL},(∀id∈cs.flatMap vD,h id=h' id)→uC h l cs=uC h' l cs
 |[],[],_=>rfl
 |[],_::_,_=>rfl
 |_::_,[],_=>rfl
 |p::l,c::cs,hh=>by
  simp only[List.flatMap_cons,List.mem_append] at hh
  unfold uC
  rw[yOv fun id hi=>hh id (.inl hi),yF5 fun id hi=>hh id (.inr hi)]
theorem vTi {ls:List (List PC)}:pz h ls []=pz h' ls []:=by
 cases ls<;>rfl
theorem vOa {s:AS}{a:zI}(hb:vK a=false):s.get h a=s.get h' a:=by
 unfold AS.get
 cases s with
 |c p=>cases a<;>rfl
 |agg l=>cases a<;>rfl
 |ptr l=>
  cases a with
  |c x=>cases x<;>first|rfl|(exact absurd hb (by simp[vK]))
  |_=>rfl
 |fn f bD=>
  cases a with
  |c x=>cases x with
   |fn g ids=>
    cases ids with
    |nil=>dsimp only;rw[vTi]
    |cons _ _=>exact absurd hb (by simp[vK])
   |_=>rfl
  |_=>rfl
theorem yZ4 {s:AS}{a:zI}{cs:List zL}(hb:vK a=false)(e:s.get h a=some cs):∀id∈cs.flatMap vD,id∈yP a:=by
 unfold AS.get at e
 split at e
 ·cases e;intro id ah;simp only[List.flatMap_cons,List.flatMap_nil,List.append_nil] at ah;exact ah
 ·obtain⟨_,e⟩:=vX e
  cases e;exact fun id ah=>ah
 ·exact absurd hb (by simp[vK])
 ·rename_i f bD g ids
  obtain⟨_,e⟩:=vX e
  cases ids with
  |nil=>cases bD with
   |nil=>cases e;intro id ah;simp at ah
   |cons _ _=>cases e
  |cons _ _=>exact absurd hb (by simp[vK])
 ·cases e
theorem ySe:∀{l:List AS} {as:List zI},as.any vK=false→nZ h l as=nZ h' l as
 |[],[],_=>rfl
 |[],_::_,_=>rfl
 |_::_,[],_=>rfl
 |s::l,a::as,hb=>by
  simp only[List.any_cons,Bool.or_eq_false_iff] at hb
  unfold nZ
  rw[vOa (h:=h) (h':=h') hb.1,ySe hb.2]
theorem yDa:∀{l:List AS} {as:List zI} {cs:List zL},as.any vK=false→nZ h l as=some cs→∀id∈cs.flatMap vD,id∈as.flatMap yP
 |[],[],cs,_,e=>by cases e;intro id ah;simp at ah
 |[],_::_,_,_,e=>by cases e
 |_::_,[],_,_,e=>by cases e
 |s::l,a::as,cs,hb,e=>by
  simp only[List.any_cons,Bool.or_eq_false_iff] at hb
  unfold nZ at e
  split at e
  ·rename_i c1 rest e1 e2
   cases e
   intro id ah
   rw[List.flatMap_append,List.mem_append] at ah
   rw[List.flatMap_cons,List.mem_append]
   rcases ah with ah|ah
   ·exact .inl (yZ4 hb.1 e1 id ah)
   ·exact .inr (yDa hb.2 e2 id ah)
  ·cases e
theorem vKi {l:List AS}{as:List zI}(hb:as.any vK=false)(hh:∀id∈as.flatMap yP,h id=h' id):uD h l as=uD h' l as:=by
 unfold uD
 rw[ySe (h:=h) (h':=h') hb]
 cases e:nZ h' l as with
 |none=>rfl
 |some cs=>exact yF5 fun id ah=>hh id (yDa hb e id ah)
theorem ym {x:zL}:[x].flatMap vD=yP (.c x):=by simp[yP]
theorem Pw {c c':zL}{u:qH}(e:lV h c=some (c',u)):(∀id∈vD c',id∈vD c)∧(vK (.c c')=true→vK (.c c)=true):=by
 cases c with
 |osl id r=>
  unfold lV at e
  dsimp only at e
  split at e
  ·cases e;exact⟨fun id ah=>(by cases ah),fun hb=>(by cases hb)⟩
  ·cases r with
   |none=>cases e;exact⟨fun id ah=>(by cases ah),fun hb=>(by cases hb)⟩
   |some _=>cases e
  ·cases e
 |mrow _ _ _=>cases e
 |_=>cases e;exact⟨fun _ h=>h,fun h=>h⟩
theorem yn:∀{l:List Bool} {cs:List zL},(∀id∈cs.flatMap vD,h id=h' id)→jY h l cs=jY h' l cs
 |[],cs,_=>by cases cs<;>rfl
 |true::l,[],_=>rfl
 |false::l,[],_=>rfl
 |true::l,c::cs,hh=>by
  simp only[List.flatMap_cons,List.mem_append] at hh
  unfold jY
  rw[Zs fun id hi=>hh id (.inl hi),yn fun id hi=>hh id (.inr hi)]
 |false::l,c::cs,hh=>by
  simp only[List.flatMap_cons,List.mem_append] at hh
  unfold jY
  rw[yn fun id hi=>hh id (.inr hi)]
theorem yo:∀{l:List Bool} {cs aR:List zL} {u:qH},jY h l cs=some (aR,u)→∀id∈aR.flatMap vD,id∈cs.flatMap vD
 |[],cs,aR,u,e=>by cases cs<;>cases e<;>exact fun _ h=>h
 |true::l,[],aR,u,e=>by cases e;exact fun _ h=>h
 |false::l,[],aR,u,e=>by cases e;exact fun _ h=>h
 |true::l,c::cs,aR,u,e=>by
  unfold jY at e
  split at e
  ·rename_i c1 u1 kE nP e1 e2
   cases e
   intro id ah
   rw[List.flatMap_cons,List.mem_append] at ah⊢
   exact ah.imp ((Pw e1).1 id) (yo e2 id)
  ·cases e
 |false::l,c::cs,aR,u,e=>by
  unfold jY at e
  split at e
  ·rename_i kE nP e2
   cases e
   intro id ah
   rw[List.flatMap_cons,List.mem_append] at ah⊢
   exact ah.imp (fun h=>h) (yo e2 id)
  ·cases e
theorem vDh {s:AS}{a:zI}(hh:∀id∈yP a,h id=h' id):sf h s a=sf h' s a:=by
 unfold sf
 cases s with
 |c p=>cases a with
  |c x=>
   have:=yn (h:=h) (h':=h') (l:=[p.isKept]) (cs:=[x]) (by rw[ym];exact hh)
   simp only[this]
  |_=>rfl
 |agg l=>cases a with
  |agg xs=>
   have:=yn (h:=h) (h':=h') (l:=l.map PC.isKept) (cs:=xs) hh
   simp only[this]
  |_=>rfl
 |_=>rfl
theorem vK0 {s:AS}{a a':zI}{u:qH}(e:sf h s a=some (a',u)):(∀id∈yP a',id∈yP a)∧(vK a=false→vK a'=false):=by
 unfold sf at e
 split at e
 ·rename_i p x
  split at e
  ·rename_i y u1 e1
   cases e
   refine⟨fun id ah=>by have:=yo e1 id (by rw[ym];exact ah);rwa [ym] at this,fun hb=>?_⟩
   cases hk:p.isKept with
   |false=>rw[hk] at e1;cases e1;exact hb
   |true=>
    rw[hk] at e1
    unfold jY at e1
    split at e1
    ·rename_i c1 u2 kE nP e2 e3
     cases e3
     cases e1
     cases hy:vK (.c y) with
     |false=>rfl
     |true=>rw[(Pw e2).2 hy] at hb;cases hb
    ·cases e1
  ·cases e
 ·rename_i l xs
  split at e
  ·rename_i ys u1 e1
   cases e
   exact⟨yo e1,fun _=>rfl⟩
  ·cases e
 ·cases e;exact⟨fun _ h=>h,fun h=>h⟩
theorem ySr:∀{l:List AS} {as:List zI},(∀id∈as.flatMap yP,h id=h' id)→n9 h l as=n9 h' l as
 |[],as,_=>by cases as<;>rfl
 |_::_,[],_=>rfl
 |s::l,a::as,hh=>by
  simp only[List.flatMap_cons,List.mem_append] at hh
  unfold n9
  rw[vDh fun id hi=>hh id (.inl hi),ySr fun id hi=>hh id (.inr hi)]
theorem yT4:∀{l:List AS} {as eH:List zI} {u:qH},n9 h l as=some (eH,u)→(∀id∈eH.flatMap yP,id∈as.flatMap yP)∧(as.any vK=false→eH.any vK=false)
 |[],as,eH,u,e=>by cases as<;>cases e<;>exact⟨fun _ h=>h,fun h=>h⟩
 |s::l,[],eH,u,e=>by cases e;exact⟨fun _ h=>h,fun h=>h⟩
 |s::l,a::as,eH,u,e=>by
  unfold n9 at e
  split at e
  ·rename_i a1 u1 Pt nP e1 e2
   cases e
   obtain⟨k1,k2⟩:=vK0 e1
   obtain⟨k3,k4⟩:=yT4 e2
   refine⟨fun id ah=>?_,fun hb=>?_⟩
   ·rw[List.flatMap_cons,List.mem_append] at ah⊢
    exact ah.imp (k1 id) (k3 id)
   ·simp only[List.any_cons,Bool.or_eq_false_iff] at hb⊢
    exact⟨k2 hb.1,k4 hb.2⟩
  ·cases e
theorem Px:∀{n nm:Nat},(∀i,i<n→h (nm+i)=h' (nm+i))→se h nm n=se h' nm n
 |0,_,_=>rfl
 |n+1,nm,hh=>by
  unfold se
  have:=hh 0 (by omega)
  rw[Nat.add_zero] at this
  rw[this,Px fun i hi=>by have:=hh (i+1) (by omega);rw[show nm+(i+1)=nm+1+i by omega] at this;exact this]
end
theorem yNh {as:List AS}{rs:RS}{X:Type}{S:Nat→AD as→Option X}{pack:X→RL rs.cells}:Il fun k nm args h=>mh as rs (S k) pack nm args h:=by
 intro k nm args h h' h1 h2
 cases hb:args.any vK with
 |true=>rw[h2 hb]
 |false=>
  have hh:=h1 hb
  show mh as rs (S k) pack nm args h=mh as rs (S k) pack nm args h'
  unfold mh
  rw[ySr (h:=h) (h':=h') fun id ah=>hh id (.inl ah)]
  cases e:n9 h' as args with
  |none=>rfl
  |some p=>
   obtain⟨eE,u⟩:=p
   obtain⟨k1,k2⟩:=yT4 e
   dsimp only
   rw[vKi (h:=qP h u) (h':=qP h' u) (k2 hb) fun id ah=>ux (hh id (.inl (k1 id ah)))]
   cases uD (qP h' u) as eE with
   |none=>rfl
   |some d=>
    dsimp only
    cases hle:Nat.ble rs.cells.length 100 with
    |false=>simp
    |true=>
     have hle:=Nat.le_of_ble_eq_true hle
     rw [Px (h := h) (h' := h') fun i hi => hh _ (.inr (by
      simp only[lY,Bool.and_eq_true]
      exact⟨Nat.ble_eq_true_of_le (by omega),by simp[Nat.blt_eq];omega⟩))]
def mi:Code→List Code
 |.seq a b=>mi a++mi b
 |.cond _ a b=>mi a++mi b
 |.block _ b=>mi b
 |.loop b=>[b]
 |_=>[]
def zX (c:Code)(i:Nat):Code:=match(mi c)[i]? with
 |some b=>b
 |none=>.skip
def qC (fn:Func):Code:=match fn.body with
 |some c=>c
 |none=>.skip
theorem vHp {P:Program}{A:zY}{pre na nt:Nat}:∀(c:Code),(∀b∈mi c,∀L,Dh A b=some L→qD P pre na nt b L)→wX P A pre na nt c:=by
 intro c
 induction c with
 |seq a b ud ue=>exact fun h=>⟨ud fun x hx=>h x (List.mem_append_left _ hx),ue fun x hx=>h x (List.mem_append_right _ hx)⟩
 |cond t a b ud ue=>exact fun h=>⟨ud fun x hx=>h x (List.mem_append_left _ hx),ue fun x hx=>h x (List.mem_append_right _ hx)⟩
 |block id b ih=>exact fun h=>ih h
 |loop b ih=>exact fun h=>h b (List.mem_cons_self ..)
 |_=>exact fun _=>trivial
theorem oc {P:Program}{A:zY}{pre na nt:Nat}{c:Code}{n:Nat}(hn:(mi c).length=n)(h:∀i,i<n→∃L,Dh A (zX c i)=some L∧qD P pre na nt (zX c i) L):wX P A pre na nt c:=
 vHp c fun b hb L hL=>by
  obtain⟨i,hi,rfl⟩:=List.getElem_of_mem hb
  have e:zX c i=(mi c)[i]:=by
   unfold zX
   rw[List.getElem?_eq_getElem hi]
  obtain⟨L',h1,h2⟩:=h i (by omega)
  rw[e] at h1 h2
  rw[hL] at h1
  cases h1
  exact h2
theorem vPr {P:Program}{A:zY}{pre na nt:Nat}{c:Code}(hn:(mi c).length=0):wX P A pre na nt c:=oc hn fun i hi=>absurd hi (Nat.not_lt_zero i)
theorem body_loops {P:Program}{A:zY}{pre na:Nat}{fn:Func}(h:wX P A pre na fn.ntmps (qC fn)):∀c,fn.body=some c→wX P A pre na fn.ntmps c:=fun c hc=>by
 unfold qC at h
 rw[hc] at h
 exact h
theorem Im {P:Program}{f:FuncId}{fn:Func}(hf:P.funcs[f]? =some fn)(hb:fn.body.isNone=false)(hn:(fn.name== "runtime.NumGoroutine")=false):∀vs w,(callFunc f vs).run P w=.ok (.enter f vs) w:=fun vs w=>by
 have h1:(program).run P w=.ok P w:=rfl
 unfold callFunc
 simp only[Sem.run_bind,h1,Result.andThen_ok,hf,hn,hb,Bool.false_eq_true,if_false,Sem.run_pure]
abbrev zA (x:Int):Int:=IntKind.wrap .i64 x
abbrev yK (k:IntKind)(x y:Int):Int:=oU (fun _ a b=>a&&&b) k x y
abbrev fK (k:IntKind)(x y:Int):Int:=oU (fun _ a b=>a|||b) k x y
abbrev shl (k:IntKind)(x y:Int):Int:=k.wrap (x*2^(min y.toNat k.bits))
abbrev shr (k:IntKind)(x y:Int):Int:=x.fdiv (2^(min y.toNat k.bits))
abbrev zW (n b:Nat):Bool:=Nat.ble (n*b) 70368744177664&&Nat.ble n 70368744177664
abbrev pB (l c:Int)(b:Nat):Bool:=decide (0≤l)&&decide (l≤c)&&decide (c*(b:Int)≤70368744177664)&&decide (c≤70368744177664)
abbrev sm (lt:Bool)(x y:Int):Int:=bif lt then(bif decide (y<x) then y else x) else(bif decide (y>x) then y else x)
abbrev Py (xs:List (List Int))(n:Nat):Option (List (List Int)):=
 kH (.c .mat) (fun d=>d.1) (.c (.osl 0 none)) ⟨fun _=>.undef,fun _=>some (.pmat 0 xs n)⟩
theorem vSe (xs:List (List Int))(n:Nat):Py xs n=bif Nat.beq xs.length n then some xs else none:=by
 unfold Py kH D7 RS.get RS.cells
 dsimp only[List.map,RC.isFro,jY,vL,mD,qP]
 cases h:Nat.beq xs.length n<;>simp[jc,mV,h]
theorem D9 {l:List Nat}{p:Nat→Bool}(hl:∀t∈l,p t=true)(t:Nat)(h:l.any (Nat.beq t)=true):p t=true:=by
 obtain⟨x,hx,e⟩:=List.any_eq_true.1 h
 have:t=x:=by simpa using e
 exact this▸hl x hx
theorem vLk {P:Program}:Dx P (fun _=>false):=fun t h=>by cases h
open Go.ChangeShapes Go.WideShapes Go.ChangeAt Go.RowKit
def Ea (f:TypeId→Option Ty):Nat→List (Nat×TypeId)→Option Ty
 |_,[]=>none
 |off,[x]=>bif Nat.beq x.1 off then f x.2 else none
 | off, x :: y :: l => bif Nat.beq x.1 off then (match f x.2 with
  |some a=>(match Ea f (off+a.size) (y::l) with|some b=>some (.pair a b)|none=>none)
  |none=>none) else none
def uJ (P:Program):TypeDesc→List (Nat×TypeId)
 |.struct fs=>fs.toList.map fun f=>(f.offset,f.type)
 |.array n e=>(List.range n).map fun i=>(i*P.cellsOf e,e)
 |_=>[]
def mj (P:Program):Nat→TypeId→Option Ty
 |0,_=>none
 |d+1,t=>match P.underlying t with
  |some (.int k)=>bif Nat.beq (P.cellsOf t) 1 then some (.int k) else none
  |some .bool=>bif Nat.beq (P.cellsOf t) 1 then some .bool else none
  |some (.slice e)=>bif Nat.beq (P.cellsOf t) 1 then(match mj P d e with|some a=>some (.sl a)|none=>none) else none
  |some x=>match Ea (mj P d) 0 (uJ P x) with
   |some a=>bif Nat.beq (P.cellsOf t) a.size then some a else none
   |none=>none
  |none=>none
def Wf:(t:Ty)→t.den→Prop
 |.int k,n=>(Lit.int k n).wf=true
 |.bool,_=>True
 |.sl t,xs=>xs.length≤maxLen∧∀i (h:i<xs.length),Wf t xs[i]
 |.pair a b,p=>Wf a p.1∧Wf b p.2
theorem Pz {P:Program}:∀{d:Nat} {t:TypeId} {ty:Ty},mj P d t=some ty→P.cellsOf t=ty.size
 |0,_,_,h=>by cases h
 |d+1,t,ty,h=>by
  unfold mj at h
  split at h
  ·obtain⟨h1,h2⟩:=vX h;cases h2;exact Nat.eq_of_beq_eq_true h1
  ·obtain⟨h1,h2⟩:=vX h;cases h2;exact Nat.eq_of_beq_eq_true h1
  ·obtain⟨h1,h2⟩:=vX h
   split at h2
   ·cases h2;exact Nat.eq_of_beq_eq_true h1
   ·cases h2
  ·split at h
   ·obtain⟨h1,h2⟩:=vX h;cases h2;simpa using h1
   ·cases h
  ·cases h
section
variable {H:Type} {enc:TypeId×Value→H} {P:Program} {w:World}
abbrev Eb (w:World):Nat→Prop:=fun b=>b<w.heap.size
theorem vCv {a:Addr}{n:Nat}{cs:List Value}(h:w.cells? 0 a n=some cs):cs.length=n∧∀i,i<n→∃v,cs[i]? =some v∧w.cell? (a.add i)=some v:=by
 unfold World.cells? at h
 rw[if_pos (Nat.zero_le _)] at h
 have hl:=mapM_some_length h
 have hg:=mapM_some_get h
 simp at hl
 refine⟨hl,fun i hi=>?_⟩
 have:=hg i i (by simp[hi])
 have aU:i<cs.length:=by omega
 rw[List.getElem?_eq_getElem aU] at this
 exact⟨cs[i],List.getElem?_eq_getElem aU,this⟩
theorem yLa {a:Addr}{v:Value}(h:w.cell? a=some v):a.spot=none∧a.block<w.heap.size∧yF w.heap a.block a.off=some v:=by
 unfold World.cell? at h
 cases hb:w.heap[a.block]? with
 |none=>rw[hb] at h;cases h
 |some o=>
  rw[hb] at h
  cases o with
  |cells c e z=>
   dsimp only at h
   split at h
   ·cases h
   ·rename_i hs
    refine⟨by simpa using hs,?_,?_⟩
    ·exact(Array.getElem?_eq_some_iff.1 hb).1
    ·unfold yF;rw[hb];exact h
  |_=>cases h
theorem yVn {α:Type}{p:Nat→α→Prop}:∀(n:Nat),(∀i,i<n→∃x,p i x)→∃xs:List α,xs.length=n∧∀i (h:i<xs.length),p i xs[i]
 |0,_=>⟨[],rfl,fun i h=>absurd h (Nat.not_lt_zero i)⟩
 |n+1,h=>by
  obtain⟨xs,h1,h2⟩:=yVn n fun i hi=>h i (by omega)
  obtain⟨x,hx⟩:=h n (by omega)
  refine⟨xs++[x],by simp[h1],fun i hi=>?_⟩
  by_cases dj:i<xs.length
  ·rw[List.getElem_append_left dj];exact h2 i dj
  ·have:i=n:=by simp at hi;omega
   subst this
   rw[List.getElem_append_right (by omega)]
   simp[h1]
   exact hx
def Io (P:Program)(w:World)(ty:Ty)(cs:List Value):Prop:=∃x:ty.den,cs.length=ty.size∧qF w.heap (Eb w) ty x (fun j=>cs[j]?)∧Wf ty x
theorem yLk {d:Nat}{fuel:Nat}(ih:∀(t:TypeId) (ty:Ty) (cs:List Value) (x:DataW H×List MemPlace),mj P d t=some ty→DataW.trod enc P w 0 (fun _=>true) true fuel t cs=some x→Io P w ty cs):
  ∀(l:List (Nat×TypeId)) (off:Nat) (ty:Ty) (cs:List Value) (out:List (DataW H×List MemPlace)),Ea (mj P d) off l=some ty→off+ty.size≤cs.length→
   (l.mapM fun p=>DataW.trod enc P w 0 (fun _=>true) true fuel p.2 ((cs.drop p.1).take (P.cellsOf p.2)))=some out→Io P w ty ((cs.drop off).take ty.size)
 |[],off,ty,cs,out,h,_,_=>by cases h
 |[x],off,ty,cs,out,h,hc,hm=>by
  obtain⟨h1,h2⟩:=vX h
  have ho:x.1=off:=by simpa using h1
  simp only[List.mapM_cons,List.mapM_nil,Option.pure_def,Option.bind_eq_bind,Option.bind_eq_some_iff] at hm
  obtain⟨y,hy,_⟩:=hm
  rw[ho,Pz h2] at hy
  exact ih _ _ _ _ h2 hy
 |x::y::l,off,ty,cs,out,h,hc,hm=>by
  obtain⟨h1,h2⟩:=vX h
  have ho:x.1=off:=by simpa using h1
  split at h2
  ·rename_i a ha
   split at h2
   ·rename_i b hb
    cases h2
    simp only[Ty.size] at hc⊢
    rw[List.mapM_cons] at hm
    simp only[Option.pure_def,Option.bind_eq_bind,Option.bind_eq_some_iff] at hm
    obtain⟨z,hz,zs,hzs,_⟩:=hm
    rw[ho,Pz ha] at hz
    obtain⟨p,p1,p2,p3⟩:=ih _ _ _ _ ha hz
    obtain⟨q,q1,q2,q3⟩:=yLk ih (y::l) (off+a.size) b cs zs hb (by omega) hzs
    refine⟨(p,q),by simp only[List.length_take,List.length_drop,Ty.size];omega,⟨?_,?_⟩,p3,q3⟩
    ·refine yS (fun _ h=>h) (fun _ _=>rfl) a p _ _ (fun j hj=>?_) p2
     simp only[List.getElem?_take,List.getElem?_drop]
     rw[if_pos (by omega),if_pos hj]
    ·refine yS (fun _ h=>h) (fun _ _=>rfl) b q _ _ (fun j hj=>?_) q2
     simp only[List.getElem?_take,List.getElem?_drop]
     rw[if_pos (by omega),if_pos hj]
     congr 1;omega
   ·cases h2
  ·cases h2
theorem PA:∀(d:Nat) (t:TypeId) (ty:Ty) (fuel:Nat) (cs:List Value) (x:DataW H×List MemPlace),mj P d t=some ty→DataW.trod enc P w 0 (fun _=>true) true fuel t cs=some x→Io P w ty cs
 |0,_,_,_,_,_,h,_=>by cases h
 |d+1,t,ty,0,cs,x,_,h=>by simp[DataW.trod] at h
 |d+1,t,ty,fuel+1,cs,x,hl,h=>by
  unfold mj at hl
  split at hl
  ·rename_i k hu
   obtain⟨_,hl⟩:=vX hl
   cases hl
   obtain⟨n,rfl,_,hw⟩:=DataW.trod_int hu h
   exact⟨n,rfl,rfl,hw⟩
  ·rename_i hu
   obtain⟨_,hl⟩:=vX hl
   cases hl
   obtain⟨b,rfl,_⟩:=DataW.trod_bool hu h
   exact⟨b,rfl,rfl,trivial⟩
  ·rename_i e hu
   obtain⟨_,hl⟩:=vX hl
   split at hl
   ·rename_i a ha
    cases hl
    rcases DataW.trod_slice hu h with⟨rfl,_⟩|⟨ad,len,cap,elems,rest,n,hn,rfl,_,_,HN,hm,hel,hg,_,_⟩
    ·refine⟨([]:List a.den),rfl,?_,?_⟩
     ·simp only[qF]
      exact⟨none,0,0,rfl,rfl,Nat.le_refl _,.inl ⟨trivial,fun _=>rfl⟩⟩
     ·simp only[Wf]
      exact⟨Nat.zero_le _,fun i hi=>absurd hi (Nat.not_lt_zero i)⟩
    ·have key:∀i,i<len→∃x:a.den,(qF w.heap (Eb w) a x (fun j=>yF w.heap ad.block (ad.off+i*a.size+j))∧(i=0→ad.spot=none)∧ad.block<w.heap.size)∧Wf a x:=by
      intro i hi
      have h1:=hg i hi
      have O6:i<elems.length:=by omega
      rw[List.getElem?_eq_getElem O6,Option.bind_eq_some_iff] at h1
      obtain⟨cs,lC,htr⟩:=h1
      rw[Pz ha] at lC
      obtain⟨y,y1,y2,y3⟩:=PA d e a n cs _ ha htr
      obtain⟨c1,c2⟩:=vCv lC
      have uK:∀j,((ad.add (i*a.size)).add j).block=ad.block∧((ad.add (i*a.size)).add j).off=ad.off+i*a.size+j:=by
       intro j
       unfold Addr.add
       constructor
       ·split<;>split<;>rfl
       ·split<;>split<;>simp_all
      have at0:(i=0→ad.spot=none)∧ad.block<w.heap.size:=by
       obtain⟨v,_,hv⟩:=c2 0 a.size_pos
       have h1:=yLa hv
       refine⟨fun h0=>?_,by have:=h1.2.1;rwa [(uK 0).1] at this⟩
       have h2:=h1.1
       subst h0
       simpa[Addr.add] using h2
      refine⟨y,⟨yS (fun _ h=>h) (fun _ _=>rfl) a y _ _ (fun j hj=>?_) y2,at0⟩,y3⟩
      obtain⟨v,v1,v2⟩:=c2 j hj
      rw[v1]
      have h1:=(yLa v2).2.2
      rwa [(uK j).1,(uK j).2] at h1
     obtain⟨xs,x1,x2⟩:=yVn len key
     refine⟨xs,rfl,?_,?_⟩
     ·simp only[qF]
      refine⟨some ad,len,cap,rfl,x1.symm,HN,?_⟩
      by_cases h0:xs=[]
      ·exact .inl ⟨h0,fun h=>by cases h⟩
      ·refine .inr ⟨ad.block,ad.off,?_,?_,fun i hi=>(x2 i hi).1.1⟩
       ·have:=(x2 0 (List.length_pos_iff.2 h0)).1.2.1 rfl
        cases ad
        simp at this
        rw[this]
       ·exact(x2 0 (List.length_pos_iff.2 h0)).1.2.2
     ·simp only[Wf]
      exact⟨by omega,fun i hi=>(x2 i hi).2⟩
   ·cases hl
  ·rename_i y n1 n2 n3 hu
   split at hl
   ·rename_i a ha
    obtain⟨dV,hl⟩:=vX hl
    cases hl
    have dV:P.cellsOf t=ty.size:=by simpa using dV
    have fin:∀out,cs.length=P.cellsOf t→((uJ P y).mapM fun p=>DataW.trod enc P w 0 (fun _=>true) true fuel p.2 ((cs.drop p.1).take (P.cellsOf p.2)))=some out→Io P w ty cs:=by
     intro out hlen iD
     have:=yLk (fun t' ty' aR x' h1 h2=>PA d t' ty' fuel aR x' h1 h2) (uJ P y) 0 ty cs out ha (by omega) iD
     rwa [List.drop_zero,List.take_of_length_le (by omega)] at this
    unfold DataW.trod at h
    rw[hu] at h
    cases y with
    |struct fs=>
     dsimp only at h
     split at h
     ·rename_i hlen
      rw[Option.map_eq_some_iff] at h
      obtain⟨out,ho,_⟩:=h
      refine fin out hlen ?_
      simp only[uJ,List.mapM_map]
      exact ho
     ·cases h
    |array n e=>
     dsimp only at h
     split at h
     ·rename_i hlen
      rw[Option.map_eq_some_iff] at h
      obtain⟨out,ho,_⟩:=h
      refine fin out hlen ?_
      simp only[uJ,List.mapM_map]
      exact ho
     ·cases h
    |_=>simp[uJ,Ea] at ha
   ·cases hl
  ·cases hl
end
open Go.ChangeShapes Go.WideShapes Go.ChangeAt Go.RowKit
def pC (sh:Bool):Ty→List PC
 |.int k=>[.int k]
 |.bool=>[.bool]
 |.sl t=>[.dat sh t]
 |.pair a b=>pC sh a++pC sh b
def sn:(l m:List PC)→PL l→PL m→PL (l++m)
 |[],_,_,e=>e
 |_::l,m,d,e=>(d.1,sn l m d.2 e)
theorem PB:∀(l m:List PC) (d:PL l) (e:PL m),vP (l++m) (sn l m d e)=vP l d++vP m e
 |[],_,_,_=>rfl
 |p::l,m,d,e=>by
  show yk p d.1::vP (l++m) (sn l m d.2 e)=yk p d.1::(vP l d.2++vP m e)
  rw[PB l m d.2 e]
def oe (sh:Bool):(t:Ty)→t.den→PL (pC sh t)
 |.int _,n=>(n,())
 |.bool,b=>(b,())
 |.sl _,xs=>(xs,())
 |.pair a b,p=>sn _ _ (oe sh a p.1) (oe sh b p.2)
def WfP:(p:PC)→p.den→Prop
 |.int k,n=>(Lit.int k n).wf=true
 |.bool,_=>True
 |.dat _ t,xs=>Wf (.sl t) xs
 |.fn _,_=>True
 |.nil,_=>True
def pD:(l:List PC)→PL l→Prop
 |[],_=>True
 |p::l,d=>WfP p d.1∧pD l d.2
theorem PD:∀(l m:List PC) (d:PL l) (e:PL m),pD l d→pD m e→pD (l++m) (sn l m d e)
 |[],_,_,_,_,h=>h
 |_::l,m,d,e,h,h'=>⟨h.1,PD l m d.2 e h.2 h'⟩
theorem PE (sh:Bool):∀(t:Ty) (x:t.den),Wf t x→pD (pC sh t) (oe sh t x)
 |.int _,_,h=>⟨h,trivial⟩
 |.bool,_,h=>⟨h,trivial⟩
 |.sl _,_,h=>⟨h,trivial⟩
 |.pair a b,p,h=>PD _ _ _ _ (PE sh a p.1 h.1) (PE sh b p.2 h.2)
theorem Ec:∀(l:List PC) (d:PL l),(vP l d).length=l.length
 |[],_=>rfl
 |p::l,d=>by
  show(vP l d.2).length+1=l.length+1
  rw[Ec l d.2]
def M0 (w:World):zC:=⟨fun _=>none,Eb w,Eb w,j3 [],w.heap⟩
theorem vMl (w:World):Ok (M0 w) where
 obj:=fun id o h=>by cases h
 non:=fun _ _=>rfl
 disj:=fun i j oi oj Ci Cj b _ h=>by cases h
 own:=fun b h=>by
  obtain⟨id,o,C,h1,_⟩:=h
  cases h1
 GF:=fun _ h=>h
 Flt:=fun _ h=>h
theorem PF (sh:Bool){w:World}:∀(t:Ty) (x:t.den) (cs:List Value),cs.length=t.size→qF w.heap (Eb w) t x (fun j=>cs[j]?)→zQ (zZ (M0 w)) (vP (pC sh t) (oe sh t x)) cs
 |.int k,n,cs,hl,h=>by
  match cs,hl with
  |[c],_=>
   have e:c=.int k n:=by simpa[qF] using h
   exact⟨e,trivial⟩
 |.bool,b,cs,hl,h=>by
  match cs,hl with
  |[c],_=>
   have e:c=.bool b:=by simpa[qF] using h
   exact⟨e,trivial⟩
 |.sl t,xs,cs,hl,h=>by
  match cs,hl with
  |[c],_=>
   refine⟨?_,trivial⟩
   have h' := yS (F' := (bif sh then (M0 w).G else (M0 w).F)) (fun b h => by cases sh <;> exact h) (fun b _ => rfl) (.sl t) xs (fun j => [c][j]?) (fun _ => some c) (fun j hj=>by
    have:j=0:=by simp[Ty.size] at hj;exact hj
    subst this;rfl) h
   exact h'
 |.pair a b,p,cs,hl,h=>by
  have eg:cs.length=a.size+b.size:=hl
  have h1 := PF sh a p.1 (cs.take a.size) (by rw [List.length_take]; omega) (yS (fun _ h => h) (fun _ _ => rfl) a p.1 _ _ (fun j hj=>by
   rw[List.getElem?_take,if_pos hj]) h.1)
  have h2 := PF sh b p.2 (cs.drop a.size) (by rw [List.length_drop]; omega) (yS (fun _ h => h) (fun _ _ => rfl) b p.2 _ _ (fun j hj=>by
   rw[List.getElem?_drop];congr 1;omega) h.2)
  show zQ _ (vP (pC sh a++pC sh b) (sn _ _ (oe sh a p.1) (oe sh b p.2))) cs
  rw[PB]
  have:=zQ.append h1 h2
  rwa [List.take_append_drop] at this
def og (sh : Bool) (P : Program) (t : TypeId) (ty : Ty) : AS := bif jH P t == some true then .agg (pC sh ty) else (match ty with
 |.int k=>.c (.int k)|.bool=>.c .bool|.sl t=>.c (.dat sh t)|.pair a b=>.agg (pC sh (.pair a b)))
def Ip (P:Program):List TypeId→Option (List Ty)
 |[]=>some []
 |t::ts=>match mj P 8 t,Ip P ts with
  |some a,some l=>some (a::l)
  |_,_=>none
def pE (sh:Bool)(P:Program):List TypeId→List Ty→List AS
 |t::ts,a::l=>og sh P t a::pE sh P ts l
 |_,_=>[]
theorem yX6 {P:Program}{t:TypeId}{ty:Ty}(h:mj P 8 t=some ty)(ha:(jH P t==some true)=false):(∃k,P.underlying t=some (.int k)∧ty=.int k)∨(P.underlying t=some .bool∧ty=.bool)∨∃e a,P.underlying t=some (.slice e)∧ty=.sl a:=by
 unfold mj at h
 split at h
 ·rename_i k hu
  obtain⟨_,h⟩:=vX h
  cases h
  exact .inl ⟨k,hu,rfl⟩
 ·rename_i hu
  obtain⟨_,h⟩:=vX h
  cases h
  exact .inr (.inl ⟨hu,rfl⟩)
 ·rename_i e hu
  obtain⟨_,h⟩:=vX h
  split at h
  ·cases h;exact .inr (.inr ⟨e,_,hu,rfl⟩)
  ·cases h
 ·rename_i x _ _ _ hu
  split at h
  ·rename_i a hx
   exfalso
   unfold jH at ha
   rw[hu] at ha
   cases x<;>first|(simp[uJ,Ea] at hx;done)|(cases ha)
  ·cases h
 ·cases h
section
variable {H:Type} {enc:TypeId×Value→H} {P:Program} {w:World}
theorem vDg (sh:Bool){t:TypeId}{ty:Ty}{v:Value}{d:DataW H}{ps:List MemPlace}{base:Nat}(hl:mj P 8 t=some ty)(eS:Value.okWide P w .any base t v)(h:DataW.Trod enc P w 0 (fun _=>true) true t v d ps):
  ∃x:PL (og sh P t ty).cells,(∀n,qA (M0 w) ((og sh P t ty).mk n (vP _ x)) v)∧(og sh P t ty).boxes (vP _ x)=[]∧pD _ x:=by
 obtain⟨fuel,hf⟩:=h
 obtain⟨x,x1,x2,x3⟩:=PA 8 t ty fuel _ _ hl hf
 have dp:=PF sh ty x _ x1 x2
 have yp:=PE sh ty x x3
 unfold og
 cases ha:(jH P t==some true) with
 |true=>
  simp only[cond_true]
  refine⟨oe sh ty x,fun n=>?_,rfl,yp⟩
  have mb:jH P t=some true:=by simpa using ha
  have hv:∃cs,v=.agg cs:=by
   unfold jH at mb
   unfold Value.okWide at eS
   split at mb<;>first|(rename_i e;rw[e] at eS;obtain⟨cs,h1,_⟩:=eS;exact⟨cs,h1⟩)|(cases mb)
  obtain⟨cs,rfl⟩:=hv
  exact⟨cs,rfl,dp⟩
 |false=>
  simp only[cond_false]
  rcases yX6 hl ha with⟨k,hu,rfl⟩|⟨hu,rfl⟩|⟨e,a,hu,rfl⟩
  ·have hv:∃n,v=.int k n:=by
    simp only[Value.okWide,hu,Cell.okWide] at eS
    cases v<;>simp_all[Cell.ok]
   obtain⟨n0,rfl⟩:=hv
   exact⟨oe sh _ x,fun n=>dp.1,rfl,yp⟩
  ·have hv:∃b,v=.bool b:=by
    simp only[Value.okWide,hu,Cell.okWide] at eS
    cases v<;>simp_all[Cell.ok]
   obtain⟨b,rfl⟩:=hv
   exact⟨oe sh _ x,fun n=>dp.1,rfl,yp⟩
  ·obtain⟨ad,len,cap,rfl⟩:=okWide_slice hu eS
   exact⟨oe sh _ x,fun n=>dp.1,rfl,yp⟩
theorem yUg (sh:Bool){base:Nat}:∀(ts:List TypeId) (tys:List Ty) (vs:List Value) (ds:List (DataW H)) (ps:List MemPlace) (n:Nat),Ip P ts=some tys→(∀(j:Nat) (t:TypeId) (v:Value),ts[j]? =some t→vs[j]? =some v→Value.okWide P w .any base t v)→
  DataW.TrodAll enc P w 0 (fun _=>true) true ts vs ds ps→∃x:AD (pE sh P ts tys),zQ (qA (M0 w)) (j0 (pE sh P ts tys) (vP _ x) n).1 vs∧(j0 (pE sh P ts tys) (vP _ x) n).2=[]∧pD _ x
 |[],tys,vs,ds,ps,n,hl,eS,h=>by
  cases hl
  match vs,ds,h with
  |[],[],_=>exact⟨(),trivial,rfl,trivial⟩
  |_::_,[],h=>exact False.elim h
  |_::_,_::_,h=>exact False.elim h
  |[],_::_,h=>exact False.elim h
 |t::ts,tys,vs,ds,ps,n,hl,eS,h=>by
  unfold Ip at hl
  split at hl
  ·rename_i a l ha eg
   cases hl
   match vs,ds,h with
   |[],[],h=>exact False.elim h
   |[],_::_,h=>exact False.elim h
   |_::_,[],h=>exact False.elim h
   |v::vs,d::ds,h=>
    obtain⟨p,q,h1,h2,_⟩:=h
    obtain⟨x,x1,x2,x3⟩:=vDg sh ha (eS 0 t v rfl rfl) h1
    obtain⟨y,y1,y2,y3⟩:=yUg sh ts l vs ds q n eg (fun j t' v' h1 h2=>eS (j+1) t' v' h1 h2) h2
    refine⟨sn _ _ x y,?_⟩
    have e:vP ((pE sh P (t::ts) (a::l)).flatMap AS.cells) (sn _ _ x y)=vP _ x++vP _ y:=PB _ _ _ _
    have ht:(vP _ x++vP _ y).take (og sh P t a).cells.length=vP _ x:=by
     rw[List.take_append_of_le_length (by rw[Ec];exact Nat.le_refl _),List.take_of_length_le (by rw[Ec];exact Nat.le_refl _)]
    have hd:(vP _ x++vP _ y).drop (og sh P t a).cells.length=vP _ y:=by
     rw[List.drop_append_of_le_length (by rw[Ec];exact Nat.le_refl _),List.drop_of_length_le (by rw[Ec];exact Nat.le_refl _),List.nil_append]
    rw[e]
    have em:j0 (pE sh P (t::ts) (a::l)) (vP _ x++vP _ y) n=((og sh P t a).mk n (vP _ x)::(j0 (pE sh P ts l) (vP _ y) n).1,(j0 (pE sh P ts l) (vP _ y) n).2):=by
     show((og sh P t a).mk n _::_,(og sh P t a).boxes _++_)=_
     rw[ht,hd,x2]
     rfl
    rw[em]
    exact⟨⟨x1 n,y1⟩,y2,PD _ _ _ _ x3 y3⟩
  ·cases hl
theorem lawArgs (sh:Bool){base:Nat}{ts:List TypeId}{tys:List Ty}{asp:List AS}{vs:List Value}{ds:List (DataW H)}{ps:List MemPlace}(hl:Ip P ts=some tys)(has:pE sh P ts tys=asp)
  (eS:∀(j:Nat) (t:TypeId) (v:Value),ts[j]? =some t→vs[j]? =some v→Value.okWide P w .any base t v) (h:DataW.TrodAll enc P w 0 (fun _=>true) true ts vs ds ps):
  ∃x:AD asp,zQ (qA (M0 w)) (j0 asp (vP _ x) 0).1 vs∧(j0 asp (vP _ x) 0).2=[]∧pD _ x:=by
 subst has
 exact yUg sh ts tys vs ds ps 0 hl eS h
theorem law_calls {E:qB}(hE:ga E)(hS:jb E.sums)(hm:E.P.follows .mixedOrders=true){A:zY}{k pre:Nat}{f:FuncId}{fn:Func}(hf:E.P.funcs[f]? =some fn)(hL:∀c,fn.body=some c→wX E.P A pre 0 fn.ntmps c)
  {as:List AS} {d:AD as} {unpack:RL (RS.c .bool).cells→Bool} (hup:∀d,unpack d=d.1) (ba:kz E A k pre 0 fn (mU as d).1 (mU as d).2 (kH (.c .bool) unpack)=some true) (hb:(j0 as (vP _ d) 0).2=[]) {vs:Array Value} (hv:zQ (qA (M0 w)) (j0 as (vP _ d) 0).1 vs.toList):
  Calls E.P f vs w fun e w'=>e=.returned (.bool true)∧Below w.heap.size w w':=by
 have hh:(M0 w).h=(mU as d).2:=by
  show j3 []=j3 (j0 as (vP _ d) 0).2
  rw[hb]
 refine Calls.mono (Ph hE hS hm hf hL ba (M:=M0 w) (w:=w) hh rfl (vMl w) hv) fun e w' he=>?_
 cases e with
 |returned rv=>
  obtain⟨M',v,st,hK,_,hH,_,hg,hrv,o1,o2,o3,_⟩:=he
  refine⟨?_,o1,o2,o3,?_,fun b hb=>?_⟩
  ·unfold kH at hK
   split at hK
   ·rename_i r hr
    have hKe:unpack r=true:=by injection hK
    unfold D7 at hr
    split at hr
    ·rename_i cs lC
     split at hr
     ·rename_i aR u tW
      obtain⟨_,hr⟩:=vX hr
      cases v with
      |c x=>
       cases lC
       have e1:aR=[x]:=by
        simp only[RS.cells,List.map,RC.isFro,jY] at tW
        cases tW;rfl
       subst e1
       have mN:jc (qP st.h u) [.bool] [x]=some r:=hr
       cases x with
       |bool b=>
        have e2:r=(b,()):=by simp only[jc,mV] at mN;cases mN;rfl
        have:rv=.bool b:=hrv
        have hb:b=true:=by have:=(hup r).symm.trans hKe;rw[e2] at this;exact this
        rw[this,hb]
       |_=>simp[jc,mV] at mN
      |_=>cases lC
     ·cases hr
    ·cases hr
   ·cases hK
  ·have:=hg.size
   rw[hH] at this
   exact this
  ·have:=hg.same b hb
   rw[hH] at this
   exact this
 |_=>exact he.elim
end
inductive XC where
 |p (c:PC)|own (t:Ty)|mat|map
abbrev XC.den:XC→Type
 |.p c=>c.den|.own t=>List t.den|.mat=>List (List Int)|.map=>List (Int×Bool)
abbrev XL:List XC→Type
 |[]=>Unit
 |c::l=>c.den×XL l
inductive AX where
 |c (x:XC)|agg (l:List PC)|ptr (io:Bool) (l:List XC)|fn (f:Nat) (bD:List (Bool×List XC))
def AX.cells:AX→List XC
 |.c x=>[x]
 |.agg l=>l.map .p
 |.ptr _ l=>l
 |.fn _ bD=>bD.flatMap (·.2)
abbrev XD (l:List AX):Type:=XL (l.flatMap AX.cells)
def AX.looks:AX→Bool
 |.ptr _ _=>true
 |.fn _ _=>true
 |_=>false
def Iq (l:List AX)(na:Nat):Bool:=l.zipIdx.all fun p=> !p.1.looks||Nat.blt p.2 na
def Ir (h:Hp)(io:Bool)(id:Nat):Option (List zL):=match io,h id with
 |true,some (.box true cells)=>some cells
 |false,some (.box _ cells)=>some cells
 |false,some (.robox cells)=>some cells
 |_,_=>none
def mX (h:Hp):List (Bool×List XC)→List Nat→Option (List zL×List (Bool×Nat))
 |[],[]=>some ([],[])
 |(io,l)::ls,id::ids=>match Ir h io id,mX h ls ids with
  |some cells,some (rest,bs)=>bif Nat.beq cells.length l.length then some (cells++rest,(io,id)::bs) else none
  |_,_=>none
 |_,_=>none
def AX.get (h:Hp):AX→zI→Option (List zL×List (Bool×Nat))
 |.c _,.c x=>some ([x],[])
 |.agg l,.agg xs=>bif Nat.beq xs.length l.length then some (xs,[]) else none
 |.ptr io l,.c (.ptr id 0)=>mX h [(io,l)] [id]
 |.fn f bD,.c (.fn g ids)=>bif Nat.beq f g then mX h bD ids else none
 |_,_=>none
def j5 (h:Hp):List AX→List zI→Option (List zL×List (Bool×Nat))
 |[],[]=>some ([],[])
 |s::l,a::as=>match s.get h a,j5 h l as with
  |some (cs,bs),some (aR,Is)=>some (cs++aR,bs++Is)
  |_,_=>none
 |_,_=>none
def Ed (h:Hp):(x:XC)→zL→Option x.den
 |.p p,c=>py h p c
 |.own t,.osl id none=>match h id with
  |some (.arr true s xs)=>fU s t xs
  |_=>none
 |.mat,.osl id none=>match h id with
  |some (.mat _ xs)=>some xs
  |_=>none
 |.map,.map id=>match h id with
  |some (.imap cZ)=>some cZ
  |_=>none
 |_,_=>none
def mY (h:Hp):(l:List XC)→List zL→Option (XL l)
 |[],[]=>some ()
 |x::l,c::cs=>match Ed h x c,mY h l cs with
  |some d,some ds=>some (d,ds)
  |_,_=>none
 |_,_=>none
def wV:List XC→List zL→List Nat
 |.p _::l,_::cs=>wV l cs
 |_::l,.osl id _::cs=>id::wV l cs
 |_::l,.map id::cs=>id::wV l cs
 |_::l,_::cs=>wV l cs
 |_,_=>[]
def Ee:List XC→List zL→List Nat
 |.p _::l,c::cs=>vD c++Ee l cs
 |_::l,_::cs=>Ee l cs
 |_,_=>[]
def wJ:Nat:=500
def gb:(l:List XC)→XL l→Nat→List zL×List Obj
 |[],_,_=>([],[])
 |.p p::l,d,n=>let r:=gb l d.2 n;(yk p d.1::r.1,r.2)
 |.own t::l,d,n=>let r:=gb l d.2 (n+1);(.osl n none::r.1,.arr true t d.1::r.2)
 |.mat::l,d,n=>let r:=gb l d.2 (n+1);(.osl n none::r.1,.mat 0 d.1::r.2)
 |.map::l,d,n=>let r:=gb l d.2 (n+1);(.map n::r.1,.imap d.1::r.2)
def Iu:List (Bool×List XC)→List zL→List Obj
 |[],_=>[]
 |(io,l)::ls,cs=>(bif io then .box true (cs.take l.length) else .robox (cs.take l.length))::Iu ls (cs.drop l.length)
def AX.mk (n:Nat)(cs:List zL):AX→zI
 |.c _=>match cs with|x::_=>.c x|[]=>.undef
 |.agg _=>.agg cs
 |.ptr _ _=>.c (.ptr n 0)
 |.fn f bD=>.c (.fn f ((List.range bD.length).map (n+·)))
def AX.boxes (cs:List zL):AX→List Obj
 |.ptr io l=>Iu [(io,l)] cs
 |.fn _ bD=>Iu bD cs
 |_=>[]
def so:List AX→List zL→Nat→List zI×List Obj
 |[],_,_=>([],[])
 |s::l,cs,n=>
  let au:=cs.take s.cells.length
  let bs:=s.boxes au
  let rest:=so l (cs.drop s.cells.length) (n+bs.length)
  (s.mk n au::rest.1,bs++rest.2)
def Ef (bs rows:List Obj):Hp:=fun n=>bif Nat.ble wJ n then rows[n-wJ]? else bs[n]?
def pF (l:List AX)(d:XD l):List zI×Hp:=
 let r:=gb (l.flatMap AX.cells) d wJ
 let m:=so l r.1 0
 (m.1,Ef m.2 r.2)
def Eg:List (Bool×List XC)→List Nat→Option (List Nat)
 |[],[]=>some []
 |(io,_)::ls,id::ids=>match Eg ls ids with
  |some l=>some (bif io then id::l else l)
  |none=>none
 |_,_=>none
def AX.io:AX→zI→Option (List Nat)
 |.c _,_=>some []
 |.agg _,_=>some []
 |.ptr io l,.c (.ptr id 0)=>Eg [(io,l)] [id]
 |.fn _ bD,.c (.fn _ ids)=>Eg bD ids
 |_,_=>none
def Eh:List AX→(Nat→zI)→Nat→Option (List Nat)
 |[],_,_=>some []
 |s::l,t,n=>match s.io (t n),Eh l t (n+1) with
  |some a,some b=>some (a++b)
  |_,_=>none
def Ei (h:Hp):List (List RC)→List Nat→Option (List zL)
 |[],[]=>some []
 |o::os,n::ns=>match h n,Ei h os ns with
  |some (.box true cells),some rest=>bif Nat.beq cells.length o.length then some (cells++rest) else none
  |_,_=>none
 |_,_=>none
def Iv (st:St)(as:List AX)(rs:RS)(os:List (List RC))(v:zI):Option (RL (rs.cells++os.flatten)):=
 match Eh as st.t 0 with
 |none=>none
 |some ids=>match rs.get v,Ei st.h os ids with
  | some cs, some bs => bif mD ids then (match jY st.h ((rs.cells++os.flatten).map RC.isFro) (cs++bs) with
   |some (cs,u)=>bif mD (vL (rs.cells++os.flatten) cs) then jc (qP st.h u) (rs.cells++os.flatten) cs else none
   |none=>none) else none
  |_,_=>none
def Ej (as:List AX)(rs:RS)(os:List (List RC)){X:Type}(unpack:RL (rs.cells++os.flatten)→X)(v:zI)(st:St):Option X:=match Iv st as rs os v with
 |some d=>some (unpack d)
 |none=>none
def sr:List (List RC)→List zL→List (List zL)
 |[],_=>[]
 |o::os,cs=>cs.take o.length::sr os (cs.drop o.length)
def vT:List (Bool×Nat)→List Nat
 |[]=>[]
 |(true,id)::l=>id::vT l
 |(false,_)::l=>vT l
def Iw:List (Bool×Nat)→List Nat
 |[]=>[]
 |(true,_)::l=>Iw l
 |(false,id)::l=>id::Iw l
def uL:List Nat→List (List zL)→qH
 |id::ids,cs::css=>(id,.box true cs)::uL ids css
 |_,_=>[]
def mZ (ids:List Nat):qH:=ids.map fun id=>(id,.gone)
def yI7 (nm:Nat)(rs:RS)(os:List (List RC))(ids:List Nat)(d:RL (rs.cells++os.flatten)):zI×qH:=
 let r:=lB nm (rs.cells++os.flatten) d
 (rs.mk (r.1.take rs.cells.length),r.2++uL ids (sr os (r.1.drop rs.cells.length)))
def PG (a b:List Nat):Bool:=a.all fun x=> !b.any (Nat.beq x)
def ss (h:Hp):AX→zI→Option (zI×qH)
 |.c (.p p),.c x=>match jY h [p.isKept] [x] with
  |some ([x],u)=>some (.c x,u)
  |_=>none
 |.agg l,.agg xs=>match jY h (l.map PC.isKept) xs with
  |some (xs,u)=>some (.agg xs,u)
  |none=>none
 |_,a=>some (a,[])
def oh (h:Hp):List AX→List zI→Option (List zI×qH)
 |s::l,a::as=>match ss h s a,oh h l as with
  |some (a,u),some (as,us)=>some (a::as,u++us)
  |_,_=>none
 |_,as=>some (as,[])
def om (as:List AX)(rs:RS)(os:List (List RC)){X:Type}(S:XD as→Option X)(pack:X→RL (rs.cells++os.flatten))(nm:Nat)(args:List zI)(h:Hp):yJ:=
 match oh h as args with
 |none=>.stuck
 |some (args,u)=>match j5 (qP h u) as args with
  |none=>.stuck
  |some (cs,bs)=>match mY (qP h u) (as.flatMap AX.cells) cs with
   |none=>.stuck
   |some d=>
    let rows:=wV (as.flatMap AX.cells) cs
    let au:=vT bs++rows
    bif se h nm (rs.cells++os.flatten).length&&Nat.ble (rs.cells++os.flatten).length 100&&Nat.ble bs.length wJ&&mD au&&PG au (Ee (as.flatMap AX.cells) cs)&&PG au (Iw bs) then
     .call X (S d) (fun r=>((yI7 nm rs os (vT bs) (pack r)).1,u++(mZ rows++(yI7 nm rs os (vT bs) (pack r)).2)))
    else .stuck
def jg (M:zC)(au:List Nat)(b:Nat):Prop:=∃id∈au,∃C,M.κ id=some C∧b∈C.fp
structure oq (M:zC) (au:List Nat) (Ml:zC):Prop where
 H:Ml.H=M.H
 F:Ml.F=fun b=>b<M.H.size∧¬jg M au b
 G:Ml.G=M.G
def lD (M:zC)(au:List Nat):Prop:=∀id∈au,∃o,M.h id=some o∧o.owned=true
theorem jg.own {M:zC}{au:List Nat}(ho:lD M au){b:Nat}(h:jg M au b):qU M b:=by
 obtain⟨id,ah,C,hC,hb⟩:=h
 obtain⟨o,h1,h2⟩:=ho id ah
 exact⟨id,o,C,h1,h2,hC,hb⟩
theorem pG {M:zC}(ok:Ok M){au:List Nat}(ho:lD M au){b:Nat}(h:M.F b):b<M.H.size∧¬jg M au b:=⟨ok.Flt b h,fun hh=>(ok.own b (hh.own ho)).1 h⟩
theorem yE2 {M M':zC}(ok:Ok M){au:List Nat}(ho:lD M au){id:Nat}{o:Obj}(hn:id∉au)(hh:M'.h=yM M.h id o)(hκ:M'.κ=M.κ)(hH:M'.H=M.H)(iB:Ok M'){b:Nat}(h:M'.G b):b<M.H.size∧¬jg M au b:=by
 have hf:=iB.GF b h
 refine⟨by have:=iB.Flt b hf;rwa [hH] at this,fun hd=>?_⟩
 obtain⟨jd,hj,C,hC,hb⟩:=hd
 obtain⟨q,h1,h2⟩:=ho jd hj
 refine(iB.own b ⟨jd,q,C,?_,h2,?_,hb⟩).1 hf
 ·rw[hh,yZ _ _ (fun e=>hn (by rw[←e];exact hj))];exact h1
 ·rw[hκ];exact hC
theorem vNi {M:zC}(ok:Ok M){au:List Nat}(ho:lD M au){c:zL}{v:Value}{t:Ty}{xs:List t.den}(hn:∀id∈vD c,id∉au)(hv:zZ M c v)(h:iW M.h c=some ⟨t,xs⟩):
  qF M.H (fun b=>b<M.H.size∧¬jg M au b) (.sl t) xs (fun _=>some v):=by
 unfold iW at h
 split at h
 ·rename_i sh s ys
  cases h
  cases sh with
  |true=>exact yS (fun b hb=>pG ok ho (ok.GF b hb)) (fun _ _=>rfl) _ _ _ _ (fun _ _=>rfl) hv
  |false=>exact yS (fun b hb=>pG ok ho hb) (fun _ _=>rfl) _ _ _ _ (fun _ _=>rfl) hv
 ·rename_i id r
  have ll:id∉au:=hn id (by simp[vD])
  split at h
  ·rename_i own s ys ah
   cases h
   cases own with
   |false=>
    obtain⟨C,hC,hO⟩:=ok.obj _ _ ah
    exact yS (fun b hb=>pG ok ho (ok.GF b hb)) (fun _ _=>rfl) _ _ _ _ (fun _ _=>rfl) (tS hC hO hv)
   |true=>
    obtain⟨M',h1,h2,h3,h4,h5⟩:=Yt ok ah
    obtain⟨C,hC,hO⟩:=h3.obj id _ (by rw[h2];exact yQ _ _ _)
    have:=tS hC hO (hv.ext h4.ext)
    exact yS (fun b hb=>yE2 ok ho ll h2 h5 h1 h3 hb) (fun b _=>by rw[h1]) _ _ _ _ (fun _ _=>rfl) this
  ·rename_i ver ys ah
   cases r with
   |some p=>cases h
   |none=>
    cases h
    obtain⟨M',h1,h2,h3,h4,h5⟩:=Yv ok ah
    obtain⟨C,hC,hO⟩:=h3.obj id _ (by rw[h2];exact yQ _ _ _)
    have:=tS (r:=none) hC hO (hv.ext h4.ext)
    exact yS (fun b hb=>yE2 ok ho ll h2 h5 h1 h3 hb) (fun b _=>by rw[h1]) _ _ _ _ (fun _ _=>rfl) this
  ·cases h
 ·rename_i id i ver
  have ll:id∉au:=hn id (by simp[vD])
  split at h
  ·rename_i v' ys ah
   cases cN:Nat.beq v' ver with
   |false=>rw[cN] at h;cases h
   |true=>
    rw[cN] at h
    cases h
    have e:v'=ver:=by simpa using cN
    subst e
    obtain⟨C,hC,hO⟩:=ok.obj _ _ ah
    obtain⟨C',aC,cQ,_,aP⟩:=hv
    rw[hC] at aC;cases aC
    obtain⟨rb,rl,ja,nW⟩:=aP hO.1
    by_cases hi:i<ys.length
    ·obtain⟨B,mI,v2,k1,k2,k3,k4,k5,k6⟩:=xS hO hi
     rw[ja] at k3
     cases k3
     rw[show ys.getD i []=ys[i] by simp[List.getD,hi]]
     simp only[qF]
     cases rb with
     |none=>
      obtain⟨rfl,h0⟩:=nW
      exact⟨none,0,0,rfl,h0.symm,Nat.le_refl _,.inl ⟨List.eq_nil_of_length_eq_zero h0,fun _=>rfl⟩⟩
     |some R=>
      obtain⟨a,c,rfl,h1,h2,h3⟩:=nW
      refine⟨_,_,c,rfl,rfl,h1,?_⟩
      by_cases h0:ys[i].length=0
      ·exact .inl ⟨List.eq_nil_of_length_eq_zero h0,fun h=>by cases h⟩
      ·have ha:a=0:=by rcases h2 with h|h<;>omega
       subst ha
       have hR:R∈C.fp:=by
        have:(some R,ys[i].length)∈C.rows:=List.mem_of_getElem? ja
        simp only[zT.fp,List.mem_append,List.mem_filterMap]
        exact .inr ⟨_,this,rfl⟩
       refine .inr ⟨R,0,rfl,⟨?_,fun hd=>?_⟩,fun j hj=>?_⟩
       ·have:=k6 R rfl 0 (by omega)
        unfold yF at this
        cases hR:M.H[R]? with
        |none=>rw[hR] at this;cases this
        |some x=>exact(Array.getElem?_eq_some_iff.1 hR).1
       ·obtain⟨jd,hj,D,hD,hb⟩:=hd
        obtain⟨q,q1,q2⟩:=ho jd hj
        exact ok.disj jd id q _ D C R (fun e=>ll (by rw[←e];exact hj)) q1 ah q2 rfl hD hC hb hR
       ·simp only[qF,Ty.size,Nat.zero_add,Nat.mul_one,Nat.add_zero]
        exact k6 R rfl j hj
    ·have:C.rows[i]? =none:=List.getElem?_eq_none (by have:=hO.2.2.2.1;omega)
     rw[this] at ja;cases ja
  ·cases h
 ·cases h
def TrX (M:zC)(au:List Nat)(c c':zL):Prop:=∀v Ml,oq M au Ml→zZ M c v→zZ Ml c' v
theorem vAb {M:zC}(ok:Ok M){au:List Nat}(ho:lD M au){p:PC}{c:zL}{d:p.den}(hn:∀id∈vD c,id∉au)(h:py M.h p c=some d):TrX M au c (yk p d):=by
 intro v Ml lo hv
 unfold py at h
 split at h
 ·rename_i k j n
  cases e:fk j k with
  |false=>rw[e] at h;cases h
  |true=>rw[e] at h;cases h;rw[←oR e];exact hv
 ·cases h;exact hv
 ·rename_i t c
  show qF Ml.H Ml.F _ _ _
  rw[lo.H,lo.F]
  unfold uB at h
  split at h
  ·cases h
   rw[show v=.slice none 0 0 from hv]
   exact D8
  ·split at h
   ·rename_i s ys hr
    obtain⟨e,hx⟩:=iY h
    subst e
    subst hx
    exact vNi ok ho hn hv hr
   ·cases h
 ·rename_i t s xs
  obtain⟨e,hx⟩:=iY h
  subst e
  subst hx
  show qF Ml.H Ml.G _ _ _
  rw[lo.H,lo.G]
  exact hv
 ·cases h
  rw[show v=.slice none 0 0 from hv]
  exact D8
 ·rename_i f g
  cases e:Nat.beq f g with
  |false=>rw[e] at h;cases h
  |true=>
   have:f=g:=by simpa using e
   subst this
   obtain⟨cv,rfl,hc⟩:=hv
   refine⟨cv,rfl,?_⟩
   generalize cv.toList=l at hc
   cases l with
   |nil=>trivial
   |cons _ _=>exact hc.elim
 ·exact hv
 ·cases h
def ot (M:zC)(au:List Nat)(κ:Nat→Option zT)(c c':zL):Prop:=∀v Ml,oq M au Ml→Ml.κ=κ→zZ M c v→zZ Ml c' v
structure vB6 (M:zC) (id:Nat) (o:Obj) (C:zT):Prop where
 κ:M.κ id=some C
 rep:∀Ml:zC,Ml.H=M.H→Ml.G=M.G→yU Ml o {C with ver:=0}
 own:o.owned=true
 was:∃q,M.h id=some q∧q.owned=true
theorem vO5 {M Ml:zC}(hH:Ml.H=M.H){cZ:List (Int×Bool)}{C:zT}(h:yU M (.imap cZ) C):yU Ml (.imap cZ) {C with ver:=0}:=by
 obtain⟨B,es,ck,h1,h2,h3,h4,h5⟩:=h
 exact⟨B,es,ck,h1,h2,by rw[hH];exact h3,h4,h5⟩
theorem Ek {M:zC}(ok:Ok M){au:List Nat}(ho:lD M au){κ:Nat→Option zT}:∀{l:List XC} {cs:List zL} {d:XL l} {n:Nat},mY M.h l cs=some d→(∀id∈Ee l cs,id∉au)→
  (wV l cs).length=(gb l d n).2.length∧(∀(i:Nat) (id:Nat) (o:Obj),(wV l cs)[i]? =some id→(gb l d n).2[i]? =some o→∃C,vB6 M id o C)∧
   ((∀(i:Nat) (id:Nat) (C:zT),(wV l cs)[i]? =some id→M.κ id=some C→κ (n+i)=some {C with ver:=0})→zQ (ot M au κ) cs (gb l d n).1)
 |[],[],_,n,_,_=>⟨rfl,fun i id o h=>by simp[wV] at h,fun _=>trivial⟩
 |x::l,c::cs,d,n,h,hn=>by
  unfold mY at h
  split at h
  ·rename_i y ys h1 h2
   cases h
   cases x with
   |p p=>
    have kI:∀id∈vD c,id∉au:=fun id ah=>hn id (List.mem_append_left _ ah)
    obtain⟨k1,k2,k3⟩:=Ek ok ho (κ:=κ) (n:=n) h2 (fun id ah=>hn id (List.mem_append_right _ ah))
    exact⟨k1,k2,fun hκ=>⟨fun v Ml lo _ hv=>vAb ok ho kI h1 v Ml lo hv,k3 hκ⟩⟩
   |own t=>
    cases c with
    |osl id r=>
     cases r with
     |some _=>cases h1
     |none=>
      have h1:(match M.h id with|some (.arr true s xs)=>fU s t xs|_=>none)=some y:=h1
      split at h1
      ·rename_i s xs ah
       obtain⟨e,hx⟩:=iY h1
       subst e
       subst hx
       obtain⟨C,hC,hO⟩:=ok.obj id _ ah
       obtain⟨k1,k2,k3⟩:=Ek ok ho (κ:=κ) (n:=n+1) h2 hn
       refine⟨by simp only[wV,gb,List.length_cons,k1],fun i jd o hi fY=>?_,fun hκ=>⟨fun v Ml lo hk hv=>?_,k3 fun i jd D hi hD=>?_⟩⟩
       ·cases i with
        |zero=>
         cases hi
         cases fY
         refine⟨C,hC,fun Ml e1 e2=>?_,rfl,_,ah,rfl⟩
         obtain⟨q1,q2,q3,q4⟩:=hO
         refine⟨q1,q2,q3,?_⟩
         rw[e1,e2]
         exact q4
        |succ i=>exact k2 i jd o hi fY
       ·obtain⟨D,hD,hS⟩:=hv
        rw[hC] at hD;cases hD
        refine⟨{C with ver:=0},by rw[hk];exact hκ 0 id C rfl hC,?_⟩
        show wK Ml.H {C with ver:=0} 0 C.len v
        rw[lo.H]
        exact hS
       ·have:=hκ (i+1) jd D hi hD
        rw[←this];congr 1;omega
      ·cases h1
    |_=>cases h1
   |mat=>
    cases c with
    |osl id r=>
     cases r with
     |some _=>cases h1
     |none=>
      have h1:(match M.h id with|some (.mat _ xs)=>some xs|_=>none)=some y:=h1
      split at h1
      ·rename_i ver xs ah
       cases h1
       obtain⟨C,hC,hO⟩:=ok.obj id _ ah
       obtain⟨k1,k2,k3⟩:=Ek ok ho (κ:=κ) (n:=n+1) h2 hn
       refine⟨by simp only[wV,gb,List.length_cons,k1],fun i jd o hi fY=>?_,fun hκ=>⟨fun v Ml lo hk hv=>?_,k3 fun i jd D hi hD=>?_⟩⟩
       ·cases i with
        |zero=>
         cases hi
         cases fY
         refine⟨C,hC,fun Ml e1 e2=>?_,rfl,_,ah,rfl⟩
         obtain⟨q1,q2⟩:=hO
         refine⟨rfl,?_⟩
         rw[e1]
         exact q2
        |succ i=>exact k2 i jd o hi fY
       ·obtain⟨D,hD,hS⟩:=hv
        rw[hC] at hD;cases hD
        refine⟨{C with ver:=0},by rw[hk];exact hκ 0 id C rfl hC,?_⟩
        show wK Ml.H {C with ver:=0} 0 C.len v
        rw[lo.H]
        exact hS
       ·have:=hκ (i+1) jd D hi hD
        rw[←this];congr 1;omega
      ·cases h1
    |_=>cases h1
   |map=>
    cases c with
    |map id=>
     have h1:(match M.h id with|some (.imap cZ)=>some cZ|_=>none)=some y:=h1
     split at h1
     ·rename_i cZ ah
      cases h1
      obtain⟨C,hC,hO⟩:=ok.obj id _ ah
      obtain⟨k1,k2,k3⟩:=Ek ok ho (κ:=κ) (n:=n+1) h2 hn
      refine⟨by simp only[wV,gb,List.length_cons,k1],fun i jd o hi fY=>?_,fun hκ=>⟨fun v Ml lo hk hv=>?_,k3 fun i jd D hi hD=>?_⟩⟩
      ·cases i with
       |zero=>
        cases hi
        cases fY
        exact⟨C,hC,fun Ml e1 e2=>vO5 e1 hO,rfl,_,ah,rfl⟩
       |succ i=>exact k2 i jd o hi fY
      ·obtain⟨D,B,hD,hB,e⟩:=hv
       rw[hC] at hD;cases hD
       exact⟨{C with ver:=0},B,by rw[hk];exact hκ 0 id C rfl hC,hB,e⟩
      ·have:=hκ (i+1) jd D hi hD
       rw[←this];congr 1;omega
     ·cases h1
    |_=>cases h1
  ·cases h
 |[],_::_,_,_,h,_=>by cases h
 |_::_,[],_,_,h,_=>by cases h
theorem El {M Ml:zC}{au:List Nat}(lo:oq M au Ml):∀{cs aR:List zL} {vs:List Value},zQ (ot M au Ml.κ) cs aR→zQ (zZ M) cs vs→zQ (zZ Ml) aR vs
 |[],[],[],_,_=>trivial
 |_::_,_::_,_::_,h,k=>⟨h.1 _ _ lo rfl k.1,El lo h.2 k.2⟩
 |[],[],_::_,_,k=>k.elim
 |[],_::_,_,h,_=>h.elim
 |_::_,[],_,h,_=>h.elim
 |_::_,_::_,[],_,k=>k.elim
def yq (au:List Nat)(bs:List (Bool×Nat)):Prop:=∀b∈bs,(b.1=true→b.2∈au)∧(b.1=false→b.2∉au)
theorem yXv {M:zC}(ok:Ok M){au:List Nat}(ho:lD M au){io:Bool}{id:Nat}{cells:List zL}(h:Ir M.h io id=some cells)(hm:(io=true→id∈au)∧(io=false→id∉au)):
  ∃C B,M.κ id=some C∧C.blk=some B∧∀(Ml:zC) (bO:List zL),oq M au Ml→zQ (ot M au Ml.κ) cells bO→yU Ml (bif io then .box true bO else .robox bO) C:=by
 unfold Ir at h
 split at h
 ·rename_i cs ah
  cases h
  obtain⟨C,hC,B,vals,e,h1,h2,h3,h4,h5⟩:=ok.obj id _ ah
  exact⟨C,B,hC,h1,fun Ml bO lo ht=>⟨B,vals,e,h1,h2,by rw[lo.H];exact h3,El lo ht h4,fun e=>by cases e⟩⟩
 ·rename_i own cs ah
  cases h
  obtain⟨C,hC,B,vals,e,h1,h2,h3,h4,h5⟩:=ok.obj id _ ah
  refine⟨C,B,hC,h1,fun Ml bO lo ht=>⟨B,vals,e,h1,h2,by rw[lo.H];exact h3,El lo ht h4,?_⟩⟩
  rw[lo.F]
  cases own with
  |false=>exact pG ok ho (ok.GF B (h5 rfl))
  |true=>
   refine⟨(Array.getElem?_eq_some_iff.1 h3).1,fun hd=>?_⟩
   obtain⟨jd,hj,D,hD,hb⟩:=hd
   obtain⟨q,q1,q2⟩:=ho jd hj
   exact ok.disj jd id q _ D C B (fun e=>hm.2 rfl (by rw[←e];exact hj)) q1 ah q2 rfl hD hC hb (by simp[zT.fp,h1])
 ·rename_i cs ah
  cases h
  obtain⟨C,hC,B,vals,e,h1,h2,h3,h4,h5⟩:=ok.obj id _ ah
  refine⟨C,B,hC,h1,fun Ml bO lo ht=>⟨B,vals,e,h1,h2,by rw[lo.H];exact h3,El lo ht h4,?_⟩⟩
  rw[lo.F]
  exact pG ok ho h5
 ·cases h
def PH (M:zC)(au:List Nat)(bs:List (Bool×Nat))(mk:List zL→List Obj)(cs:List zL):Prop:=∀(Ml:zC) (aR:List zL),oq M au Ml→zQ (ot M au Ml.κ) cs aR→
 zQ (fun(b:Bool×Nat) o=>∃C B,M.κ b.2=some C∧C.blk=some B∧yU Ml o C∧o.owned=b.1) bs (mk aR)
theorem PI {M:zC}(ok:Ok M){au:List Nat}(ho:lD M au):∀{ls:List (Bool×List XC)} {ids:List Nat} {cs:List zL} {bs:List (Bool×Nat)},mX M.h ls ids=some (cs,bs)→yq au bs→
  cs.length=(ls.flatMap (·.2)).length∧bs=(ls.map (·.1)).zip ids∧ids.length=ls.length∧PH M au bs (Iu ls) cs
 |[],[],cs,bs,h,_=>by cases h;exact⟨rfl,rfl,rfl,fun _ _ _ _=>trivial⟩
 |(io,l)::ls,id::ids,cs,bs,h,hf=>by
  unfold mX at h
  split at h
  ·rename_i cells rest Is h1 h2
   obtain⟨hl,h⟩:=vX h
   cases h
   have hl:cells.length=l.length:=Nat.eq_of_beq_eq_true hl
   obtain⟨C,B,hC,hB,hO⟩:=yXv ok ho h1 (hf _ (List.mem_cons_self ..))
   obtain⟨k1,k2,k3,k4⟩:=PI ok ho h2 fun b hb=>hf b (List.mem_cons_of_mem _ hb)
   refine⟨by simp[hl,k1],by rw[k2];rfl,by simp[k3],fun Ml aR lo ht=>?_⟩
   have je:=zQ.take l.length ht
   have j4:=zQ.drop l.length ht
   rw[←hl,List.take_left] at je
   rw[←hl,List.drop_left] at j4
   refine⟨⟨C,B,hC,hB,?_,?_⟩,?_⟩
   ·rw[←hl];exact hO Ml _ lo je
   ·cases io<;>rfl
   ·rw[←hl];exact k4 Ml _ lo j4
  ·cases h
 |[],_::_,_,_,h,_=>by cases h
 |_::_,[],_,_,h,_=>by cases h
theorem yZs {M:zC}(ok:Ok M){au:List Nat}(ho:lD M au){s:AX}{a:zI}{v:Value}{cs:List zL}{bs:List (Bool×Nat)}(hv:qA M a v)(h:s.get M.h a=some (cs,bs))(hf:yq au bs):
  cs.length=s.cells.length∧PH M au bs (fun aR=>s.boxes aR) cs∧∀(Ml:zC) (aR:List zL) (n:Nat),oq M au Ml→zQ (ot M au Ml.κ) cs aR→(∀i b,bs[i]? =some b→Ml.κ (n+i)=M.κ b.2)→qA Ml (s.mk n aR) v:=by
 unfold AX.get at h
 split at h
 ·rename_i p x
  cases h
  refine⟨rfl,fun Ml aR lo ht=>trivial,fun Ml aR n lo ht _=>?_⟩
  match aR,ht with
  |[c'],ht=>exact ht.1 v Ml lo rfl hv
 ·rename_i l xs
  obtain⟨hl,h'⟩:=vX h
  cases h'
  have hl:cs.length=l.length:=Nat.eq_of_beq_eq_true hl
  obtain⟨vs,rfl,hx⟩:=hv
  exact⟨by simp[AX.cells,hl],fun Ml aR lo ht=>trivial,fun Ml aR n lo ht _=>⟨vs,rfl,El lo ht hx⟩⟩
 ·rename_i io l id
  obtain⟨k1,k2,k3,k4⟩:=PI ok ho h hf
  refine⟨by rw[k1];simp[AX.cells],k4,fun Ml aR n lo ht hκ=>?_⟩
  obtain⟨C,B,hC,hB,e⟩:=hv
  exact⟨C,B,by have:=hκ 0 (io,id) (by rw[k2];rfl);rw[Nat.add_zero] at this;rw[this];exact hC,hB,e⟩
 ·rename_i f bD g ids
  obtain⟨hg,h'⟩:=vX h
  have Pn:f=g:=Nat.eq_of_beq_eq_true hg
  subst Pn
  obtain⟨k1,k2,k3,k4⟩:=PI ok ho h' hf
  refine⟨by rw[k1];rfl,k4,fun Ml aR n lo ht hκ=>?_⟩
  obtain⟨cv,rfl,hc⟩:=hv
  refine⟨cv,rfl,?_⟩
  have l2:=hc.length
  refine zQ.of_get (by rw[List.length_map,List.length_range];omega) fun i h1 h2=>?_
  simp only[List.getElem_map,List.getElem_range]
  have hi:i<ids.length:=by simp at h1;omega
  obtain⟨C,B,q1,q2,q3⟩:=hc.get i hi h2
  have hb:bs[i]? =some ((bD.map (·.1))[i]'(by simp at h1⊢;omega),ids[i]):=by
   rw[k2,List.getElem?_eq_getElem (by rw[List.length_zip,List.length_map];omega),List.getElem_zip]
  exact⟨C,B,by rw[hκ i _ hb];exact q1,q2,q3⟩
 ·cases h
theorem yQt {M:zC}(ok:Ok M){au:List Nat}(ho:lD M au):∀{l:List AX} {as:List zI} {vs:List Value} {cs:List zL} {bs:List (Bool×Nat)},zQ (qA M) as vs→j5 M.h l as=some (cs,bs)→yq au bs→
  cs.length=(l.flatMap AX.cells).length∧(∀n,PH M au bs (fun aR=>(so l aR n).2) cs)∧
   ∀(Ml:zC) (aR:List zL) (n:Nat),oq M au Ml→zQ (ot M au Ml.κ) cs aR→(∀i b,bs[i]? =some b→Ml.κ (n+i)=M.κ b.2)→zQ (qA Ml) (so l aR n).1 vs
 |[],[],[],cs,bs,_,h,_=>by cases h;exact⟨rfl,fun _ _ _ _ _=>trivial,fun _ _ _ _ _ _=>trivial⟩
 |s::l,a::as,v::vs,cs,bs,hv,h,hf=>by
  unfold j5 at h
  split at h
  ·rename_i kE Em cs2 bs2 h1 h2
   cases h
   have hf1:yq au Em:=fun b hb=>hf b (List.mem_append_left _ hb)
   have hf2:yq au bs2:=fun b hb=>hf b (List.mem_append_right _ hb)
   obtain⟨k1,k2,k3⟩:=yZs ok ho hv.1 h1 hf1
   obtain⟨k4,k5,k6⟩:=yQt ok ho hv.2 h2 hf2
   have cut:∀{κ:Nat→Option zT} {aR:List zL},zQ (ot M au κ) (kE++cs2) aR→zQ (ot M au κ) kE (aR.take s.cells.length)∧zQ (ot M au κ) cs2 (aR.drop s.cells.length):=by
    intro κ aR ht
    have je:=zQ.take s.cells.length ht
    have j4:=zQ.drop s.cells.length ht
    rw[←k1,List.take_left,k1] at je
    rw[←k1,List.drop_left,k1] at j4
    exact⟨je,j4⟩
   refine⟨by simp[k1,k4],fun n Ml aR lo ht=>?_,fun Ml aR n lo ht hκ=>?_⟩
   ·obtain⟨je,j4⟩:=cut ht
    exact(k2 Ml _ lo je).append (k5 _ Ml _ lo j4)
   ·obtain⟨je,j4⟩:=cut ht
    have hlen:=(k2 Ml _ lo je).length
    refine⟨k3 Ml _ n lo je fun i b hb=>hκ i b ?_,k6 Ml _ _ lo j4 fun i b hb=>?_⟩
    ·have:i<Em.length:=(List.getElem?_eq_some_iff.1 hb).1
     rw[List.getElem?_append_left this];exact hb
    ·have:=hκ (Em.length+i) b (by rw[List.getElem?_append_right (by omega)];rw[show Em.length+i-Em.length=i by omega];exact hb)
     rw[←this,Nat.add_assoc,hlen]
  ·cases h
 |[],[],_::_,_,_,hv,_,_=>hv.elim
 |[],_::_,_,_,_,_,h,_=>by cases h
 |_::_,[],_,_,_,_,h,_=>by cases h
 |_::_,_::_,[],_,_,hv,_,_=>hv.elim
def κX (M : zC) (bs : List (Bool × Nat)) (rows : List Nat) : Nat → Option zT := fun n => bif Nat.ble wJ n then (match rows[n-wJ]? with
  |some id=>(M.κ id).map fun C=>{C with ver:=0}
  |none=>none)
 else (match bs[n]? with
  |some b=>M.κ b.2
  |none=>none)
theorem uM:∀{bs:List (Bool×Nat)} {i id:Nat},bs[i]? =some (true,id)→id∈vT bs
 |(true,a)::bs,0,id,h=>by cases h;exact List.mem_cons_self ..
 |(true,a)::bs,i+1,id,h=>List.mem_cons_of_mem _ (uM (bs:=bs) (i:=i) h)
 |(false,a)::bs,0,id,h=>by cases h
 |(false,a)::bs,i+1,id,h=>uM (bs:=bs) (i:=i) h
theorem PJ:∀{bs:List (Bool×Nat)} {i j id:Nat},(vT bs).Nodup→bs[i]? =some (true,id)→bs[j]? =some (true,id)→i=j
 |(true,a)::bs,0,0,id,_,_,_=>rfl
 |(true,a)::bs,0,j+1,id,hn,h,k=>by
  cases h
  exact absurd (uM (bs:=bs) (i:=j) k) (List.nodup_cons.1 hn).1
 |(true,a)::bs,i+1,0,id,hn,h,k=>by
  cases k
  exact absurd (uM (bs:=bs) (i:=i) h) (List.nodup_cons.1 hn).1
 |(true,a)::bs,i+1,j+1,id,hn,h,k=>by rw[PJ (bs:=bs) (List.nodup_cons.1 hn).2 h k]
 |(false,a)::bs,0,j,id,_,h,_=>by cases h
 |(false,a)::bs,i+1,0,id,_,_,k=>by cases k
 |(false,a)::bs,i+1,j+1,id,hn,h,k=>by rw[PJ (bs:=bs) hn h k]
theorem vL8 {M:zC}(ok:Ok M){l:List AX}{as:List zI}{vs:List Value}{cs:List zL}{bs:List (Bool×Nat)}{d:XD l}(hv:zQ (qA M) as vs)(hg:j5 M.h l as=some (cs,bs))(hd:mY M.h (l.flatMap AX.cells) cs=some d)
  (dB:(vT bs++wV (l.flatMap AX.cells) cs).Nodup) (mQ:∀id∈Ee (l.flatMap AX.cells) cs,id∉vT bs++wV (l.flatMap AX.cells) cs) (hro:∀id∈Iw bs,id∉vT bs++wV (l.flatMap AX.cells) cs) (hlen:bs.length≤wJ) (ho:lD M (vT bs++wV (l.flatMap AX.cells) cs)):
  ∃Ml:zC,oq M (vT bs++wV (l.flatMap AX.cells) cs) Ml∧Ml.h=(pF l d).2∧Ok Ml∧(∀b,qU Ml b→jg M (vT bs++wV (l.flatMap AX.cells) cs) b)∧zQ (qA Ml) (pF l d).1 vs∧Ml.κ=κX M bs (wV (l.flatMap AX.cells) cs):=by
 generalize gd:vT bs++wV (l.flatMap AX.cells) cs=au at*
 have su:yq au bs:=by
  intro b hb
  obtain⟨i,hi,rfl⟩:=List.getElem_of_mem hb
  have rJ:bs[i]? =some bs[i]:=List.getElem?_eq_getElem hi
  refine⟨fun e=>?_,fun e=>?_⟩
  ·rw[←gd]
   have:bs[i]? =some (true,bs[i].2):=by rw[rJ,←e]
   exact List.mem_append_left _ (uM this)
  ·apply hro
   clear hg hd dB mQ hro hlen ho gd hv
   induction bs generalizing i with
   |nil=>exact absurd hi (Nat.not_lt_zero i)
   |cons c bs ih=>
    obtain⟨io,a⟩:=c
    cases i with
    |zero=>cases io<;>first|exact List.mem_cons_self .. |cases e
    |succ i=>cases io<;>first|exact List.mem_cons_of_mem _ (ih i (by simpa using hi) (List.getElem_mem _) (List.getElem?_eq_getElem _) e)|exact ih i (by simpa using hi) (List.getElem_mem _) (List.getElem?_eq_getElem _) e
 let κ:=κX M bs (wV (l.flatMap AX.cells) cs)
 obtain⟨k1,k2,k3⟩:=Ek ok ho (κ:=κ) (n:=wJ) hd mQ
 have ht:zQ (ot M au κ) cs (gb (l.flatMap AX.cells) d wJ).1:=k3 fun i id C hi hC=>by
  show κX M bs _ (wJ+i)=_
  unfold κX
  rw[Nat.ble_eq_true_of_le (Nat.le_add_right _ _),show wJ+i-wJ=i by omega,hi]
  simp[hC]
 obtain⟨a1,a2,a3⟩:=yQt ok ho hv hg su
 let Ml:zC:={κ:=κ,F:=fun b=>b<M.H.size∧¬jg M au b,G:=M.G,h:=(pF l d).2,H:=M.H}
 have lo:oq M au Ml:=⟨rfl,rfl,rfl⟩
 have uN:=a2 0 Ml _ lo ht
 have hκbox:∀i b,bs[i]? =some b→Ml.κ (0+i)=M.κ b.2:=fun i b hb=>by
  have hi:i<bs.length:=(List.getElem?_eq_some_iff.1 hb).1
  show κX M bs _ (0+i)=_
  unfold κX
  have:Nat.ble wJ (0+i)=false:=by
   cases h:Nat.ble wJ (0+i) with
   |false=>rfl
   |true=>have:=Nat.le_of_ble_eq_true h;omega
  rw[this,Nat.zero_add,hb]
  rfl
 have iJ:∀id o,Ml.h id=some o→∃jd C,Ml.κ id=some C∧yU Ml o C∧(o.owned=true→jd∈au∧∃D,M.κ jd=some D∧D.fp=C.fp)∧
   ((Nat.ble wJ id=true∧(wV (l.flatMap AX.cells) cs)[id-wJ]? =some jd)∨(Nat.ble wJ id=false∧∃io,bs[id]? =some (io,jd)∧o.owned=io)):=by
  intro id o h
  have h:Ef (so l (gb (l.flatMap AX.cells) d wJ).1 0).2 (gb (l.flatMap AX.cells) d wJ).2 id=some o:=h
  unfold Ef at h
  cases hb:Nat.ble wJ id with
  |true=>
   rw[hb] at h
   have h:(gb (l.flatMap AX.cells) d wJ).2[id-wJ]? =some o:=h
   have hi:=(List.getElem?_eq_some_iff.1 h).1
   have hj:(wV (l.flatMap AX.cells) cs)[id-wJ]? =some ((wV (l.flatMap AX.cells) cs)[id-wJ]'(by omega)):=List.getElem?_eq_getElem (by omega)
   obtain⟨C,hR⟩:=k2 _ _ _ hj h
   refine⟨_,{C with ver:=0},?_,hR.rep Ml rfl rfl,fun _=>⟨?_,C,hR.κ,rfl⟩,.inl ⟨rfl,hj⟩⟩
   ·show κX M bs _ id=_
    unfold κX
    rw[hb,hj]
    simp[hR.κ]
   ·rw[←gd]
    exact List.mem_append_right _ (List.getElem_mem _)
  |false=>
   rw[hb] at h
   have h:(so l (gb (l.flatMap AX.cells) d wJ).1 0).2[id]? =some o:=h
   have hi:=(List.getElem?_eq_some_iff.1 h).1
   have PK:id<bs.length:=by rw[uN.length];exact hi
   have hq:=uN.get id PK hi
   rw[List.getElem?_eq_getElem hi] at h
   cases h
   obtain⟨C,B,q1,q2,q3,q4⟩:=hq
   have rJ:bs[id]? =some bs[id]:=List.getElem?_eq_getElem PK
   refine⟨bs[id].2,C,?_,q3,fun e=>⟨(su _ (List.getElem_mem PK)).1 (by rw[←q4];exact e),C,q1,rfl⟩,.inr ⟨rfl,bs[id].1,rJ,q4⟩⟩
   have:=hκbox id _ rJ
   rw[Nat.zero_add] at this
   rw[this];exact q1
 have aM:∀b,qU Ml b→jg M au b:=fun b ⟨id,o,C,h1,h2,h3,h4⟩=>by
  obtain⟨jd,C',q1,_,q3,_⟩:=iJ id o h1
  rw[h3] at q1
  cases q1
  obtain⟨p1,D,p2,p3⟩:=q3 h2
  exact⟨jd,p1,D,p2,by rw[p3];exact h4⟩
 refine⟨Ml,lo,rfl,⟨fun id o h=>?_,fun id h=>?_,fun i j oi oj Ci Cj b jq h1 h2 h3 h4 h5 h6 h7 h8=>?_,fun b hb=>⟨fun hf=>hf.2 (aM b hb),(ok.own b ((aM b hb).own ho)).2⟩,fun b hb=>pG ok ho (ok.GF b hb),fun b hb=>hb.1⟩,aM,a3 Ml _ 0 lo ht hκbox,rfl⟩
 ·obtain⟨jd,C,q1,q2,_⟩:=iJ id o h
  exact⟨C,q1,q2⟩
 ·have h:Ef (so l (gb (l.flatMap AX.cells) d wJ).1 0).2 (gb (l.flatMap AX.cells) d wJ).2 id=none:=h
  unfold Ef at h
  show κX M bs _ id=none
  unfold κX
  cases hb:Nat.ble wJ id with
  |true=>
   rw[hb] at h
   have h:(gb (l.flatMap AX.cells) d wJ).2[id-wJ]? =none:=h
   rw[List.getElem?_eq_none_iff,←k1] at h
   rw[List.getElem?_eq_none h]
   rfl
  |false=>
   rw[hb] at h
   have h:(so l (gb (l.flatMap AX.cells) d wJ).1 0).2[id]? =none:=h
   rw[List.getElem?_eq_none_iff,←uN.length] at h
   rw[List.getElem?_eq_none h]
   rfl
 ·obtain⟨ji,Ci',p1,_,p3,p4⟩:=iJ i oi h1
  obtain⟨jj,Cj',q1,_,q3,q4⟩:=iJ j oj h2
  rw[h5] at p1;cases p1
  rw[h6] at q1;cases q1
  obtain⟨p5,Di,p6,p7⟩:=p3 h3
  obtain⟨q5,Dj,q6,q7⟩:=q3 h4
  obtain⟨oi',r1,r2⟩:=ho ji p5
  obtain⟨oj',r3,r4⟩:=ho jj q5
  refine ok.disj ji jj oi' oj' Di Dj b (fun e=>?_) r1 r3 r2 r4 p6 q6 (by rw[p7];exact h7) (by rw[q7];exact h8)
  subst e
  rw[←gd] at dB
  obtain⟨n1,n2,n3⟩:=List.nodup_append.1 dB
  rcases p4 with⟨p8,p9⟩|⟨p8,io,p9,pH⟩<;>rcases q4 with⟨q8,q9⟩|⟨q8,io',q9,Ix⟩
  ·have:=(List.getElem?_inj (List.getElem?_eq_some_iff.1 p9).1 n2).1 (p9.trans q9.symm)
   have e1:=Nat.le_of_ble_eq_true p8
   have e2:=Nat.le_of_ble_eq_true q8
   exact jq (by omega)
  ·rw[h4] at Ix
   subst Ix
   exact n3 _ (uM q9) _ (List.mem_of_getElem? p9) rfl
  ·rw[h3] at pH
   subst pH
   exact n3 _ (uM p9) _ (List.mem_of_getElem? q9) rfl
  ·rw[h3] at pH
   rw[h4] at Ix
   subst pH
   subst Ix
   exact jq (PJ n1 p9 q9)
end Go.Ab
