/- part 2 -/
import Derived.Test.YtajdkmfmbgephaaGreatGiAbB
import Derived.ProofKit
import Derived.Below
import Derived.Carry
import Derived.Laws.Externs
set_option linter.unusedVariables false
set_option linter.unusedSimpArgs false
set_option linter.unusedSectionVars false
namespace Go.Ab
def Ex.toExit:Ex→Exit
 |.normal=>.normal
 |.ret=>.ret
 |.exit id=>.exit id
theorem Yt {P Q c}(I:Nat→Act→World→Prop)(round:∀n a w,I n a w→c.wp P (Exit.then (fun a' w'=>∃m,m<n∧I m a' w') Q) a w){n a w}(h₀:I n a w):(Code.loop c).wp P Q a w:=by
 intro b k cs
 have key:∀n a w,I n a w→∃e a' w',Q e a' w'∧Arrives P (lone (b.at a (.code c::.inLoop c::k)) cs w) b k cs e a' w':=by
  intro n
  induction n using Nat.strongRecOn with
  |_ n ih=>
   intro a w hI
   obtain⟨e,a₁,w₁,hq,gu⟩:=round n a w hI b (.inLoop c::k) cs
   cases e with
   |normal=>
    obtain⟨m,hm,hI₁⟩:=hq
    obtain⟨e₂,a₂,w₂,hq₂,harr₂⟩:=ih m hm a₁ w₁ hI₁
    exact⟨e₂,a₂,w₂,hq₂,.of_steps (Steps.trans gu (.one step_inLoop)) harr₂⟩
   |exit id=>exact⟨_,a₁,w₁,hq,.pass (x:=.inLoop c) rfl (by simp) gu⟩
   |goto l=>exact⟨_,a₁,w₁,hq,.pass (x:=.inLoop c) rfl (by simp) gu⟩
   |ret=>exact⟨_,a₁,w₁,hq,.pass (x:=.inLoop c) rfl (fun _ _=>.inl (by simp)) gu⟩
   |panic ch=>exact⟨_,a₁,w₁,hq,.pass (x:=.inLoop c) rfl (fun _ _=>.inl (by simp)) gu⟩
   |outgrown=>exact⟨_,a₁,w₁,hq,.pass (x:=.inLoop c) rfl (by simp) gu⟩
 obtain⟨e,a',w',hq,gu⟩:=key n a w h₀
 exact⟨e,a',w',hq,.of_steps (.one step_loop) gu⟩
def HH (tmps:Array Value):ResultVar→Sem Value
 |.tmp t=>pure (tmps.getD t undef)
 |.cell c t=>do loadVar t (←asAddr (tmps.getD c undef))
def uc (base:Nat):(l:List (Ex×zG))→qn l→Ex×St
 |[],d=>(.normal,⟨fun _=>.undef,fun _=>none⟩)
 |[p],d=>(p.1,zQ base p.2 d)
 |p::q::l,d=>match d with
  |.inl d=>(p.1,zQ base p.2 d)
  |.inr d=>uc base (q::l) d
theorem Yu {R base K}{out:R}:∀{l d},xu base l d K=some out→K (uc base l d).1 (uc base l d).2=some out
 |[p],_,h
 |p::q::l,.inl d,h=>h
 |p::q::l,.inr d,h=>Yu (l:=q::l) h
def DF (base:Nat):(l:List zG)→nc l→St
 |[],_=>⟨fun _=>.undef,fun _=>none⟩
 |[S],d=>zQ base S d
 |S::T::l,d=>match d with
  |.inl d=>zQ base S d
  |.inr d=>DF base (T::l) d
theorem Yv {R base K}{out:R}:∀{l d},G1 base l d K=some out→K (DF base l d)=some out
 |[S],_,h
 |S::T::l,.inl d,h=>h
 |S::T::l,.inr d,h=>Yv (l:=T::l) h
def qC (P:Program)(pre na nt:Nat)(b:Code)(L:qE):Prop:=∀k d x,L.sum k d=some x→∀(a0:Nat→Value) (M0:zH) (w0:World) (a:Act) (w:World) (Q:Exit→Act→World→Prop),
 vD false na nt a0 M0 w0 (DF (pre+eI) L.ins d) a w→
 (∀(o:qn L.outs) a' w',(∀R K,L.elim (pre+eI) x R K=xu (pre+eI) L.outs o K)→vD false na nt a0 M0 w0 (uc (pre+eI) L.outs o).2 a' w'→Q (uc (pre+eI) L.outs o).1.toExit a' w')→
 (Code.loop b).wp P Q a w
def vT (P:Program)(A:qF)(pre na nt:Nat):Code→Prop
 |.seq a b=>vT P A pre na nt a∧vT P A pre na nt b
 |.cond _ a b=>vT P A pre na nt a∧vT P A pre na nt b
 |.block _ b=>vT P A pre na nt b
 |.loop b=>(∀L,qt A b=some L→qC P pre na nt b L)∧(qt A b=none→vT P A pre na nt b)
 |_=>True
theorem Yw {A c b st}(h:st.ev c=.c (.bool b)):G2 A c b st=st:=by
 unfold G2
 split
 ·rw[Nf h]
 ·rfl
section
variable {nl:Bool} {E:Env} {A:qF} {k pre na nt:Nat} {a0:Nat→Value} {R:Type} {M0:zH} {w0:World} {out:R}
theorem Ns {a w st}(r:vD false na nt a0 M0 w0 st a w):∀{l x},xr pre l st=some x→vD false na nt a0 M0 w0 (DF (pre+eI) l x) a w
 |[S],x,h=>HG r h
 |S::T::l,x,h=>by
  unfold xr at h
  split at h
  ·rename_i d hd
   cases h
   exact HG r hd
  ·split at h
   ·rename_i d hd
    cases h
    exact Ns r (l:=T::l) hd
   ·cases h
theorem Yx (hE:dG E)(hS:fL E.sums)(hm:E.P.follows .mixedOrders=true)(Hq:nl=true→A.loops=[]):∀c,vT E.P A pre na nt c→∀st K a w Q,gb E A k pre na nt c st K=some out→vD nl na nt a0 M0 w0 st a w→
  (∀e bu a' w',vD nl na nt a0 M0 w0 bu a' w'→K e bu=some out→Q e.toExit a' w')→c.wp E.P Q a w:=by
 intro c
 induction c with
 |skip=>exact fun _ st K a w Q h r hK=>wp_skip (hK .normal st a w r h)
 |region id ops draw=>
  intro _ st K a w Q h r hK
  cases draw with
  |true=>
   cases he:CT ops with
   |false=>simp only[gb,he] at h;cases h
   |true=>
    simp only[gb,he] at h
    exact yUm hE hS hm he h r fun bu a' w' r' h'=>hK .normal bu a' w' r' h'
  |false=>
   have:=X6 hE (Q:=Q) _ _ _ _ a w (by grind) h r fun bu a' w' r' h'=>hK .normal bu a' w' r' h'
   refine wp_region ?_
   have e:(ops.toList.zipIdx.map fun p=>(p.2,p.1)).map (·.1)=List.range ops.size:=by
    rw[List.map_map]
    have e2:((fun x:Nat×Oper=>x.1)∘fun p:Oper×Nat=>(p.2,p.1))=Prod.snd:=rfl
    rw[e2,List.zipIdx_map_snd,←List.range_eq_range']
    simp
   simp_all
 |seq x y Nt Nu=>
  intro hL st K a w Q h r hK
  simp only[gb] at h
  refine wp_seq (Nt hL.1 st _ a w _ h r fun e bu a' w' r' h'=>?_)
  cases e with
  |normal=>exact Nu hL.2 bu K a' w' Q h' r' hK
  |ret=>exact hK .ret bu a' w' r' h'
  |exit id=>exact hK (.exit id) bu a' w' r' h'
 |cond c x y Nt Nu=>
  intro hL st K a w Q h r hK
  simp only[gb] at h
  split at h
  ·rename_i t ht
   obtain⟨M,_,_,_,_,hv⟩:=r.ex
   have hc:=X2 hv c
   rw[ht] at hc
   refine wp_cond (t:=t) hc ?_
   cases t with
   |true=>
    rw[Yw ht,cond_true] at h
    exact Nt hL.1 st K a w Q h r hK
   |false=>
    rw[Yw ht,cond_false] at h
    exact Nu hL.2 st K a w Q h r hK
  ·cases h
 |block id b ih=>
  intro hL st K a w Q h r hK
  simp only[gb] at h
  refine wp_block (ih hL st _ a w _ h r fun e bu a' w' r' h'=>?_)
  cases e with
  |normal=>exact hK .normal bu a' w' r' h'
  |ret=>exact hK .ret bu a' w' r' h'
  |exit i=>
   show if i=id then Q .normal a' w' else Q (.exit i) a' w'
   dsimp only at h'
   cases e:Nat.beq i id with
   |true=>
    rw[e] at h'
    rw[if_pos (by simpa using e)]
    exact hK .normal bu a' w' r' h'
   |false=>
    rw[e] at h'
    rw[if_neg (fun e'=>by simp_all)]
    exact hK (.exit i) bu a' w' r' h'
 |loop b ih=>
  intro hL st K a w Q h r hK
  simp only[gb] at h
  split at h
  ·rename_i hN
   refine Yt (fun n a w=>∃st,vD nl na nt a0 M0 w0 st a w∧L7 (gb E A k pre na nt b) n st K=some out) (fun n a w ⟨st,r,hi⟩=>?_) ⟨st,r,h⟩
   cases n with
   |zero=>cases hi
   |succ n=>
    refine ih (hL.2 hN) st _ a w _ hi r fun e bu a' w' r' h'=>?_
    cases e with
    |normal=>exact⟨n,by simp,bu,r',h'⟩
    |ret=>exact hK .ret bu a' w' r' h'
    |exit id=>exact hK (.exit id) bu a' w' r' h'
  ·rename_i L hN
   split at h
   ·cases h
   ·rename_i d hd
    obtain⟨x,hx,h⟩:=Option.bind_eq_some_iff.1 h
    cases nl with
    |true=>
     unfold qt at hN
     grind
    |false=>exact hL.1 L hN k d x hx a0 M0 w0 a w Q (Ns r hd) fun o a' w' ho r'=>hK _ _ a' w' r' (Yu (by simp_all))
 |exit id=>exact fun _ st K a w Q h r hK=>wp_exit (hK (.exit id) st a w r h)
 |ret=>exact fun _ st K a w Q h r hK=>wp_ret (hK .ret st a w r h)
 |_=>nofun
theorem Yy {a b}(h:LX a b=true):a=b:=by
 cases a<;>cases b<;>first|rfl|(cases h)|skip
 rw[Nat.eq_of_beq_eq_true h]
theorem Yz {a w st e}(r:vD false na nt a0 M0 w0 st a w):∀{l x},CV pre l e st=some x→(uc (pre+eI) l x).1=e∧vD false na nt a0 M0 w0 (uc (pre+eI) l x).2 a w
 |[p],x,h=>by
  obtain⟨he,h⟩:=kC h
  exact⟨Yy he,HG r h⟩
 |p::q::l,x,h=>by
  unfold CV at h
  split at h
  ·rename_i d hd
   cases h
   obtain⟨he,hd⟩:=kC hd
   exact⟨Yy he,HG r hd⟩
  ·split at h
   ·rename_i d hd
    cases h
    exact Yz r (l:=q::l) hd
   ·cases h
theorem yWd (hE:dG E)(hS:fL E.sums)(hm:E.P.follows .mixedOrders=true){b ins outs}(hL:vT E.P A pre na nt b){X} je elim (hX:∀o R K,elim (pre+eI) (je o) R K=xu (pre+eI) outs o K)
  (rec:Nat→Nat→nc ins→Option X) (h0:∀k d,rec k 0 d=none)
  (ax:∀k n d,rec k (n+1) d=G1 (pre+eI) ins d fun st=>gb E A k pre na nt b st (WE pre ins outs je (rec k n))):qC E.P pre na nt b ⟨ins,outs,X,fun k d=>rec k k d,elim⟩:=by
 intro k d x hx a0 M0 w0 a w Q r hQ
 refine Yt (fun n a w=>∃d,vD false na nt a0 M0 w0 (DF (pre+eI) ins d) a w∧rec k n d=some x) (fun n a w ⟨d,r,hi⟩=>?_) ⟨d,r,hx⟩
 cases n with
 |zero=>simp_all
 |succ n=>
  rw[ax k n d] at hi
  refine Yx hE hS hm (by simp) b hL _ _ a w _ (Yv hi) r fun e bu a' w' r' h'=>?_
  have out:∀e,(match CV pre outs e bu with|some o=>some (je o)|none=>none)=some x→Q e.toExit a' w':=fun e h'=>by
   split at h'
   ·rename_i o ho
    obtain⟨h1,h2⟩:=Yz (pre:=pre) r' ho
    grind
   ·cases h'
  cases e with
  |normal=>
   have h':(match xr pre ins bu with|some d=>rec k n d|none=>none)=some x:=h'
   split at h'
   ·rename_i d' hd
    exact⟨n,by simp,d',Ns r' hd,h'⟩
   ·cases h'
  |ret=>exact out .ret h'
  |exit id=>exact out (.exit id) h'
theorem vJ5 fn tmps:results fn tmps=(do let vs←fn.results.mapM (HH tmps);pure (if h:vs.size=1 then vs[0] else .tuple vs)):=rfl
theorem vFh (hE:dG E)(hS:fL E.sums)(hm:E.P.follows .mixedOrders=true){st}{a:Act}{w x v M}(hM:M.h=st.h)(hH:M.H=w.heap)(ok:Ok M)(ht:∀t,zP M (st.t t) (a.tmps.getD t undef))(h:qu E st x=some v):
  ∃rv,(HH a.tmps x).run E.P w=.ok rv w∧zP M v rv:=by
 unfold qu at h
 split at h
 ·rename_i t
  cases h
  exact⟨_,rfl,ht t⟩
 ·rename_i c t
  split at h
  ·rename_i id off hc
   split at h
   ·split at h
    ·rename_i vs c0
     have hv:=ht c
     rw[hc] at hv
     obtain⟨C,B,hC,hB,e⟩:=hv
     obtain⟨C',aq,hO⟩:=ok.obj id _ (by rw[hM];omega)
     rw[hC] at aq;cases aq
     obtain⟨B',gj,aw⟩:=WR hO
     rw[hB] at gj;cases gj
     obtain⟨rv2,kB,cw⟩:∃rv,(loadVar t ⟨B,0+off,none⟩).run E.P w=.ok rv w∧zP M v rv:=WQ ok hH aw c0 h
     refine⟨rv2,?_,cw⟩
     simp  at kB
     unfold HH
     dsimp only
     rw[e]
     simp[asAddr,kB]
    ·cases h
   ·cases h
  ·cases h
theorem vB3 {M v p rv}(h:xv v=some p)(hv:zP M v rv):qw M p rv:=by
 unfold xv at h
 split at h
 ·cases h;exact hv
 ·cases h;exact hv
 ·cases h
theorem YA {M}:∀{vs xs rs},zK (fun a b=>xv a=some b) vs xs→zK (zP M) vs rs→zK (qw M) xs rs
 |[],[],[],_,_=>trivial
 |_::_,_::_,_::_,h,k=>⟨vB3 h.1 k.1,YA h.2 k.2⟩
theorem YB {st}:∀(l:List ResultVar) xs,l.mapM (fun r=>(qu E st r).bind xv)=some xs→∃vs,l.mapM (qu E st)=some vs∧vs.mapM xv=some xs
 |[],xs,h=>by simp_all
 |x::l,xs,h=>by
  simp only[List.mapM_cons,Option.bind_eq_bind,Option.bind_eq_some_iff] at h
  obtain⟨p,⟨v,h1,h2⟩,ps,h3,h4⟩:=h
  obtain⟨vs,k1,k2⟩:=YB l ps h3
  simp_all
theorem yZq (hE:dG E)(hS:fL E.sums)(hm:E.P.follows .mixedOrders=true){fn st}{a:Act}{w v M}(hM:M.h=st.h)(hH:M.H=w.heap)(ok:Ok M)(ht:∀t,zP M (st.t t) (a.tmps.getD t undef))(h:G3 E fn st=some v):
  ∃rv,(results fn a.tmps).run E.P w=.ok rv w∧zP M v rv:=by
 have one:=fun x v=>vFh hE hS hm (x:=x) (v:=v) hM hH ok ht
 have key:∀(l:List ResultVar) (vs:List zR),l.mapM (qu E st)=some vs→∃rs:List Value,(l.mapM (HH a.tmps)).run E.P w=.ok rs w∧zK (zP M) vs rs:=by
  intro l
  induction l with
  |nil=>exact fun vs h=>by simp at h;subst h;exact⟨[],rfl,trivial⟩
  |cons x l ih=>
   intro vs h
   simp[Option.bind_eq_some_iff] at h
   obtain⟨v,h1,Mz,h2,h3⟩:=h
   cases h3
   obtain⟨rv,k1,k2⟩:=one x v h1
   obtain⟨rs,k3,k4⟩:=ih Mz h2
   refine⟨rv::rs,?_,k2,k4⟩
   simp_all
 have run:∀(vs:List zR),fn.results.toList.mapM (qu E st)=some vs→∃rs:List Value,(results fn a.tmps).run E.P w=.ok (if h:rs.length=1 then rs[0] else .tuple rs.toArray) w∧zK (zP M) vs rs:=fun vs h=>by
  obtain⟨rs,k1,k2⟩:=key _ vs h
  refine⟨rs,?_,k2⟩
  rw[vJ5,Array.mapM_eq_mapM_toList]
  simp_all
 unfold G3 at h
 split at h
 ·cases h
  obtain⟨rs,k1,k2⟩:=run [] (by simp_all)
  cases rs with
  |cons _ _=>exact k2.elim
  |nil=>exact⟨_,k1,#[],rfl,trivial⟩
 ·obtain⟨rs,k1,k2⟩:=run [v] (by simp_all)
  match rs,k2 with
  |[r],k2=>exact⟨_,k1,k2.1⟩
 ·split at h
  ·rename_i xs Dw
   cases h
   obtain⟨vs,k1,k2⟩:=YB _ _ Dw
   obtain⟨rs,r1,r2⟩:=run vs k1
   have hlen:rs.length≠1:=fun e=>by
    have e1:=r2.length
    have e2:=(Dv _ _ _ k1).length
    have h3:fn.results.toList.length=1:=by omega
    match hl:fn.results.toList,h3 with
    |[x],_=>simp_all
   rw[dif_neg hlen] at r1
   exact⟨_,r1,rs.toArray,rfl,YA (Dv _ _ _ k2) r2⟩
  ·cases h
theorem Nv (hE:dG E)(hS:fL E.sums)(hm:E.P.follows .mixedOrders=true){f fn}(hf:E.P.funcs[f]? =some fn)(hL:∀c,fn.body=some c→vT E.P A pre na fn.ntmps c){args h K}(aI:gd E A k pre na fn args h K=some out){M w vs}(hh:M.h=h)(hH:M.H=w.heap)(ok:Ok M)
  (hv:zK (zP M) args vs.toList):Calls E.P f vs w fun
   |.returned rv,w'=>∃(M':zH) (v:zR) (st:St),K v st=some out∧M'.h=st.h∧M'.H=w'.heap∧Ok M'∧fM M M'∧(A.loops=[]→jt M M')∧zP M' v rv∧w'.os=w.os∧w'.tape=w.tape∧w'.output=w.output∧
     (∀t,t<na→zP M' (st.t t) (vs.getD t undef))
   |_,_=>False:=by
 unfold gd at aI
 cases hb:fn.body with
 |none=>simp_all
 |some c=>
  rw[hb] at aI
  dsimp only at aI
  cases hle:Nat.ble args.length fn.ntmps with
  |false=>simp_all
  |true=>
   rw[hle] at aI
   rw[cond_true] at aI
   have hl:=hv.length
   have hle:args.length≤fn.ntmps:=Nat.le_of_ble_eq_true hle
   have cL:vs.size≤fn.ntmps:=by simp at hl;omega
   have DG:∀t,zP M (G4 args t) ((vs++Array.replicate (fn.ntmps-vs.size) undef).getD t undef):=fun t=>by
    unfold G4
    by_cases ht:t<args.length
    ·have Nw:t<vs.size:=by simp at hl;omega
     have:=hv.get t ht (by simpa using Nw)
     simp only[List.getD_eq_getElem?_getD,List.getElem?_eq_getElem ht,Option.getD_some]
     simp only[Array.getD_eq_getD_getElem?,Array.getElem?_append_left Nw,Array.getElem?_eq_getElem Nw,Option.getD_some]
     simpa using this
    ·simp only[List.getD_eq_getElem?_getD,List.getElem?_eq_none (Nat.not_lt.1 ht),Option.getD_none]
     show _=undef
     simp
     grind
   have r:vD A.loops.isEmpty na fn.ntmps (fun t=>(vs++Array.replicate (fn.ntmps-vs.size) undef).getD t undef) M w {t:=G4 args,h:=h} {tmps:=vs++Array.replicate (fn.ntmps-vs.size) undef,defers:=[]} w:=
    ⟨⟨M,hh,hH,ok,⟨.refl M,fun _ _ C h=>⟨C,h,rfl⟩⟩,DG⟩,rfl,by simp;omega,rfl,rfl,rfl,fun _ _=>rfl⟩
   refine calls_of_wp hf hb (Yx hE hS hm (by simp) c (hL c hb) _ _ _ _ _ aI r fun e bu a' w' r' hK=>?_)
   obtain⟨M',q1,q2,q3,q4,q5⟩:=r'.ex
   have fin:∀v,G3 E fn bu=some v→K v bu=some out→a'.defers=[]∧∃rv,(results fn a'.tmps).run E.P w'=.ok rv w'∧∃(M':zH) (v:zR) (st:St),K v st=some out∧M'.h=st.h∧M'.H=w'.heap∧Ok M'∧fM M M'∧(A.loops=[]→jt M M')∧zP M' v rv∧w'.os=w.os∧w'.tape=w.tape∧w'.output=w.output∧
     (∀t,t<na→zP M' (st.t t) (vs.getD t undef)):=fun v iC hK=>by
    obtain⟨rv,k1,k2⟩:=yZq hE hS hm q1 q2 q3 q5 iC
    refine⟨r'.defers,rv,k1,M',v,bu,hK,q1,q2,q3,q4.g,fun h=>q4.k (by grind),k2,r'.os,r'.tape,r'.output,fun t ht=>?_⟩
    have:=q5 t
    rw[r'.keep t ht] at this
    have e:(vs++Array.replicate (fn.ntmps-vs.size) undef).getD t undef=vs.getD t undef:=by
     by_cases h1:t<vs.size
     ·simp[Array.getD_eq_getD_getElem?,Array.getElem?_append_left h1]
     ·simp
      grind
    simp_all
   cases e with
   |exit id=>cases hK
   |normal=>
    dsimp only at hK
    split at hK
    ·rename_i v iC
     exact fin v iC hK
    ·cases hK
   |ret=>
    dsimp only at hK
    split at hK
    ·rename_i v iC
     exact fin v iC hK
    ·cases hK
end
inductive PC where
 |int (k:IntKind)|bool|dat (sh:Bool) (t:Ty)|fn (f:Nat)
 |nil|nilp
abbrev PC.den:PC→Type
 |.int _=>Int|.bool=>Bool|.dat _ t=>List t.den|.fn _=>Unit|.nil=>Unit|.nilp=>Unit
abbrev PL:List PC→Type
 |[]=>Unit
 |p::l=>p.den×PL l
inductive AS where
 |c (p:PC)|agg (l:List PC)|ptr (l:List PC)|fn (f:Nat) (ba:List (List PC))
def AS.cells:AS→List PC
 |.c p=>[p]
 |.agg l=>l
 |.ptr l=>l
 |.fn _ ba=>ba.flatten
abbrev AD (l:List AS):Type:=PL (l.flatMap AS.cells)
def ud (h:Hp)(t:Ty):zT→Option (List t.den)
 |.nsl=>some []
 |c=>match ga h c with
  |some ⟨s,xs⟩=>eC s t xs
  |none=>none
def oV (h:Hp):(p:PC)→zT→Option p.den
 |.int k,.int j n=>bif iu j k then some n else none
 |.bool,.bool b=>some b
 |.dat false t,c=>ud h t c
 |.dat true t,.fsl true s xs=>eC s t xs
 |.dat true t,.nsl=>some []
 |.fn f,.fn g []=>bif Nat.beq f g then some () else none
 |.nil,.nsl=>some ()
 |.nilp,.nilp=>some ()
 |_,_=>none
def ue (h:Hp):(l:List PC)→List zT→Option (PL l)
 |[],[]=>some ()
 |p::l,c::cs=>match oV h p c,ue h l cs with
  |some d,some ds=>some (d,ds)
  |_,_=>none
 |_,_=>none
def xV (h:Hp)(id:Nat):Option (List zT):=match h id with
 |some (.box _ cells)=>some cells
 |some (.robox cells)=>some cells
 |_=>none
def oW (h:Hp):List (List PC)→List Nat→Option (List zT)
 |[],[]=>some []
 |l::ls,id::ids=>match xV h id,oW h ls ids with
  |some cells,some rest=>bif Nat.beq cells.length l.length then some (cells++rest) else none
  |_,_=>none
 |_,_=>none
def AS.get (h:Hp):AS→zR→Option (List zT)
 |.c _,.c x=>some [x]
 |.agg l,.agg xs=>bif Nat.beq xs.length l.length then some xs else none
 |.ptr l,.c (.ptr id 0)=>oW h [l] [id]
 |.fn f ba,.c (.fn g ids)=>bif Nat.beq f g then oW h ba ids else none
 |_,_=>none
def nB (h:Hp):List AS→List zR→Option (List zT)
 |[],[]=>some []
 |s::l,a::as=>match s.get h a,nB h l as with
  |some cs,some rest=>some (cs++rest)
  |_,_=>none
 |_,_=>none
def uf (h:Hp) l (as:List zR):Option (AD l):=match nB h l as with
 |some cs=>ue h (l.flatMap AS.cells) cs
 |none=>none
def xW:(p:PC)→p.den→zT
 |.int k,n=>.int k n
 |.bool,b=>.bool b
 |.dat sh t,xs=>.fsl sh t xs
 |.fn f,_=>.fn f []
 |.nil,_=>.nsl
 |.nilp,_=>.nilp
def vJ:(l:List PC)→PL l→List zT
 |[],_=>[]
 |p::l,d=>xW p d.1::vJ l d.2
def HI:List (List PC)→List zT→List (List zT)
 |[],_=>[]
 |l::ls,cs=>cs.take l.length::HI ls (cs.drop l.length)
def AS.mk (n:Nat)(cs:List zT):AS→zR
 |.c _=>match cs with|x::_=>.c x|[]=>.undef
 |.agg _=>.agg cs
 |.ptr _=>.c (.ptr n 0)
 |.fn f ba=>.c (.fn f ((List.range ba.length).map (n+·)))
def AS.boxes (cs:List zT):AS→List (List zT)
 |.ptr _=>[cs]
 |.fn _ ba=>HI ba cs
 |_=>[]
def iD:List AS→List zT→Nat→List zR×List (List zT)
 |[],_,_=>([],[])
 |s::l,cs,n=>
  let ai:=cs.take s.cells.length
  let bs:=s.boxes ai
  let rest:=iD l (cs.drop s.cells.length) (n+bs.length)
  (s.mk n ai::rest.1,bs++rest.2)
def iE (bs:List (List zT)):Hp:=fun n=>match bs[n]? with
 |some cells=>some (.robox cells)
 |none=>none
def l6 l (d:AD l):List zR×Hp:=
 let r:=iD l (vJ (l.flatMap AS.cells) d) 0
 (r.1,iE r.2)
inductive RC where
 |int (k:IntKind)|bool|fro (t:Ty)|own (t:Ty)|mat
 |jun
 |map
 |nilp|link (j:Nat)
abbrev RC.den:RC→Type
 |.int _=>Int|.bool=>Bool|.fro t=>List t.den|.own t=>List t.den|.mat=>List (List Int)|.jun=>Nat|.map=>List (Int×Bool)|.nilp=>Unit|.link _=>Unit
abbrev RL:List RC→Type
 |[]=>Unit
 |r::l=>r.den×RL l
inductive RS where
 |c (r:RC)|agg (l:List RC)|tup (l:List (Bool×List RC))
def RS.cells:RS→List RC
 |.c r=>[r]
 |.agg l=>l
 |.tup l=>l.flatMap (·.2)
def Nx:List (Bool×List RC)→List (Bool×List zT)→Option (List zT)
 |[],[]=>some []
 | (b, l) :: ls, (g, cs) :: rest => bif (bif b then g else !g && Nat.beq cs.length 1) && Nat.beq cs.length l.length then (match Nx ls rest with
   |some r=>some (cs++r)
   |none=>none) else none
 |_,_=>none
def RS.get:RS→zR→Option (List zT)
 |.c _,.c x=>some [x]
 |.agg l,.agg xs=>bif Nat.beq xs.length l.length then some xs else none
 |.tup l,.tup xs=>Nx l xs
 |_,_=>none
def Ny:List (Bool×List RC)→List zT→List (Bool×List zT)
 |[],_=>[]
 |(b,l)::ls,cs=>(b,cs.take l.length)::Ny ls (cs.drop l.length)
def RS.mk (cs:List zT):RS→zR
 |.c _=>match cs with|x::_=>.c x|[]=>.undef
 |.agg _=>.agg cs
 |.tup l=>.tup (Ny l cs)
def dH (h:Hp):List Bool→List zT→Option (List zT×yR)
 |true::l,c::cs=>match kT h c,dH h l cs with
  |some (c,u),some (cs,us)=>some (c::cs,u++us)
  |_,_=>none
 |false::l,c::cs=>match dH h l cs with
  |some (cs,us)=>some (c::cs,us)
  |none=>none
 |_,cs=>some (cs,[])
def RC.isFro:RC→Bool
 |.fro _=>true
 |_=>false
def PC.isKept:PC→Bool
 |.dat true _=>true
 |_=>false
def l7 (h:Hp):(r:RC)→zT→Option r.den
 |.int k,.int j n=>bif iu j k then some n else none
 |.bool,.bool b=>some b
 |.fro t,.fsl true s xs=>eC s t xs
 |.fro t,.nsl=>some []
 |.own t,.osl id none=>match h id with
  |some (.arr true s xs)=>eC s t xs
  |_=>none
 |.own t,.osl id (some (0,n))=>match h id with
  |some (.arr true s xs)=>eC s t (xs.take n)
  |_=>none
 |.own t,.nsl=>some []
 |.mat,.osl id none=>match h id with
  |some (.mat _ xs)=>some xs
  |some (.pmat _ xs n)=>bif Nat.beq xs.length n then some xs else none
  |_=>none
 |.mat,.nsl=>some []
 |.jun,.osl id none=>match h id with
  |some (.arr true (.sl (.int .i64)) xs)=>some xs.length
  |_=>none
 |.jun,.nsl=>some 0
 |.map,.map id=>match h id with
  |some (.imap cj)=>some cj
  |_=>none
 |.nilp,.nilp=>some ()
 |.link _,.ptr _ 0=>some ()
 |_,_=>none
def gv (h:Hp):(l:List RC)→List zT→Option (RL l)
 |[],[]=>some ()
 |r::l,c::cs=>match l7 h r c,gv h l cs with
  |some d,some ds=>some (d,ds)
  |_,_=>none
 |_,_=>none
def vO:List RC→List zT→List Nat
 |.own _::l,.osl id _::cs=>id::vO l cs
 |.mat::l,.osl id _::cs=>id::vO l cs
 |.jun::l,.osl id _::cs=>id::vO l cs
 |.map::l,.map id::cs=>id::vO l cs
 |_::l,_::cs=>vO l cs
 |_,_=>[]
def DH (h:Hp)(s:RS)(v:zR):Option (RL s.cells):=match s.get v with
 |some cs=>match dH h (s.cells.map RC.isFro) cs with
  |some (cs,u)=>bif ow (vO s.cells cs) then gv (qG h u) s.cells cs else none
  |none=>none
 |none=>none
def ju (rs:RS){X:Type}(unpack:RL rs.cells→X)(v:zR)(st:St):Option X:=match DH st.h rs v with
 |some d=>some (unpack d)
 |none=>none
def nC (nm:Nat):(r:RC)→r.den→zT×yR
 |.int k,n=>(.int k n,[])
 |.bool,b=>(.bool b,[])
 |.fro t,xs=>(.fsl true t xs,[])
 |.own t,xs=>(.osl nm none,[(nm,.arr true t xs)])
 |.mat,xs=>(.osl nm none,[(nm,.mat 0 xs)])
 |.jun,n=>(.osl nm none,[(nm,.pmat 0 [] n)])
 |.map,cj=>(.map nm,[(nm,.imap cj)])
 |.nilp,_=>(.nilp,[])
 |.link _,_=>(.undef,[])
def la (nm:Nat):(l:List RC)→RL l→List zT×yR
 |[],_=>([],[])
 |r::l,d=>
  let x:=nC nm r d.1
  let y:=la (nm+1) l d.2
  (x.1::y.1,x.2++y.2)
def YC (nm:Nat)(s:RS)(d:RL s.cells):zR×yR:=
 let r:=la nm s.cells d
 (s.mk r.1,r.2)
def rD (h:Hp):Nat→Nat→Bool
 |_,0=>true
 |nm,n+1=>(match h nm with|none=>true|some _=>false)&&rD h (nm+1) n
def rE (h:Hp):AS→zR→Option (zR×yR)
 |.c p,.c x=>match dH h [p.isKept] [x] with
  |some ([x],u)=>some (.c x,u)
  |_=>none
 |.agg l,.agg xs=>match dH h (l.map PC.isKept) xs with
  |some (xs,u)=>some (.agg xs,u)
  |none=>none
 |_,a=>some (a,[])
def nD (h:Hp):List AS→List zR→Option (List zR×yR)
 |s::l,a::as=>match rE h s a,nD h l as with
  |some (a,u),some (as,us)=>some (a::as,u++us)
  |_,_=>none
 |_,as=>some (as,[])
def ld as (rs:RS){X}(S:AD as→Option X)(pack:X→RL rs.cells)(nm:Nat)(args:List zR)(h:Hp):yI:=
 match nD h as args with
 |none=>.stuck
 |some (args,u)=>match uf (qG h u) as args with
  |some d=>bif rD h nm rs.cells.length&&Nat.ble rs.cells.length 100 then .call X (S d) (fun r=>((YC nm rs (pack r)).1,u++(YC nm rs (pack r)).2)) else .stuck
  |none=>.stuck
structure Lo (M Ml:zH):Prop where
 H:Ml.H=M.H
 F:Ml.F=fun b=>b<M.H.size
 G:Ml.G=M.G
theorem Nz {M M':zH}(ok:Ok M')(hH:M'.H=M.H){t}{xs:List t.den}{v}(h:zX M'.H M'.G (.sl t) xs (fun _=>some v)):zX M.H (fun b=>b<M.H.size) (.sl t) xs (fun _=>some v):=by
 refine yO (fun b hb=>?_) (by grind) _ _ _ _ (by simp) h
 have:=ok.Flt b (ok.GF b hb)
 simp_all
theorem vCe {M}(ok:Ok M){c v t xs}(hv:zS M c v)(h:ga M.h c=some ⟨t,xs⟩):zX M.H (fun b=>b<M.H.size) (.sl t) xs (fun _=>some v):=by
 unfold ga at h
 split at h
 ·rename_i sh s ys
  cases h
  cases sh with
  |true=>exact yO (fun b hb=>ok.Flt b (ok.GF b hb)) (by simp) _ _ _ _ (fun _ _=>rfl) hv
  |false=>exact yO (fun b hb=>ok.Flt b hb) (by simp) _ _ _ _ (fun _ _=>rfl) hv
 ·rename_i id r
  split at h
  ·rename_i own s ys af
   cases h
   cases own with
   |false=>
    obtain⟨C,hC,hO⟩:=ok.obj _ _ af
    exact Nz ok rfl (tI hC hO hv)
   |true=>
    obtain⟨M',h1,h2,h3,h4⟩:=WV ok af
    obtain⟨C,hC,hO⟩:=h3.obj id _ (by rw[h2];exact yE _ _ _)
    exact Nz h3 h1 (tI hC hO (hv.ext h4.ext))
  ·rename_i ver ys af
   cases r with
   |some p=>cases h
   |none=>
    cases h
    obtain⟨M',h1,h2,h3,h4⟩:=WX ok af
    obtain⟨C,hC,hO⟩:=h3.obj id _ (by rw[h2];exact yE _ _ _)
    exact Nz h3 h1 (tI (r:=none) hC hO (hv.ext h4.ext))
  ·cases h
 ·rename_i id i ver
  split at h
  ·rename_i v' ys af
   cases dm:Nat.beq v' ver with
   |false=>simp_all
   |true=>
    rw[dm] at h
    cases h
    have e:v'=ver:=by simpa using dm
    subst e
    obtain⟨C,hC,hO⟩:=ok.obj _ _ af
    obtain⟨C',aq,bP,_,aC⟩:=hv
    rw[hC] at aq;cases aq
    obtain⟨rb,rl,Ds,rp⟩:=aC hO.1
    by_cases hi:i<ys.length
    ·obtain⟨B,lX,v2,k1,k2,k3,k4,k5,k6⟩:=xz hO hi
     rw[Ds] at k3
     cases k3
     rw[show ys.getD i []=ys[i] by simp_all]
     simp only[zX]
     cases rb with
     |none=>
      obtain⟨rfl,h0⟩:=rp
      grind
     |some R=>
      obtain⟨a,c,rfl,h1,h2,h3⟩:=rp
      refine⟨_,_,c,rfl,rfl,h1,?_⟩
      by_cases h0:ys[i].length=0
      ·simp_all
      ·have ha:a=0:=by omega
       subst ha
       refine .inr ⟨R,0,rfl,?_,fun j hj=>?_⟩
       ·have:=k6 R rfl 0 (by omega)
        unfold yF at this
        grind
       ·simp only[Ty.size]
        simp_all
    ·have:C.rows[i]? =none:=List.getElem?_eq_none (by have:=hO.2.2.2.1;omega)
     simp_all
  ·cases h
 ·cases h
theorem DI {H F t}:zX H F (.sl t) ([]:List t.den) (fun _=>some (.slice none 0 0)):=⟨none,0,0,rfl,rfl,by simp,by simp⟩
theorem vEa {M}(ok:Ok M){c v t xs}(hv:zS M c v)(h:ud M.h t c=some xs):zX M.H (fun b=>b<M.H.size) (.sl t) xs (fun _=>some v):=by
 unfold ud at h
 split at h
 ·cases h
  rw[show v=.slice none 0 0 from hv]
  exact DI
 ·split at h
  ·rename_i s ys hr
   obtain⟨e,hx⟩:=gU h
   subst e
   subst hx
   exact vCe ok hv hr
  ·cases h
def Tr (M:zH)(c c':zT):Prop:=∀v Ml,Lo M Ml→zS M c v→zS Ml c' v
theorem yT8 {M}(ok:Ok M){p c d}(h:oV M.h p c=some d):Tr M c (xW p d):=by
 intro v Ml lo hv
 unfold oV at h
 split at h
 ·rename_i k j n
  cases e:iu j k with
  |false=>simp_all
  |true=>rw[e] at h;cases h;rw[←qi e];exact hv
 ·cases h;exact hv
 ·have:=vEa ok hv h
  show zX Ml.H Ml.F _ _ _
  rw[lo.H,lo.F]
  omega
 ·obtain⟨e,hx⟩:=gU h
  subst e
  subst hx
  show zX Ml.H Ml.G _ _ _
  rw[lo.H,lo.G]
  exact hv
 ·cases h
  rw[show v=.slice none 0 0 from hv]
  exact DI
 ·rename_i f g
  cases e:Nat.beq f g with
  |false=>simp_all
  |true=>
   have:f=g:=by simp_all
   subst this
   obtain⟨cv,rfl,hc⟩:=hv
   refine⟨cv,rfl,?_⟩
   generalize cv.toList=l at hc
   cases l with
   |nil=>trivial
   |cons _ _=>exact hc.elim
 ·exact hv
 ·exact hv
 ·cases h
theorem YD {M}(ok:Ok M):∀{l cs d},ue M.h l cs=some d→zK (Tr M) cs (vJ l d)
 |[],[],_,_=>trivial
 |p::l,c::cs,d,h=>by
  unfold ue at h
  split at h
  ·rename_i x xs h1 h2
   cases h
   exact⟨yT8 ok h1,YD ok h2⟩
  ·cases h
theorem NA {M Ml}(lo:Lo M Ml):∀{cs aH vs},zK (Tr M) cs aH→zK (zS M) cs vs→zK (zS Ml) aH vs
 |[],[],[],_,_=>trivial
 |_::_,_::_,_::_,h,k=>⟨h.1 _ _ lo k.1,NA lo h.2 k.2⟩
def rF (M:zH)(C:zV)(cells:List zT):Prop:=∃B vals e,C.blk=some B∧C.rows=[]∧M.H[B]? =some (.cells vals e (0,0))∧zK (zS M) cells vals.toList
theorem YE {M}(ok:Ok M){id cells}(h:xV M.h id=some cells):∃C,M.κ id=some C∧rF M C cells:=by
 unfold xV at h
 split at h
 ·rename_i own cs af
  cases h
  obtain⟨C,hC,B,vals,e,h1,h2,h3,h4,_⟩:=ok.obj id _ af
  exact⟨C,hC,B,vals,e,h1,h2,h3,h4⟩
 ·rename_i cs af
  cases h
  obtain⟨C,hC,B,vals,e,h1,h2,h3,h4,_⟩:=ok.obj id _ af
  exact⟨C,hC,B,vals,e,h1,h2,h3,h4⟩
 ·cases h
theorem rF.tr {M Ml}(lo:Lo M Ml){C cs aH}(h:rF M C cs)(ht:zK (Tr M) cs aH):rF Ml C aH:=by
 obtain⟨B,vals,e,h1,h2,h3,h4⟩:=h
 exact⟨B,vals,e,h1,h2,by rw[lo.H];exact h3,NA lo ht h4⟩
theorem NB {M}(ok:Ok M):∀{ls ids cs aH},oW M.h ls ids=some cs→zK (Tr M) cs aH→cs.length=ls.flatten.length∧ids.length=ls.length∧
  ∃Cs:List zV,zK (fun id C=>M.κ id=some C) ids Cs∧∀Ml,Lo M Ml→zK (rF Ml) Cs (HI ls aH)
 |[],[],cs,aH,h,ht=>by cases h;exact⟨rfl,rfl,[],trivial,fun _ _=>trivial⟩
 |l::ls,id::ids,cs,aH,h,ht=>by
  unfold oW at h
  split at h
  ·rename_i cells rest h1 h2
   obtain⟨hl,h⟩:cells.length=l.length∧cells++rest=cs:=by
    cases e:Nat.beq cells.length l.length with
    |false=>simp_all
    |true=>simp_all
   subst h
   have lf:=zK.take l.length ht
   have kD:=zK.drop l.length ht
   rw[←hl,List.take_left] at lf
   rw[←hl,List.drop_left] at kD
   obtain⟨C,hC,hB⟩:=YE ok h1
   obtain⟨k1,k2,Cs,k3,k4⟩:=NB ok h2 kD
   refine⟨by simp_all,by simp[k2],C::Cs,⟨hC,k3⟩,fun Ml lo=>⟨?_,?_⟩⟩
   ·rw[←hl];exact hB.tr lo lf
   simp_all
  ·cases h
theorem vHk {M}(ok:Ok M){s:AS}{a v cs aH n}(hv:zP M a v)(h:s.get M.h a=some cs)(ht:zK (Tr M) cs aH):
  ∃Cs:List zV,(∀Ml,Lo M Ml→zK (rF Ml) Cs (s.boxes aH))∧(∀Ml,Lo M Ml→(∀i C,Cs[i]? =some C→Ml.κ (n+i)=some C)→zP Ml (s.mk n aH) v):=by
 unfold AS.get at h
 split at h
 ·cases h
  match aH,ht with
  |[c'],ht=>exact⟨[],fun _ _=>trivial,fun Ml lo _=>ht.1 v Ml lo hv⟩
 ·rename_i l xs
  cases e:Nat.beq xs.length l.length with
  |false=>simp_all
  |true=>
   rw[e] at h
   cases h
   obtain⟨vs,rfl,hx⟩:=hv
   exact⟨[],fun _ _=>trivial,fun Ml lo _=>⟨vs,rfl,NA lo ht hx⟩⟩
 ·rename_i l id
  have:=NB ok h ht
  obtain⟨k1,k2,Cs,k3,k4⟩:=this
  obtain⟨C,B,hC,hB,e⟩:=hv
  have hl:aH.length=l.length:=by rw[←ht.length,k1];simp
  match Cs,k3 with
  |[C'],k3=>
   have e':C'=C:=by
    have:M.κ id=some C':=k3.1
    simp_all
   subst e'
   refine⟨[C'],fun Ml lo=>?_,fun Ml lo hκ=>⟨C',B,hκ 0 C' rfl,hB,e⟩⟩
   have:=k4 Ml lo
   simp[HI] at this
   rw[List.take_of_length_le (by omega)] at this
   exact this
 ·rename_i f ba g ids
  cases e:Nat.beq f g with
  |false=>simp_all
  |true=>
   rw[e] at h
   have NC:f=g:=by simp_all
   subst NC
   obtain⟨k1,k2,Cs,k3,k4⟩:=NB ok h ht
   refine⟨Cs,k4,fun Ml lo hκ=>?_⟩
   obtain⟨cv,rfl,hc⟩:=hv
   refine⟨cv,rfl,?_⟩
   have l1:=k3.length
   have l2:=hc.length
   refine zK.of_get (by simp_all) fun i h1 h2=>?_
   simp
   have hi:i<ids.length:=by omega
   have aY:i<Cs.length:=by omega
   obtain⟨C,B,q1,q2,q3⟩:=hc.get i hi h2
   have q4:=k3.get i hi aY
   simp_all
 ·cases h
theorem ND {h}:∀{ls ids cs},oW h ls ids=some cs→cs.length=ls.flatten.length
 |[],[],cs,e=>by cases e;rfl
 |l::ls,id::ids,cs,e=>by
  unfold oW at e
  split at e
  ·rename_i cells rest h1 h2
   cases el:Nat.beq cells.length l.length with
   |false=>simp_all
   |true=>
    rw[el] at e
    cases e
    have:cells.length=l.length:=by simp_all
    simp[this,ND h2]
  ·cases e
theorem vGe {h}{s:AS}{a cs}(e:s.get h a=some cs):cs.length=s.cells.length:=by
 unfold AS.get at e
 split at e
 ·cases e;rfl
 ·rename_i l xs
  cases el:Nat.beq xs.length l.length with
  |false=>simp_all
  |true=>rw[el] at e;cases e;exact Nat.eq_of_beq_eq_true el
 ·rw[ND e];simp[AS.cells]
 ·rename_i f ba g ids
  cases el:Nat.beq f g with
  |false=>simp_all
  |true=>rw[el] at e;exact ND e
 ·cases e
theorem YF {M}(ok:Ok M):∀{l as vs cs aH n},zK (zP M) as vs→nB M.h l as=some cs→zK (Tr M) cs aH→
  ∃Cs:List zV,(∀Ml,Lo M Ml→zK (rF Ml) Cs (iD l aH n).2)∧(∀Ml,Lo M Ml→(∀i C,Cs[i]? =some C→Ml.κ (n+i)=some C)→zK (zP Ml) (iD l aH n).1 vs)
 |[],[],[],cs,aH,n,_,_,_=>⟨[],fun _ _=>trivial,fun _ _ _=>trivial⟩
 |s::l,a::as,v::vs,cs,aH,n,hv,h,ht=>by
  unfold nB at h
  split at h
  ·rename_i jm rest h1 h2
   cases h
   have hl:=vGe h1
   have lf:=zK.take s.cells.length ht
   have kD:=zK.drop s.cells.length ht
   rw[←hl,List.take_left,hl] at lf
   rw[←hl,List.drop_left,hl] at kD
   obtain⟨C1,k1,k2⟩:=vHk ok (n:=n) hv.1 h1 lf
   obtain⟨C2,k3,k4⟩:=YF ok (n:=n+(s.boxes (aH.take s.cells.length)).length) hv.2 h2 kD
   refine⟨C1++C2,fun Ml lo=>(k1 Ml lo).append (k3 Ml lo),fun Ml lo hκ=>⟨k2 Ml lo fun i C hi=>hκ i C ?_,k4 Ml lo fun i C hi=>?_⟩⟩
   ·grind
   ·have hb:=(k1 Ml lo).length
    have:=hκ (C1.length+i) C (by grind)
    grind
  ·cases h
def zH.below (M:zH)(Cs:List zV)(bs:List (List zT)):zH:={κ:=fun n=>Cs[n]?,F:=fun b=>b<M.H.size,G:=M.G,h:=iE bs,H:=M.H}
theorem zH.below_lo M Cs bs:Lo M (M.below Cs bs):=⟨rfl,rfl,rfl⟩
theorem zH.below_ok {M}(ok:Ok M){Cs bs}(h:zK (rF (M.below Cs bs)) Cs bs):Ok (M.below Cs bs)∧∀b,¬qK (M.below Cs bs) b:=by
 have hr:∀id o,(M.below Cs bs).h id=some o→∃cells,bs[id]? =some cells∧o=.robox cells:=fun id o e=>by
  have e:iE bs id=some o:=e
  unfold iE at e
  grind
 have DJ:∀b,¬qK (M.below Cs bs) b:=fun b ⟨id,o,C,h1,h2,_,_⟩=>by
  obtain⟨cells,_,rfl⟩:=hr id o h1
  cases h2
 refine⟨⟨fun id o e=>?_,fun id e=>?_,fun i j oi oj Ci Cj b _ h1 _ h3 _ _ _ _ _=>?_,by grind,fun b hb=>ok.Flt b (ok.GF b hb),fun b hb=>hb⟩,DJ⟩
 ·obtain⟨cells,hc,rfl⟩:=hr id o e
  have aX:id<bs.length:=by
   grind
  have gf:id<Cs.length:=by rw[h.length];omega
  obtain⟨B,vals,ev,q1,q2,q3,q4⟩:=h.get id gf aX
  rw[List.getElem?_eq_getElem aX] at hc
  cases hc
  refine⟨Cs[id],List.getElem?_eq_getElem gf,B,vals,ev,q1,q2,q3,q4,?_⟩
  exact(Array.getElem?_eq_some_iff.1 q3).1
 ·have e:iE bs id=none:=e
  unfold iE at e
  split at e
  ·cases e
  ·rename_i hc
   show Cs[id]? =none
   rw[List.getElem?_eq_none_iff] at hc⊢
   rw[h.length];exact hc
 ·obtain⟨cells,_,rfl⟩:=hr i oi h1
  cases h3
theorem vLg {M}(ok:Ok M){l as vs d}(hv:zK (zP M) as vs)(h:uf M.h l as=some d):
  ∃Ml:zH,Lo M Ml∧Ml.h=(l6 l d).2∧Ok Ml∧(∀b,¬qK Ml b)∧zK (zP Ml) (l6 l d).1 vs:=by
 unfold uf at h
 split at h
 ·rename_i cs hg
  obtain⟨Cs,h1,h2⟩:=YF ok (n:=0) hv hg (YD ok h)
  have lo:=M.below_lo Cs (iD l (vJ (l.flatMap AS.cells) d) 0).2
  have:=zH.below_ok ok (h1 _ lo)
  exact⟨_,lo,rfl,this.1,this.2,h2 _ lo fun i C hi=>by rw[Nat.zero_add];exact hi⟩
 ·cases h
theorem rG {h0}:∀{l cs aH vs u M},Ok M→wJ h0 M.h→zK (zS M) cs vs→dH h0 l cs=some (aH,u)→
  ∃L:zH,L.H=M.H∧L.h=qG M.h u∧Ok L∧yN M L∧zK (zS L) aH vs∧wJ h0 L.h
 |[],cs,aH,vs,u,M,ok,hf,hc,h=>by
  cases cs<;>cases h<;>exact⟨M,rfl,rfl,ok,.refl M,hc,hf⟩
 |true::l,[],aH,vs,u,M,ok,hf,hc,h
 |false::l,[],aH,vs,u,M,ok,hf,hc,h=>by cases h;exact⟨M,rfl,rfl,ok,.refl M,hc,hf⟩
 |true::l,c::cs,aH,v::vs,u,M,ok,hf,hc,h=>by
  unfold dH at h
  split at h
  ·rename_i c1 u1 jm nj e1 e2
   cases h
   obtain⟨M1,h1,h2,h3,h4,h5,h6,_⟩:=CZ ok hf hc.1 e1
   obtain⟨M2,k1,k2,k3,k4,k5,k6⟩:=rG h3 h6 (hc.2.mono fun _ _ h=>h.ext h4.ext) e2
   exact⟨M2,k1.trans h1,by rw[k2,h2,gT],k3,h4.trans k4,⟨h5.ext k4.ext,k5⟩,k6⟩
  ·cases h
 |false::l,c::cs,aH,v::vs,u,M,ok,hf,hc,h=>by
  unfold dH at h
  split at h
  ·rename_i jm nj e2
   cases h
   obtain⟨M2,k1,k2,k3,k4,k5,k6⟩:=rG ok hf hc.2 e2
   exact⟨M2,k1,k2,k3,k4,⟨hc.1.ext k4.ext,k5⟩,k6⟩
  ·cases h
def zH.add (M:zH)(nm:Nat)(o:Obj)(C:zV):zH:={M with κ:=κset M.κ nm C,h:=yA M.h nm o}
theorem zH.add_ok {M}(ok:Ok M){nm}(aK:M.h nm=none){o C}(hO:yM (M.add nm o C) o C)(hb:∀b∈C.fp,¬qK M b∧¬M.F b∧b<M.H.size):
  Ok (M.add nm o C)∧yD M (M.add nm o C)∧(∀b,qK (M.add nm o C) b→qK M b∨b∈C.fp):=by
 have x:yD M (M.add nm o C):=⟨fun id D h=>by
  have aS:id≠nm:=fun e=>by rw[e,ok.non nm aK] at h;cases h
  exact⟨D,by show κset M.κ nm _ id=_;rw[κset_ne _ _ aS];exact h,D.le_refl⟩,fun _ h=>h,fun _ h=>h,fun _ _=>rfl,fun _ _=>rfl,fun _ _=>rfl⟩
 refine⟨Ok.build ok x (fun id=>id=nm) (fun id h=>yH _ _ h) (fun id h=>κset_ne _ _ h) (fun _ _ _ _ _ _ _ _ _=>rfl) (fun id o' D h1 h2 h3 h4 b bo=>(ok.own b ⟨id,o',D,h2,h3,h4,bo⟩).1) (Nat.le_refl _)
  (fun id o' e h=>?_) (fun id e h=>?_) (fun id o' D b e h1 h2 h3 h4=>?_) ok.GF ok.Flt,x,fun b bo=>?_⟩
 ·subst e
  have e1:(M.add id o C).h id=some o:=yE _ _ _
  rw[e1] at h
  cases h
  exact⟨_,κset_same _ _ _,hO⟩
 ·have e1:(M.add id o C).h id=some o:=yE _ _ _
  simp_all
 ·subst e
  have e1:(M.add id o C).κ id=some C:=κset_same _ _ _
  rw[e1] at h3
  cases h3
  obtain⟨k1,k2,k3⟩:=hb b h4
  refine⟨fun j oj Cj hj q1 q2 q3 q4=>k1 ⟨j,oj,Cj,?_,q2,?_,q4⟩,k2,k3⟩
  ·rw[←q1];exact(yH _ _ hj).symm
  ·rw[←q3];exact(κset_ne _ _ hj).symm
 ·obtain⟨id,o',D,h1,h2,h3,h4⟩:=bo
  by_cases e:id=nm
  ·have e1:(M.add id o C).κ id=some C:=κset_same _ _ _
   simp_all
  ·exact .inl ⟨id,o',D,by rw[←h1];exact(yH _ _ e).symm,h2,by rw[←h3];exact(κset_ne _ _ e).symm,h4⟩
structure Up (L Mc:zH):Prop where
 H:Mc.H=L.H
 G:Mc.G=L.G
theorem YG {L Mc}(up:Up L Mc){t xs C}(h:yM L (.arr true t xs) C):yM Mc (.arr true t xs) C:=by
 obtain⟨h1,h2,h3,h4⟩:=h
 refine⟨h1,h2,h3,?_⟩
 rw[up.H,up.G]
 exact h4
theorem yW7 {L Mc}(up:Up L Mc){ver xs C}(h:yM L (.mat ver xs) C):yM Mc (.mat 0 xs) {C with ver:=0}:=by
 obtain⟨h1,h2⟩:=h
 refine⟨rfl,?_⟩
 rw[up.H]
 exact h2
theorem vF0 {L Mc}(up:Up L Mc){ver n xs C}(h:yM L (.pmat ver xs n) C)(hn:xs.length=n):yM Mc (.mat 0 xs) {C with ver:=0}:=by
 obtain⟨h1,h2,h3,h4,h5,_,h6⟩:=h
 refine⟨rfl,by rw[hn];exact h2,h3,h4,h5,?_⟩
 rw[up.H]
 subst hn
 simp_all
theorem yQr {L Mc}(up:Up L Mc){xs:List (List Int)}{C}(h:yM L (.arr true (.sl (.int .i64)) xs) C):yM Mc (.pmat 0 [] xs.length) {C with ver:=0}:=by
 obtain⟨h1,h2,h3,h4⟩:=h
 have hr:=h3 rfl
 refine⟨rfl,h1,h2,by simp_all,?_,by simp,?_⟩
 ·simp[zV.fp]
  grind
 ·cases hB:C.blk with
  |none=>simp_all
  |some B=>
   rw[hB] at h4
   obtain⟨vals,e,h5,_,h7,_⟩:=h4
   refine⟨vals,e,by rw[up.H];exact h5,by simpa[Ty.size] using h7,by simp⟩
theorem ySe {L Mc}(fk:Ok L)(ok:Ok Mc)(up:Up L Mc){nm}(aK:Mc.h nm=none){r c d}(h:l7 L.h r c=some d)
  (hb:∀id∈vO [r] [c],∀C,L.κ id=some C→∀b∈C.fp,¬qK Mc b∧¬Mc.F b∧b<Mc.H.size):
  ∃cW:zH,cW.H=Mc.H∧cW.G=Mc.G∧cW.F=Mc.F∧cW.h=qG Mc.h (nC nm r d).2∧Ok cW∧yD Mc cW∧
   (∀b,qK cW b→qK Mc b∨∃id∈vO [r] [c],∃C,L.κ id=some C∧b∈C.fp)∧∀v,zS L c v→zS cW (nC nm r d).1 v:=by
 have same : (nC nm r d).2 = [] → (∀ v, zS L c v → zS Mc (nC nm r d).1 v) → _ := fun e hv => (⟨Mc,rfl,rfl,rfl,by rw[e];rfl,ok,.refl Mc,by grind,hv⟩:
  ∃cW:zH,cW.H=Mc.H∧cW.G=Mc.G∧cW.F=Mc.F∧cW.h=qG Mc.h (nC nm r d).2∧Ok cW∧yD Mc cW∧
   (∀b,qK cW b→qK Mc b∨∃id∈vO [r] [c],∃C,L.κ id=some C∧b∈C.fp)∧∀v,zS L c v→zS cW (nC nm r d).1 v)
 unfold l7 at h
 split at h
 ·rename_i k j n
  cases e:iu j k with
  |false=>rw[e] at h;cases h
  |true=>
   rw[e] at h
   cases h
   exact same rfl fun v hv=>by rw[←qi e];exact hv
 ·cases h
  exact same rfl fun v hv=>hv
 ·obtain⟨e,hx⟩:=gU h
  subst e
  subst hx
  refine same rfl fun v hv=>?_
  show zX Mc.H Mc.G _ _ _
  rw[up.H,up.G]
  exact hv
 ·cases h
  refine same rfl fun v hv=>?_
  rw[show v=.slice none 0 0 from hv]
  exact DI
 ·rename_i t id
  split at h
  ·rename_i s xs af
   obtain⟨e,hx⟩:=gU h
   subst e
   subst hx
   obtain⟨C,hC,hO⟩:=fk.obj id _ af
   obtain⟨k1,k2,k3⟩:=zH.add_ok ok aK (o:=.arr true s xs) (C:=C) (YG (Mc:=Mc.add nm (.arr true s xs) C) ⟨up.H,up.G⟩ hO) (hb id (by simp[vO]) C hC)
   refine⟨Mc.add nm (.arr true s xs) C,rfl,rfl,rfl,rfl,k1,k2,fun b bo=>(k3 b bo).imp (fun h=>h) fun h=>⟨id,by simp[vO],C,hC,h⟩,fun v hv=>?_⟩
   obtain⟨C',aq,hS⟩:=hv
   rw[hC] at aq;cases aq
   refine⟨C,κset_same _ _ _,?_⟩
   show wM Mc.H C 0 C.len v
   rw[up.H];exact hS
  ·cases h
 ·rename_i t id n
  split at h
  ·rename_i s xs af
   obtain⟨e,hx⟩:=gU h
   subst e
   subst hx
   obtain⟨C,hC,hO⟩:=fk.obj id _ af
   let C':zV:={C with len:=(xs.take n).length}
   have oF:yM (Mc.add nm (.arr true s (xs.take n)) C') (.arr true s (xs.take n)) C':=by
    obtain⟨q1,q2,q3,q4⟩:=YG (Mc:=Mc.add nm (.arr true s (xs.take n)) C') ⟨up.H,up.G⟩ hO
    refine⟨rfl,q2,q3,?_⟩
    show match C.blk with
     |none=>_
     |some B=>_
    cases hB:C.blk with
    |none=>rw[hB] at q4;show xs.take n=[];rw[q4];simp
    |some B=>
     rw[hB] at q4
     obtain⟨vals,e,r1,r2,r3,r4⟩:=q4
     have hle:(xs.take n).length≤xs.length:=by rw[List.length_take];omega
     have:=Nat.mul_le_mul_right s.size hle
     refine⟨vals,e,r1,r2,by omega,fun i hi=>?_⟩
     rw[List.getElem_take]
     exact r4 i (by omega)
   obtain⟨k1,k2,k3⟩:=zH.add_ok ok aK (o:=.arr true s (xs.take n)) (C:=C') oF (hb id (by simp[vO]) C hC)
   refine⟨Mc.add nm (.arr true s (xs.take n)) C',rfl,rfl,rfl,rfl,k1,k2,fun b bo=>(k3 b bo).imp (fun h=>h) fun h=>⟨id,by simp[vO],C,hC,h⟩,fun v hv=>?_⟩
   obtain⟨C1,fi,h1,hS,_⟩:=hv
   rw[hC] at fi;cases fi
   have hl:(xs.take n).length=n:=by rw[List.length_take,←hO.1];omega
   refine⟨C',κset_same _ _ _,?_⟩
   show wM Mc.H C' 0 (xs.take n).length v
   rw[hl,up.H]
   exact hS
  ·cases h
 ·rename_i t
  cases h
  obtain⟨k1,k2,k3⟩:=Mc.nilObj_ok ok aK t false
  refine⟨Mc.nilObj nm (gq t false) (iB t false),rfl,rfl,rfl,rfl,k1,k2,by grind,fun v hv=>?_⟩
  rw[show v=.slice none 0 0 from hv]
  exact⟨_,κset_same _ _ _,none,0,rfl,rfl,rfl,rfl⟩
 ·rename_i id
  split at h
  ·rename_i ver xs af
   cases h
   obtain⟨C,hC,hO⟩:=fk.obj id _ af
   obtain⟨k1,k2,k3⟩:=zH.add_ok ok aK (o:=.mat 0 d) (C:={C with ver:=0}) (yW7 (Mc:=Mc.add nm (.mat 0 d) {C with ver:=0}) ⟨up.H,up.G⟩ hO) (hb id (by simp[vO]) C hC)
   refine⟨Mc.add nm (.mat 0 d) {C with ver:=0},rfl,rfl,rfl,rfl,k1,k2,fun b bo=>(k3 b bo).imp (fun h=>h) fun h=>⟨id,by simp[vO],C,hC,h⟩,fun v hv=>?_⟩
   obtain⟨C',aq,hS⟩:=hv
   rw[hC] at aq;cases aq
   refine⟨_,κset_same _ _ _,?_⟩
   show wM Mc.H C 0 C.len v
   rw[up.H];exact hS
  ·rename_i ver xs n af
   obtain⟨hc,h⟩:Nat.beq xs.length n=true∧some xs=some d:=by
    cases e:Nat.beq xs.length n with
    |true=>rw[e] at h;exact⟨rfl,h⟩
    |false=>rw[e] at h;cases h
   cases h
   obtain⟨C,hC,hO⟩:=fk.obj id _ af
   obtain⟨k1,k2,k3⟩:=zH.add_ok ok aK (o:=.mat 0 d) (C:={C with ver:=0}) (vF0 (Mc:=Mc.add nm (.mat 0 d) {C with ver:=0}) ⟨up.H,up.G⟩ hO (Nat.eq_of_beq_eq_true hc)) (hb id (by simp[vO]) C hC)
   refine⟨Mc.add nm (.mat 0 d) {C with ver:=0},rfl,rfl,rfl,rfl,k1,k2,fun b bo=>(k3 b bo).imp (fun h=>h) fun h=>⟨id,by simp[vO],C,hC,h⟩,fun v hv=>?_⟩
   obtain⟨C',aq,hS⟩:=hv
   rw[hC] at aq;cases aq
   refine⟨_,κset_same _ _ _,?_⟩
   show wM Mc.H C 0 C.len v
   rw[up.H];exact hS
  ·cases h
 ·cases h
  obtain⟨k1,k2,k3⟩:=Mc.nilObj_ok ok aK (.int .i64) true
  refine⟨Mc.nilObj nm (gq (.int .i64) true) (iB (.int .i64) true),rfl,rfl,rfl,rfl,k1,k2,by grind,fun v hv=>?_⟩
  rw[show v=.slice none 0 0 from hv]
  exact⟨_,κset_same _ _ _,none,0,rfl,rfl,rfl,rfl⟩
 ·rename_i id
  split at h
  ·rename_i xs af
   cases h
   obtain⟨C,hC,hO⟩:=fk.obj id _ af
   obtain⟨k1,k2,k3⟩:=zH.add_ok ok aK (o:=.pmat 0 [] xs.length) (C:={C with ver:=0}) (yQr (Mc:=Mc.add nm (.pmat 0 [] xs.length) {C with ver:=0}) ⟨up.H,up.G⟩ hO) (hb id (by simp[vO]) C hC)
   refine⟨Mc.add nm (.pmat 0 [] xs.length) {C with ver:=0},rfl,rfl,rfl,rfl,k1,k2,fun b bo=>(k3 b bo).imp (fun h=>h) fun h=>⟨id,by simp[vO],C,hC,h⟩,fun v hv=>?_⟩
   obtain⟨C',aq,hS⟩:=hv
   rw[hC] at aq;cases aq
   refine⟨_,κset_same _ _ _,?_⟩
   show wM Mc.H C 0 C.len v
   rw[up.H];exact hS
  ·cases h
 ·cases h
  obtain⟨k1,k2,k3⟩:=zH.add_ok ok aK (o:=.pmat 0 [] 0) (C:=⟨none,0,1,0,[]⟩) ⟨rfl,rfl,rfl,rfl,by simp[zV.fp],Nat.le_refl _,rfl⟩ (nofun)
  refine⟨Mc.add nm (.pmat 0 [] 0) ⟨none,0,1,0,[]⟩,rfl,rfl,rfl,rfl,k1,k2,fun b bo=>(k3 b bo).imp (fun h=>h) nofun,fun v hv=>?_⟩
  rw[show v=.slice none 0 0 from hv]
  exact⟨_,κset_same _ _ _,none,0,rfl,rfl,rfl,rfl⟩
 ·rename_i id
  split at h
  ·rename_i cj af
   cases h
   obtain⟨C,hC,hO⟩:=fk.obj id _ af
   have oF:yM (Mc.add nm (.imap d) C) (.imap d) C:=by
    obtain⟨B,es,ck,h1,h2,h3,h4,h5⟩:=hO
    refine⟨B,es,ck,h1,h2,?_,h4,h5⟩
    show Mc.H[B]? =_
    rw[up.H];exact h3
   obtain⟨k1,k2,k3⟩:=zH.add_ok ok aK (o:=.imap d) (C:=C) oF (hb id (by simp[vO]) C hC)
   refine⟨Mc.add nm (.imap d) C,rfl,rfl,rfl,rfl,k1,k2,fun b bo=>(k3 b bo).imp (fun h=>h) fun h=>⟨id,by simp[vO],C,hC,h⟩,fun v hv=>?_⟩
   obtain⟨C',B,aq,hB,e⟩:=hv
   rw[hC] at aq;cases aq
   exact⟨C,B,κset_same _ _ _,hB,e⟩
  ·cases h
 ·exact same rfl fun v hv=>hv
 ·exact same rfl fun v hv=>hv.one
 ·cases h
theorem HJ r c l cs:vO (r::l) (c::cs)=vO [r] [c]++vO l cs:=by
 cases r<;>cases c<;>rfl
theorem YH {nm r d n}(h:n≠nm) hh:qG hh (nC nm r d).2 n=hh n:=by
 cases r<;>first|rfl|exact yH _ _ h
theorem NF {h}:∀{n nm},rD h nm n=true→∀i,i<n→h (nm+i)=none
 |n+1,nm,e,i,hi=>by
  unfold rD at e
  rw[Bool.and_eq_true] at e
  cases i with
  |zero=>
   grind
  |succ i=>rw[←NF e.2 i (by omega)];grind
theorem NG {L:zH}(fk:Ok L):∀{l:List RC} {cs:List zT} {d:RL l} {nm:Nat} {Mc:zH},Ok Mc→Up L Mc→(∀i,i<l.length→Mc.h (nm+i)=none)→gv L.h l cs=some d→(vO l cs).Nodup→
  (∀id∈vO l cs,∃o,L.h id=some o∧o.owned=true)→
  (∀id∈vO l cs,∀C,L.κ id=some C→∀b∈C.fp,¬qK Mc b∧¬Mc.F b∧b<Mc.H.size)→
  ∃cW:zH,cW.H=Mc.H∧cW.G=Mc.G∧cW.F=Mc.F∧cW.h=qG Mc.h (la nm l d).2∧Ok cW∧yD Mc cW∧
   (∀b,qK cW b→qK Mc b∨∃id∈vO l cs,∃C,L.κ id=some C∧b∈C.fp)∧∀vs,zK (zS L) cs vs→zK (zS cW) (la nm l d).1 vs
 |[],[],d,nm,Mc,ok,up,_,_,_,_,_=>⟨Mc,rfl,rfl,rfl,rfl,ok,.refl Mc,fun b h=>.inl h,fun vs h=>by
  cases vs with
  |nil=>trivial
  |cons _ _=>exact h.elim⟩
 |r::l,c::cs,d,nm,Mc,ok,up,hf,h,cC,aA,hb=>by
  unfold gv at h
  split at h
  ·rename_i x xs e1 e2
   cases h
   rw[HJ] at cC aA hb
   obtain⟨nd1,nd2,nd3⟩:=List.nodup_append.1 cC
   obtain⟨M1,a1,a2,a3,a4,a5,a6,a7,a8⟩:=ySe fk ok up (by have:=hf 0 (by simp);simpa using this) e1 (by grind)
   have up1:Up L M1:=⟨a1.trans up.H,a2.trans up.G⟩
   obtain ⟨M2, b1, b2, b3, b4, b5, b6, b7, b8⟩ := NG fk (nm := nm + 1) a5 up1 (fun i hi=>by
     rw[a4,YH (by omega)]
     have:=hf (i+1) (by simp;omega)
     grind) e2 nd2 (fun id af => aA id (by grind)) (fun id af C hC b xX=>by
     obtain⟨q1,q2,q3⟩:=hb id (List.mem_append_right _ af) C hC b xX
     refine⟨fun ho=>?_,by simp_all,by simp_all⟩
     rcases a7 b ho with ho|⟨jd,cm,D,hD,NH⟩
     ·exact q1 ho
     ·have aS:id≠jd:=by grind
      obtain⟨o1,p1,p2⟩:=aA id (by grind)
      obtain⟨o2,p3,p4⟩:=aA jd (List.mem_append_left _ cm)
      exact fk.disj id jd o1 o2 C D b aS p1 p3 p2 p4 hC hD xX NH)
   refine⟨M2,b1.trans a1,b2.trans a2,b3.trans a3,?_,b5,a6.trans (by simp_all) b6,fun b bo=>?_,fun vs cB=>?_⟩
   ·show M2.h=qG Mc.h ((nC nm r x).2++(la (nm+1) l xs).2)
    rw[gT,←a4];exact b4
   ·rw[HJ]
    grind
   ·cases vs with
    |nil=>exact cB.elim
    |cons v vs=>exact⟨(a8 v cB.1).ext b6,b8 vs cB.2⟩
  ·cases h
 |[],_::_,_,_,_,_,_,_,h,_,_,_=>by cases h
 |_::_,[],_,_,_,_,_,_,h,_,_,_=>by cases h
theorem vQ {α:Type}{c x}{y:α}(h:(bif c then x else none)=some y):c=true∧x=some y:=by
 grind
theorem YI {M}:∀{l xs cs vs},Nx l xs=some cs→zK (qw M) xs vs→
  cs.length=(l.flatMap (·.2)).length∧∃us:List Value,zK (zS M) cs us∧∀M' aH,zK (zS M') aH us→zK (qw M') (Ny l aH) vs
 |[],[],cs,[],h,_=>by cases h;exact⟨rfl,[],trivial,fun _ _ _=>trivial⟩
 |(b,l)::ls,(g,jm)::rest,cs,v::vs,h,hv=>by
  obtain⟨hc,h⟩:=vQ h
  split at h
  ·rename_i r hr
   cases h
   rw[Bool.and_eq_true] at hc
   have hl:jm.length=l.length:=by simp_all
   obtain⟨k1,us,k2,k3⟩:=YI hr hv.2
   refine⟨by simp_all,?_⟩
   cases b with
   |true=>
    have hg:g=true:=hc.1
    subst hg
    obtain⟨ws,rfl,hw⟩:=hv.1
    refine⟨ws.toList++us,hw.append k2,fun M' aH h'=>⟨?_,?_⟩⟩
    ·have h1:=zK.take l.length h'
     have NI:=hw.length
     rw[show(ws.toList++us).take l.length=ws.toList from by simp_all] at h1
     exact⟨ws,rfl,h1⟩
    ·have h1:=zK.drop l.length h'
     have NI:=hw.length
     simp_all
   |false=>
    have hg:=hc.1
    simp  at hg
    obtain⟨HK,hg2⟩:=hg
    subst HK
    have xF:jm.length=1:=by simp_all
    match jm,xF with
    |[c],_=>
     have DK:zS M c v:=hv.1
     refine⟨v::us,⟨DK,k2⟩,fun M' aH h'=>?_⟩
     match aH,h' with
     |c'::NJ,h'=>
      have e:l.length=1:=by omega
      refine⟨?_,?_⟩
      ·rw[e]
       exact h'.1
      ·rw[e]
       exact k3 M' NJ h'.2
  ·cases h
 |[],[],_,_::_,_,hv=>hv.elim
theorem YJ {M}{s:RS}{v cs rv}(h:s.get v=some cs)(hv:zP M v rv):
  cs.length=s.cells.length∧∃us:List Value,zK (zS M) cs us∧∀M' aH,zK (zS M') aH us→zP M' (s.mk aH) rv:=by
 unfold RS.get at h
 split at h
 ·cases h
  refine⟨rfl,[rv],⟨hv,trivial⟩,fun M' aH h'=>?_⟩
  match aH,h' with
  |[c'],h'=>exact h'.1
 ·obtain⟨hl,h⟩:=vQ h
  cases h
  obtain⟨vs,rfl,hx⟩:=hv
  exact⟨Nat.eq_of_beq_eq_true hl,vs.toList,hx,fun M' aH h'=>⟨vs,rfl,h'⟩⟩
 ·obtain⟨vs,rfl,hx⟩:=hv
  obtain⟨k1,us,k2,k3⟩:=YI h hx
  exact⟨k1,us,k2,fun M' aH h'=>⟨vs,rfl,by grind⟩⟩
 ·cases h
theorem vEn {h0 s a a' v u M}(ok:Ok M)(hf:wJ h0 M.h)(hv:zP M a v)(h:rE h0 s a=some (a',u)):
  ∃L:zH,L.H=M.H∧L.h=qG M.h u∧Ok L∧yN M L∧zP L a' v∧wJ h0 L.h:=by
 unfold rE at h
 split at h
 ·rename_i p x
  split at h
  ·rename_i y u1 e
   cases h
   obtain⟨L,h1,h2,h3,h4,h5,h6⟩:=rG (cs:=[x]) (vs:=[v]) ok hf ⟨hv,trivial⟩ e
   exact⟨L,h1,h2,h3,h4,h5.1,h6⟩
  ·cases h
 ·split at h
  ·rename_i ys u1 e
   cases h
   obtain⟨vs,rfl,hx⟩:=hv
   obtain⟨L,h1,h2,h3,h4,h5,h6⟩:=rG ok hf hx e
   exact⟨L,h1,h2,h3,h4,⟨vs,rfl,h5⟩,h6⟩
  ·cases h
 ·cases h
  exact⟨M,rfl,rfl,ok,.refl M,hv,hf⟩
theorem rH.ext {M M'}(x:yD M M'):∀{as vs},zK (zP M) as vs→zK (zP M') as vs:=fun h=>h.mono fun _ _ h=>h.ext x
theorem YK {h0}:∀{l as dd vs u M},Ok M→wJ h0 M.h→zK (zP M) as vs→nD h0 l as=some (dd,u)→
  ∃L:zH,L.H=M.H∧L.h=qG M.h u∧Ok L∧yN M L∧zK (zP L) dd vs∧wJ h0 L.h
 |s::l,a::as,dd,v::vs,u,M,ok,hf,hv,h=>by
  unfold nD at h
  split at h
  ·rename_i a1 u1 NK nj e1 e2
   cases h
   obtain⟨M1,h1,h2,h3,h4,h5,h6⟩:=vEn ok hf hv.1 e1
   obtain⟨M2,k1,k2,k3,k4,k5,k6⟩:=YK h3 h6 (rH.ext h4.ext hv.2) e2
   exact⟨M2,k1.trans h1,by rw[k2,h2,gT],k3,h4.trans k4,⟨h5.ext k4.ext,k5⟩,k6⟩
  ·cases h
 |[],as,dd,vs,u,M,ok,hf,hv,h=>by
  cases as<;>cases h<;>exact⟨M,rfl,rfl,ok,.refl M,hv,hf⟩
 |s::l,[],dd,vs,u,M,ok,hf,hv,h=>by cases h;exact⟨M,rfl,rfl,ok,.refl M,hv,hf⟩
def zH.over (M L:zH):zH:={κ:=M.κ,F:=fun b=>M.F b∨L.G b,G:=L.G,h:=M.h,H:=L.H}
theorem zH.over_ok {M Ml L}(ok:Ok M)(fk:Ok L)(lo:Lo M Ml)(DJ:∀b,¬qK Ml b)(g:fM Ml L):Ok (M.over L)∧yN M (M.over L):=by
 have aX:∀b,Ml.F b↔b<M.H.size:=fun b=>by rw[lo.F]
 have cd:∀b,b<M.H.size→L.H[b]? =M.H[b]? :=fun b hb=>by rw[g.same b (by grind),lo.H]
 have cL:M.H.size≤L.H.size:=by grind
 have hG:∀b,L.G b→b<M.H.size→M.G b:=fun b hb hs=>by
  rcases g.Gb b hb (by rw[lo.H];exact hs) with h|h
  ·rw[lo.G] at h;exact h
  simp_all
 have gf:∀b,M.F b→b<M.H.size:=ok.Flt
 have x:yD M (M.over L):=⟨fun id C h=>⟨C,h,C.le_refl⟩,fun b h=>.inl h,fun b h=>g.G b (by rw[lo.G];exact h),fun b h=>cd b (by grind),fun b h=>cd b (ok.Flt b (ok.GF b h)),fun b h=>xw (cd b h)⟩
 have aA:∀b,qK (M.over L) b→qK M b:=fun b h=>h
 refine⟨⟨fun id o h=>?_,fun id h=>ok.non id h,ok.disj,fun b h=>⟨fun hf=>?_,?_⟩,fun b h=>.inr h,fun b h=>?_⟩,⟨x,cL,fun b hb _=>cd b hb,by grind,fun b h hs=>.inl (hG b h hs),fun b h hs=>?_⟩⟩
 ·obtain⟨C,hC,hO⟩:=ok.obj id o h
  exact⟨C,hC,hO.ext x fun ho b hb=>cd b (ok.own b ⟨id,o,C,h,ho,hC,hb⟩).2⟩
 ·have:=ok.own b (aA b h)
  rcases hf with hf|hf
  ·simp_all
  ·exact this.1 (ok.GF b (by grind))
 ·have h1:=(ok.own b (aA b h)).2
  show b<L.H.size
  omega
 ·show b<L.H.size
  rcases h with h|h
  ·grind
  ·exact fk.Flt b (fk.GF b h)
 ·rcases h with h|h
  ·simp_all
  ·exact .inl (ok.GF b (hG b h hs))
theorem yT0 {h0 r c d}(h:l7 h0 r c=some d):∀id∈vO [r] [c],∃o,h0 id=some o∧o.owned=true:=by
 unfold l7 at h
 split at h
 all_goals (try (intro id af;simp[vO] at af;done))
 ·intro xQ af
  have:=List.mem_singleton.1 af
  subst this
  split at h
  ·exact⟨_,by assumption,rfl⟩
  ·cases h
 ·intro xQ af
  have:=List.mem_singleton.1 af
  subst this
  split at h
  ·exact⟨_,by omega,rfl⟩
  ·cases h
 ·rename_i id
  intro xQ af
  have:=List.mem_singleton.1 af
  subst this
  split at h
  ·exact⟨_,by assumption,rfl⟩
  ·exact⟨_,by omega,rfl⟩
  ·cases h
 ·intro xQ af
  have:=List.mem_singleton.1 af
  subst this
  split at h
  ·exact⟨_,by assumption,rfl⟩
  ·cases h
 ·intro xQ af
  have:=List.mem_singleton.1 af
  subst this
  split at h
  ·exact⟨_,by assumption,rfl⟩
  ·cases h
 ·cases h
theorem rI {L:zH}:∀{l cs d},gv L.h l cs=some d→∀id∈vO l cs,∃o,L.h id=some o∧o.owned=true
 |r::l,c::cs,d,h,id,af=>by
  unfold gv at h
  split at h
  ·rename_i x xs e1 e2
   rw[HJ] at af
   rcases List.mem_append.1 af with af|af
   ·exact yT0 e1 id af
   ·exact rI e2 id af
  ·cases h
theorem YL {E}(hE:dG E)(hS:fL E.sums)(hm:E.P.follows .mixedOrders=true){A k pre na f fn}(hf:E.P.funcs[f]? =some fn)(hL:∀c,fn.body=some c→vT E.P A pre na fn.ntmps c)(bJ:∀vs w,(callFunc f vs).run E.P w=.ok (.enter f vs) w)
  {as rs X S pack} {unpack:RL rs.cells→X} (de:∀d,pack (unpack d)=d) (aI:∀d x,S d=some x→∀Ml vs,zK (zP Ml) (l6 as d).1 vs→∃cX,zK (zP Ml) cX vs∧gd E A k pre na fn cX (l6 as d).2 (ju rs unpack)=some x)
  {nm args h v u} (hy:yC (ld as rs S pack nm args h) v u):oP E.P f args h v u:=by
 intro M w vs hh hH ok hv
 refine .inl ⟨bJ vs w,?_⟩
 unfold ld at hy
 split at hy
 ·exact hy.elim
 rename_i cX u0 ug
 split at hy
 case h_2=>exact hy.elim
 rename_i d hd
 obtain⟨hc,hy⟩:=tP hy
 rw[Bool.and_eq_true] at hc
 obtain⟨x,hx,rfl,rfl⟩:=hy
 subst hh
 obtain⟨M1,a1,a2,a3,a4,a5,a6⟩:=YK ok (wJ.refl _) hv ug
 rw[←a2] at hd
 obtain⟨Ml,lo,b2,b3,b4,b5⟩:=vLg a3 a5 hd
 obtain⟨YM,uh,NL⟩:=aI d x hx Ml _ b5
 refine Calls.mono (Nv hE hS hm hf hL NL b2 (by rw[lo.H,a1];exact hH) b3 uh) fun e w' he=>?_
 cases e with
 |panicked _=>omega
 |outgrown=>omega
 |returned rv=>
  obtain⟨L0,v0,st,hK,c1,c2,c3,c4,_,c5,c6,c7,c8,_⟩:=he
  have hK:DH st.h rs v0=some (pack x):=by
   unfold ju at hK
   grind
  unfold DH at hK
  split at hK
  case h_2=>cases hK
  rename_i cs kE
  split at hK
  case h_2=>cases hK
  rename_i aH u1 ui
  obtain⟨cC,hK⟩:=vQ hK
  obtain⟨hlen,us,d1,d2⟩:=YJ kE c5
  rw[←c1] at ui hK
  obtain⟨L,e1,e2,e3,e4,e5,e6⟩:=rG c3 (wJ.refl _) d1 ui
  rw[←e2] at hK
  have g:fM Ml L:=c4.trans e4.grow
  obtain⟨f1,f2⟩:=zH.over_ok a3 e3 lo b4 g
  have l8:∀i,i<rs.cells.length→(M1.over L).h (nm+i)=none:=fun i hi=>by
   have h1:=NF hc.1 i hi
   show M1.h (nm+i)=none
   rcases a6 (nm+i) with h|⟨own,t,xs,h,_⟩|⟨ver,xs,h,_⟩
   all_goals simp_all
  obtain ⟨Mc, g1, g2, g3, g4, g5, g6, g7, g8⟩ := NG e3 f1 ⟨rfl, rfl⟩ l8 hK (xM cC) (rI hK) (fun id af C hC b hb=>by
   obtain⟨o,ho,fj⟩:=rI hK id af
   have aA:qK L b:=⟨id,o,C,ho,fj,hC,hb⟩
   have kU:¬b<M1.H.size:=fun aX=>b4 b (g.own b aA (by rw[lo.H];omega))
   refine⟨fun h=>kU (a3.own b h).2,fun h=>?_,(e3.own b aA).2⟩
   rcases h with h|h
   ·exact kU (a3.Flt b h)
   ·exact(e3.own b aA).1 (e3.GF b h))
  have NM:yN M1 Mc:=by
   have aA:∀b,qK Mc b→b<M1.H.size→qK M1 b:=fun b hb aX=>by
    rcases g7 b hb with h|⟨id,af,C,hC,xX⟩
    ·exact h
    ·obtain⟨o,ho,fj⟩:=rI hK id af
     exact absurd (g.own b ⟨id,o,C,ho,fj,hC,xX⟩ (by rw[lo.H];omega)) (b4 b)
   refine⟨f2.ext.trans f2.size g6,?_,fun b hb hn=>?_,aA,fun b hb aX=>?_,fun b hb aX=>?_⟩
   ·rw[g1];exact f2.size
   ·rw[g1];exact f2.frame b hb hn
   ·rw[g2] at hb;exact f2.Gb b hb aX
   ·rw[g3] at hb;exact f2.Fb b hb aX
  refine⟨Mc,⟨c6,c7,c8,?_,?_,g5,a4.trans NM⟩,?_⟩
  ·rw[g1];show L.H=_;rw[e1,c2]
  ·rw[gT,←a2];exact g4
  ·exact d2 Mc _ (g8 us e5)
theorem yNk {E}(hE:dG E)(hS:fL E.sums)(hm:E.P.follows .mixedOrders=true){A k pre na f fn}(hf:E.P.funcs[f]? =some fn)(hL:∀c,fn.body=some c→vT E.P A pre na fn.ntmps c)(bJ:∀vs w,(callFunc f vs).run E.P w=.ok (.enter f vs) w)
  {as rs X S} {pack:X→RL rs.cells} {unpack} (de:∀d,pack (unpack d)=d) (aI:∀d,gd E A k pre na fn (l6 as d).1 (l6 as d).2 (ju rs unpack)=S d)
  {nm args h v u} (hy:yC (ld as rs S pack nm args h) v u):oP E.P f args h v u:=
 YL hE hS hm hf hL bJ de (fun d x hx _ _ hv=>⟨_,hv,(aI d).trans hx⟩) hy
theorem yQ9 {E}(hE:dG E)(hS:fL E.sums)(hm:E.P.follows .mixedOrders=true){A k pre na f fn}(hf:E.P.funcs[f]? =some fn)(hL:∀c,fn.body=some c→vT E.P A pre na fn.ntmps c)(bJ:∀vs w,(callFunc f vs).run E.P w=.ok (.enter f vs) w)
  {sh t rs X} {S:List t.den→Option X} {pack unpack} (de:∀d,pack (unpack d)=d) (bX:∀x,S []=some x→gd E A k pre na fn [.c .nsl] (iE []) (ju rs unpack)=some x)
  (aI:∀xs x,S xs=some x→gd E A k pre na fn [.c (.nfl sh t xs)] (iE []) (ju rs unpack)=some x)
  {nm args h v u} (hy:yC (ld [.c (.dat sh t)] rs (fun d=>S d.1) pack nm args h) v u):oP E.P f args h v u:=
 YL hE hS hm hf hL bJ de (fun d x hx Ml vs hv=>by
  obtain⟨xs,_⟩:=d
  match vs,hv with
  |[v],hv=>
   have DK:zX Ml.H (bif sh then Ml.G else Ml.F) (.sl t) xs (fun _=>some v):=hv.1
   have MA:=DK
   simp[zX] at DK
   obtain⟨A',n,c,rfl,hn,hc,h⟩:=DK
   cases A' with
   |some a=>exact⟨[.c (.nfl sh t xs)],⟨⟨by simp,MA⟩,trivial⟩,aI xs x hx⟩
   |none=>
    rcases h with⟨rfl,h0⟩|⟨B,o,e,_⟩
    ·have h0:=h0 rfl
     subst h0
     subst hn
     exact⟨[.c .nsl],⟨rfl,trivial⟩,bX x hx⟩
    ·cases e) hy
def yI.orElse:yI→yI→yI
 |.alts [],b=>b
 |a,_=>a
abbrev kF:=Nat→Nat→List zR→Hp→yI
def eO:List (Nat×kF)→GO
 |[],_,_,_,_,_=>.stuck
 |(g,e)::l,k,nm,f,args,h=>bif Nat.beq g f then(e k nm args h).orElse (eO l k nm f args h) else eO l k nm f args h
def YN (P:Program)(r:Nat×kF):Prop:=∀k nm args h v u,yC (r.2 k nm args h) v u→oP P r.1 args h v u
def DL (e:kF):Prop:=∀k nm (args:List zR) h h',(args.any vW=false→∀id,(id∈args.flatMap yG∨kq nm id=true)→h id=h' id)→(args.any vW=true→h=h')→e k nm args h=e k nm args h'
theorem vEl {a b v u}(h:yC (a.orElse b) v u):yC a v u∨yC b v u:=by
 unfold yI.orElse at h
 grind
theorem YO {P}:∀{l},(∀r∈l,YN P r)→XR P (eO l)
 |[],_=>nofun
 |(g,e)::l,hl=>fun k nm f args h v u hy=>by
  have ih:=YO (l:=l) fun r hr=>hl r (by grind)
  unfold eO at hy
  cases hg:Nat.beq g f with
  |false=>rw[hg] at hy;exact ih k nm f args h v u hy
  |true=>
   rw[hg] at hy
   have:g=f:=by simp_all
   subst this
   rcases vEl hy with hy|hy
   ·exact hl (g,e) (by simp) k nm args h v u hy
   ·exact ih k nm g args h v u hy
theorem YP:∀{l},(∀r∈l,DL r.2)→fL (eO l)
 |[],_=>fun k nm f args h h' _ _=>rfl
 |(g,e)::l,hl=>fun k nm f args h h' h1 h2=>by
  have ih:=YP (l:=l) (by grind) k nm f args h h' h1 h2
  unfold eO
  have he:e k nm args h=e k nm args h':=hl (g,e) (by simp) k nm args h h' h1 h2
  rw[ih,he]
section
variable {h h':Hp}
theorem vGu {t c}(hh:∀id∈yY c,h id=h' id):ud h t c=ud h' t c:=by
 have e:=Hy hh
 unfold ud
 grind
theorem YQ {p c}(hh:∀id∈yY c,h id=h' id):oV h p c=oV h' p c:=by
 have e:=fun t=>vGu (t:=t) hh
 unfold oV
 grind
theorem YR:∀{l cs},(∀id∈cs.flatMap yY,h id=h' id)→ue h l cs=ue h' l cs
 |[],[],_
 |[],_::_,_
 |_::_,[],_=>rfl
 |p::l,c::cs,hh=>by
  simp  at hh
  unfold ue
  rw[YQ fun id hi=>hh id (.inl hi),YR (by grind)]
theorem yVl {ls}:oW h ls []=oW h' ls []:=by
 cases ls<;>rfl
theorem vE5 {s:AS}{a}(hb:vW a=false):s.get h a=s.get h' a:=by
 unfold AS.get
 cases s with
 |c p=>grind
 |agg l=>grind
 |ptr l=>
  cases a with
  |c x=>cases x<;>first|rfl|(exact absurd hb (by nofun))
  |_=>rfl
 |fn f ba=>
  cases a with
  |c x=>cases x with
   |fn g ids=>
    cases ids with
    |nil=>dsimp only;rw[yVl]
    |cons _ _=>exact absurd hb (by nofun)
   |_=>rfl
  |_=>rfl
theorem yY0 {s:AS}{a cs}(hb:vW a=false)(e:s.get h a=some cs):∀id∈cs.flatMap yY,id∈yG a:=by
 unfold AS.get at e
 split at e
 ·cases e;intro id af;simp  at af;exact af
 ·obtain⟨_,e⟩:=vQ e
  cases e;exact fun id af=>af
 ·exact absurd hb (by nofun)
 ·rename_i f ba g ids
  obtain⟨_,e⟩:=vQ e
  cases ids with
  |nil=>cases ba with
   |nil=>cases e;simp
   |cons _ _=>cases e
  |cons _ _=>exact absurd hb (by nofun)
 ·cases e
theorem YS:∀{l as},as.any vW=false→nB h l as=nB h' l as
 |[],[],_
 |[],_::_,_
 |_::_,[],_=>rfl
 |s::l,a::as,hb=>by
  simp only[List.any_cons,Bool.or_eq_false_iff] at hb
  unfold nB
  rw[vE5 (h:=h) (h':=h') hb.1,YS hb.2]
theorem YT:∀{l as cs},as.any vW=false→nB h l as=some cs→∀id∈cs.flatMap yY,id∈as.flatMap yG
 |[],[],cs,_,e=>by cases e;simp
 |s::l,a::as,cs,hb,e=>by
  simp only[List.any_cons,Bool.or_eq_false_iff] at hb
  unfold nB at e
  split at e
  ·rename_i c1 rest e1 e2
   cases e
   intro id af
   rw[List.flatMap_append,List.mem_append] at af
   rw[List.flatMap_cons,List.mem_append]
   rcases af with af|af
   ·exact .inl (yY0 hb.1 e1 id af)
   ·exact .inr (YT hb.2 e2 id af)
  ·cases e
theorem yY3 {l as}(hb:as.any vW=false)(hh:∀id∈as.flatMap yG,h id=h' id):uf h l as=uf h' l as:=by
 unfold uf
 rw[YS (h:=h) (h':=h') hb]
 cases e:nB h' l as with
 |none=>rfl
 |some cs=>exact YR fun id af=>hh id (YT hb e id af)
theorem xY {x}:[x].flatMap yY=yG (.c x):=by simp[yG]
theorem NN {c c' u}(e:kT h c=some (c',u)):(∀id∈yY c',id∈yY c)∧(vW (.c c')=true→vW (.c c)=true):=by
 cases c with
 |osl id r=>
  unfold kT at e
  dsimp only at e
  split at e
  ·cases e;exact⟨nofun,nofun⟩
  ·cases r with
   |none=>cases e;exact⟨nofun,nofun⟩
   |some _=>cases e
  ·cases e
 |mrow _ _ _=>cases e
 |_=>cases e;simp
theorem xZ:∀{l cs},(∀id∈cs.flatMap yY,h id=h' id)→dH h l cs=dH h' l cs
 |[],cs,_=>by rfl
 |true::l,[],_
 |false::l,[],_=>rfl
 |true::l,c::cs,hh=>by
  simp  at hh
  unfold dH
  rw[XX fun id hi=>hh id (.inl hi),xZ (by grind)]
 |false::l,c::cs,hh=>by
  unfold dH
  rw[xZ (by grind)]
theorem ya:∀{l cs aH u},dH h l cs=some (aH,u)→∀id∈aH.flatMap yY,id∈cs.flatMap yY
 |[],cs,aH,u,e=>by cases cs<;>cases e<;>exact by simp
 |true::l,[],aH,u,e
 |false::l,[],aH,u,e=>by cases e;simp
 |true::l,c::cs,aH,u,e=>by
  unfold dH at e
  split at e
  ·rename_i c1 u1 jm nj e1 e2
   cases e
   intro id af
   rw[List.flatMap_cons,List.mem_append] at af⊢
   exact af.imp ((NN e1).1 id) (ya e2 id)
  ·cases e
 |false::l,c::cs,aH,u,e=>by
  unfold dH at e
  split at e
  ·rename_i jm nj e2
   cases e
   intro id af
   rw[List.flatMap_cons,List.mem_append] at af⊢
   exact af.imp (by simp) (ya e2 id)
  ·cases e
theorem vCz {s a}(hh:∀id∈yG a,h id=h' id):rE h s a=rE h' s a:=by
 unfold rE
 cases s with
 |c p=>cases a with
  |c x=>
   have:=xZ (h:=h) (h':=h') (l:=[p.isKept]) (cs:=[x]) (by rw[xY];exact hh)
   simp_all
  |_=>rfl
 |agg l=>cases a with
  |agg xs=>
   have:=xZ (h:=h) (h':=h') (l:=l.map PC.isKept) (cs:=xs) hh
   simp_all
  |_=>rfl
 |_=>rfl
theorem vA5 {s a a' u}(e:rE h s a=some (a',u)):(∀id∈yG a',id∈yG a)∧(vW a=false→vW a'=false):=by
 unfold rE at e
 split at e
 ·rename_i p x
  split at e
  ·rename_i y u1 e1
   cases e
   refine⟨fun id af=>by have:=ya e1 id (by rw[xY];omega);rwa [xY] at this,fun hb=>?_⟩
   cases hk:p.isKept with
   |false=>rw[hk] at e1;cases e1;exact hb
   |true=>
    rw[hk] at e1
    unfold dH at e1
    split at e1
    ·rename_i c1 u2 jm nj e2 e3
     cases e1
     cases hy:vW (.c y) with
     |false=>rfl
     |true=>rw[(NN e2).2 hy] at hb;cases hb
    ·cases e1
  ·cases e
 ·split at e
  ·rename_i ys u1 e1
   cases e
   exact⟨ya e1,fun _=>rfl⟩
  ·cases e
 simp_all
theorem YU:∀{l as},(∀id∈as.flatMap yG,h id=h' id)→nD h l as=nD h' l as
 |[],as,_=>by rfl
 |_::_,[],_=>rfl
 |s::l,a::as,hh=>by
  simp  at hh
  unfold nD
  rw[vCz fun id hi=>hh id (.inl hi),YU (by grind)]
theorem YV:∀{l as dd u},nD h l as=some (dd,u)→(∀id∈dd.flatMap yG,id∈as.flatMap yG)∧(as.any vW=false→dd.any vW=false)
 |[],as,dd,u,e=>by cases as<;>cases e<;>exact by simp
 |s::l,[],dd,u,e=>by cases e;simp
 |s::l,a::as,dd,u,e=>by
  unfold nD at e
  split at e
  ·rename_i a1 u1 NK nj e1 e2
   obtain⟨k1,k2⟩:=vA5 e1
   obtain⟨k3,k4⟩:=YV e2
   grind
  ·cases e
theorem NO:∀{n nm},(∀i,i<n→h (nm+i)=h' (nm+i))→rD h nm n=rD h' nm n
 |0,_,_=>rfl
 |n+1,nm,hh=>by
  unfold rD
  have:=hh 0 (by omega)
  rw[Nat.add_zero] at this
  rw[this,NO (by grind)]
end
theorem YW {as rs X}{S:Nat→AD as→Option X}{pack}:DL fun k nm args h=>ld as rs (S k) pack nm args h:=by
 intro k nm args h h' h1 h2
 cases hb:args.any vW with
 |true=>rw[h2 hb]
 |false=>
  have hh:=h1 hb
  show ld as rs (S k) pack nm args h=ld as rs (S k) pack nm args h'
  unfold ld
  rw[YU (h:=h) (h':=h') (by grind)]
  cases e:nD h' as args with
  |none=>rfl
  |some p=>
   obtain⟨cX,u⟩:=p
   obtain⟨k1,k2⟩:=YV e
   dsimp only
   rw[yY3 (h:=qG h u) (h':=qG h' u) (k2 hb) fun id af=>tX (by grind)]
   cases uf (qG h' u) as cX with
   |none=>rfl
   |some d=>
    cases hle:Nat.ble rs.cells.length 100 with
    |false=>simp
    |true=>
     have hle:=Nat.le_of_ble_eq_true hle
     rw [NO (h := h) (h' := h') fun i hi => hh _ (.inr (by
      simp only[kq,Bool.and_eq_true]
      exact⟨by simp,by simp[Nat.blt_eq];omega⟩))]
def kG:Code→List Code
 |.seq a b=>kG a++kG b
 |.cond _ a b=>kG a++kG b
 |.block _ b=>kG b
 |.loop b=>[b]
 |_=>[]
def zY (c:Code)(i:Nat):Code:=match(kG c)[i]? with
 |some b=>b
 |none=>.skip
def qA (fn:Func):Code:=match fn.body with
 |some c=>c
 |none=>.skip
def YX (P:Program)(A:qF)(pre na nt:Nat)(b:Code):Prop:=(∃L,qt A b=some L∧qC P pre na nt b L)∨(qt A b=none∧vT P A pre na nt b)
theorem yVt {P A pre na nt}:∀c,(∀b∈kG c,YX P A pre na nt b)→vT P A pre na nt c:=by
 intro c
 induction c with
 |seq a b xJ xK=>exact fun h=>⟨xJ fun x hx=>h x (List.mem_append_left _ hx),xK fun x hx=>h x (List.mem_append_right _ hx)⟩
 |cond t a b xJ xK=>exact fun h=>⟨xJ fun x hx=>h x (List.mem_append_left _ hx),xK fun x hx=>h x (List.mem_append_right _ hx)⟩
 |block id b ih=>exact fun h=>ih h
 |loop b ih=>
  intro h
  rcases h b (List.mem_cons_self ..) with⟨L,h1,h2⟩|⟨h1,h2⟩
  ·refine⟨by grind,by grind⟩
  ·refine⟨fun L' h3=>?_,fun _=>h2⟩
   simp_all
 |_=>exact fun _=>trivial
theorem yc {P A pre na nt c n}(hn:(kG c).length=n)(h:∀i,i<n→YX P A pre na nt (zY c i)):vT P A pre na nt c:=
 yVt c fun b hb=>by
  obtain⟨i,hi,rfl⟩:=List.getElem_of_mem hb
  have e:zY c i=(kG c)[i]:=by
   unfold zY
   grind
  grind
theorem loopsOK_of {P A pre na nt c n}(hn:(kG c).length=n)(h:∀i,i<n→∃L,qt A (zY c i)=some L∧qC P pre na nt (zY c i) L):vT P A pre na nt c:=
 yc hn fun i hi=>.inl (h i hi)
theorem vK3 {P A pre na nt c}(hn:(kG c).length=0):vT P A pre na nt c:=loopsOK_of hn (by simp)
theorem body_loops {P A pre na fn}(h:vT P A pre na fn.ntmps (qA fn)):∀c,fn.body=some c→vT P A pre na fn.ntmps c:=fun c hc=>by
 unfold qA at h
 simp_all
theorem DM {P f fn}(hf:P.funcs[f]? =some fn)(hb:fn.body.isNone=false)(hn:(fn.name== "runtime.NumGoroutine")=false):∀vs w,(callFunc f vs).run P w=.ok (.enter f vs) w:=fun vs w=>by
 have h1:(program).run P w=.ok P w:=rfl
 unfold callFunc
 simp only[Sem.run_bind,h1,Result.andThen_ok,hf,hn,hb,Bool.false_eq_true,if_false,Sem.run_pure]
abbrev zA (x:Int):Int:=IntKind.wrap .i64 x
abbrev jO (k:IntKind)(x y:Int):Int:=ql (fun _ a b=>a&&&b) k x y
abbrev fP (k:IntKind)(x y:Int):Int:=ql (fun _ a b=>a|||b) k x y
abbrev shl (k:IntKind)(x y:Int):Int:=k.wrap (x*2^(min y.toNat k.bits))
abbrev shr (k:IntKind)(x y:Int):Int:=x.fdiv (2^(min y.toNat k.bits))
abbrev zU (n b:Nat):Bool:=Nat.ble (n*b) 140737488355328&&Nat.ble n 140737488355328
abbrev uj (l c:Int)(b:Nat):Bool:=decide (0≤l)&&decide (l≤c)&&decide (c*(b:Int)≤140737488355328)&&decide (c≤140737488355328)
abbrev vV (lt:Bool)(x y:Int):Int:=bif lt then(bif decide (y<x) then y else x) else(bif decide (y>x) then y else x)
abbrev NP (xs:List (List Int))(n:Nat):Option (List (List Int)):=
 ju (.c .mat) (fun d=>d.1) (.c (.osl 0 none)) ⟨fun _=>.undef,fun _=>some (.pmat 0 xs n)⟩
theorem yTw xs n:NP xs n=bif Nat.beq xs.length n then some xs else none:=by
 unfold NP ju DH RS.get RS.cells
 dsimp only[List.map,RC.isFro,dH,vO,ow,qG]
 cases h:Nat.beq xs.length n<;>simp[gv,l7,h]
theorem vC3 {P}:Hh P (fun _=>false):=nofun
open Go.ChangeShapes Go.WideShapes Go.ChangeAt Go.RowKit
def DN (f:TypeId→Option Ty):Nat→List (Nat×TypeId)→Option Ty
 |_,[]=>none
 |off,[x]=>bif Nat.beq x.1 off then f x.2 else none
 | off, x :: y :: l => bif Nat.beq x.1 off then (match f x.2 with
  |some a=>(match DN f (off+a.size) (y::l) with|some b=>some (.pair a b)|none=>none)
  |none=>none) else none
def nE (P:Program):TypeDesc→List (Nat×TypeId)
 |.struct fs=>fs.toList.map fun f=>(f.offset,f.type)
 |.array n e=>(List.range n).map fun i=>(i*P.cellsOf e,e)
 |_=>[]
def lg (P:Program):Nat→TypeId→Option Ty
 |0,_=>none
 |d+1,t=>match P.underlying t with
  |some (.int k)=>bif Nat.beq (P.cellsOf t) 1 then some (.int k) else none
  |some .bool=>bif Nat.beq (P.cellsOf t) 1 then some .bool else none
  |some (.slice e)=>bif Nat.beq (P.cellsOf t) 1&&Nat.ble 1 (P.bytesOf e) then(match lg P d e with|some a=>some (.sl a)|none=>none) else none
  |some x=>match DN (lg P d) 0 (nE P x) with
   |some a=>bif Nat.beq (P.cellsOf t) a.size then some a else none
   |none=>none
  |none=>none
def Wf:(t:Ty)→t.den→Prop
 |.int k,n=>(Lit.int k n).wf=true
 |.bool,_=>True
 |.sl t,xs=>xs.length≤reachBytes∧∀i (h:i<xs.length),Wf t xs[i]
 |.pair a b,p=>Wf a p.1∧Wf b p.2
theorem NQ {P}:∀{d t ty},lg P d t=some ty→P.cellsOf t=ty.size
 |d+1,t,ty,h=>by
  unfold lg at h
  split at h
  ·obtain⟨h1,h2⟩:=vQ h;cases h2;exact Nat.eq_of_beq_eq_true h1
  ·obtain⟨h1,h2⟩:=vQ h;cases h2;exact Nat.eq_of_beq_eq_true h1
  ·obtain⟨h1,h2⟩:=vQ h
   rw[Bool.and_eq_true] at h1
   split at h2
   ·cases h2;exact Nat.eq_of_beq_eq_true h1.1
   ·cases h2
  ·split at h
   ·obtain⟨h1,h2⟩:=vQ h;simp_all
   ·cases h
  ·cases h
section
variable {H:Type} {enc:TypeId×Value→H} {P:Program} {w:World}
abbrev DO (w:World):Nat→Prop:=fun b=>b<w.heap.size
theorem yWj {a n cs}(h:w.cells? 0 a n=some cs):cs.length=n∧∀i,i<n→∃v,cs[i]? =some v∧w.cell? (a.add i)=some v:=by
 have hl:=mapM_some_length h
 have hg:=mapM_some_get h
 simp at hl
 refine⟨hl,fun i hi=>?_⟩
 have:=hg i i (by simp[hi])
 simp_all
theorem YY {a v}(h:w.cell? a=some v):a.spot=none∧a.block<w.heap.size∧yF w.heap a.block a.off=some v:=by
 unfold World.cell? at h
 cases hb:w.heap[a.block]? with
 |none=>simp_all
 |some o=>
  rw[hb] at h
  cases o with
  |cells c e z=>
   dsimp only at h
   split at h
   ·cases h
   ·refine⟨by simp_all,?_,?_⟩
    ·grind
    ·unfold yF;simp_all
  |_=>cases h
theorem YZ {α:Type}{p:Nat→α→Prop}:∀n,(∀i,i<n→∃x,p i x)→∃xs:List α,xs.length=n∧∀i h,p i xs[i]
 |0,_=>by simp
 |n+1,h=>by
  obtain⟨xs,h1,h2⟩:=YZ n fun i hi=>h i (by omega)
  obtain⟨x,hx⟩:=h n (by omega)
  refine⟨xs++[x],by simp[h1],fun i hi=>?_⟩
  grind
def jH (l:List Nat):Prop:=l.all (· ≤reachBytes)=true
theorem l9 {l m}:jH (l++m)↔jH l∧jH m:=by simp[jH]
theorem Y0 {P e}{d:DataW H}:∀{l},jH (DataW.weightsAll P e l)→d∈l→jH (d.weights P e)
 |a::l,h,hd=>by
  have h:=l9.1 h
  rcases List.mem_cons.1 hd with rfl|hd
  ·exact h.1
  ·exact Y0 h.2 hd
theorem Y1 {P e}:∀{ts} {ds:List (DataW H)},(∀t∈ts,t=e)→jH (DataW.weightsAll P e ds)→jH (DataW.weightsEach P ts ds)
 |t::ts,d::ds,ht,h=>by
  have h:=l9.1 h
  rw[ht t (by simp)]
  exact l9.2 ⟨h.1,Y1 (by grind) h.2⟩
 |[],_,_,_=>by simp[DataW.weightsEach,jH]
 |_::_,[],_,_=>by rfl
def HL (P:Program)(w:World)(ty:Ty)(cs:List Value):Prop:=∃x:ty.den,cs.length=ty.size∧zX w.heap (DO w) ty x (fun j=>cs[j]?)∧Wf ty x
theorem Y2 {d fuel}(ih:∀t ty cs x,lg P d t=some ty→DataW.trod enc P w 0 (fun _=>true) true fuel t cs=some x→jH (x.1.weights P t)→HL P w ty cs):
  ∀l off ty (cs:List Value) out,DN (lg P d) off l=some ty→off+ty.size≤cs.length→
   (l.mapM fun p=>DataW.trod enc P w 0 (fun _=>true) true fuel p.2 ((cs.drop p.1).take (P.cellsOf p.2)))=some out→jH (DataW.weightsEach P (l.map (·.2)) (out.map (·.1)))→HL P w ty ((cs.drop off).take ty.size)
 |[x],off,ty,cs,out,h,hc,hm,hw=>by
  obtain⟨h1,h2⟩:=vQ h
  have ho:x.1=off:=by simpa using h1
  simp only[List.mapM_cons,List.mapM_nil,Option.pure_def,Option.bind_eq_bind,Option.bind_eq_some_iff] at hm
  obtain⟨y,hy,_,e,e'⟩:=hm
  cases e;cases e'
  rw[ho,NQ h2] at hy
  exact ih _ _ _ _ h2 hy (l9.1 hw).1
 |x::y::l,off,ty,cs,out,h,hc,hm,hw=>by
  obtain⟨h1,h2⟩:=vQ h
  have ho:x.1=off:=by simpa using h1
  split at h2
  ·rename_i a ha
   split at h2
   ·rename_i b hb
    cases h2
    simp only[Ty.size] at hc⊢
    rw[List.mapM_cons] at hm
    simp only[Option.pure_def,Option.bind_eq_bind,Option.bind_eq_some_iff] at hm
    obtain⟨z,hz,zs,hzs,e⟩:=hm
    cases e
    rw[ho,NQ ha] at hz
    have hw:=l9.1 hw
    obtain⟨p,p1,p2,p3⟩:=ih _ _ _ _ ha hz hw.1
    obtain⟨q,q1,q2,q3⟩:=Y2 ih (y::l) (off+a.size) b cs zs hb (by omega) hzs hw.2
    refine⟨(p,q),by simp only[List.length_take,List.length_drop,Ty.size];omega,⟨?_,?_⟩,p3,q3⟩
    ·refine yO (fun _ h=>h) (by simp) a p _ _ (fun j hj=>?_) p2
     simp only[List.getElem?_take,List.getElem?_drop]
     rw[if_pos (by omega),if_pos hj]
    grind
   ·cases h2
  ·cases h2
theorem NR:∀d t ty fuel cs x,lg P d t=some ty→DataW.trod enc P w 0 (fun _=>true) true fuel t cs=some x→jH (x.1.weights P t)→HL P w ty cs
 |0,_,_,_,_,_,h,_,_=>by cases h
 |d+1,t,ty,0,cs,x,_,h,_=>by simp[DataW.trod] at h
 |d+1,t,ty,fuel+1,cs,x,hl,h,hw=>by
  unfold lg at hl
  split at hl
  ·rename_i k hu
   obtain⟨_,hl⟩:=vQ hl
   cases hl
   obtain⟨n,rfl,_,uk⟩:=DataW.trod_int hu h
   exact⟨n,rfl,rfl,uk⟩
  ·rename_i hu
   obtain⟨_,hl⟩:=vQ hl
   cases hl
   obtain⟨b,rfl,_⟩:=DataW.trod_bool hu h
   exact⟨b,rfl,rfl,trivial⟩
  ·rename_i e hu
   obtain⟨eN,hl⟩:=vQ hl
   rw[Bool.and_eq_true] at eN
   have eN:=Nat.le_of_ble_eq_true eN.2
   split at hl
   ·rename_i a ha
    cases hl
    rcases DataW.trod_slice hu h with⟨rfl,_⟩|⟨ad,len,cap,elems,rest,n,hn,rfl,rfl,_,MB,hm,hel,hg,_,_⟩
    ·refine⟨([]:List a.den),rfl,?_,?_⟩
     ·simp only[zX]
      exact⟨none,0,0,rfl,rfl,Nat.le_refl _,.inl ⟨trivial,fun _=>rfl⟩⟩
     ·simp only[Wf]
      exact by simp
    ·unfold DataW.weights at hw
     rw[hu] at hw
     have hw:jH ([((elems.map (·.1)).length+(rest.map (·.1)).length)*P.bytesOf e]++(DataW.weightsAll P e (elems.map (·.1))++DataW.weightsAll P e (rest.map (·.1)))):=hw
     obtain⟨DP,hw⟩:=l9.1 hw
     have hw2:=(l9.1 hw).1
     have hlen:len≤reachBytes:=by
      simp only[jH,List.all_cons,List.all_nil,Bool.and_true,decide_eq_true_eq,List.length_map] at DP
      have:=Nat.mul_le_mul_left (elems.length+rest.length) eN
      omega
     have key:∀i,i<len→∃x:a.den,(zX w.heap (DO w) a x (fun j=>yF w.heap ad.block (ad.off+i*a.size+j))∧(i=0→ad.spot=none)∧ad.block<w.heap.size)∧Wf a x:=by
      intro i hi
      have h1:=hg i hi
      have Nm:i<elems.length:=by omega
      rw[List.getElem?_eq_getElem Nm,Option.bind_eq_some_iff] at h1
      obtain⟨cs,kE,htr⟩:=h1
      rw[NQ ha] at kE
      obtain⟨y,y1,y2,y3⟩:=NR d e a n cs _ ha htr (Y0 hw2 (by grind))
      obtain⟨c1,c2⟩:=yWj kE
      have um:∀j,((ad.add (i*a.size)).add j).block=ad.block∧((ad.add (i*a.size)).add j).off=ad.off+i*a.size+j:=by
       intro j
       unfold Addr.add
       constructor
       ·split<;>split<;>rfl
       ·split<;>split<;>simp_all
      have at0:(i=0→ad.spot=none)∧ad.block<w.heap.size:=by
       obtain⟨v,_,hv⟩:=c2 0 a.size_pos
       have h1:=YY hv
       refine⟨fun h0=>?_,by have:=h1.2.1;rwa [(um 0).1] at this⟩
       have h2:=h1.1
       subst h0
       simpa[Addr.add] using h2
      refine⟨y,⟨yO (fun _ h=>h) (fun _ _=>rfl) a y _ _ (fun j hj=>?_) y2,at0⟩,y3⟩
      obtain⟨v,v1,v2⟩:=c2 j hj
      rw[v1]
      have h1:=(YY v2).2.2
      rwa [(um j).1,(um j).2] at h1
     obtain⟨xs,x1,x2⟩:=YZ len key
     refine⟨xs,rfl,?_,?_⟩
     ·simp only[zX]
      refine⟨some ad,len,cap,rfl,x1.symm,MB,?_⟩
      by_cases h0:xs=[]
      ·exact by grind
      ·refine .inr ⟨ad.block,ad.off,?_,?_,fun i hi=>(x2 i hi).1.1⟩
       ·have:=(x2 0 (List.length_pos_iff.2 h0)).1.2.1 rfl
        cases ad
        simp at this
        rw[this]
       ·exact by grind
     ·simp only[Wf]
      exact by grind
   ·cases hl
  ·rename_i y n1 n2 n3 hu
   split at hl
   ·rename_i a ha
    obtain⟨cL,hl⟩:=vQ hl
    cases hl
    have cL:P.cellsOf t=ty.size:=by simpa using cL
    have fin:∀out,cs.length=P.cellsOf t→((nE P y).mapM fun p=>DataW.trod enc P w 0 (fun _=>true) true fuel p.2 ((cs.drop p.1).take (P.cellsOf p.2)))=some out→jH (DataW.weightsEach P ((nE P y).map (·.2)) (out.map (·.1)))→HL P w ty cs:=by
     intro out hlen gm hw
     have:=Y2 (fun t' ty' aH x' h1 h2 h3=>NR d t' ty' fuel aH x' h1 h2 h3) (nE P y) 0 ty cs out ha (by omega) gm hw
     rwa [List.drop_zero,List.take_of_length_le (by omega)] at this
    unfold DataW.trod at h
    rw[hu] at h
    cases y with
    |struct fs=>
     dsimp only at h
     split at h
     ·rename_i hlen
      rw[Option.map_eq_some_iff] at h
      obtain⟨out,ho,rfl⟩:=h
      unfold DataW.weights at hw
      rw[hu] at hw
      refine fin out hlen ?_ (by rw[nE,List.map_map];exact hw)
      simp only[nE,List.mapM_map]
      exact ho
     ·cases h
    |array n e=>
     dsimp only at h
     split at h
     ·rename_i hlen
      rw[Option.map_eq_some_iff] at h
      obtain⟨out,ho,rfl⟩:=h
      unfold DataW.weights at hw
      rw[hu] at hw
      refine fin out hlen ?_ (Y1 (fun t ht=>by simp[nE] at ht;exact ht.2.symm) hw)
      simp only[nE,List.mapM_map]
      exact ho
     ·cases h
    |_=>simp[nE,DN] at ha
   ·cases hl
  ·cases hl
end
open Go.ChangeShapes Go.WideShapes Go.ChangeAt Go.RowKit
def oX (sh:Bool):Ty→List PC
 |.int k=>[.int k]
 |.bool=>[.bool]
 |.sl t=>[.dat sh t]
 |.pair a b=>oX sh a++oX sh b
def rJ:(l m:List PC)→PL l→PL m→PL (l++m)
 |[],_,_,e=>e
 |_::l,m,d,e=>(d.1,rJ l m d.2 e)
theorem NS:∀l m d e,vJ (l++m) (rJ l m d e)=vJ l d++vJ m e
 |[],_,_,_=>rfl
 |p::l,m,d,e=>by
  show xW p d.1::vJ (l++m) (rJ l m d.2 e)=xW p d.1::(vJ l d.2++vJ m e)
  rw[NS l m d.2 e]
def nF sh:(t:Ty)→t.den→PL (oX sh t)
 |.int _,n=>(n,())
 |.bool,b=>(b,())
 |.sl _,xs=>(xs,())
 |.pair a b,p=>rJ _ _ (nF sh a p.1) (nF sh b p.2)
def WfP:(p:PC)→p.den→Prop
 |.int k,n=>(Lit.int k n).wf=true
 |.bool,_=>True
 |.dat _ t,xs=>Wf (.sl t) xs
 |.fn _,_=>True
 |.nil,_=>True
 |.nilp,_=>True
def oY:(l:List PC)→PL l→Prop
 |[],_=>True
 |p::l,d=>WfP p d.1∧oY l d.2
theorem NT:∀l m d e,oY l d→oY m e→oY (l++m) (rJ l m d e)
 |[],_,_,_,_,h=>h
 |_::l,m,d,e,h,h'=>⟨h.1,NT l m d.2 e h.2 h'⟩
theorem NU sh:∀t x,Wf t x→oY (oX sh t) (nF sh t x)
 |.int _,_,h
 |.bool,_,h
 |.sl _,_,h=>⟨h,trivial⟩
 |.pair a b,p,h=>NT _ _ _ _ (NU sh a p.1 h.1) (NU sh b p.2 h.2)
theorem HM:∀l d,(vJ l d).length=l.length
 |[],_=>rfl
 |p::l,d=>by
  show(vJ l d.2).length+1=l.length+1
  rw[HM l d.2]
def M0 (w:World):zH:=⟨fun _=>none,DO w,DO w,iE [],w.heap⟩
theorem yZ7 w:Ok (M0 w) where
 obj:=nofun
 non:=fun _ _=>rfl
 disj:=fun i j oi oj Ci Cj b _ h=>by cases h
 own:=nofun
 GF:=fun _ h=>h
 Flt:=fun _ h=>h
theorem NV sh {w}:∀t x cs,cs.length=t.size→zX w.heap (DO w) t x (fun j=>cs[j]?)→zK (zS (M0 w)) (vJ (oX sh t) (nF sh t x)) cs
 |.int k,n,cs,hl,h=>by
  match cs,hl with
  |[c],_=>
   have e:c=.int k n:=by simpa[zX] using h
   exact⟨e,trivial⟩
 |.bool,b,cs,hl,h=>by
  match cs,hl with
  |[c],_=>
   have e:c=.bool b:=by simpa[zX] using h
   exact⟨e,trivial⟩
 |.sl t,xs,cs,hl,h=>by
  match cs,hl with
  |[c],_=>
   refine⟨?_,trivial⟩
   have h':=yO (F':=(bif sh then(M0 w).G else(M0 w).F)) (fun b h=>by cases sh<;>exact h) (fun b _=>rfl) (.sl t) xs (fun j=>[c][j]?) (fun _=>some c) (by grind) h
   exact h'
 |.pair a b,p,cs,hl,h=>by
  have fl:cs.length=a.size+b.size:=hl
  have h1:=NV sh a p.1 (cs.take a.size) (by grind) (yO (fun _ h=>h) (by simp) a p.1 _ _ (by grind) h.1)
  have h2:=NV sh b p.2 (cs.drop a.size) (by grind) (yO (by simp) (fun _ _=>rfl) b p.2 _ _ (by grind) h.2)
  show zK _ (vJ (oX sh a++oX sh b) (rJ _ _ (nF sh a p.1) (nF sh b p.2))) cs
  rw[NS]
  have:=zK.append h1 h2
  simp_all
def nG (sh : Bool) (P : Program) (t : TypeId) (ty : Ty) : AS := bif fg P t == some true then .agg (oX sh ty) else (match ty with
 |.int k=>.c (.int k)|.bool=>.c .bool|.sl t=>.c (.dat sh t)|.pair a b=>.agg (oX sh (.pair a b)))
def HN (P:Program):List TypeId→Option (List Ty)
 |[]=>some []
 |t::ts=>match lg P 8 t,HN P ts with
  |some a,some l=>some (a::l)
  |_,_=>none
def oZ (sh:Bool)(P:Program):List TypeId→List Ty→List AS
 |t::ts,a::l=>nG sh P t a::oZ sh P ts l
 |_,_=>[]
theorem yTh {P t ty}(h:lg P 8 t=some ty)(ha:(fg P t==some true)=false):(∃k,P.underlying t=some (.int k)∧ty=.int k)∨(P.underlying t=some .bool∧ty=.bool)∨∃e a,P.underlying t=some (.slice e)∧ty=.sl a:=by
 unfold lg at h
 split at h
 ·grind
 ·grind
 ·grind
 ·rename_i x _ _ _ hu
  split at h
  ·rename_i a hx
   unfold fg at ha
   rw[hu] at ha
   cases x<;>first|(simp[nE,DN] at hx;done)|(cases ha)
  ·cases h
 ·cases h
section
variable {H:Type} {enc:TypeId×Value→H} {P:Program} {w:World}
theorem yN9 sh {t ty v d ps base}(hl:lg P 8 t=some ty)(dj:Value.okWide P w .any base t v)(h:DataW.Trod enc P w 0 (fun _=>true) true t v d ps)(hw:jH (d.weights P t)):
  ∃x:PL (nG sh P t ty).cells,(∀n,zP (M0 w) ((nG sh P t ty).mk n (vJ _ x)) v)∧(nG sh P t ty).boxes (vJ _ x)=[]∧oY _ x:=by
 obtain⟨fuel,hf⟩:=h
 obtain⟨x,x1,x2,x3⟩:=NR 8 t ty fuel _ _ hl hf hw
 have cw:=NV sh ty x _ x1 x2
 have yd:=NU sh ty x x3
 unfold nG
 cases ha:(fg P t==some true) with
 |true=>
  refine⟨nF sh ty x,fun n=>?_,rfl,yd⟩
  have ni:fg P t=some true:=by simp_all
  have hv:∃cs,v=.agg cs:=by
   unfold fg at ni
   unfold Value.okWide at dj
   grind
  obtain⟨cs,rfl⟩:=hv
  exact⟨cs,rfl,cw⟩
 |false=>
  rcases yTh hl ha with⟨k,hu,rfl⟩|⟨hu,rfl⟩|⟨e,a,hu,rfl⟩
  ·have hv:∃n,v=.int k n:=by
    simp[Value.okWide,Cell.okWide] at dj
    cases v<;>simp_all[Cell.ok]
   obtain⟨n0,rfl⟩:=hv
   exact⟨nF sh _ x,fun n=>cw.1,rfl,yd⟩
  ·have hv:∃b,v=.bool b:=by
    simp[Value.okWide,Cell.okWide] at dj
    cases v<;>simp_all[Cell.ok]
   obtain⟨b,rfl⟩:=hv
   exact⟨nF sh _ x,fun n=>cw.1,rfl,yd⟩
  ·obtain⟨ad,len,cap,rfl⟩:=okWide_slice hu dj
   exact⟨nF sh _ x,fun n=>cw.1,rfl,yd⟩
theorem Y3 sh {base}:∀ts tys vs ds ps n,HN P ts=some tys→(∀(j:Nat) t v,ts[j]? =some t→vs[j]? =some v→Value.okWide P w .any base t v)→
  DataW.TrodAll enc P w 0 (fun _=>true) true ts vs ds ps→jH (DataW.weightsEach P ts ds)→∃x:AD (oZ sh P ts tys),zK (zP (M0 w)) (iD (oZ sh P ts tys) (vJ _ x) n).1 vs∧(iD (oZ sh P ts tys) (vJ _ x) n).2=[]∧oY _ x
 |[],tys,vs,ds,ps,n,hl,dj,h,_=>by
  match vs,ds,h with
  |[],[],_=>exact⟨(),trivial,rfl,trivial⟩
 |t::ts,tys,vs,ds,ps,n,hl,dj,h,hw=>by
  unfold HN at hl
  split at hl
  ·rename_i a l ha fl
   cases hl
   match vs,ds,h with
   |v::vs,d::ds,h=>
    obtain⟨p,q,h1,h2,_⟩:=h
    have hw:=l9.1 hw
    obtain⟨x,x1,x2,x3⟩:=yN9 sh ha (dj 0 t v rfl rfl) h1 hw.1
    obtain⟨y,y1,y2,y3⟩:=Y3 sh ts l vs ds q n fl (fun j t' v' h1 h2=>dj (j+1) t' v' h1 h2) h2 hw.2
    refine⟨rJ _ _ x y,?_⟩
    have e:vJ ((oZ sh P (t::ts) (a::l)).flatMap AS.cells) (rJ _ _ x y)=vJ _ x++vJ _ y:=NS _ _ _ _
    have ht:(vJ _ x++vJ _ y).take (nG sh P t a).cells.length=vJ _ x:=by
     rw[List.take_append_of_le_length (by rw[HM];omega),List.take_of_length_le (by rw[HM];omega)]
    have hd:(vJ _ x++vJ _ y).drop (nG sh P t a).cells.length=vJ _ y:=by
     rw[List.drop_append_of_le_length (by rw[HM];exact by simp),List.drop_of_length_le (by grind),List.nil_append]
    rw[e]
    have em:iD (oZ sh P (t::ts) (a::l)) (vJ _ x++vJ _ y) n=((nG sh P t a).mk n (vJ _ x)::(iD (oZ sh P ts l) (vJ _ y) n).1,(iD (oZ sh P ts l) (vJ _ y) n).2):=by
     show((nG sh P t a).mk n _::_,(nG sh P t a).boxes _++_)=_
     simp_all
    rw[em]
    exact⟨⟨x1 n,y1⟩,y2,NT _ _ _ _ x3 y3⟩
  ·cases hl
theorem Y4 {us}{gs:List (DataW H)}:∀{ts ds},ts.length=ds.length→jH (DataW.weightsEach P (ts++us) (ds++gs))→jH (DataW.weightsEach P ts ds)
 |[],[],_,_=>by rfl
 |t::ts,d::ds,hl,h=>l9.2 ⟨(l9.1 h).1,Y4 (by simp_all) (l9.1 h).2⟩
theorem Y5:∀{ts vs ds ps},DataW.TrodAll enc P w 0 (fun _=>true) true ts vs ds ps→ts.length=ds.length
 |[],[],[],_,_=>rfl
 |_::_,_::_,_::_,_,⟨_,_,_,h,_⟩=>by rw[List.length_cons,List.length_cons,Y5 h]
theorem lawArgs sh {base ts tys asp vs ds ps}(hl:HN P ts=some tys)(has:oZ sh P ts tys=asp)
  (dj:∀(j:Nat) t v,ts[j]? =some t→vs[j]? =some v→Value.okWide P w .any base t v) (h:DataW.TrodAll enc P w 0 (fun _=>true) true ts vs ds ps) {us gs} (hw:jH (DataW.weightsEach P (ts++us) (ds++gs))):
  ∃x:AD asp,zK (zP (M0 w)) (iD asp (vJ _ x) 0).1 vs∧(iD asp (vJ _ x) 0).2=[]∧oY _ x:=by
 subst has
 exact Y3 sh ts tys vs ds ps 0 hl dj h (Y4 (Y5 h) hw)
theorem law_calls {E}(hE:dG E)(hS:fL E.sums)(hm:E.P.follows .mixedOrders=true){A k pre f fn}(hf:E.P.funcs[f]? =some fn)(hL:∀c,fn.body=some c→vT E.P A pre 0 fn.ntmps c)
  {as d unpack} (Y6:∀d,unpack d=d.1) (aI:gd E A k pre 0 fn (l6 as d).1 (l6 as d).2 (ju (.c .bool) unpack)=some true) (hb:(iD as (vJ _ d) 0).2=[]) {vs} (hv:zK (zP (M0 w)) (iD as (vJ _ d) 0).1 vs.toList):
  Calls E.P f vs w fun e w'=>e=.returned (.bool true)∧Below w.heap.size w w':=by
 have hh:(M0 w).h=(l6 as d).2:=by
  show iE []=iE (iD as (vJ _ d) 0).2
  rw[hb]
 refine Calls.mono (Nv hE hS hm hf hL aI (M:=M0 w) (w:=w) hh rfl (yZ7 w) hv) fun e w' he=>?_
 cases e with
 |returned rv=>
  obtain⟨M',v,st,hK,_,hH,_,hg,_,hrv,o1,o2,o3,_⟩:=he
  refine⟨?_,o1,o2,o3,?_,fun b hb=>?_⟩
  ·unfold ju at hK
   split at hK
   ·rename_i r hr
    unfold DH at hr
    split at hr
    ·rename_i cs kE
     split at hr
     ·rename_i aH u xE
      cases v with
      |c x=>
       cases kE
       have e1:aH=[x]:=by
        simp[RS.cells,RC.isFro,dH] at xE
        simp_all
       subst e1
       have jn:gv (qG st.h u) [.bool] [x]=some r:=hr
       cases x with
       |bool b=>
        have e2:r=(b,()):=by simp[gv,l7] at jn;grind
        have:rv=.bool b:=hrv
        grind
       |_=>simp[gv,l7] at jn
      |_=>cases kE
     ·cases hr
    ·cases hr
   ·cases hK
  ·have:=hg.size
   rw[hH] at this
   exact this
  ·have:=hg.same b hb
   rw[hH] at this
   exact this
 |_=>simp_all
end
inductive XC where
 |p (c:PC)|own (t:Ty)|mat|map
 |link (j:Nat)
abbrev XC.den:XC→Type
 |.p c=>c.den|.own t=>List t.den|.mat=>List (List Int)|.map=>List (Int×Bool)|.link _=>Unit
def XC.lnk:XC→Option Nat
 |.link j=>some j
 |_=>none
def RC.lnk:RC→Option Nat
 |.link j=>some j
 |_=>none
def nH:List (Option Nat)→List Nat→List zT→Bool
 |none::l,ids,_::cs=>nH l ids cs
 |some j::l,ids,.ptr id 0::cs=>(match ids[j]? with|some k=>Nat.beq id k|none=>false)&&nH l ids cs
 |some _::_,_,_=>false
 |_,_,_=>true
def uo:List (Option Nat)→List Nat→List zT→List zT
 |none::l,ids,c::cs=>c::uo l ids cs
 |some j::l,ids,c::cs=>(match ids[j]? with|some id=>.ptr id 0|none=>c)::uo l ids cs
 |_,_,cs=>cs
def NW:List zT→Option Nat
 |[]=>none
 |.ptr id 0::_=>some id
 |_::l=>NW l
def DQ (h:Hp):Nat→Nat→Option (List Nat)
 |0,_=>none
 |1,id=>some [id]
 |n+2,id=>match xV h id with
  | some cells => (match NW cells with
   |some id2=>(match DQ h (n+1) id2 with|some l=>some (id::l)|none=>none)
   |none=>none)
  |none=>none
def iF:Nat→Nat→List Nat
 |_,0=>[]
 |n,m+1=>n::iF (n+1) m
abbrev XL:List XC→Type
 |[]=>Unit
 |c::l=>c.den×XL l
inductive AX where
 |c (x:XC)|agg (l:List PC)|ptr (io:Bool) (l:List XC)|fn (f:Nat) (ba:List (Bool×List XC))
 |chn (ls:List (List XC))
def AX.cells:AX→List XC
 |.c x=>[x]
 |.agg l=>l.map .p
 |.ptr _ l=>l
 |.fn _ ba=>ba.flatMap (·.2)
 |.chn ls=>ls.flatten
def AX.nb:AX→Nat
 |.ptr _ _=>1
 |.fn _ ba=>ba.length
 |.chn ls=>ls.length
 |_=>0
def AX.isChn:AX→Bool
 |.chn _=>true
 |_=>false
def ye (ls:List (List XC)):List (Bool×List XC):=ls.map fun l=>(true,l)
abbrev XD (l:List AX):Type:=XL (l.flatMap AX.cells)
def AX.looks:AX→Bool
 |.ptr _ _=>true
 |.fn _ _=>true
 |_=>false
def o0 (l:List AX)(na:Nat):Bool:=l.zipIdx.all fun p=> !p.1.looks||Nat.blt p.2 na
def yf (h:Hp)(io:Bool)(id:Nat):Option (List zT):=match io,h id with
 |true,some (.box true cells)=>some cells
 |false,some (.box _ cells)=>some cells
 |false,some (.robox cells)=>some cells
 |_,_=>none
def fQ (h:Hp):List (Bool×List XC)→List Nat→Option (List zT×List (Bool×Nat))
 |[],[]=>some ([],[])
 |(io,l)::ls,id::ids=>match yf h io id,fQ h ls ids with
  |some cells,some (rest,bs)=>bif Nat.beq cells.length l.length then some (cells++rest,(io,id)::bs) else none
  |_,_=>none
 |_,_=>none
def AX.get (h:Hp):AX→zR→Option (List zT×List (Bool×Nat))
 |.c _,.c x=>some ([x],[])
 |.agg l,.agg xs=>bif Nat.beq xs.length l.length then some (xs,[]) else none
 |.ptr io l,.c (.ptr id 0)=>fQ h [(io,l)] [id]
 |.fn f ba,.c (.fn g ids)=>bif Nat.beq f g then fQ h ba ids else none
 |.chn ls,.c (.ptr id 0)=>match DQ h ls.length id with
  |some ids=>fQ h (ye ls) ids
  |none=>none
 |_,_=>none
def gw (h:Hp):List AX→List zR→Option (List zT×List (Bool×Nat))
 |[],[]=>some ([],[])
 |s::l,a::as=>match s.get h a,gw h l as with
  |some (cs,bs),some (aH,uq)=>some (cs++aH,bs++uq)
  |_,_=>none
 |_,_=>none
def DR (h:Hp):(x:XC)→zT→Option x.den
 |.p p,c=>oV h p c
 |.own t,.osl id none=>match h id with
  |some (.arr true s xs)=>eC s t xs
  |_=>none
 |.mat,.osl id none=>match h id with
  |some (.mat _ xs)=>some xs
  |_=>none
 |.map,.map id=>match h id with
  |some (.imap cj)=>some cj
  |_=>none
 |.link _,.ptr _ 0=>some ()
 |_,_=>none
def ma (h:Hp):(l:List XC)→List zT→Option (XL l)
 |[],[]=>some ()
 |x::l,c::cs=>match DR h x c,ma h l cs with
  |some d,some ds=>some (d,ds)
  |_,_=>none
 |_,_=>none
def wS:List XC→List zT→List Nat
 |.p _::l,_::cs=>wS l cs
 |.link _::l,_::cs=>wS l cs
 |_::l,.osl id _::cs=>id::wS l cs
 |_::l,.map id::cs=>id::wS l cs
 |_::l,_::cs=>wS l cs
 |_,_=>[]
def DS:List XC→List zT→List Nat
 |.p _::l,c::cs=>yY c++DS l cs
 |_::l,_::cs=>DS l cs
 |_,_=>[]
def wA:Nat:=500
def eP:(l:List XC)→XL l→Nat→List zT×List Obj
 |[],_,_=>([],[])
 |.p p::l,d,n=>let r:=eP l d.2 n;(xW p d.1::r.1,r.2)
 |.own t::l,d,n=>let r:=eP l d.2 (n+1);(.osl n none::r.1,.arr true t d.1::r.2)
 |.mat::l,d,n=>let r:=eP l d.2 (n+1);(.osl n none::r.1,.mat 0 d.1::r.2)
 |.map::l,d,n=>let r:=eP l d.2 (n+1);(.map n::r.1,.imap d.1::r.2)
 |.link j::l,d,n=>let r:=eP l d.2 n;(.ptr j 0::r.1,r.2)
def DT:List (Bool×List XC)→List zT→List Obj
 |[],_=>[]
 |(io,l)::ls,cs=>(bif io then .box true (cs.take l.length) else .robox (cs.take l.length))::DT ls (cs.drop l.length)
def AX.mk (n:Nat)(cs:List zT):AX→zR
 |.c _=>match cs with|x::_=>.c x|[]=>.undef
 |.agg _=>.agg cs
 |.ptr _ _=>.c (.ptr n 0)
 |.fn f ba=>.c (.fn f ((List.range ba.length).map (n+·)))
 |.chn _=>.c (.ptr n 0)
def AX.boxes (cs:List zT):AX→List Obj
 |.ptr io l=>DT [(io,l)] cs
 |.fn _ ba=>DT ba cs
 |.chn ls=>DT (ye ls) cs
 |_=>[]
def ur:List AX→List zT→Nat→List zR×List Obj
 |[],_,_=>([],[])
 |s::l,cs,n=>
  let ai:=cs.take s.cells.length
  let bs:=s.boxes ai
  let rest:=ur l (cs.drop s.cells.length) (n+bs.length)
  (s.mk n ai::rest.1,bs++rest.2)
def DU (bs rows:List Obj):Hp:=fun n=>bif Nat.ble wA n then rows[n-wA]? else bs[n]?
def gx l (d:XD l):List zR×Hp:=
 let r:=eP (l.flatMap AX.cells) d wA
 let m:=ur l r.1 0
 (m.1,DU m.2 r.2)
def DV:List (Bool×List XC)→List Nat→Option (List Nat)
 |[],[]=>some []
 |(io,_)::ls,id::ids=>match DV ls ids with
  |some l=>some (bif io then id::l else l)
  |none=>none
 |_,_=>none
def AX.io (b:Nat):AX→zR→Option (List Nat)
 |.c _,_=>some []
 |.agg _,_=>some []
 |.ptr io l,.c (.ptr id 0)=>DV [(io,l)] [id]
 |.fn _ ba,.c (.fn _ ids)=>DV ba ids
 |.chn ls,_=>some (iF b ls.length)
 |_,_=>none
def HO:List AX→(Nat→zR)→Nat→Nat→Option (List Nat)
 |[],_,_,_=>some []
 |s::l,t,n,b=>match s.io b (t n),HO l t (n+1) (b+s.nb) with
  |some a,some b=>some (a++b)
  |_,_=>none
def yg (h:Hp):List (List RC)→List Nat→Option (List zT)
 |[],[]=>some []
 |o::os,n::ns=>match h n,yg h os ns with
  |some (.box true cells),some rest=>bif Nat.beq cells.length o.length then some (cells++rest) else none
  |_,_=>none
 |_,_=>none
def NX (h:Hp)(ns:Nat)(cs:List zT):Option (List Nat):=bif Nat.beq ns 0 then some [] else match NW cs with
 |some id=>DQ h ns id
 |none=>none
def rK (st:St)(as:List AX)(rs:RS)(os:List (List RC))(ns:Nat)(v:zR):Option (RL (rs.cells++os.flatten)):=
 match HO as st.t 0 0 with
 |none=>none
 |some io=>match rs.get v with
  |none=>none
  |some cs=>match NX st.h ns cs with
   |none=>none
   |some nw=>match yg st.h os (io++nw) with
    |none=>none
    | some bs => bif ow (io ++ nw) then (match dH st.h ((rs.cells++os.flatten).map RC.isFro) (cs++bs) with
     |some (cs,u)=>bif ow (vO (rs.cells++os.flatten) cs)&&nH ((rs.cells++os.flatten).map RC.lnk) (io++nw) cs then gv (qG st.h u) (rs.cells++os.flatten) cs else none
     |none=>none) else none
def DW (as:List AX)(rs:RS)(os:List (List RC))(ns:Nat){X:Type}(unpack:RL (rs.cells++os.flatten)→X)(v:zR)(st:St):Option X:=match rK st as rs os ns v with
 |some d=>some (unpack d)
 |none=>none
def HP (as:List AX)(rs:RS)(os:List (List RC))(ns:Nat)(rs2:RS)(os2:List (List RC))(ns2:Nat){X Y:Type}(up:RL (rs.cells++os.flatten)→X)(iG:RL (rs2.cells++os2.flatten)→Y)(v:zR)(st:St):Option (X⊕Y):=match rK st as rs os ns v with
 |some d=>some (.inl (up d))
 |none=>match rK st as rs2 os2 ns2 v with
  |some d=>some (.inr (iG d))
  |none=>none
def rL:List (List RC)→List zT→List (List zT)
 |[],_=>[]
 |o::os,cs=>cs.take o.length::rL os (cs.drop o.length)
def vA:List (Bool×Nat)→List Nat
 |[]=>[]
 |(true,id)::l=>id::vA l
 |(false,_)::l=>vA l
def HQ:List (Bool×Nat)→List Nat
 |[]=>[]
 |(true,_)::l=>HQ l
 |(false,id)::l=>id::HQ l
def yh:List Nat→List (List zT)→yR
 |id::ids,cs::css=>(id,.box true cs)::yh ids css
 |_,_=>[]
def mb (ids:List Nat):yR:=ids.map fun id=>(id,.gone)
def yU1 (nm:Nat)(rs:RS)(os:List (List RC))(ids:List Nat)(d:RL (rs.cells++os.flatten)):zR×yR:=
 let r:=la nm (rs.cells++os.flatten) d
 let cs:=uo ((rs.cells++os.flatten).map RC.lnk) ids r.1
 (rs.mk (cs.take rs.cells.length),r.2++yh ids (rL os (cs.drop rs.cells.length)))
def NY (a b:List Nat):Bool:=a.all fun x=> !b.any (Nat.beq x)
def rM (h:Hp):AX→zR→Option (zR×yR)
 |.c (.p p),.c x=>match dH h [p.isKept] [x] with
  |some ([x],u)=>some (.c x,u)
  |_=>none
 |.agg l,.agg xs=>match dH h (l.map PC.isKept) xs with
  |some (xs,u)=>some (.agg xs,u)
  |none=>none
 |_,a=>some (a,[])
def nI (h:Hp):List AX→List zR→Option (List zR×yR)
 |s::l,a::as=>match rM h s a,nI h l as with
  |some (a,u),some (as,us)=>some (a::as,u++us)
  |_,_=>none
 |_,as=>some (as,[])
def uu as (nm n:Nat)(args:List zR)(h:Hp):Option (yR×List Nat×List Nat×XD as):=
 match nI h as args with
 |none=>none
 |some (args,u)=>match gw (qG h u) as args with
  |none=>none
  |some (cs,bs)=>match ma (qG h u) (as.flatMap AX.cells) cs with
   |none=>none
   |some d=>
    let rows:=wS (as.flatMap AX.cells) cs
    let ai:=vA bs++rows
    bif rD h nm n&&Nat.ble n 100&&Nat.ble bs.length wA&&ow ai&&NY ai (DS (as.flatMap AX.cells) cs)&&NY ai (HQ bs)&&nH ((as.flatMap AX.cells).map XC.lnk) (bs.map (·.2)) cs then
     some (u,vA bs,rows,d)
    else none
def DX (u:yR)(io rows:List Nat)(rs:RS)(os:List (List RC))(ns nm:Nat)(d:RL (rs.cells++os.flatten)):zR×yR:=
 let r:=yU1 nm rs os (io++iF (nm+(rs.cells++os.flatten).length) ns) d
 (r.1,u++(mb rows++r.2))
def nJ as (rs:RS)(os:List (List RC))(ns:Nat){X}(S:XD as→Option X)(pack:X→RL (rs.cells++os.flatten))(nm:Nat)(args:List zR)(h:Hp):yI:=
 match uu as nm ((rs.cells++os.flatten).length+ns) args h with
 |none=>.stuck
 |some (u,io,rows,d)=>.call X (S d) fun r=>DX u io rows rs os ns nm (pack r)
def o6 as (rs:RS)(os:List (List RC))(ns:Nat)(rs2:RS)(os2:List (List RC))(ns2:Nat){X Y}(S:XD as→Option (X⊕Y))(pk:X→RL (rs.cells++os.flatten))(fm:Y→RL (rs2.cells++os2.flatten))(nm:Nat)(args:List zR)(h:Hp):yI:=
 match uu as nm (((rs.cells++os.flatten).length+ns)+((rs2.cells++os2.flatten).length+ns2)) args h with
 |none=>.stuck
 |some (u,io,rows,d)=>.call2 X Y (S d) (fun r=>DX u io rows rs os ns nm (pk r)) (fun r=>DX u io rows rs2 os2 ns2 nm (fm r))
def gW (M:zH)(ai:List Nat)(b:Nat):Prop:=∃id∈ai,∃C,M.κ id=some C∧b∈C.fp
structure nK (M:zH) (ai:List Nat) (Ml:zH):Prop where
 H:Ml.H=M.H
 F:Ml.F=fun b=>b<M.H.size∧¬gW M ai b
 G:Ml.G=M.G
def kH (M:zH)(ai:List Nat):Prop:=∀id∈ai,∃o,M.h id=some o∧o.owned=true
theorem gW.own {M ai}(ho:kH M ai){b}(h:gW M ai b):qK M b:=by
 obtain⟨id,af,C,hC,hb⟩:=h
 obtain⟨o,h1,h2⟩:=ho id af
 exact⟨id,o,C,h1,h2,hC,hb⟩
theorem o9 {M}(ok:Ok M){ai}(ho:kH M ai){b}(h:M.F b):b<M.H.size∧¬gW M ai b:=⟨ok.Flt b h,fun hh=>(ok.own b (hh.own ho)).1 h⟩
theorem Y7 {M M'}(ok:Ok M){ai}(ho:kH M ai){id o}(hn:id∉ai)(hh:M'.h=yA M.h id o)(hκ:M'.κ=M.κ)(hH:M'.H=M.H)(gk:Ok M'){b}(h:M'.G b):b<M.H.size∧¬gW M ai b:=by
 have hf:=gk.GF b h
 refine⟨by have:=gk.Flt b hf;simp_all,fun hd=>?_⟩
 obtain⟨jd,hj,C,hC,hb⟩:=hd
 obtain⟨q,h1,h2⟩:=ho jd hj
 refine(gk.own b ⟨jd,q,C,?_,h2,?_,hb⟩).1 hf
 ·rw[hh,yH _ _ (by grind)];exact h1
 simp_all
theorem yYa {M}(ok:Ok M){ai}(ho:kH M ai){c v t xs}(hn:∀id∈yY c,id∉ai)(hv:zS M c v)(h:ga M.h c=some ⟨t,xs⟩):
  zX M.H (fun b=>b<M.H.size∧¬gW M ai b) (.sl t) xs (fun _=>some v):=by
 unfold ga at h
 split at h
 ·rename_i sh s ys
  cases h
  cases sh with
  |true=>exact yO (fun b hb=>o9 ok ho (ok.GF b hb)) (by simp) _ _ _ _ (fun _ _=>rfl) hv
  |false=>exact yO (fun b hb=>o9 ok ho hb) (by simp) _ _ _ _ (fun _ _=>rfl) hv
 ·rename_i id r
  have lW:id∉ai:=hn id (by simp[yY])
  split at h
  ·rename_i own s ys af
   cases h
   cases own with
   |false=>
    obtain⟨C,hC,hO⟩:=ok.obj _ _ af
    exact yO (fun b hb=>o9 ok ho (ok.GF b hb)) (by simp) _ _ _ _ (by simp) (tI hC hO hv)
   |true=>
    obtain⟨M',h1,h2,h3,h4,h5⟩:=WU ok af
    obtain⟨C,hC,hO⟩:=h3.obj id _ (by rw[h2];exact yE _ _ _)
    have:=tI hC hO (hv.ext h4.ext)
    exact yO (fun b hb=>Y7 ok ho lW h2 h5 h1 h3 hb) (by grind) _ _ _ _ (by simp) this
  ·rename_i ver ys af
   cases r with
   |some p=>cases h
   |none=>
    cases h
    obtain⟨M',h1,h2,h3,h4,h5⟩:=WW ok af
    obtain⟨C,hC,hO⟩:=h3.obj id _ (by rw[h2];exact yE _ _ _)
    have:=tI (r:=none) hC hO (hv.ext h4.ext)
    exact yO (fun b hb=>Y7 ok ho lW h2 h5 h1 h3 hb) (by grind) _ _ _ _ (by simp) this
  ·cases h
 ·rename_i id i ver
  have lW:id∉ai:=hn id (by simp[yY])
  split at h
  ·rename_i v' ys af
   cases dm:Nat.beq v' ver with
   |false=>rw[dm] at h;cases h
   |true=>
    rw[dm] at h
    cases h
    have e:v'=ver:=by simpa using dm
    subst e
    obtain⟨C,hC,hO⟩:=ok.obj _ _ af
    obtain⟨C',aq,bP,_,aC⟩:=hv
    rw[hC] at aq;cases aq
    obtain⟨rb,rl,Ds,rp⟩:=aC hO.1
    by_cases hi:i<ys.length
    ·obtain⟨B,lX,v2,k1,k2,k3,k4,k5,k6⟩:=xz hO hi
     rw[Ds] at k3
     cases k3
     rw[show ys.getD i []=ys[i] by simp[List.getD,hi]]
     simp only[zX]
     cases rb with
     |none=>
      obtain⟨rfl,h0⟩:=rp
      grind
     |some R=>
      obtain⟨a,c,rfl,h1,h2,h3⟩:=rp
      refine⟨_,_,c,rfl,rfl,h1,?_⟩
      by_cases h0:ys[i].length=0
      ·simp_all
      ·have ha:a=0:=by omega
       subst ha
       have hR:R∈C.fp:=by
        simp only[zV.fp,List.mem_append,List.mem_filterMap]
        grind
       refine .inr ⟨R,0,rfl,⟨?_,fun hd=>?_⟩,fun j hj=>?_⟩
       ·have:=k6 R rfl 0 (by omega)
        unfold yF at this
        grind
       ·obtain⟨jd,hj,D,hD,hb⟩:=hd
        obtain⟨q,q1,q2⟩:=ho jd hj
        exact ok.disj jd id q _ D C R (by grind) q1 af q2 rfl hD hC hb hR
       ·simp only[zX,Ty.size,Nat.zero_add,Nat.mul_one,Nat.add_zero]
        exact by grind
    ·have:C.rows[i]? =none:=List.getElem?_eq_none (by have:=hO.2.2.2.1;omega)
     simp_all
  ·cases h
 ·cases h
def TrX (M:zH)(ai:List Nat)(c c':zT):Prop:=∀v Ml,nK M ai Ml→zS M c v→zS Ml c' v
theorem vH5 {M}(ok:Ok M){ai}(ho:kH M ai){p c d}(hn:∀id∈yY c,id∉ai)(h:oV M.h p c=some d):TrX M ai c (xW p d):=by
 intro v Ml lo hv
 unfold oV at h
 split at h
 ·rename_i k j n
  cases e:iu j k with
  |false=>simp_all
  |true=>rw[e] at h;cases h;rw[←qi e];exact hv
 ·cases h;exact hv
 ·show zX Ml.H Ml.F _ _ _
  rw[lo.H,lo.F]
  unfold ud at h
  split at h
  ·cases h
   rw[show v=.slice none 0 0 from hv]
   exact DI
  ·split at h
   ·rename_i s ys hr
    obtain⟨e,hx⟩:=gU h
    subst e
    subst hx
    exact yYa ok ho hn hv hr
   ·cases h
 ·obtain⟨e,hx⟩:=gU h
  subst e
  subst hx
  show zX Ml.H Ml.G _ _ _
  rw[lo.H,lo.G]
  exact hv
 ·cases h
  rw[show v=.slice none 0 0 from hv]
  exact DI
 ·rename_i f g
  cases e:Nat.beq f g with
  |false=>simp_all
  |true=>
   have:f=g:=by simp_all
   subst this
   obtain⟨cv,rfl,hc⟩:=hv
   refine⟨cv,rfl,?_⟩
   generalize cv.toList=l at hc
   cases l with
   |nil=>trivial
   |cons _ _=>exact hc.elim
 ·exact hv
 ·exact hv
 ·cases h
def nL (M:zH)(ai:List Nat)(κ:Nat→Option zV)(c c':zT):Prop:=∀v Ml,nK M ai Ml→Ml.κ=κ→zS M c v→zS Ml c' v
structure vBb (M:zH) (id:Nat) (o:Obj) (C:zV):Prop where
 κ:M.κ id=some C
 rep:∀Ml:zH,Ml.H=M.H→Ml.G=M.G→yM Ml o {C with ver:=0}
 own:o.owned=true
 was:∃q,M.h id=some q∧q.owned=true
theorem yN7 {M Ml}(hH:Ml.H=M.H){cj C}(h:yM M (.imap cj) C):yM Ml (.imap cj) {C with ver:=0}:=by
 obtain⟨B,es,ck,h1,h2,h3,h4,h5⟩:=h
 exact⟨B,es,ck,h1,h2,by simp_all,h4,h5⟩
theorem Y8 {j l ids c cs}(h:nH (some j::l) ids (c::cs)=true):∃id,c=.ptr id 0∧ids[j]? =some id∧nH l ids cs=true:=by
 cases c with
 |ptr id off=>
  cases off with
  |zero=>
   have h:((match ids[j]? with|some k=>Nat.beq id k|none=>false)&&nH l ids cs)=true:=h
   rw[Bool.and_eq_true] at h
   have h1:=h.1
   split at h1
   all_goals simp_all
  |succ _=>cases h
 |_=>cases h
theorem yi {M}(ok:Ok M){ai}(ho:kH M ai){κ}:∀{l cs d n ids},ma M.h l cs=some d→nH (l.map XC.lnk) ids cs=true→(∀id∈DS l cs,id∉ai)→
  (wS l cs).length=(eP l d n).2.length∧(∀(i:Nat) id o,(wS l cs)[i]? =some id→(eP l d n).2[i]? =some o→∃C,vBb M id o C)∧
   ((∀i id C,(wS l cs)[i]? =some id→M.κ id=some C→κ (n+i)=some {C with ver:=0})→(∀j id,ids[j]? =some id→κ j=M.κ id)→zK (nL M ai κ) cs (eP l d n).1)
 |[],[],_,n,_,_,_,_=>⟨rfl,nofun,fun _ _=>trivial⟩
 |x::l,c::cs,d,n,ids,h,hl,hn=>by
  unfold ma at h
  split at h
  ·rename_i y ys h1 h2
   cases h
   cases x with
   |p p=>
    have lh:∀id∈yY c,id∉ai:=fun id af=>hn id (List.mem_append_left _ af)
    obtain⟨k1,k2,k3⟩:=yi ok ho (κ:=κ) (n:=n) (ids:=ids) h2 hl (fun id af=>hn id (List.mem_append_right _ af))
    exact⟨k1,k2,fun hκ hj=>⟨fun v Ml lo _ hv=>vH5 ok ho lh h1 v Ml lo hv,k3 hκ hj⟩⟩
   |own t=>
    cases c with
    |osl id r=>
     cases r with
     |some _=>cases h1
     |none=>
      have h1:(match M.h id with|some (.arr true s xs)=>eC s t xs|_=>none)=some y:=h1
      split at h1
      ·rename_i s xs af
       obtain⟨e,hx⟩:=gU h1
       subst e
       subst hx
       obtain⟨C,hC,hO⟩:=ok.obj id _ af
       obtain⟨k1,k2,k3⟩:=yi ok ho (κ:=κ) (n:=n+1) (ids:=ids) h2 hl hn
       refine⟨by simp only[wS,eP,List.length_cons,k1],fun i jd o hi ku=>?_,fun hκ hj=>⟨fun v Ml lo hk hv=>?_,k3 (fun i jd D hi hD=>?_) hj⟩⟩
       ·cases i with
        |zero=>
         cases hi
         cases ku
         refine⟨C,hC,fun Ml e1 e2=>?_,rfl,_,af,rfl⟩
         obtain⟨q1,q2,q3,q4⟩:=hO
         refine⟨q1,q2,q3,?_⟩
         rw[e1,e2]
         exact q4
        |succ i=>exact k2 i jd o hi ku
       ·obtain⟨D,hD,hS⟩:=hv
        rw[hC] at hD;cases hD
        refine⟨{C with ver:=0},by rw[hk];exact hκ 0 id C rfl hC,?_⟩
        rw[lo.H]
        exact hS
       ·have:=hκ (i+1) jd D hi hD
        rw[←this];congr 1;omega
      ·cases h1
    |_=>cases h1
   |mat=>
    cases c with
    |osl id r=>
     cases r with
     |some _=>cases h1
     |none=>
      have h1:(match M.h id with|some (.mat _ xs)=>some xs|_=>none)=some y:=h1
      split at h1
      ·rename_i ver xs af
       cases h1
       obtain⟨C,hC,hO⟩:=ok.obj id _ af
       obtain⟨k1,k2,k3⟩:=yi ok ho (κ:=κ) (n:=n+1) (ids:=ids) h2 hl hn
       refine⟨by simp only[wS,eP,List.length_cons,k1],fun i jd o hi ku=>?_,fun hκ hj=>⟨fun v Ml lo hk hv=>?_,k3 (fun i jd D hi hD=>?_) hj⟩⟩
       ·cases i with
        |zero=>
         cases hi
         cases ku
         refine⟨C,hC,fun Ml e1 e2=>?_,rfl,_,af,rfl⟩
         obtain⟨q1,q2⟩:=hO
         refine⟨rfl,?_⟩
         rw[e1]
         exact q2
        |succ i=>exact k2 i jd o hi ku
       ·obtain⟨D,hD,hS⟩:=hv
        rw[hC] at hD;cases hD
        refine⟨{C with ver:=0},by rw[hk];exact hκ 0 id C rfl hC,?_⟩
        show wM Ml.H {C with ver:=0} 0 C.len v
        rw[lo.H]
        exact hS
       ·have:=hκ (i+1) jd D hi hD
        rw[←this];congr 1;omega
      ·cases h1
    |_=>cases h1
   |map=>
    cases c with
    |map id=>
     have h1:(match M.h id with|some (.imap cj)=>some cj|_=>none)=some y:=h1
     split at h1
     ·rename_i cj af
      cases h1
      obtain⟨C,hC,hO⟩:=ok.obj id _ af
      obtain⟨k1,k2,k3⟩:=yi ok ho (κ:=κ) (n:=n+1) (ids:=ids) h2 hl hn
      refine⟨by simp only[wS,eP,List.length_cons,k1],fun i jd o hi ku=>?_,fun hκ hj=>⟨fun v Ml lo hk hv=>?_,k3 (fun i jd D hi hD=>?_) hj⟩⟩
      ·cases i with
       |zero=>
        cases hi
        cases ku
        exact⟨C,hC,fun Ml e1 e2=>yN7 e1 hO,rfl,_,af,rfl⟩
       |succ i=>exact k2 i jd o hi ku
      ·obtain⟨D,B,hD,hB,e⟩:=hv
       rw[hC] at hD;cases hD
       exact⟨{C with ver:=0},B,by rw[hk];exact hκ 0 id C rfl hC,hB,e⟩
      ·have:=hκ (i+1) jd D hi hD
       rw[←this];congr 1;omega
     ·cases h1
    |_=>cases h1
   |link j=>
    obtain⟨id,rfl,af,fl⟩:=Y8 hl
    obtain⟨k1,k2,k3⟩:=yi ok ho (κ:=κ) (n:=n) (ids:=ids) h2 fl hn
    refine⟨k1,k2,fun hκ hj=>⟨fun v Ml lo hk hv=>?_,k3 hκ hj⟩⟩
    obtain⟨C,B,hC,hB,e⟩:=hv
    exact⟨C,B,by rw[hk,hj j id af];exact hC,hB,e⟩
  ·cases h
 |[],_::_,_,_,_,h,_,_=>by cases h
 |_::_,[],_,_,_,h,_,_=>by cases h
theorem DY {M Ml ai}(lo:nK M ai Ml):∀{cs aH vs},zK (nL M ai Ml.κ) cs aH→zK (zS M) cs vs→zK (zS Ml) aH vs
 |[],[],[],_,_=>trivial
 |_::_,_::_,_::_,h,k=>⟨h.1 _ _ lo rfl k.1,DY lo h.2 k.2⟩
def yj (ai:List Nat)(bs:List (Bool×Nat)):Prop:=∀b∈bs,(b.1=true→b.2∈ai)∧(b.1=false→b.2∉ai)
theorem vEk {M}(ok:Ok M){ai}(ho:kH M ai){io id cells}(h:yf M.h io id=some cells)(hm:(io=true→id∈ai)∧(io=false→id∉ai)):
  ∃C B,M.κ id=some C∧C.blk=some B∧∀Ml bp,nK M ai Ml→zK (nL M ai Ml.κ) cells bp→yM Ml (bif io then .box true bp else .robox bp) C:=by
 unfold yf at h
 split at h
 ·rename_i cs af
  cases h
  obtain⟨C,hC,B,vals,e,h1,h2,h3,h4,h5⟩:=ok.obj id _ af
  exact⟨C,B,hC,h1,fun Ml bp lo ht=>⟨B,vals,e,h1,h2,by rw[lo.H];exact h3,DY lo ht h4,by simp⟩⟩
 ·rename_i own cs af
  cases h
  obtain⟨C,hC,B,vals,e,h1,h2,h3,h4,h5⟩:=ok.obj id _ af
  refine⟨C,B,hC,h1,fun Ml bp lo ht=>⟨B,vals,e,h1,h2,by rw[lo.H];exact h3,DY lo ht h4,?_⟩⟩
  rw[lo.F]
  cases own with
  |false=>exact o9 ok ho (ok.GF B (h5 rfl))
  |true=>
   refine⟨by grind,fun hd=>?_⟩
   obtain⟨jd,hj,D,hD,hb⟩:=hd
   obtain⟨q,q1,q2⟩:=ho jd hj
   exact ok.disj jd id q _ D C B (by grind) q1 af q2 rfl hD hC hb (by simp[zV.fp,h1])
 ·rename_i cs af
  cases h
  obtain⟨C,hC,B,vals,e,h1,h2,h3,h4,h5⟩:=ok.obj id _ af
  refine⟨C,B,hC,h1,fun Ml bp lo ht=>⟨B,vals,e,h1,h2,by rw[lo.H];exact h3,DY lo ht h4,?_⟩⟩
  rw[lo.F]
  exact o9 ok ho h5
 ·cases h
def NZ (M:zH)(ai:List Nat)(bs:List (Bool×Nat))(mk:List zT→List Obj)(cs:List zT):Prop:=∀(Ml:zH) (aH:List zT),nK M ai Ml→zK (nL M ai Ml.κ) cs aH→
 zK (fun(b:Bool×Nat) o=>∃C B,M.κ b.2=some C∧C.blk=some B∧yM Ml o C∧o.owned=b.1) bs (mk aH)
theorem HR {M}(ok:Ok M){ai}(ho:kH M ai):∀{ls ids cs bs},fQ M.h ls ids=some (cs,bs)→yj ai bs→
  cs.length=(ls.flatMap (·.2)).length∧bs=(ls.map (·.1)).zip ids∧ids.length=ls.length∧NZ M ai bs (DT ls) cs
 |[],[],cs,bs,h,_=>by cases h;exact⟨rfl,rfl,rfl,fun _ _ _ _=>trivial⟩
 |(io,l)::ls,id::ids,cs,bs,h,hf=>by
  unfold fQ at h
  split at h
  ·rename_i cells rest uq h1 h2
   obtain⟨hl,h⟩:=vQ h
   cases h
   have hl:cells.length=l.length:=Nat.eq_of_beq_eq_true hl
   obtain⟨C,B,hC,hB,hO⟩:=vEk ok ho h1 (hf _ (List.mem_cons_self ..))
   obtain⟨k1,k2,k3,k4⟩:=HR ok ho h2 fun b hb=>hf b (by grind)
   refine⟨by simp_all,by simp_all,by simp[k3],fun Ml aH lo ht=>?_⟩
   have lf:=zK.take l.length ht
   have kD:=zK.drop l.length ht
   rw[←hl,List.drop_left] at kD
   refine⟨⟨C,B,hC,hB,?_,?_⟩,?_⟩
   ·simp_all
   ·cases io<;>rfl
   ·rw[←hl];exact k4 Ml _ lo kD
  ·cases h
theorem DZ {h}:∀{ls ids cs bs},fQ h ls ids=some (cs,bs)→bs.length=ls.length
 |[],[],_,_,e=>by cases e;rfl
 |(io,l)::ls,id::ids,cs,bs,e=>by
  unfold fQ at e
  split at e
  ·rename_i cells rest uq h1 h2
   obtain⟨_,e⟩:=vQ e
   cases e
   simp[DZ h2]
  ·cases e
theorem yVw {h}{s:AX}{a cs bs}(e:s.get h a=some (cs,bs)):bs.length=s.nb:=by
 unfold AX.get at e
 split at e
 ·cases e;rfl
 ·obtain⟨_,e⟩:=vQ e
  cases e;rfl
 ·rw[DZ e];rfl
 ·obtain⟨_,e⟩:=vQ e
  rw[DZ e];rfl
 ·split at e
  ·rw[DZ e];simp[ye,AX.nb]
  ·cases e
 ·cases e
theorem N0 {h}:∀{n id ids},DQ h n id=some ids→ids.head? =some id∧ids.length=n
 |1,_,_,e=>by cases e;simp
 |n+2,id,ids,e=>by
  unfold DQ at e
  split at e
  ·split at e
   ·split at e
    ·rename_i l hl
     cases e
     exact⟨rfl,by simp[(N0 hl).2]⟩
    ·cases e
   ·cases e
  ·cases e
theorem vKu {M}(ok:Ok M){ai}(ho:kH M ai){s:AX}{a v cs bs}(hv:zP M a v)(h:s.get M.h a=some (cs,bs))(hf:yj ai bs):
  cs.length=s.cells.length∧NZ M ai bs (fun aH=>s.boxes aH) cs∧∀Ml aH n,nK M ai Ml→zK (nL M ai Ml.κ) cs aH→(∀i b,bs[i]? =some b→Ml.κ (n+i)=M.κ b.2)→zP Ml (s.mk n aH) v:=by
 unfold AX.get at h
 split at h
 ·cases h
  refine⟨rfl,fun Ml aH lo ht=>trivial,fun Ml aH n lo ht _=>?_⟩
  match aH,ht with
  |[c'],ht=>exact ht.1 v Ml lo rfl hv
 ·rename_i l xs
  obtain⟨hl,h'⟩:=vQ h
  cases h'
  have hl:cs.length=l.length:=Nat.eq_of_beq_eq_true hl
  obtain⟨vs,rfl,hx⟩:=hv
  exact⟨by simp[AX.cells,hl],fun Ml aH lo ht=>trivial,fun Ml aH n lo ht _=>⟨vs,rfl,DY lo ht hx⟩⟩
 ·rename_i io l id
  obtain⟨k1,k2,k3,k4⟩:=HR ok ho h hf
  refine⟨by rw[k1];simp[AX.cells],k4,fun Ml aH n lo ht hκ=>?_⟩
  obtain⟨C,B,hC,hB,e⟩:=hv
  exact⟨C,B,by have:=hκ 0 (io,id) (by rw[k2];rfl);simp_all,hB,e⟩
 ·rename_i f ba g ids
  obtain⟨hg,h'⟩:=vQ h
  have NC:f=g:=Nat.eq_of_beq_eq_true hg
  subst NC
  obtain⟨k1,k2,k3,k4⟩:=HR ok ho h' hf
  refine⟨by rw[k1];rfl,k4,fun Ml aH n lo ht hκ=>?_⟩
  obtain⟨cv,rfl,hc⟩:=hv
  refine⟨cv,rfl,?_⟩
  have l2:=hc.length
  refine zK.of_get (by simp_all) fun i h1 h2=>?_
  have hi:i<ids.length:=by omega
  obtain⟨C,B,q1,q2,q3⟩:=hc.get i hi h2
  have hb:bs[i]? =some ((ba.map (·.1))[i]'(by simp at h1⊢;omega),ids[i]):=by
   grind
  grind
 ·rename_i ls id
  split at h
  ·rename_i ids iA
   obtain⟨k1,k2,k3,k4⟩:=HR ok ho h hf
   refine⟨by rw[k1];simp[AX.cells,ye,List.flatMap_map],k4,fun Ml aH n lo ht hκ=>?_⟩
   obtain⟨C,B,hC,hB,e⟩:=hv
   have hb:bs[0]? =some (true,id):=by
    obtain⟨h1,h2⟩:=N0 iA
    rw[k2]
    cases ids with
    |nil=>cases h1
    |cons i ids=>
     cases h1
     cases ls with
     |nil=>cases k3
     |cons l ls=>rfl
   exact⟨C,B,by grind,hB,e⟩
  ·cases h
 ·cases h
theorem Y9 {M}(ok:Ok M){ai}(ho:kH M ai):∀{l as vs cs bs},zK (zP M) as vs→gw M.h l as=some (cs,bs)→yj ai bs→
  cs.length=(l.flatMap AX.cells).length∧(∀n,NZ M ai bs (fun aH=>(ur l aH n).2) cs)∧
   ∀Ml aH n,nK M ai Ml→zK (nL M ai Ml.κ) cs aH→(∀i b,bs[i]? =some b→Ml.κ (n+i)=M.κ b.2)→zK (zP Ml) (ur l aH n).1 vs
 |[],[],[],cs,bs,_,h,_=>by cases h;exact⟨rfl,fun _ _ _ _ _=>trivial,fun _ _ _ _ _ _=>trivial⟩
 |s::l,a::as,v::vs,cs,bs,hv,h,hf=>by
  unfold gw at h
  split at h
  ·rename_i jm Za Zb bs2 h1 h2
   cases h
   have hf1:yj ai Za:=fun b hb=>hf b (by grind)
   have hf2:yj ai bs2:=fun b hb=>hf b (by grind)
   obtain⟨k1,k2,k3⟩:=vKu ok ho hv.1 h1 hf1
   obtain⟨k4,k5,k6⟩:=Y9 ok ho hv.2 h2 hf2
   have cut:∀{κ:Nat→Option zV} {aH:List zT},zK (nL M ai κ) (jm++Zb) aH→zK (nL M ai κ) jm (aH.take s.cells.length)∧zK (nL M ai κ) Zb (aH.drop s.cells.length):=by
    intro κ aH ht
    have lf:=zK.take s.cells.length ht
    have kD:=zK.drop s.cells.length ht
    simp_all
   refine⟨by simp_all,fun n Ml aH lo ht=>?_,fun Ml aH n lo ht hκ=>?_⟩
   ·obtain⟨lf,kD⟩:=cut ht
    exact(k2 Ml _ lo lf).append (k5 _ Ml _ lo kD)
   ·obtain⟨lf,kD⟩:=cut ht
    have hlen:=(k2 Ml _ lo lf).length
    refine⟨k3 Ml _ n lo lf fun i b hb=>hκ i b ?_,k6 Ml _ _ lo kD fun i b hb=>?_⟩
    ·grind
    ·have:=hκ (Za.length+i) b (by grind)
     grind
  ·cases h
def κX (M : zH) (bs : List (Bool × Nat)) (rows : List Nat) : Nat → Option zV := fun n => bif Nat.ble wA n then (match rows[n-wA]? with
  |some id=>(M.κ id).map fun C=>{C with ver:=0}
  |none=>none)
 else (match bs[n]? with
  |some b=>M.κ b.2
  |none=>none)
theorem uv:∀{bs} {i id:Nat},bs[i]? =some (true,id)→id∈vA bs
 |(true,a)::bs,0,id,h=>by cases h;exact List.mem_cons_self ..
 |(true,a)::bs,i+1,id,h=>List.mem_cons_of_mem _ (uv (bs:=bs) (i:=i) h)
 |(false,a)::bs,i+1,id,h=>uv (bs:=bs) (i:=i) h
theorem N1:∀{bs} {i j id:Nat},(vA bs).Nodup→bs[i]? =some (true,id)→bs[j]? =some (true,id)→i=j
 |(true,a)::bs,0,0,id,_,_,_=>rfl
 |(true,a)::bs,0,j+1,id,hn,h,k=>by
  cases h
  exact absurd (uv (bs:=bs) (i:=j) k) (List.nodup_cons.1 hn).1
 |(true,a)::bs,i+1,0,id,hn,h,k=>by
  cases k
  exact absurd (uv (bs:=bs) (i:=i) h) (List.nodup_cons.1 hn).1
 |(true,a)::bs,i+1,j+1,id,hn,h,k=>by rw[N1 (bs:=bs) (List.nodup_cons.1 hn).2 h k]
 |(false,a)::bs,i+1,j+1,id,hn,h,k=>by rw[N1 (bs:=bs) hn h k]
theorem yQ3 {M}(ok:Ok M){l as vs cs bs}{d:XD l}(hv:zK (zP M) as vs)(hg:gw M.h l as=some (cs,bs))(hd:ma M.h (l.flatMap AX.cells) cs=some d)
  (cC:(vA bs++wS (l.flatMap AX.cells) cs).Nodup) (nz:∀id∈DS (l.flatMap AX.cells) cs,id∉vA bs++wS (l.flatMap AX.cells) cs) (N2:∀id∈HQ bs,id∉vA bs++wS (l.flatMap AX.cells) cs) (hlen:bs.length≤wA) (pb:nH ((l.flatMap AX.cells).map XC.lnk) (bs.map (·.2)) cs=true) (ho:kH M (vA bs++wS (l.flatMap AX.cells) cs)):
  ∃Ml:zH,nK M (vA bs++wS (l.flatMap AX.cells) cs) Ml∧Ml.h=(gx l d).2∧Ok Ml∧(∀b,qK Ml b→gW M (vA bs++wS (l.flatMap AX.cells) cs) b)∧zK (zP Ml) (gx l d).1 vs∧Ml.κ=κX M bs (wS (l.flatMap AX.cells) cs):=by
 generalize eQ:vA bs++wS (l.flatMap AX.cells) cs=ai at*
 have rN:yj ai bs:=by
  intro b hb
  obtain⟨i,hi,rfl⟩:=List.getElem_of_mem hb
  have CW:bs[i]? =some bs[i]:=List.getElem?_eq_getElem hi
  refine⟨fun e=>?_,fun e=>?_⟩
  ·rw[←eQ]
   have:bs[i]? =some (true,bs[i].2):=by rw[CW,←e]
   exact List.mem_append_left _ (uv this)
  ·apply N2
   clear hg hd cC nz N2 hlen ho eQ hv pb
   induction bs generalizing i with
   |nil=>exact absurd hi (Nat.not_lt_zero i)
   |cons c bs ih=>
    obtain⟨io,a⟩:=c
    cases i with
    |zero=>cases io<;>first|exact List.mem_cons_self .. |cases e
    |succ i=>cases io<;>first|exact List.mem_cons_of_mem _ (by grind)|exact ih i (by simpa using hi) (List.getElem_mem _) (List.getElem?_eq_getElem _) e
 let κ:=κX M bs (wS (l.flatMap AX.cells) cs)
 obtain⟨k1,k2,k3⟩:=yi ok ho (κ:=κ) (n:=wA) (ids:=bs.map (·.2)) hd pb nz
 have ht : zK (nL M ai κ) cs (eP (l.flatMap AX.cells) d wA).1 := k3 (fun i id C hi hC=>by
  show κX M bs _ (wA+i)=_
  unfold κX
  rw[Nat.ble_eq_true_of_le (Nat.le_add_right _ _),show wA+i-wA=i by omega,hi]
  simp[hC]) fun j id hj=>by
  rw[List.getElem?_map] at hj
  obtain⟨b,hb,rfl⟩:=Option.map_eq_some_iff.1 hj
  have hi:j<bs.length:=by grind
  show κX M bs _ j=_
  unfold κX
  have:Nat.ble wA j=false:=by
   cases h:Nat.ble wA j with
   |false=>rfl
   |true=>have:=Nat.le_of_ble_eq_true h;omega
  rw[this,hb]
  rfl
 obtain⟨a1,a2,a3⟩:=Y9 ok ho hv hg rN
 let Ml:zH:={κ:=κ,F:=fun b=>b<M.H.size∧¬gW M ai b,G:=M.G,h:=(gx l d).2,H:=M.H}
 have lo:nK M ai Ml:=⟨rfl,rfl,rfl⟩
 have uw:=a2 0 Ml _ lo ht
 have hκbox:∀i b,bs[i]? =some b→Ml.κ (0+i)=M.κ b.2:=fun i b hb=>by
  have hi:i<bs.length:=by grind
  show κX M bs _ (0+i)=_
  unfold κX
  have:Nat.ble wA (0+i)=false:=by
   cases h:Nat.ble wA (0+i) with
   |false=>rfl
   |true=>have:=Nat.le_of_ble_eq_true h;omega
  rw[this,Nat.zero_add,hb]
  rfl
 have iH:∀id o,Ml.h id=some o→∃jd C,Ml.κ id=some C∧yM Ml o C∧(o.owned=true→jd∈ai∧∃D,M.κ jd=some D∧D.fp=C.fp)∧
   ((Nat.ble wA id=true∧(wS (l.flatMap AX.cells) cs)[id-wA]? =some jd)∨(Nat.ble wA id=false∧∃io,bs[id]? =some (io,jd)∧o.owned=io)):=by
  intro id o h
  have h:DU (ur l (eP (l.flatMap AX.cells) d wA).1 0).2 (eP (l.flatMap AX.cells) d wA).2 id=some o:=h
  unfold DU at h
  cases hb:Nat.ble wA id with
  |true=>
   rw[hb] at h
   have h:(eP (l.flatMap AX.cells) d wA).2[id-wA]? =some o:=h
   have hi:=(List.getElem?_eq_some_iff.1 h).1
   have hj:(wS (l.flatMap AX.cells) cs)[id-wA]? =some ((wS (l.flatMap AX.cells) cs)[id-wA]'(by omega)):=by simp
   obtain⟨C,hR⟩:=k2 _ _ _ hj h
   refine⟨_,{C with ver:=0},?_,hR.rep Ml rfl rfl,fun _=>⟨?_,C,hR.κ,rfl⟩,.inl ⟨rfl,hj⟩⟩
   ·show κX M bs _ id=_
    unfold κX
    rw[hb,hj]
    simp[hR.κ]
   ·rw[←eQ]
    exact by simp
  |false=>
   rw[hb] at h
   have hi:=(List.getElem?_eq_some_iff.1 h).1
   have N3:id<bs.length:=by rw[uw.length];exact hi
   have hq:=uw.get id N3 hi
   rw[List.getElem?_eq_getElem hi] at h
   cases h
   obtain⟨C,B,q1,q2,q3,q4⟩:=hq
   have CW:bs[id]? =some bs[id]:=List.getElem?_eq_getElem N3
   refine⟨bs[id].2,C,?_,q3,fun e=>⟨(rN _ (List.getElem_mem N3)).1 (by rw[←q4];exact e),C,q1,rfl⟩,by grind⟩
   have:=hκbox id _ CW
   rw[Nat.zero_add] at this
   rw[this];exact q1
 have aA:∀b,qK Ml b→gW M ai b:=fun b ⟨id,o,C,h1,h2,h3,h4⟩=>by
  obtain⟨jd,C',q1,_,q3,_⟩:=iH id o h1
  rw[h3] at q1
  cases q1
  obtain⟨p1,D,p2,p3⟩:=q3 h2
  exact⟨jd,p1,D,p2,by rw[p3];exact h4⟩
 refine⟨Ml,lo,rfl,⟨fun id o h=>?_,fun id h=>?_,fun i j oi oj Ci Cj b kt h1 h2 h3 h4 h5 h6 h7 h8=>?_,fun b hb=>⟨fun hf=>hf.2 (aA b hb),(ok.own b ((aA b hb).own ho)).2⟩,fun b hb=>o9 ok ho (ok.GF b hb),fun b hb=>hb.1⟩,aA,a3 Ml _ 0 lo ht hκbox,rfl⟩
 ·obtain⟨jd,C,q1,q2,_⟩:=iH id o h
  exact⟨C,q1,q2⟩
 ·have h:DU (ur l (eP (l.flatMap AX.cells) d wA).1 0).2 (eP (l.flatMap AX.cells) d wA).2 id=none:=h
  unfold DU at h
  show κX M bs _ id=none
  unfold κX
  cases hb:Nat.ble wA id with
  |true=>
   rw[hb] at h
   have h:(eP (l.flatMap AX.cells) d wA).2[id-wA]? =none:=h
   rw[List.getElem?_eq_none_iff,←k1] at h
   rw[List.getElem?_eq_none h]
   rfl
  |false=>
   rw[hb] at h
   have h:(ur l (eP (l.flatMap AX.cells) d wA).1 0).2[id]? =none:=h
   rw[List.getElem?_eq_none_iff,←uw.length] at h
   rw[List.getElem?_eq_none h]
   rfl
 ·obtain⟨ji,Ci',p1,_,p3,p4⟩:=iH i oi h1
  obtain⟨jj,Cj',q1,_,q3,q4⟩:=iH j oj h2
  rw[h5] at p1;cases p1
  rw[h6] at q1;cases q1
  obtain⟨p5,Di,p6,p7⟩:=p3 h3
  obtain⟨q5,Dj,q6,q7⟩:=q3 h4
  obtain⟨oi',r1,r2⟩:=ho ji p5
  obtain⟨oj',r3,r4⟩:=ho jj q5
  refine ok.disj ji jj oi' oj' Di Dj b (fun e=>?_) r1 r3 r2 r4 p6 q6 (by rw[p7];exact h7) (by rw[q7];exact h8)
  subst e
  rw[←eQ] at cC
  obtain⟨n1,n2,n3⟩:=List.nodup_append.1 cC
  rcases p4 with⟨p8,p9⟩|⟨p8,io,p9,pc⟩<;>rcases q4 with⟨q8,q9⟩|⟨q8,io',q9,HS⟩
  ·have:=(List.getElem?_inj (by grind) n2).1 (p9.trans q9.symm)
   have e1:=Nat.le_of_ble_eq_true p8
   have e2:=Nat.le_of_ble_eq_true q8
   exact kt (by omega)
  ·rw[h4] at HS
   subst HS
   exact n3 _ (uv q9) _ (List.mem_of_getElem? p9) rfl
  ·rw[h3] at pc
   subst pc
   exact n3 _ (uv p9) _ (List.mem_of_getElem? q9) rfl
  ·rw[h3] at pc
   rw[h4] at HS
   subst pc
   subst HS
   exact kt (N1 n1 p9 q9)
theorem rO {n}:∀{ids h},qG h (mb ids) n=if n∈ids then some .gone else h n
 |[],_=>by rfl
 |id::ids,h=>by
  show qG (yA h id .gone) (mb ids) n=_
  rw[rO (ids:=ids)]
  by_cases e:n=id
  ·subst e;simp[yE]
  ·rw[yH _ _ e];simp[e]
def zH.overX (M L:zH)(ai:List Nat):zH:={κ:=M.κ,F:=fun b=>M.F b∨L.G b,G:=L.G,h:=qG M.h (mb ai),H:=L.H}
theorem zH.overX_ok {M Ml L ai}(ok:Ok M)(fk:Ok L)(lo:nK M ai Ml)(ho:kH M ai)(hand:∀b,qK Ml b→gW M ai b)(g:fM Ml L):
  Ok (M.overX L ai)∧yN M (M.overX L ai)∧(∀b,qK (M.overX L ai) b→qK M b∧¬gW M ai b):=by
 have cd:∀b,b<M.H.size→¬gW M ai b→L.H[b]? =M.H[b]? :=fun b hb hn=>by rw[g.same b (by rw[lo.F];simp_all),lo.H]
 have cL:M.H.size≤L.H.size:=by have:=g.size;rw[lo.H] at this;exact this
 have hG:∀b,L.G b→b<M.H.size→M.G b∨gW M ai b:=fun b hb hs=>by
  rcases g.Gb b hb (by rw[lo.H];exact hs) with h|h
  ·rw[lo.G] at h;simp_all
  simp_all
 have Zc:∀b,M.F b→L.H[b]? =M.H[b]? :=fun b h=>cd b (o9 ok ho h).1 (o9 ok ho h).2
 have x:yD M (M.overX L ai):=⟨fun id C h=>⟨C,h,C.le_refl⟩,fun b h=>.inl h,fun b h=>g.G b (by rw[lo.G];exact h),fun b h=>Zc b h,fun b h=>Zc b (ok.GF b h),fun b h=>by
  have:=g.bsz b (by rw[lo.H];exact h)
  rw[lo.H] at this
  exact this⟩
 have iH:∀id o,(M.overX L ai).h id=some o→o.owned=true→id∉ai∧M.h id=some o:=fun id o h fj=>by
  have h:qG M.h (mb ai) id=some o:=h
  rw[rO] at h
  by_cases hm:id∈ai
  ·rw[if_pos hm] at h;cases h;cases fj
  simp_all
 have N4:∀id o C,id∉ai→M.h id=some o→o.owned=true→M.κ id=some C→∀b∈C.fp,¬gW M ai b:=fun id o C hm h fj hC b hb ⟨jd,hj,D,hD,NH⟩=>by
  obtain⟨q,q1,q2⟩:=ho jd hj
  exact ok.disj id jd o q C D b (by grind) h q1 fj q2 hC hD hb NH
 have aA:∀b,qK (M.overX L ai) b→qK M b∧¬gW M ai b:=fun b ⟨id,o,C,h1,h2,h3,h4⟩=>by
  obtain⟨k1,k2⟩:=iH id o h1 h2
  exact⟨⟨id,o,C,k2,h2,h3,h4⟩,N4 id o C k1 k2 h2 h3 b h4⟩
 refine⟨⟨fun id o h=>?_,fun id h=>?_,fun i j oi oj Ci Cj b kt h1 h2 h3 h4 h5 h6 h7 h8=>?_,fun b h=>⟨fun hf=>?_,?_⟩,fun b h=>.inr h,fun b h=>?_⟩,⟨x,cL,fun b hb hn=>cd b hb fun hh=>hn (hh.own ho),by grind,fun b h hs=>?_,fun b h hs=>?_⟩,aA⟩
 ·have h:qG M.h (mb ai) id=some o:=h
  rw[rO] at h
  by_cases hm:id∈ai
  ·rw[if_pos hm] at h
   cases h
   obtain⟨q,q1,q2⟩:=ho id hm
   obtain⟨C,hC,_⟩:=ok.obj id q q1
   exact⟨C,hC,trivial⟩
  ·rw[if_neg hm] at h
   obtain⟨C,hC,hO⟩:=ok.obj id o h
   exact⟨C,hC,hO.ext x fun fj b hb=>cd b (ok.own b ⟨id,o,C,h,fj,hC,hb⟩).2 (by grind)⟩
 ·have h:qG M.h (mb ai) id=none:=h
  rw[rO] at h
  by_cases hm:id∈ai
  ·simp_all
  ·rw[if_neg hm] at h;exact ok.non id h
 ·exact ok.disj i j oi oj Ci Cj b kt (iH i oi h1 h3).2 (by grind) h3 h4 h5 h6 h7 h8
 ·obtain⟨k1,k2⟩:=aA b h
  have:=ok.own b k1
  rcases hf with hf|hf
  ·simp_all
  ·rcases hG b hf this.2 with h|h
   ·exact this.1 (ok.GF b h)
   simp_all
 ·have h1:=(ok.own b (aA b h).1).2
  show b<L.H.size
  omega
 ·show b<L.H.size
  rcases h with h|h
  ·have:=ok.Flt b h;omega
  ·exact fk.Flt b (fk.GF b h)
 ·rcases hG b h hs with h|h
  ·simp_all
  ·exact .inr (h.own ho)
 ·rcases h with h|h
  ·simp_all
  ·rcases hG b h hs with h|h
   ·exact .inl (ok.GF b h)
   ·exact .inr (h.own ho)
def zV.bare (C:zV):zV:={C with ver:=C.ver+1,rows:=[]}
def zH.revive (M:zH)(id:Nat)(C:zV)(cs:List zT):zH:={M with κ:=κset M.κ id C.bare,h:=yA M.h id (.box true cs)}
theorem zH.revive_ok {M}(ok:Ok M){id C B vals e cs}(hC:M.κ id=some C)(hB:C.blk=some B)(hH:M.H[B]? =some (.cells vals e (0,0)))(hc:zK (zS M) cs vals.toList)
  (h1:¬qK M B) (h2:¬M.F B):Ok (M.revive id C cs)∧yD M (M.revive id C cs)∧(∀b,qK (M.revive id C cs) b→qK M b∨b=B):=by
 have hκ:(M.revive id C cs).κ id=some C.bare:=κset_same _ _ _
 have x:yD M (M.revive id C cs):=⟨fun jd D h=>by
  by_cases e':jd=id
  ·subst e'
   rw[hC] at h;cases h
   exact⟨_,hκ,rfl,rfl,rfl,Nat.le_succ _,fun h=>absurd h (by simp[zV.bare])⟩
  ·exact⟨D,by show κset M.κ id _ jd=_;rw[κset_ne _ _ e'];exact h,D.le_refl⟩,fun _ h=>h,fun _ h=>h,fun _ _=>rfl,fun _ _=>rfl,fun _ _=>rfl⟩
 have nh:C.bare.fp=[B]:=by simp[zV.fp,zV.bare,hB]
 have tS:(M.revive id C cs).h id=some (.box true cs):=yE _ _ _
 refine⟨Ok.build ok x (fun jd=>jd=id) (fun jd h=>yH _ _ h) (fun jd h=>κset_ne _ _ h) (fun _ _ _ _ _ _ _ _ _=>rfl) (fun jd o' D k1 k2 k3 k4 b bo=>(ok.own b ⟨jd,o',D,k2,k3,k4,bo⟩).1) (Nat.le_refl _)
  (fun jd o' e' h=>?_) (fun jd e' h=>?_) (fun jd o' D b e' k1 k2 k3 k4=>?_) ok.GF ok.Flt,x,fun b bo=>?_⟩
 ·subst e'
  rw[tS] at h
  cases h
  exact⟨_,hκ,B,vals,e,hB,rfl,hH,hc.mono fun _ _ h=>h.ext x,by simp⟩
 ·simp_all
 ·subst e'
  rw[hκ] at k3
  cases k3
  rw[nh,List.mem_singleton] at k4
  subst k4
  refine⟨fun j oj Cj hj q1 q2 q3 q4=>h1 ⟨j,oj,Cj,?_,q2,?_,q4⟩,h2,(Array.getElem?_eq_some_iff.1 hH).1⟩
  ·rw[←q1];exact(yH _ _ hj).symm
  ·rw[←q3];exact(κset_ne _ _ hj).symm
 ·obtain⟨jd,o',D,k1,k2,k3,k4⟩:=bo
  by_cases e':jd=id
  ·simp_all
  ·exact .inl ⟨jd,o',D,by rw[←k1];exact(yH _ _ e').symm,k2,by rw[←k3];exact(κset_ne _ _ e').symm,k4⟩
structure Zd (M:zH) (id:Nat) (cs:List zT) (B:Nat):Prop where
 at':∃C,M.κ id=some C∧C.blk=some B
 rep:∃vals e,M.H[B]? =some (.cells vals e (0,0))∧zK (zS M) cs vals.toList
 own:¬qK M B
 F:¬M.F B
def lj (R:Nat→List zT→Nat→Prop):List Nat→List (List zT)→List Nat→Prop
 |[],[],[]=>True
 |a::l,b::m,c::n=>R a b c∧lj R l m n
 |_,_,_=>False
theorem lj.mono {R S}:∀{l m n},(∀a b c,c∈n→R a b c→S a b c)→lj R l m n→lj S l m n
 |[],[],[],_,_=>trivial
 |_::_,_::_,_::_,h,k=>⟨h _ _ _ (by simp) k.1,lj.mono (by grind) k.2⟩
theorem Ze:∀{ids css Bs M},Ok M→lj (Zd M) ids css Bs→Bs.Nodup→
  ∃M':zH,M'.H=M.H∧M'.G=M.G∧M'.F=M.F∧M'.h=qG M.h (yh ids css)∧Ok M'∧yD M M'∧(∀b,qK M' b→qK M b∨b∈Bs)
 |[],[],[],M,ok,_,_=>⟨M,rfl,rfl,rfl,rfl,ok,.refl M,by simp⟩
 |id::ids,cs::css,B::Bs,M,ok,h,hn=>by
  obtain⟨C,hC,hB⟩:=h.1.at'
  obtain⟨vals,e,hH,hc⟩:=h.1.rep
  obtain⟨k1,k2,k3⟩:=zH.revive_ok ok hC hB hH hc h.1.own h.1.F
  obtain⟨n1,n2⟩:=List.nodup_cons.1 hn
  obtain ⟨M', a1, a2, a3, a4, a5, a6, a7⟩ := Ze (M := M.revive id C cs) k1 (lj.mono (fun a b c hcB hb=>by
   refine⟨?_,?_,fun ho=>?_,hb.F⟩
   ·obtain⟨D,q1,q2⟩:=hb.at'
    obtain⟨D',q3,le⟩:=k2.κ _ _ q1
    exact⟨D',q3,le.blk.trans q2⟩
   ·obtain⟨vals,e,q1,q2⟩:=hb.rep
    exact⟨vals,e,q1,q2.mono fun _ _ h=>h.ext k2⟩
   ·rcases k3 _ ho with h|h
    ·exact hb.own h
    simp_all) h.2) n2
  exact⟨M',a1,a2,a3,a4,a5,yD.trans (M:=M) (M':=M.revive id C cs) (Nat.le_refl _) k2 a6,by grind⟩
theorem Zf:∀{ids css h h'},ids.length=css.length→(∀n,n∉ids→h n=h' n)→qG h (yh ids css)=qG h' (yh ids css)
 |[],[],h,h',_,e=>funext fun n=>e n (by simp)
 |id::ids,cs::css,h,h',hl,e=>Zf (ids:=ids) (css:=css) (by simp_all) fun n hn=>by
   by_cases k:n=id
   ·subst k;rw[yE,yE]
   ·rw[yH _ _ k,yH _ _ k];simp_all
theorem yWn {h0 s a a' v u M}(ok:Ok M)(hf:wJ h0 M.h)(hv:zP M a v)(h:rM h0 s a=some (a',u)):
  ∃L:zH,L.H=M.H∧L.h=qG M.h u∧Ok L∧yN M L∧zP L a' v∧wJ h0 L.h:=by
 unfold rM at h
 split at h
 ·rename_i p x
  split at h
  ·rename_i y u1 e
   cases h
   obtain⟨L,h1,h2,h3,h4,h5,h6⟩:=rG (cs:=[x]) (vs:=[v]) ok hf ⟨hv,trivial⟩ e
   exact⟨L,h1,h2,h3,h4,h5.1,h6⟩
  ·cases h
 ·split at h
  ·rename_i ys u1 e
   cases h
   obtain⟨vs,rfl,hx⟩:=hv
   obtain⟨L,h1,h2,h3,h4,h5,h6⟩:=rG ok hf hx e
   exact⟨L,h1,h2,h3,h4,⟨vs,rfl,h5⟩,h6⟩
  ·cases h
 ·cases h
  exact⟨M,rfl,rfl,ok,.refl M,hv,hf⟩
theorem Zg {h0}:∀{l as dd vs u M},Ok M→wJ h0 M.h→zK (zP M) as vs→nI h0 l as=some (dd,u)→
  ∃L:zH,L.H=M.H∧L.h=qG M.h u∧Ok L∧yN M L∧zK (zP L) dd vs∧wJ h0 L.h
 |s::l,a::as,dd,v::vs,u,M,ok,hf,hv,h=>by
  unfold nI at h
  split at h
  ·rename_i a1 u1 NK nj e1 e2
   cases h
   obtain⟨M1,h1,h2,h3,h4,h5,h6⟩:=yWn ok hf hv.1 e1
   obtain⟨M2,k1,k2,k3,k4,k5,k6⟩:=Zg h3 h6 (rH.ext h4.ext hv.2) e2
   exact⟨M2,k1.trans h1,by rw[k2,h2,gT],k3,h4.trans k4,⟨h5.ext k4.ext,k5⟩,k6⟩
  ·cases h
 |[],as,dd,vs,u,M,ok,hf,hv,h=>by
  cases as<;>cases h<;>exact⟨M,rfl,rfl,ok,.refl M,hv,hf⟩
 |s::l,[],dd,vs,u,M,ok,hf,hv,h=>by cases h;exact⟨M,rfl,rfl,ok,.refl M,hv,hf⟩
def iI (M L:zH)(id jd:Nat):Prop:=∃C D B,M.κ id=some C∧C.blk=some B∧L.κ jd=some D∧D.blk=some B
theorem N5 {M L}:∀{ls is js out} {us:List Value} {cs bs},fQ M.h ls is=some (cs,bs)→DV ls js=some out→
  zK (fun id u=>∃C B,M.κ id=some C∧C.blk=some B∧u=.pointer (some ⟨B,0,none⟩)) is us→zK (fun id u=>∃C B,L.κ id=some C∧C.blk=some B∧u=.pointer (some ⟨B,0,none⟩)) js us→zK (iI M L) (vA bs) out
 |[],[],[],out,us,cs,bs,h,k,_,_=>by cases h;cases k;exact trivial
 |(io,l)::ls,i::is,j::js,out,u::us,cs,bs,h,k,p,q=>by
  unfold fQ at h
  split at h
  ·rename_i cells rest uq h1 h2
   obtain⟨_,h⟩:=vQ h
   cases h
   unfold DV at k
   split at k
   ·rename_i o ho
    cases k
    have ih:=N5 h2 ho p.2 q.2
    cases io with
    |false=>exact ih
    |true=>
     obtain⟨C,B,k1,k2,k3⟩:=p.1
     obtain⟨D,B',k4,k5,k6⟩:=q.1
     rw[k3] at k6
     cases k6
     exact⟨⟨C,D,B,k1,k2,k4,k5⟩,ih⟩
   ·cases k
  ·cases h
theorem Zh {M L}:∀{bs n},(∀q∈bs,q.1=true)→(∀i q,bs[i]? =some q→iI M L q.2 (n+i))→zK (iI M L) (vA bs) (iF n bs.length)
 |[],n,_,_=>trivial
 |(true,id)::bs,n,h,k=>⟨k 0 _ rfl,Zh (by grind) fun i q hq=>by
   have:=k (i+1) q hq
   grind⟩
 |(false,id)::bs,n,h,k=>by simp_all
theorem Zi {h}:∀{ls ids cs bs},fQ h ls ids=some (cs,bs)→bs.map (·.1)=ls.map (·.1)
 |[],[],_,_,e=>by cases e;rfl
 |(io,l)::ls,id::ids,cs,bs,e=>by
  unfold fQ at e
  split at e
  ·rename_i cells rest uq h1 h2
   obtain⟨_,e⟩:=vQ e
   cases e
   simp[Zi h2]
  ·cases e
theorem yXk {M L}{s:AX}{a b v cs bs out}(h:s.get M.h a=some (cs,bs)){n}(k:s.io n b=some out)(p:zP M a v)(q:s.looks=true→zP L b v)(hk:s.isChn=true→∀i q,bs[i]? =some q→iI M L q.2 (n+i)):zK (iI M L) (vA bs) out:=by
 unfold AX.get at h
 split at h
 ·cases h;cases k;exact trivial
 ·obtain⟨_,h'⟩:=vQ h
  cases h';cases k;exact trivial
 ·unfold AX.io at k
  split at k
  ·rename_i e;cases e
  ·rename_i e;cases e
  ·rename_i io' l' jd e
   cases e
   exact N5 (us:=[v]) h k ⟨p,trivial⟩ ⟨q rfl,trivial⟩
  all_goals simp_all
 ·obtain⟨hg,h'⟩:=vQ h
  unfold AX.io at k
  split at k
  ·simp_all
  ·simp_all
  ·simp_all
  ·rename_i f' Zj g' js e
   cases e
   obtain⟨cv,rfl,hc⟩:=p
   obtain⟨cv',e',eJ⟩:=q rfl
   cases e'
   exact N5 h' k hc eJ
  all_goals simp_all
 ·rename_i ls id
  split at h
  ·cases k
   have h1:=DZ h
   have h2:ls.length=bs.length:=by rw[h1];simp[ye]
   rw[h2]
   exact Zh (fun q hq=>by
    have:q.1∈bs.map (·.1):=by grind
    rw[Zi h] at this
    exact(by simpa[ye] using this:_∧_).2) (hk rfl)
  ·cases h
 ·cases h
theorem Zk {M L}:∀{l as vs t n cs bs out m},gw M.h l as=some (cs,bs)→HO l t n m=some out→zK (zP M) as vs→(∀i h s,l[i]? =some s→s.looks=true→zP L (t (n+i)) vs[i])→(l.any AX.isChn=true→∀i q,bs[i]? =some q→iI M L q.2 (m+i))→
  zK (iI M L) (vA bs) out
 |[],[],[],t,n,cs,bs,out,m,h,k,_,_,_=>by cases h;cases k;exact trivial
 |s::l,a::as,v::vs,t,n,cs,bs,out,m,h,k,p,q,hk=>by
  unfold gw at h
  split at h
  ·rename_i c1 b1 c2 b2 h1 h2
   cases h
   unfold HO at k
   split at k
   ·rename_i o1 o2 k1 k2
    cases k
    have e:∀b1 b2:List (Bool×Nat),vA (b1++b2)=vA b1++vA b2:=fun b1 b2=>by
     induction b1 with
     |nil=>rfl
     |cons x b1 ih=>obtain⟨io,y⟩:=x;cases io<;>simp[vA,ih]
    rw[e]
    have hnb:=yVw h1
    refine(yXk h1 k1 p.1 (q 0 (by simp) s rfl) (by grind)).append (Zk h2 k2 p.2 (fun i hi s' hs hl=>?_) fun hc i q hq=>?_)
    rotate_left
    ·have:=hk (by simp_all) (b1.length+i) q (by grind)
     grind
    have:=q (i+1) (by simp_all) s' (by simp_all) hl
    grind
   ·cases k
  ·cases h
 |[],_::_,_,_,_,_,_,_,_,h,_,_,_,_=>by cases h
theorem Zl {L}(fk:Ok L):∀{os ids bs},yg L.h os ids=some bs→bs.length=os.flatten.length∧ids.length=os.length∧
  ∃us:List Value,zK (zS L) bs us∧∀{M cs},M.H=L.H→zK (zS M) cs us→lj (fun id cs B=>(∃cells,L.h id=some (.box true cells))∧(∃C,L.κ id=some C∧C.blk=some B∧C.rows=[])∧∃vals e,M.H[B]? =some (.cells vals e (0,0))∧zK (zS M) cs vals.toList) ids (rL os cs) (ids.map fun id=>((L.κ id).bind zV.blk).getD 0)
 |[],[],bs,h=>by cases h;exact⟨rfl,rfl,[],trivial,fun _ _=>trivial⟩
 |o::os,n::ns,bs,h=>by
  unfold yg at h
  split at h
  ·rename_i cells rest h1 h2
   obtain⟨hl,h⟩:=vQ h
   cases h
   obtain⟨C,hC,B,vals,e,q1,q2,q3,q4,_⟩:=fk.obj n _ h1
   obtain⟨k1,k2,us,k3,k4⟩:=Zl fk h2
   refine⟨by simp_all,by simp[k2],vals.toList++us,q4.append k3,fun{M cs} hH hc=>⟨⟨by grind,⟨C,hC,?_,q2⟩,vals,e,?_,?_⟩,?_⟩⟩
   ·simp_all
   ·simp_all
   ·have h1:=zK.take o.length hc
    have NI:=q4.length
    simp_all
   ·have h1:=zK.drop o.length hc
    have NI:=q4.length
    simp_all
  ·cases h
theorem yQq {h0 r c d}(h:l7 h0 r c=some d):∀id∈vO [r] [c],∀own cells,h0 id≠some (.box own cells):=by
  unfold l7 at h
  split at h
  all_goals (try (intro id af;simp[vO] at af;done))
  all_goals first
    |(done)
    | (intro xQ af own cells hb
       have:=List.mem_singleton.1 af
       simp_all)
    |(cases h)
theorem Zm {L}:∀{l cs d},gv L l cs=some d→∀id∈vO l cs,∀own cells,L id≠some (.box own cells)
 |r::l,c::cs,d,h,id,af=>by
  unfold gv at h
  split at h
  ·rename_i x xs e1 e2
   rw[HJ] at af
   rcases List.mem_append.1 af with af|af
   ·exact yQq e1 id af
   ·exact Zm e2 id af
  ·cases h
theorem Zn:∀a b,vA (a++b)=vA a++vA b
 |[],_=>rfl
 |(true,_)::a,b
 |(false,_)::a,b=>by simp[vA,Zn a b]
theorem D4 {h}:∀{ls is cs bs},fQ h ls is=some (cs,bs)→∀id∈vA bs,∃o,h id=some o∧o.owned=true
 |[],[],_,_,e=>by cases e;nofun
 |(io,l)::ls,i::is,cs,bs,e=>by
  unfold fQ at e
  split at e
  ·rename_i cells rest uq h1 h2
   obtain⟨_,e⟩:=vQ e
   cases e
   intro id af
   cases io with
   |false=>exact D4 h2 id af
   |true=>
    rcases List.mem_cons.1 af with rfl|af
    ·unfold yf at h1
     split at h1
     ·rename_i c hc
      exact⟨_,hc,rfl⟩
     all_goals simp_all
    ·exact D4 h2 id af
  ·cases e
theorem yQw {h}{s:AX}{a cs bs}(e:s.get h a=some (cs,bs)):∀id∈vA bs,∃o,h id=some o∧o.owned=true:=by
 unfold AX.get at e
 split at e
 ·cases e;nofun
 ·obtain⟨_,e⟩:=vQ e
  cases e;nofun
 ·exact D4 e
 ·obtain⟨_,e⟩:=vQ e
  exact D4 e
 ·split at e
  ·exact D4 e
  ·cases e
 ·cases e
theorem Zo {h}:∀{l as cs bs},gw h l as=some (cs,bs)→l.length=as.length∧∀id∈vA bs,∃o,h id=some o∧o.owned=true
 |[],[],_,_,e=>by cases e;exact⟨rfl,nofun⟩
 |s::l,a::as,cs,bs,e=>by
  unfold gw at e
  split at e
  ·rename_i c1 b1 c2 b2 h1 h2
   cases e
   obtain⟨k1,k2⟩:=Zo h2
   refine⟨by simp[k1],fun id af=>?_⟩
   rw[Zn] at af
   rcases List.mem_append.1 af with af|af
   ·exact yQw h1 id af
   simp_all
  ·cases e
theorem Zp {h}:∀{l cs d},ma h l cs=some d→∀id∈wS l cs,∃o,h id=some o∧o.owned=true
 |[],[],_,_=>nofun
 |x::l,c::cs,d,e=>by
  unfold ma at e
  split at e
  ·rename_i y ys h1 h2
   have ih:=Zp h2
   unfold DR at h1
   split at h1
   ·exact ih
   ·intro jd af
    rcases List.mem_cons.1 af with rfl|af
    ·split at h1
     ·rename_i s xs hs
      exact⟨_,hs,rfl⟩
     ·cases h1
    ·simp_all
   ·intro jd af
    rcases List.mem_cons.1 af with rfl|af
    ·split at h1
     ·rename_i s xs hs
      exact⟨_,hs,rfl⟩
     ·cases h1
    ·exact ih jd af
   ·intro jd af
    rcases List.mem_cons.1 af with rfl|af
    ·split at h1
     ·rename_i xs hs
      exact⟨_,hs,rfl⟩
     ·cases h1
    simp_all
   ·exact ih
   ·cases h1
  ·cases e
theorem Zq {a b}(h:NY a b=true):∀id∈b,id∉a:=fun id hb ha=>by
 have h:=List.all_eq_true.1 h id ha
 have:b.any (Nat.beq id)=true:=List.any_eq_true.2 ⟨id,hb,by simp⟩
 simp_all
theorem Zr:∀os cs,(rL os cs).length=os.length
 |[],_=>rfl
 |_::os,cs=>by simp[rL,Zr os]
theorem Zs {M L}{P:zH→Nat→Prop}{R}:∀{ids js css Bs},zK (iI M L) ids js→lj R js css Bs→lj (fun id cs B=>∃jd,iI M L id jd∧R jd cs B) ids css Bs
 |[],[],[],[],_,_=>trivial
 |_::_,_::_,_::_,_::_,h,k=>⟨⟨_,h.1,k.1⟩,Zs (P:=P) h.2 k.2⟩
theorem zH.gone_ok {M}(ok:Ok M){nm}(aK:M.h nm=none) C:
  Ok (M.add nm .gone C)∧yD M (M.add nm .gone C)∧(∀b,qK (M.add nm .gone C) b→qK M b):=by
 have x:yD M (M.add nm .gone C):=⟨fun id D h=>by
  have aS:id≠nm:=fun e=>by rw[e,ok.non nm aK] at h;cases h
  exact⟨D,by show κset M.κ nm _ id=_;rw[κset_ne _ _ aS];exact h,D.le_refl⟩,fun _ h=>h,fun _ h=>h,fun _ _=>rfl,fun _ _=>rfl,fun _ _=>rfl⟩
 have at':∀o,(M.add nm .gone C).h nm=some o→o=.gone:=fun o h=>by
  have e1:(M.add nm .gone C).h nm=some .gone:=yE _ _ _
  simp_all
 refine⟨Ok.build ok x (fun id=>id=nm) (fun id h=>yH _ _ h) (fun id h=>κset_ne _ _ h) (fun _ _ _ _ _ _ _ _ _=>rfl) (fun id o' D h1 h2 h3 h4 b bo=>(ok.own b ⟨id,o',D,h2,h3,h4,bo⟩).1) (Nat.le_refl _)
  (fun id o' e h=>?_) (fun id e h=>?_) (fun id o' D b e h1 h2 h3 h4=>?_) ok.GF ok.Flt,x,fun b bo=>?_⟩
 ·subst e
  rw[at' o' h]
  exact⟨_,κset_same _ _ _,trivial⟩
 ·have e1:(M.add id .gone C).h id=some .gone:=yE _ _ _
  simp_all
 ·subst e
  rw[at' o' h1] at h2;cases h2
 ·obtain⟨id,o',D,h1,h2,h3,h4⟩:=bo
  by_cases e:id=nm
  ·subst e
   rw[at' o' h1] at h2;cases h2
  ·exact⟨id,o',D,by rw[←h1];exact(yH _ _ e).symm,h2,by rw[←h3];exact(κset_ne _ _ e).symm,h4⟩
theorem Zt:∀{n nm Bs M},Ok M→(∀i,i<n→M.h (nm+i)=none)→Bs.length=n→
  ∃M':zH,M'.H=M.H∧M'.G=M.G∧M'.F=M.F∧M'.h=qG M.h (mb (iF nm n))∧Ok M'∧yD M M'∧(∀b,qK M' b→qK M b)∧zK (fun id B=>∃C,M'.κ id=some C∧C.blk=some B) (iF nm n) Bs
 |0,nm,[],M,ok,_,_=>⟨M,rfl,rfl,rfl,rfl,ok,.refl M,by simp,trivial⟩
 |n+1,nm,B::Bs,M,ok,hf,hl=>by
  obtain⟨k1,k2,k3⟩:=zH.gone_ok ok (hf 0 (by omega)) ⟨some B,0,0,0,[]⟩
  obtain ⟨M', a1, a2, a3, a4, a5, a6, a7, a8⟩ := Zt (n := n) (nm := nm + 1) (Bs := Bs) k1 (fun i hi=>by
   have:=hf (i+1) (by omega)
   rw[show nm+1+i=nm+(i+1) by omega,←this]
   exact yH _ _ (by omega)) (by simp_all)
  refine⟨M',a1,a2,a3,a4,a5,yD.trans (M:=M) (M':=M.add nm .gone ⟨some B,0,0,0,[]⟩) (Nat.le_refl _) k2 a6,by grind,?_,a8⟩
  obtain⟨C,h1,h2⟩:=a6.κ nm _ (κset_same _ _ _)
  exact⟨C,h1,h2.blk⟩
theorem N6 {L M ids js}(hs:zK (iI M L) ids js):∀{l cs ds vs},nH l js cs=true→zK (zS L) cs vs→zK (zS M) ds vs→zK (zS M) (uo l ids ds) vs
 |[],cs,ds,vs,_,_,hd=>by exact hd
 |none::l,[],[],[],_,_,_=>trivial
 |none::l,c::cs,d::ds,v::vs,h,hc,hd=>⟨hd.1,N6 hs (l:=l) h hc.2 hd.2⟩
 |some j::l,c::cs,d::ds,v::vs,h,hc,hd=>by
  obtain⟨id,rfl,af,h'⟩:=Y8 h
  refine⟨?_,N6 hs h' hc.2 hd.2⟩
  have hj:=(List.getElem?_eq_some_iff.1 af).1
  have hi:j<ids.length:=by rw[hs.length];exact hj
  have:=hs.get j hi hj
  rw[(List.getElem?_eq_some_iff.1 af).2] at this
  obtain⟨C,D,B,q1,q2,q3,q4⟩:=this
  obtain⟨D',B',p1,p2,p3⟩:=hc.1
  rw[q3] at p1;cases p1
  rw[q4] at p2;cases p2
  rw[List.getElem?_eq_getElem hi]
  exact⟨C,B,q1,q2,p3⟩
 |_,[],_::_,[],_,_,hd=>hd.elim
 |_,_::_,[],[],_,hc,_=>hc.elim
theorem vCj {h ns cs nw}(e:NX h ns cs=some nw):nw.length=ns:=by
 unfold NX at e
 cases h0:Nat.beq ns 0 with
 |true=>simp_all
 |false=>
  rw[h0] at e
  split at e
  ·exact(N0 e).2
  ·cases e
def HT (w:World)(na:Nat)(chn:Bool)(M:zH)(vs:Array Value)(rv:Value)(w':World)(v:zR)(st:St):Prop:=
 ∃M':zH,M'.h=st.h∧M'.H=w'.heap∧Ok M'∧fM M M'∧(chn=true→jt M M')∧zP M' v rv∧w'.os=w.os∧w'.tape=w.tape∧w'.output=w.output∧(∀t,t<na→zP M' (st.t t) (vs.getD t undef))
theorem Zu {n}:∀{l nm d hh},(∀j,j<l.length→n≠nm+j)→qG hh (la nm l d).2 n=hh n
 |[],_,_,_,_=>rfl
 |r::l,nm,d,hh,h=>by
  show qG hh ((nC nm r d.1).2++(la (nm+1) l d.2).2) n=_
  rw[gT,Zu fun j hj=>by have:=h (j+1) (by simp_all);omega,YH (by have:=h 0 (by simp);omega)]
theorem yQj {M}(ok:Ok M){io id cells}(h:yf M.h io id=some cells):∃C B,M.κ id=some C∧C.blk=some B:=by
 have h':xV M.h id=some cells:=by
  unfold yf at h
  unfold xV
  grind
 obtain⟨C,h1,B,_,_,h2,_⟩:=YE ok h'
 simp_all
theorem HU {M}(ok:Ok M):∀{ls is cs bs},fQ M.h ls is=some (cs,bs)→∀q∈bs,∃C B,M.κ q.2=some C∧C.blk=some B
 |[],[],_,_,e=>by cases e;simp
 |(io,l)::ls,i::is,cs,bs,e=>by
  unfold fQ at e
  split at e
  ·rename_i cells rest uq h1 h2
   obtain⟨_,e⟩:=vQ e
   cases e
   intro q hq
   rcases List.mem_cons.1 hq with rfl|hq
   ·exact yQj ok h1
   ·exact HU ok h2 q hq
  ·cases e
theorem Zv {M}(ok:Ok M):∀{l as cs bs},gw M.h l as=some (cs,bs)→∀q∈bs,∃C B,M.κ q.2=some C∧C.blk=some B
 |[],[],_,_,e=>by cases e;simp
 |s::l,a::as,cs,bs,e=>by
  unfold gw at e
  split at e
  ·rename_i c1 b1 c2 b2 h1 h2
   cases e
   intro q hq
   rcases List.mem_append.1 hq with hq|hq
   ·unfold AX.get at h1
    split at h1
    ·simp_all
    ·grind
    ·exact HU ok h1 q hq
    ·obtain⟨_,h1⟩:=vQ h1
     exact HU ok h1 q hq
    ·split at h1
     ·exact HU ok h1 q hq
     ·cases h1
    ·cases h1
   ·exact Zv ok h2 q hq
  ·cases e
theorem Zw {L}(ok:Ok L):∀{os ids bs},yg L.h os ids=some bs→∀j∈ids,∃cells C B,L.h j=some (.box true cells)∧L.κ j=some C∧C.blk=some B
 |[],[],_,_=>by simp
 |o::os,n::ns,bs,h=>by
  unfold yg at h
  split at h
  ·rename_i cells rest h1 h2
   intro j hj
   rcases List.mem_cons.1 hj with rfl|hj
   ·obtain⟨C,hC,B,vals,e,q1,_⟩:=ok.obj _ _ h1
    simp_all
   ·exact Zw ok h2 j hj
  ·cases h
theorem Zx {L}(ok:Ok L):∀{js:List Nat},js.Nodup→(∀j∈js,∃cells C B,L.h j=some (.box true cells)∧L.κ j=some C∧C.blk=some B)→(js.map fun id=>((L.κ id).bind zV.blk).getD 0).Nodup
 |[],_,_=>by simp
 |a::js,hn,aM=>by
  obtain⟨n1,n2⟩:=List.nodup_cons.1 hn
  refine List.nodup_cons.2 ⟨fun kI=>?_,Zx ok n2 (by grind)⟩
  obtain⟨j,hj,mc⟩:=List.mem_map.1 kI
  obtain⟨Zy,C,B,q1,q2,q3⟩:=aM a (by simp)
  obtain⟨c2',D,B',q4,q5,q6⟩:=aM j (by grind)
  have mc:((L.κ j).bind zV.blk).getD 0=((L.κ a).bind zV.blk).getD 0:=mc
  rw[q2,q5] at mc
  have mc:(D.blk.getD 0)=(C.blk.getD 0):=mc
  rw[q3,q6] at mc
  subst mc
  exact ok.disj a j _ _ C D B' (by grind) q1 q4 rfl rfl q2 q5 (by simp[zV.fp,q3]) (by simp[zV.fp,q6])
theorem Zz {na as}(gy:o0 as na=true){nm n args h u0 io rows d}(he:uu as nm n args h=some (u0,io,rows,d)) M w vs (hh:M.h=h)(hH:M.H=w.heap)(ok:Ok M)(hv:zK (zP M) args vs.toList):
  ∃Ml:zH,Ml.h=(gx as d).2∧Ml.H=w.heap∧Ok Ml∧zK (zP Ml) (gx as d).1 vs.toList∧
   ∀rv w' v0 st,HT w na (as.any AX.isChn) Ml vs rv w' v0 st→∀rs os ns dx,rK st as rs os ns v0=some dx→(rs.cells++os.flatten).length+ns≤n→
    ∃Mf,oO M w (DX u0 io rows rs os ns nm dx).2 Mf w'∧zP Mf (DX u0 io rows rs os ns nm dx).1 rv:=by
 unfold uu at he
 split at he
 ·cases he
 rename_i cX u ug
 split at he
 ·cases he
 rename_i cs bs cE
 split at he
 ·cases he
 rename_i d' hd
 dsimp only at he
 obtain⟨hc,he⟩:=kC he
 cases he
 simp only[Bool.and_eq_true] at hc
 obtain⟨⟨⟨⟨⟨⟨ux,bU⟩,bY⟩,cY⟩,gz⟩,HV⟩,HW⟩:=hc
 subst hh
 obtain⟨M1,a1,a2,a3,a4,a5,a6⟩:=Zg ok (wJ.refl _) hv ug
 rw[←a2] at hd cE
 obtain⟨ZA,ru⟩:=Zo cE
 have aC:=Zp hd
 have cP:kH M1 (vA bs++wS (as.flatMap AX.cells) cs):=fun id af=>(List.mem_append.1 af).elim (ru id) (aC id)
 have N7:=xM cY
 obtain⟨Ml,lo,b2,b3,b4,b5,b6⟩:=yQ3 a3 a5 cE hd N7 (Zq gz) (Zq HV) (Nat.le_of_ble_eq_true bY) HW cP
 generalize eQ:vA bs++wS (as.flatMap AX.cells) cs=ai at*
 refine⟨Ml,b2,by rw[lo.H,a1];exact hH,b3,b5,fun rv w' v0 st ⟨L0,c1,c2,c3,c4,ck,c5,c6,c7,c8,c9⟩ rs os ns dx hK hn=>?_⟩
 unfold rK at hK
 split at hK
 ·cases hK
 rename_i N8 iA
 split at hK
 ·cases hK
 rename_i ccs kE
 split at hK
 ·cases hK
 rename_i nw hnw
 split at hK
 ·cases hK
 rename_i bcs pg
 obtain⟨D5,HX⟩:=kC hK
 clear hK
 split at HX
 case h_2=>cases HX
 rename_i aH u1 ui
 obtain⟨cC,hK⟩:=kC HX
 clear HX
 rw[Bool.and_eq_true] at cC
 obtain⟨cC,D6⟩:=cC
 have N9:=vCj hnw
 obtain⟨hlen,us,d1,d2⟩:=YJ kE c5
 rw[←c1] at ui hK pg
 obtain⟨js,qy⟩:∃js,js=N8++nw:=⟨_,rfl⟩
 rw[←qy] at pg D5 D6
 obtain⟨k1,k2,HY,k3,k4⟩:=Zl c3 pg
 obtain⟨L,e1,e2,e3,e4,e5,e6⟩:=rG c3 (wJ.refl _) (d1.append k3) ui
 rw[←e2] at hK
 have g:fM Ml L:=c4.trans e4.grow
 obtain⟨f1,f2,f3⟩:=zH.overX_ok a3 e3 lo cP b4 g
 have cd : zK (iI M1 L0) (vA bs) N8 := Zk cE iA a5 (fun i hi s hs pb=>by
  have aY:i<vs.size:=by simpa using hi
  have aX:i<na:=by
   have:=List.all_eq_true.1 gy (s,i) (List.mk_mem_zipIdx_iff_getElem?.2 hs)
   simp only[pb,Bool.not_true,Bool.false_or] at this
   exact Mp this
  have:=c9 i aX
  rw[Nat.zero_add]
  have e:vs.getD i undef=vs.toList[i]:=by simp[aY]
  rw[←e];exact this) fun jv i q hq=>by
   obtain⟨C,B,p1,p2⟩:=Zv a3 cE q (List.mem_of_getElem? hq)
   have hi:i<bs.length:=(List.getElem?_eq_some_iff.1 hq).1
   have hκ:Ml.κ i=some C:=by
    rw[b6]
    unfold κX
    have:Nat.ble wA i=false:=by
     cases h:Nat.ble wA i with
     |false=>rfl
     |true=>have h1:=Nat.le_of_ble_eq_true h;have h2:=Nat.le_of_ble_eq_true bY;omega
    rw[this,hq]
    exact p1
   obtain⟨C',p3,p4⟩:=ck jv i C hκ
   rw[Nat.zero_add]
   exact⟨C,C',B,p1,p2,p3,p4.trans p2⟩
 have me:∀i,i<n→(M1.overX L ai).h (nm+i)=none:=fun i hi=>by
  have h1:=NF ux i hi
  have h2:M1.h (nm+i)=none:=by
   rw[a2]
   rcases a6 (nm+i) with h|⟨own,t,xs,h,_⟩|⟨ver,xs,h,_⟩
   ·rw[a2] at h;rw[h];exact h1
   ·rw[h1] at h;cases h
   ·rw[h1] at h;cases h
  show qG M1.h (mb ai) (nm+i)=none
  rw[rO,if_neg,h2]
  intro kI
  obtain⟨o,ho,_⟩:=cP _ kI
  rw[h2] at ho;cases ho
 have l8:∀i,i<(rs.cells++os.flatten).length→(M1.overX L ai).h (nm+i)=none:=fun i hi=>me i (by omega)
 have ph:∀b,qK L b→b<M1.H.size→gW M1 ai b:=fun b hb aX=>b4 b (g.own b hb (by rw[lo.H];exact aX))
 have rP:∀b,qK L b→¬(M1.overX L ai).F b:=fun b hb h=>by
  rcases h with h|h
  ·exact(o9 a3 cP h).2 (ph b hb (a3.Flt b h))
  ·exact(e3.own b hb).1 (e3.GF b h)
 have rQ:∀b,qK L b→¬qK (M1.overX L ai) b:=fun b hb h=>by
  obtain⟨q1,q2⟩:=f3 b h
  exact q2 (ph b hb (a3.own b q1).2)
 obtain ⟨Mc, g1, g2, g3, g4, g5, g6, g7, g8⟩ := NG e3 f1 ⟨rfl, rfl⟩ l8 hK (xM cC) (rI hK) (fun id af C hC b hb=>by
  obtain⟨o,ho,fj⟩:=rI hK id af
  have aA:qK L b:=⟨id,o,C,ho,fj,hC,hb⟩
  exact⟨rQ b aA,rP b aA,(e3.own b aA).2⟩)
 obtain ⟨Mg, n1, n2, n3, n4, n5, n6, n7, n8⟩ := Zt (n := ns) (nm := nm + (rs.cells ++ os.flatten).length) (Bs := nw.map fun id => ((L0.κ id).bind zV.blk).getD 0) g5 (fun i hi=>by
  rw[g4,Zu (fun j hj=>by omega),Nat.add_assoc]
  exact me _ (by omega)) (by simp[N9])
 have mf:∀j∈js,∃cells C B,L0.h j=some (.box true cells)∧L0.κ j=some C∧C.blk=some B:=Zw c3 pg
 have ZB:yD M1 Mg:=(f2.ext.trans f2.size g6).trans (by rw[g1];exact f2.size) n6
 have Dh:zK (iI Mg L0) (vA bs) N8:=cd.mono fun id jd hq=>by
  obtain⟨C,D,B,q1,q2,q3,q4⟩:=hq
  obtain⟨C',p3,le⟩:=ZB.κ id C q1
  exact⟨C',D,B,p3,le.blk.trans q2,q3,q4⟩
 have D7:zK (iI Mg L0) (iF (nm+(rs.cells++os.flatten).length) ns) nw:=by
  have ZC:=n8.length
  rw[List.length_map] at ZC
  refine zK.of_get ZC fun i h1 h2=>?_
  obtain⟨C,q1,q2⟩:=n8.get i h1 (by simpa using h2)
  obtain⟨cells,D,B,p1,p2,p3⟩:=mf nw[i] (by rw[qy];exact List.mem_append_right _ (List.getElem_mem _))
  refine⟨C,D,B,q1,?_,p2,p3⟩
  rw[q2,List.getElem_map,p2]
  show some (D.blk.getD 0)=_
  rw[p3];rfl
 have iJ:zK (iI Mg L0) (vA bs++iF (nm+(rs.cells++os.flatten).length) ns) js:=by
  rw[qy];exact Dh.append D7
 have pj:zK (iI Mg L) (vA bs++iF (nm+(rs.cells++os.flatten).length) ns) js:=iJ.mono fun id jd hq=>by
  obtain⟨C,D,B,q1,q2,q3,q4⟩:=hq
  obtain⟨D',p3,le⟩:=e4.ext.κ jd D q3
  exact⟨C,D',B,q1,q2,p3,le.blk.trans q4⟩
 have uy:=N6 pj D6 e5 ((g8 _ e5).mono fun _ _ h=>h.ext n6)
 obtain⟨G,hG⟩:∃G,G=uo ((rs.cells++os.flatten).map RC.lnk) (vA bs++iF (nm+(rs.cells++os.flatten).length) ns) (la nm (rs.cells++os.flatten) dx).1:=⟨_,rfl⟩
 rw[←hG] at uy
 have ZD:us.length=rs.cells.length:=by rw[←d1.length,hlen]
 have hgr:zK (zS Mg) (G.take rs.cells.length) us:=by
  have:=zK.take rs.cells.length uy
  rwa [show(us++HY).take rs.cells.length=us from by rw[←ZD,List.take_left]] at this
 have hgb:zK (zS Mg) (G.drop rs.cells.length) HY:=by
  have:=zK.drop rs.cells.length uy
  rwa [show(us++HY).drop rs.cells.length=HY from by rw[←ZD,List.drop_left]] at this
 have hHc:Mg.H=L0.H:=by rw[n1,g1];exact e1
 have D8:=Zs (P:=fun _ _=>True) iJ (k4 hHc hgb)
 have rR:∀jd B,(∃cells,L0.h jd=some (.box true cells))→(∃C,L0.κ jd=some C∧C.blk=some B)→∃cells C,L.h jd=some (.box true cells)∧L.κ jd=some C∧B∈C.fp:=fun jd B ⟨cells,q1⟩ ⟨C,q2,q3⟩=>by
  obtain⟨C',q4,le⟩:=e4.ext.κ jd C q2
  refine⟨cells,C',?_,q4,?_⟩
  ·rcases e6 jd with h|⟨own,t,xs,h,_⟩|⟨ver,xs,h,_⟩
   ·rw[h,q1]
   ·rw[q1] at h;cases h
   ·rw[q1] at h;cases h
  ·have:C'.blk=some B:=le.blk.trans q3
   simp[zV.fp,this]
 have D9:∀b,b∈(js.map fun id=>((L0.κ id).bind zV.blk).getD 0)→qK L b:=fun b hb=>by
  obtain⟨j,hj,rfl⟩:=List.mem_map.1 hb
  obtain⟨cells,C,B,q1,q2,q3⟩:=mf j hj
  obtain⟨bp,D,p4,p5,p6⟩:=rR j B ⟨cells,q1⟩ ⟨C,q2,q3⟩
  have e:((L0.κ j).bind zV.blk).getD 0=B:=by rw[q2];show C.blk.getD 0=B;rw[q3];rfl
  rw[e]
  exact⟨j,_,D,p4,rfl,p5,p6⟩
 have uz : lj (Zd Mg) (vA bs ++ iF (nm + (rs.cells ++ os.flatten).length) ns) (rL os (G.drop rs.cells.length)) (js.map fun id => ((L0.κ id).bind zV.blk).getD 0) := lj.mono (fun id css B _ ⟨jd,q1,q2,⟨D0,q3,ZE,_⟩,q4⟩=>by
  obtain⟨C,D1,B',p1,p2,p3,ZF⟩:=q1
  rw[q3] at p3;cases p3
  rw[ZE] at ZF;cases ZF
  obtain⟨cells,D,p4,p5,p6⟩:=rR jd B q2 ⟨_,q3,ZE⟩
  have aA:qK L B:=⟨jd,_,D,p4,rfl,p5,p6⟩
  refine⟨⟨C,p1,p2⟩,q4,fun ho=>?_,?_⟩
  ·rcases g7 B (n7 B ho) with h|⟨kd,Ea,D',p7,p8⟩
   ·exact rQ B aA h
   ·obtain⟨o,p9,pc⟩:=rI hK kd Ea
    refine e3.disj jd kd _ o D D' B (fun e=>?_) p4 p9 rfl pc p5 p7 p6 p8
    exact Zm hK kd Ea true cells (by rw[←e];exact p4)
  ·rw[n3,g3];exact rP B aA) D8
 have hBs:(js.map fun id=>((L0.κ id).bind zV.blk).getD 0).Nodup:=Zx c3 (xM D5) mf
 obtain⟨Mf,r1,r2,r3,r4,r5,r6,r7⟩:=Ze n5 uz hBs
 have NM:yN M1 Mf:=by
  have aA:∀b,qK Mf b→b<M1.H.size→qK M1 b:=fun b hb aX=>by
   rcases r7 b hb with hb|hb
   ·rcases g7 b (n7 b hb) with h|⟨id,af,C,hC,xX⟩
    ·exact(f3 b h).1
    ·obtain⟨o,ho,fj⟩:=rI hK id af
     exact(ph b ⟨id,o,C,ho,fj,hC,xX⟩ aX).own cP
   ·exact(ph b (D9 b hb) aX).own cP
  have HK:Mf.H=(M1.overX L ai).H:=r1.trans (n1.trans g1)
  refine⟨ZB.trans ?_ r6,?_,fun b hb hn=>?_,aA,fun b hb aX=>?_,fun b hb aX=>?_⟩
  ·rw[n1,g1];exact f2.size
  ·rw[HK];exact f2.size
  ·rw[HK];exact f2.frame b hb hn
  ·rw[r2,n2,g2] at hb;exact f2.Gb b hb aX
  ·rw[r3,n3,g3] at hb;exact f2.Fb b hb aX
 have mg:(vA bs++iF (nm+(rs.cells++os.flatten).length) ns).length=(rL os (G.drop rs.cells.length)).length:=by
  rw[Zr,iJ.length,k2]
 refine⟨Mf,⟨c6,c7,c8,?_,?_,r5,a4.trans NM⟩,?_⟩
 ·rw[r1,n1,g1];show L.H=_;rw[e1,c2]
 ·rw[r4,n4,g4]
  show _=qG M.h (u0++(mb (wS (as.flatMap AX.cells) cs)++((la nm (rs.cells++os.flatten) dx).2++yh (vA bs++iF (nm+(rs.cells++os.flatten).length) ns) (rL os ((uo ((rs.cells++os.flatten).map RC.lnk) (vA bs++iF (nm+(rs.cells++os.flatten).length) ns) (la nm (rs.cells++os.flatten) dx).1).drop rs.cells.length)))))
  rw[←hG,gT,gT,gT,←a2]
  refine Zf mg fun m hm=>?_
  rw[List.mem_append,not_or] at hm
  rw[rO,if_neg hm.2]
  refine tX ?_
  show qG M1.h (mb ai) m=_
  rw[rO,rO,←eQ]
  simp[hm.1]
 ·show zP Mf (rs.mk ((uo ((rs.cells++os.flatten).map RC.lnk) (vA bs++iF (nm+(rs.cells++os.flatten).length) ns) (la nm (rs.cells++os.flatten) dx).1).take rs.cells.length)) rv
  rw[←hG]
  exact d2 Mf _ (hgr.mono fun _ _ h=>h.ext r6)
theorem ZG {P na f}(bJ:∀vs w,(callFunc f vs).run P w=.ok (.enter f vs) w)
  {as rs os ns X} {S:XD as→Option X} {pack unpack} (de:∀d,pack (unpack d)=d) (gy:o0 as na=true)
  (iK:∀d x,S d=some x→∀M w vs,M.h=(gx as d).2→M.H=w.heap→Ok M→zK (zP M) (gx as d).1 vs.toList→Calls P f vs w fun
   |.returned rv,w'=>∃(v:zR) (st:St),DW as rs os ns unpack v st=some x∧HT w na (as.any AX.isChn) M vs rv w' v st
   |_,_=>False)
  {nm args h v u} (hy:yC (nJ as rs os ns S pack nm args h) v u):oP P f args h v u:=by
 intro M w vs hh hH ok hv
 refine .inl ⟨bJ vs w,?_⟩
 unfold nJ at hy
 split at hy
 ·exact hy.elim
 rename_i u0 io rows d he
 obtain⟨x,hx,rfl,rfl⟩:=hy
 obtain⟨Ml,b1,b2,b3,b4,b5⟩:=Zz gy he M w vs hh hH ok hv
 refine Calls.mono (iK d x hx Ml w vs b1 b2 b3 b4) fun e w' hl=>?_
 cases e with
 |panicked _=>omega
 |outgrown=>omega
 |returned rv=>
  obtain⟨v0,st,hK,hl⟩:=hl
  have hK:rK st as rs os ns v0=some (pack x):=by
   unfold DW at hK
   grind
  grind
theorem vEh {P na f}(bJ:∀vs w,(callFunc f vs).run P w=.ok (.enter f vs) w)
  {as rs rs2 os os2 ns ns2 X Y} {S:XD as→Option (X⊕Y)} {pk up fm iG}
  (de:∀d,pk (up d)=d) (kJ:∀d,fm (iG d)=d) (gy:o0 as na=true)
  (iK:∀d x,S d=some x→∀M w vs,M.h=(gx as d).2→M.H=w.heap→Ok M→zK (zP M) (gx as d).1 vs.toList→Calls P f vs w fun
   |.returned rv,w'=>∃(v:zR) (st:St),HP as rs os ns rs2 os2 ns2 up iG v st=some x∧HT w na (as.any AX.isChn) M vs rv w' v st
   |_,_=>False)
  {nm args h v u} (hy:yC (o6 as rs os ns rs2 os2 ns2 S pk fm nm args h) v u):oP P f args h v u:=by
 intro M w vs hh hH ok hv
 refine .inl ⟨bJ vs w,?_⟩
 unfold o6 at hy
 split at hy
 ·exact hy.elim
 rename_i u0 io rows d he
 obtain⟨Ml,b1,b2,b3,b4,b5⟩:=Zz gy he M w vs hh hH ok hv
 rcases hy with⟨x,hx,rfl,rfl⟩|⟨x,hx,rfl,rfl⟩<;>
 ·refine Calls.mono (iK d _ hx Ml w vs b1 b2 b3 b4) fun e w' hl=>?_
  cases e with
  |panicked _=>omega
  |outgrown=>omega
  |returned rv=>
   obtain⟨v0,st,hK,hl⟩:=hl
   unfold HP at hK
   grind
theorem ZH {E}(hE:dG E)(hS:fL E.sums)(hm:E.P.follows .mixedOrders=true){A k pre na f fn}(hf:E.P.funcs[f]? =some fn)(hL:∀c,fn.body=some c→vT E.P A pre na fn.ntmps c){chn}(jv:(!chn||A.loops.isEmpty)=true)
  {R K} {x:R} {args h} (aI:gd E A k pre na fn args h K=some x) {M w vs} (h1:M.h=h) (h2:M.H=w.heap) (h3:Ok M) (h4:zK (zP M) args vs.toList):
  Calls E.P f vs w fun
   |.returned rv,w'=>∃(v:zR) (st:St),K v st=some x∧HT w na chn M vs rv w' v st
   |_,_=>False:=by
 refine Calls.mono (Nv hE hS hm hf hL aI h1 h2 h3 h4) fun e w' hl=>?_
 cases e with
 |panicked _=>omega
 |outgrown=>omega
 |returned rv=>
  obtain⟨M',v,st,a1,a2,a3,a4,a5,a6,a7,a8,a9,Eb,Ec⟩:=hl
  refine⟨v,st,a1,M',a2,a3,a4,a5,fun hc=>a6 ?_,a7,a8,a9,Eb,Ec⟩
  simp_all
theorem yO2 {E}(hE:dG E)(hS:fL E.sums)(hm:E.P.follows .mixedOrders=true){A k pre na f fn}(hf:E.P.funcs[f]? =some fn)(hL:∀c,fn.body=some c→vT E.P A pre na fn.ntmps c)(bJ:∀vs w,(callFunc f vs).run E.P w=.ok (.enter f vs) w)
  {as rs os ns X} {S:XD as→Option X} {pack unpack} (de:∀d,pack (unpack d)=d) (gy:o0 as na=true) (jv:(!as.any AX.isChn||A.loops.isEmpty)=true)
  (aI:∀d,gd E A k pre na fn (gx as d).1 (gx as d).2 (DW as rs os ns unpack)=S d)
  {nm args h v u} (hy:yC (nJ as rs os ns S pack nm args h) v u):oP E.P f args h v u:=
 ZG bJ de gy (fun d x hx M w vs h1 h2 h3 h4=>ZH hE hS hm hf hL jv ((aI d).trans hx) h1 h2 h3 h4) hy
theorem vKy {E}(hE:dG E)(hS:fL E.sums)(hm:E.P.follows .mixedOrders=true){A k pre na f fn}(hf:E.P.funcs[f]? =some fn)(hL:∀c,fn.body=some c→vT E.P A pre na fn.ntmps c)(bJ:∀vs w,(callFunc f vs).run E.P w=.ok (.enter f vs) w)
  {as rs rs2 os os2 ns ns2 X Y} {S:XD as→Option (X⊕Y)} {pk up fm iG}
  (de:∀d,pk (up d)=d) (kJ:∀d,fm (iG d)=d) (gy:o0 as na=true) (jv:(!as.any AX.isChn||A.loops.isEmpty)=true)
  (aI:∀d,gd E A k pre na fn (gx as d).1 (gx as d).2 (HP as rs os ns rs2 os2 ns2 up iG)=S d)
  {nm args h v u} (hy:yC (o6 as rs os ns rs2 os2 ns2 S pk fm nm args h) v u):oP E.P f args h v u:=
 vEh bJ de kJ gy (fun d x hx M w vs h1 h2 h3 h4=>ZH hE hS hm hf hL jv ((aI d).trans hx) h1 h2 h3 h4) hy
section
variable {h h':Hp}
theorem vJh {x c}(hh:∀id∈yY c,h id=h' id):DR h x c=DR h' x c:=by
 unfold DR
 split
 ·exact YQ hh
 ·rename_i id;rw[hh id (by simp[yY])]
 ·rename_i id;rw[hh id (by simp[yY])]
 ·rename_i id;rw[hh id (by simp[yY])]
 ·rfl
 ·rfl
theorem ZI:∀{l cs},(∀id∈cs.flatMap yY,h id=h' id)→ma h l cs=ma h' l cs
 |[],[],_
 |[],_::_,_
 |_::_,[],_=>rfl
 |p::l,c::cs,hh=>by
  simp  at hh
  unfold ma
  rw[vJh fun id hi=>hh id (.inl hi),ZI (by grind)]
theorem yS1 {ls}:fQ h ls []=fQ h' ls []:=by
 cases ls<;>rfl
theorem yT1 {s:AX}{a}(hb:vW a=false):s.get h a=s.get h' a:=by
 unfold AX.get
 cases s with
 |c p=>grind
 |agg l=>grind
 |ptr io l=>
  cases a with
  |c x=>cases x<;>first|rfl|(exact absurd hb (by simp[vW]))
  |_=>rfl
 |fn f ba=>
  cases a with
  |c x=>cases x with
   |fn g ids=>
    cases ids with
    |nil=>dsimp only;rw[yS1]
    |cons _ _=>exact absurd hb (by nofun)
   |_=>rfl
  |_=>rfl
 |chn ls=>
  cases a with
  |c x=>cases x<;>first|rfl|(exact absurd hb (by nofun))
  |_=>rfl
theorem yWt {s:AX}{a cs bs}(hb:vW a=false)(e:s.get h a=some (cs,bs)):∀id∈cs.flatMap yY,id∈yG a:=by
 unfold AX.get at e
 split at e
 ·cases e;intro id af;simp  at af;exact af
 ·obtain⟨_,e⟩:=vQ e
  cases e;exact fun id af=>af
 ·exact absurd hb (by nofun)
 ·rename_i f ba g ids
  obtain⟨_,e⟩:=vQ e
  cases ids with
  |nil=>cases ba with
   |nil=>cases e;simp
   |cons _ _=>cases e
  |cons _ _=>exact absurd hb (by nofun)
 ·exact absurd hb (by nofun)
 ·cases e
theorem ZJ:∀{l as},as.any vW=false→gw h l as=gw h' l as
 |[],[],_
 |[],_::_,_
 |_::_,[],_=>rfl
 |s::l,a::as,hb=>by
  simp only[List.any_cons,Bool.or_eq_false_iff] at hb
  unfold gw
  rw[yT1 (h:=h) (h':=h') hb.1,ZJ hb.2]
theorem ZK:∀{l as cs bs},as.any vW=false→gw h l as=some (cs,bs)→∀id∈cs.flatMap yY,id∈as.flatMap yG
 |[],[],cs,bs,_,e=>by cases e;simp
 |s::l,a::as,cs,bs,hb,e=>by
  simp only[List.any_cons,Bool.or_eq_false_iff] at hb
  unfold gw at e
  split at e
  ·rename_i c1 b1 c2 b2 e1 e2
   cases e
   intro id af
   rw[List.flatMap_append,List.mem_append] at af
   rw[List.flatMap_cons,List.mem_append]
   rcases af with af|af
   ·exact .inl (yWt hb.1 e1 id af)
   ·exact .inr (ZK hb.2 e2 id af)
  ·cases e
theorem yUe {s a}(hh:∀id∈yG a,h id=h' id):rM h s a=rM h' s a:=by
 unfold rM
 split
 ·rename_i p x
  have:=xZ (h:=h) (h':=h') (l:=[p.isKept]) (cs:=[x]) (by rw[xY];exact hh)
  simp_all
 ·rename_i l xs
  have:=xZ (h:=h) (h':=h') (l:=l.map PC.isKept) (cs:=xs) hh
  simp_all
 ·rfl
theorem yP9 {s a a' u}(e:rM h s a=some (a',u)):(∀id∈yG a',id∈yG a)∧(vW a=false→vW a'=false):=by
 unfold rM at e
 split at e
 ·rename_i p x
  split at e
  ·rename_i y u1 e1
   cases e
   refine⟨fun id af=>by have:=ya e1 id (by rw[xY];omega);rwa [xY] at this,fun hb=>?_⟩
   cases hk:p.isKept with
   |false=>rw[hk] at e1;cases e1;exact hb
   |true=>
    rw[hk] at e1
    unfold dH at e1
    split at e1
    ·rename_i c1 u2 jm nj e2 e3
     cases e1
     cases hy:vW (.c y) with
     |false=>rfl
     |true=>rw[(NN e2).2 hy] at hb;cases hb
    ·cases e1
  ·cases e
 ·split at e
  ·rename_i ys u1 e1
   cases e
   exact⟨ya e1,fun _=>rfl⟩
  ·cases e
 simp_all
theorem ZL:∀{l as},(∀id∈as.flatMap yG,h id=h' id)→nI h l as=nI h' l as
 |[],as,_=>by rfl
 |_::_,[],_=>rfl
 |s::l,a::as,hh=>by
  simp  at hh
  unfold nI
  rw[yUe fun id hi=>hh id (.inl hi),ZL (by grind)]
theorem ZM:∀{l as dd u},nI h l as=some (dd,u)→(∀id∈dd.flatMap yG,id∈as.flatMap yG)∧(as.any vW=false→dd.any vW=false)
 |[],as,dd,u,e=>by cases as<;>cases e<;>exact by simp
 |s::l,[],dd,u,e=>by cases e;simp
 |s::l,a::as,dd,u,e=>by
  unfold nI at e
  split at e
  ·rename_i a1 u1 NK nj e1 e2
   obtain⟨k1,k2⟩:=yP9 e1
   obtain⟨k3,k4⟩:=ZM e2
   grind
  ·cases e
theorem ZN {as nm n args}(h1:args.any vW=false→∀id,(id∈args.flatMap yG∨kq nm id=true)→h id=h' id)(h2:args.any vW=true→h=h'):uu as nm n args h=uu as nm n args h':=by
 cases hb:args.any vW with
 |true=>rw[h2 hb]
 |false=>
  have hh:=h1 hb
  unfold uu
  rw[ZL (h:=h) (h':=h') (by grind)]
  cases e:nI h' as args with
  |none=>rfl
  |some p=>
   obtain⟨cX,u⟩:=p
   obtain⟨k1,k2⟩:=ZM e
   dsimp only
   rw[ZJ (h:=qG h u) (h':=qG h' u) (k2 hb)]
   cases e2:gw (qG h' u) as cX with
   |none=>rfl
   |some q=>
    obtain⟨cs,bs⟩:=q
    dsimp only
    rw[ZI (h:=qG h u) (h':=qG h' u) fun id af=>tX (hh id (.inl (k1 id (ZK (k2 hb) e2 id af))))]
    cases ma (qG h' u) (as.flatMap AX.cells) cs with
    |none=>rfl
    |some d=>
     cases hle:Nat.ble n 100 with
     |false=>simp
     |true=>
      have hle:=Nat.le_of_ble_eq_true hle
      rw [NO (h := h) (h' := h') fun i hi => hh _ (.inr (by
       simp only[kq,Bool.and_eq_true]
       exact⟨by simp,by simp[Nat.blt_eq];omega⟩))]
end
theorem ZO {as rs os ns X}{S:Nat→XD as→Option X}{pack}:DL fun k nm args h=>nJ as rs os ns (S k) pack nm args h:=by
 intro k nm args h h' h1 h2
 show nJ as rs os ns (S k) pack nm args h=nJ as rs os ns (S k) pack nm args h'
 unfold nJ
 rw[ZN h1 h2]
theorem yT2 {as rs rs2 os os2 ns ns2 X Y}{S:Nat→XD as→Option (X⊕Y)}{pk fm}:DL fun k nm args h=>o6 as rs os ns rs2 os2 ns2 (S k) pk fm nm args h:=by
 intro k nm args h h' h1 h2
 show o6 as rs os ns rs2 os2 ns2 (S k) pk fm nm args h=o6 as rs os ns rs2 os2 ns2 (S k) pk fm nm args h'
 unfold o6
 rw[ZN h1 h2]
structure zB (P:Program) (r:Nat×kF):Prop where
 ok:YN P r
 loc:DL r.2
def yk (P:Program):List (Nat×kF)→Prop
 |[]=>True
 |r::l=>zB P r∧yk P l
theorem yk.all {P}:∀{l},yk P l→∀r∈l,zB P r
 |a::l,h,r,hr=>by
  rcases List.mem_cons.1 hr with rfl|hr
  ·exact h.1
  ·exact yk.all h.2 r hr
structure jZ (E:Env):Prop where
 ok:dG E
 loc:fL E.sums
 ord:E.P.follows .mixedOrders=true
theorem vI7 {P l eqT}(he:Hh P eqT)(hm:P.follows .mixedOrders=true)(h:yk P l):jZ ⟨P,eqT,eO l⟩:=
 ⟨⟨he,YO fun r hr=>(h.all r hr).ok⟩,YP fun r hr=>(h.all r hr).loc,hm⟩
theorem lk {P l}(hm:P.follows .mixedOrders=true)(h:yk P l):jZ ⟨P,fun _=>false,eO l⟩:=vI7 vC3 hm h
theorem qN {P A pre na nt c L}(h:qC P pre na nt (zY c 0) L)(hn:(kG c).length=1:=by kernel_rfl) (hl:qt A (zY c 0)=some L:=by kernel_rfl):vT P A pre na nt c:=
 loopsOK_of hn (by grind)
theorem zE {P A pre na nt c}(hn:(kG c).length=0:=by kernel_rfl):vT P A pre na nt c:=vK3 hn
def ZP (E:Env)(A:qF)(na nt:Nat)(b:Code) ins outs {X Y:Type}(je:qn outs→X)(c:Y→nc ins→Option X)(bf:Nat→Y→Y):Prop:=
 ∀k rec d,c (bf k rec) d=G1 (1000+eI) ins d fun st=>gb E A k 1000 na nt b st (WE 1000 ins outs je (c rec))
abbrev yZs (X:Type):=Nat→X→(R:Type)→(Ex→St→Option R)→Option R
theorem vIn {E A na nt b ins outs X Y je c bf}(hE:jZ E)(hs:ZP E A na nt b ins outs je c bf)(f:Nat→Nat→Y)(elim:yZs X)
  (hX:∀o R K,elim (1000+eI) (je o) R K=xu (1000+eI) outs o K) (hL:vT E.P A 1000 na nt b) (h0:∀k d,c (f k 0) d=none:=by intros;rfl) (h1:∀k n,f k (n+1)=bf k (f k n):=by intros;rfl):
  qC E.P 1000 na nt b ⟨ins,outs,X,fun k d=>c (f k k) d,elim⟩:=
 yWd hE.ok hE.loc hE.ord hL je elim hX (fun k n d=>c (f k n) d) h0 (fun k n d=>by rw[h1];exact hs k (f k n) d)
def Oa (E:Env)(A:qF)(na:Nat)(fn:Func) as (rs:RS){X}(up:RL rs.cells→X)(S:Nat→AD as→Option X):Prop:=
 ∀k d,gd E A k 1000 na fn (l6 as d).1 (l6 as d).2 (ju rs up)=S k d
def ZQ (E:Env)(A:qF)(na:Nat)(fn:Func) as (rs:RS)(os:List (List RC))(ns:Nat){X}(up:RL (rs.cells++os.flatten)→X)(S:Nat→XD as→Option X):Prop:=
 ∀k d,gd E A k 1000 na fn (gx as d).1 (gx as d).2 (DW as rs os ns up)=S k d
def ZR (E:Env)(A:qF)(na:Nat)(fn:Func) as (rs:RS)(os:List (List RC))(ns:Nat)(rs2:RS)(os2:List (List RC))(ns2:Nat){X Y}(up:RL (rs.cells++os.flatten)→X)(iG:RL (rs2.cells++os2.flatten)→Y)(S:Nat→XD as→Option (X⊕Y)):Prop:=
 ∀k d,gd E A k 1000 na fn (gx as d).1 (gx as d).2 (HP as rs os ns rs2 os2 ns2 up iG)=S k d
theorem yUu {E A na f fn as rs X S pack}{unpack:RL rs.cells→X}(hE:jZ E)(aI:Oa E A na fn as rs unpack S)(hL:vT E.P A 1000 na fn.ntmps (qA fn))
  (hf:E.P.funcs[f]? =some fn:=by kernel_rfl) (hb:fn.body.isNone=false:=by kernel_rfl) (hn:(fn.name== "runtime.NumGoroutine")=false:=by kernel_rfl) (de:∀d,pack (unpack d)=d:=by intro d;rfl):
  zB E.P (f,fun k nm args h=>ld as rs (S k) pack nm args h):=
 ⟨fun k _ _ _ _ _ hy=>yNk hE.ok hE.loc hE.ord hf (body_loops hL) (DM hf hb hn) de (aI k) hy,YW⟩
theorem yOq {E A na f fn as rs os ns X}{S:Nat→XD as→Option X}{pack unpack}(hE:jZ E)(aI:ZQ E A na fn as rs os ns unpack S)
  (hL:vT E.P A 1000 na fn.ntmps (qA fn)) (hf:E.P.funcs[f]? =some fn:=by kernel_rfl) (hb:fn.body.isNone=false:=by kernel_rfl) (hn:(fn.name== "runtime.NumGoroutine")=false:=by kernel_rfl) (gy:o0 as na=true:=by kernel_rfl) (jv:(!as.any AX.isChn||A.loops.isEmpty)=true:=by kernel_rfl) (de:∀d,pack (unpack d)=d:=by intro d;rfl):
  zB E.P (f,fun k nm args h=>nJ as rs os ns (S k) pack nm args h):=
 ⟨fun k _ _ _ _ _ hy=>yO2 hE.ok hE.loc hE.ord hf (body_loops hL) (DM hf hb hn) de gy jv (aI k) hy,ZO⟩
theorem yZf {E A na f fn as rs rs2 os os2 ns ns2 X Y}{S:Nat→XD as→Option (X⊕Y)}{pk up fm iG}(hE:jZ E)
  (aI:ZR E A na fn as rs os ns rs2 os2 ns2 up iG S)
  (hL:vT E.P A 1000 na fn.ntmps (qA fn)) (hf:E.P.funcs[f]? =some fn:=by kernel_rfl) (hb:fn.body.isNone=false:=by kernel_rfl) (hn:(fn.name== "runtime.NumGoroutine")=false:=by kernel_rfl) (gy:o0 as na=true:=by kernel_rfl) (jv:(!as.any AX.isChn||A.loops.isEmpty)=true:=by kernel_rfl) (de:∀d,pk (up d)=d:=by intro d;rfl) (kJ:∀d,fm (iG d)=d:=by intro d;rfl):
  zB E.P (f,fun k nm args h=>o6 as rs os ns rs2 os2 ns2 (S k) pk fm nm args h):=
 ⟨fun k _ _ _ _ _ hy=>vKy hE.ok hE.loc hE.ord hf (body_loops hL) (DM hf hb hn) de kJ gy jv (aI k) hy,yT2⟩
theorem ySl {E A na f fn sh t rs X}{S:Nat→List t.den→Option X}{pack unpack}(hE:jZ E)(bX:∀k,gd E A k 1000 na fn [.c .nsl] (iE []) (ju rs unpack)=S k [])
  (aI:∀k xs,gd E A k 1000 na fn [.c (.nfl sh t xs)] (iE []) (ju rs unpack)=S k xs) (hL:vT E.P A 1000 na fn.ntmps (qA fn)) (hf:E.P.funcs[f]? =some fn:=by kernel_rfl) (hb:fn.body.isNone=false:=by kernel_rfl) (hn:(fn.name== "runtime.NumGoroutine")=false:=by kernel_rfl) (de:∀d,pack (unpack d)=d:=by intro d;rfl):
  zB E.P (f,fun k nm args h=>ld [.c (.dat sh t)] rs (fun d=>S k d.1) pack nm args h):=
 ⟨fun k _ _ _ _ _ hy=>yQ9 hE.ok hE.loc hE.ord hf (body_loops hL) (DM hf hb hn) de (fun x hx=>(bX k).trans hx) (by grind) hy,YW⟩
def yl (k:Nat)(a b c:Int):Option (Int×Int):=
 bif decide (c=0) then some (Int.ofNat ((a.toNat+b.toNat+0)%18446744073709551616),Int.ofNat ((a.toNat+b.toNat+0)/18446744073709551616)) else none
def HZ:kF:=fun k nm args h=>match args with
 |[.c (.int .u64 a),.c (.int .u64 b),.c (.int .u64 c)]=>.call (Int×Int) (yl k a b c) (fun r=>(.tup [(false,[.int .u64 r.1]),(false,[.int .u64 r.2])],[]))
 |_=>.stuck
theorem yWg {P} a b w:
  (add64Entry #[.int .u64 a,.int .u64 b,.int .u64 0]).run P w=.ok (.tuple #[.int .u64 (Int.ofNat ((a.toNat+b.toNat+0)%18446744073709551616)),.int .u64 (Int.ofNat ((a.toNat+b.toNat+0)/18446744073709551616))]) w:=rfl
theorem vDr {P f fn}(hf:P.funcs[f]? =some fn:=by kernel_rfl) (mh:(fn.name== "runtime.NumGoroutine")=false:=by kernel_rfl) (hb:fn.body.isNone=true:=by kernel_rfl)
  (hn:Extern.findNext fn=none:=by kernel_rfl) (he:Extern.find fn=some add64Entry:=by kernel_rfl):
  zB P (f,HZ):=by
 refine⟨fun k nm args h v u hy=>?_,fun _ _ _ _ _ _ _=>rfl⟩
 intro M w vs hh hH ok hv
 refine .inr ?_
 replace hy:yC (HZ k nm args h) v u:=hy
 unfold HZ at hy
 split at hy
 ·rename_i a b c
  obtain⟨x,hx,rfl,rfl⟩:=hy
  match hl:vs.toList,hv with
  |[v1,v2,v3],hv=>
   obtain⟨h1,h2,h3,_⟩:=hv
   cases h1;cases h2;cases h3
   obtain rfl:vs=#[.int .u64 a,.int .u64 b,.int .u64 c]:=by grind
   obtain⟨hc,hx⟩:=vQ hx
   cases hx
   have hc:c=0:=by simp_all
   subst hc
   refine⟨.tuple #[.int .u64 (Int.ofNat ((a.toNat+b.toNat+0)%18446744073709551616)),.int .u64 (Int.ofNat ((a.toNat+b.toNat+0)/18446744073709551616))],w,M,?_,⟨rfl,rfl,rfl,hH,rfl,ok,.refl M⟩,?_⟩
   ·rw[run_callFunc_extern hf mh hb hn he,yWg a b w]
    rfl
   ·exact⟨#[.int .u64 (Int.ofNat ((a.toNat+b.toNat+0)%18446744073709551616)),.int .u64 (Int.ofNat ((a.toNat+b.toNat+0)/18446744073709551616))],rfl,rfl,rfl,trivial⟩
 ·exact hy.elim
end Go.Ab
