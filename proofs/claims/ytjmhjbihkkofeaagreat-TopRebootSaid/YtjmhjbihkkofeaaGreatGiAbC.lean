/- part 2 -/
import Derived.Test.YtjmhjbihkkofeaaGreatGiAbB
import Derived.ProofKit
import Derived.Below
import Derived.Carry
import Derived.Laws.Externs
set_option linter.unusedVariables false
set_option linter.unusedSimpArgs false
set_option linter.unusedSectionVars false
namespace Go.Ab
def Ex.toExit:Ex→Exit
 |.normal=>.normal
 |.ret=>.ret
 |.exit id=>.exit id
theorem Yr {P Q c}(I:Nat→Act→World→Prop)(round:∀n a w,I n a w→c.wp P (Exit.then (fun a' w'=>∃m,m<n∧I m a' w') Q) a w){n a w}(h₀:I n a w):(Code.loop c).wp P Q a w:=by
 intro b k cs
 have key:∀n a w,I n a w→∃e a' w',Q e a' w'∧Arrives P (lone (b.at a (.code c::.inLoop c::k)) cs w) b k cs e a' w':=by
  intro n
  induction n using Nat.strongRecOn with
  |_ n ih=>
   intro a w hI
   obtain⟨e,a₁,w₁,hq,gw⟩:=round n a w hI b (.inLoop c::k) cs
   cases e with
   |normal=>
    obtain⟨m,hm,hI₁⟩:=hq
    obtain⟨e₂,a₂,w₂,hq₂,harr₂⟩:=ih m hm a₁ w₁ hI₁
    exact⟨e₂,a₂,w₂,hq₂,.of_steps (Steps.trans gw (.one step_inLoop)) harr₂⟩
   |exit id=>exact⟨_,a₁,w₁,hq,.pass (x:=.inLoop c) rfl (by simp) gw⟩
   |goto l=>exact⟨_,a₁,w₁,hq,.pass (x:=.inLoop c) rfl (by simp) gw⟩
   |ret=>exact⟨_,a₁,w₁,hq,.pass (x:=.inLoop c) rfl (fun _ _=>.inl (by simp)) gw⟩
   |panic ch=>exact⟨_,a₁,w₁,hq,.pass (x:=.inLoop c) rfl (fun _ _=>.inl (by simp)) gw⟩
   |outgrown=>exact⟨_,a₁,w₁,hq,.pass (x:=.inLoop c) rfl (by simp) gw⟩
 obtain⟨e,a',w',hq,gw⟩:=key n a w h₀
 exact⟨e,a',w',hq,.of_steps (.one step_loop) gw⟩
def HN (tmps:Array Value):ResultVar→Sem Value
 |.tmp t=>pure (tmps.getD t undef)
 |.cell c t=>do loadVar t (←asAddr (tmps.getD c undef))
def tZ (base:Nat):(l:List (Ex×zG))→qs l→Ex×St
 |[],d=>(.normal,⟨fun _=>.undef,fun _=>none⟩)
 |[p],d=>(p.1,zP base p.2 d)
 |p::q::l,d=>match d with
  |.inl d=>(p.1,zP base p.2 d)
  |.inr d=>tZ base (q::l) d
theorem Ys {R base K}{out:R}:∀{l d},xk base l d K=some out→K (tZ base l d).1 (tZ base l d).2=some out
 |[p],_,h
 |p::q::l,.inl d,h=>h
 |p::q::l,.inr d,h=>Ys (l:=q::l) h
def DA (base:Nat):(l:List zG)→mW l→St
 |[],_=>⟨fun _=>.undef,fun _=>none⟩
 |[S],d=>zP base S d
 |S::T::l,d=>match d with
  |.inl d=>zP base S d
  |.inr d=>DA base (T::l) d
theorem Yt {R base K}{out:R}:∀{l d},G4 base l d K=some out→K (DA base l d)=some out
 |[S],_,h
 |S::T::l,.inl d,h=>h
 |S::T::l,.inr d,h=>Yt (l:=T::l) h
def zZ (P:Program)(pre na nt:Nat)(b:Code)(L:qA):Prop:=∀k d x,L.sum k d=some x→∀(a0:Nat→Value) (M0:zH) (w0:World) (a:Act) (w:World) (Q:Exit→Act→World→Prop),
 vD false na nt a0 M0 w0 (DA (pre+eL) L.ins d) a w→
 (∀(o:qs L.outs) a' w',(∀R K,L.elim (pre+eL) x R K=xk (pre+eL) L.outs o K)→vD false na nt a0 M0 w0 (tZ (pre+eL) L.outs o).2 a' w'→Q (tZ (pre+eL) L.outs o).1.toExit a' w')→
 (Code.loop b).wp P Q a w
def vU (P:Program)(A:qB)(pre na nt:Nat):Code→Prop
 |.seq a b=>vU P A pre na nt a∧vU P A pre na nt b
 |.cond _ a b=>vU P A pre na nt a∧vU P A pre na nt b
 |.block _ b=>vU P A pre na nt b
 |.loop b=>(∀L,qy A b=some L→zZ P pre na nt b L)∧(qy A b=none→vU P A pre na nt b)
 |_=>True
theorem Yu {A c b st}(h:st.ev c=.c (.bool b)):G5 A c b st=st:=by
 unfold G5
 split
 ·rw[Nh h]
 ·rfl
section
variable {nl:Bool} {E:Env} {A:qB} {k pre na nt:Nat} {a0:Nat→Value} {R:Type} {M0:zH} {w0:World} {out:R}
theorem Nu {a w st}(r:vD false na nt a0 M0 w0 st a w):∀{l x},xj pre l st=some x→vD false na nt a0 M0 w0 (DA (pre+eL) l x) a w
 |[S],x,h=>HM r h
 |S::T::l,x,h=>by
  unfold xj at h
  split at h
  ·rename_i d hd
   cases h
   exact HM r hd
  ·split at h
   ·rename_i d hd
    cases h
    exact Nu r (l:=T::l) hd
   ·cases h
theorem Yv (hE:dG E)(hS:fM E.sums)(hm:E.P.follows .mixedOrders=true)(Hw:nl=true→A.loops=[]):∀c,vU E.P A pre na nt c→∀st K a w Q,gf E A k pre na nt c st K=some out→vD nl na nt a0 M0 w0 st a w→
  (∀e bz a' w',vD nl na nt a0 M0 w0 bz a' w'→K e bz=some out→Q e.toExit a' w')→c.wp E.P Q a w:=by
 intro c
 induction c with
 |skip=>exact fun _ st K a w Q h r hK=>wp_skip (hK .normal st a w r h)
 |region id ops draw=>
  intro _ st K a w Q h r hK
  cases draw with
  |true=>
   cases he:CM ops with
   |false=>simp only[gf,he] at h;cases h
   |true=>
    simp only[gf,he] at h
    exact yTv hE hS hm he h r fun bz a' w' r' h'=>hK .normal bz a' w' r' h'
  |false=>
   have:=X5 hE (Q:=Q) _ _ _ _ a w (by grind) h r fun bz a' w' r' h'=>hK .normal bz a' w' r' h'
   refine wp_region ?_
   have e:(ops.toList.zipIdx.map fun p=>(p.2,p.1)).map (·.1)=List.range ops.size:=by
    rw[List.map_map]
    have e2:((fun x:Nat×Oper=>x.1)∘fun p:Oper×Nat=>(p.2,p.1))=Prod.snd:=rfl
    rw[e2,List.zipIdx_map_snd,←List.range_eq_range']
    simp
   simp_all
 |seq x y Nv Nw=>
  intro hL st K a w Q h r hK
  simp only[gf] at h
  refine wp_seq (Nv hL.1 st _ a w _ h r fun e bz a' w' r' h'=>?_)
  cases e with
  |normal=>exact Nw hL.2 bz K a' w' Q h' r' hK
  |ret=>exact hK .ret bz a' w' r' h'
  |exit id=>exact hK (.exit id) bz a' w' r' h'
 |cond c x y Nv Nw=>
  intro hL st K a w Q h r hK
  simp only[gf] at h
  split at h
  ·rename_i t ht
   obtain⟨M,_,_,_,_,hv⟩:=r.ex
   have hc:=X1 hv c
   rw[ht] at hc
   refine wp_cond (t:=t) hc ?_
   cases t with
   |true=>
    rw[Yu ht,cond_true] at h
    exact Nv hL.1 st K a w Q h r hK
   |false=>
    rw[Yu ht,cond_false] at h
    exact Nw hL.2 st K a w Q h r hK
  ·cases h
 |block id b ih=>
  intro hL st K a w Q h r hK
  simp only[gf] at h
  refine wp_block (ih hL st _ a w _ h r fun e bz a' w' r' h'=>?_)
  cases e with
  |normal=>exact hK .normal bz a' w' r' h'
  |ret=>exact hK .ret bz a' w' r' h'
  |exit i=>
   show if i=id then Q .normal a' w' else Q (.exit i) a' w'
   dsimp only at h'
   cases e:Nat.beq i id with
   |true=>
    rw[e] at h'
    rw[if_pos (by simpa using e)]
    exact hK .normal bz a' w' r' h'
   |false=>
    rw[e] at h'
    rw[if_neg (fun e'=>by simp_all)]
    exact hK (.exit i) bz a' w' r' h'
 |loop b ih=>
  intro hL st K a w Q h r hK
  simp only[gf] at h
  split at h
  ·rename_i hN
   refine Yr (fun n a w=>∃st,vD nl na nt a0 M0 w0 st a w∧L5 (gf E A k pre na nt b) n st K=some out) (fun n a w ⟨st,r,hi⟩=>?_) ⟨st,r,h⟩
   cases n with
   |zero=>cases hi
   |succ n=>
    refine ih (hL.2 hN) st _ a w _ hi r fun e bz a' w' r' h'=>?_
    cases e with
    |normal=>exact⟨n,by simp,bz,r',h'⟩
    |ret=>exact hK .ret bz a' w' r' h'
    |exit id=>exact hK (.exit id) bz a' w' r' h'
  ·rename_i L hN
   split at h
   ·cases h
   ·rename_i d hd
    obtain⟨x,hx,h⟩:=Option.bind_eq_some_iff.1 h
    cases nl with
    |true=>
     unfold qy at hN
     grind
    |false=>exact hL.1 L hN k d x hx a0 M0 w0 a w Q (Nu r hd) fun o a' w' ho r'=>hK _ _ a' w' r' (Ys (by simp_all))
 |exit id=>exact fun _ st K a w Q h r hK=>wp_exit (hK (.exit id) st a w r h)
 |ret=>exact fun _ st K a w Q h r hK=>wp_ret (hK .ret st a w r h)
 |_=>nofun
theorem Yw {a b}(h:LV a b=true):a=b:=by
 cases a<;>cases b<;>first|rfl|(cases h)|skip
 rw[Nat.eq_of_beq_eq_true h]
theorem Yx {a w st e}(r:vD false na nt a0 M0 w0 st a w):∀{l x},CO pre l e st=some x→(tZ (pre+eL) l x).1=e∧vD false na nt a0 M0 w0 (tZ (pre+eL) l x).2 a w
 |[p],x,h=>by
  obtain⟨he,h⟩:=kz h
  exact⟨Yw he,HM r h⟩
 |p::q::l,x,h=>by
  unfold CO at h
  split at h
  ·rename_i d hd
   cases h
   obtain⟨he,hd⟩:=kz hd
   exact⟨Yw he,HM r hd⟩
  ·split at h
   ·rename_i d hd
    cases h
    exact Yx r (l:=q::l) hd
   ·cases h
theorem yVm (hE:dG E)(hS:fM E.sums)(hm:E.P.follows .mixedOrders=true){b ins outs}(hL:vU E.P A pre na nt b){X} jc elim (hX:∀o R K,elim (pre+eL) (jc o) R K=xk (pre+eL) outs o K)
  (rec:Nat→Nat→mW ins→Option X) (h0:∀k d,rec k 0 d=none)
  (aC:∀k n d,rec k (n+1) d=G4 (pre+eL) ins d fun st=>gf E A k pre na nt b st (WC pre ins outs jc (rec k n))):zZ E.P pre na nt b ⟨ins,outs,X,fun k d=>rec k k d,elim⟩:=by
 intro k d x hx a0 M0 w0 a w Q r hQ
 refine Yr (fun n a w=>∃d,vD false na nt a0 M0 w0 (DA (pre+eL) ins d) a w∧rec k n d=some x) (fun n a w ⟨d,r,hi⟩=>?_) ⟨d,r,hx⟩
 cases n with
 |zero=>simp_all
 |succ n=>
  rw[aC k n d] at hi
  refine Yv hE hS hm (by simp) b hL _ _ a w _ (Yt hi) r fun e bz a' w' r' h'=>?_
  have out:∀e,(match CO pre outs e bz with|some o=>some (jc o)|none=>none)=some x→Q e.toExit a' w':=fun e h'=>by
   split at h'
   ·rename_i o ho
    obtain⟨h1,h2⟩:=Yx (pre:=pre) r' ho
    grind
   ·cases h'
  cases e with
  |normal=>
   have h':(match xj pre ins bz with|some d=>rec k n d|none=>none)=some x:=h'
   split at h'
   ·rename_i d' hd
    exact⟨n,by simp,d',Nu r' hd,h'⟩
   ·cases h'
  |ret=>exact out .ret h'
  |exit id=>exact out (.exit id) h'
theorem vIx fn tmps:results fn tmps=(do let vs←fn.results.mapM (HN tmps);pure (if h:vs.size=1 then vs[0] else .tuple vs)):=rfl
theorem vEn (hE:dG E)(hS:fM E.sums)(hm:E.P.follows .mixedOrders=true){st}{a:Act}{w x v M}(hM:M.h=st.h)(hH:M.H=w.heap)(ok:Ok M)(ht:∀t,zN M (st.t t) (a.tmps.getD t undef))(h:qz E st x=some v):
  ∃rv,(HN a.tmps x).run E.P w=.ok rv w∧zN M v rv:=by
 unfold qz at h
 split at h
 ·rename_i t
  cases h
  exact⟨_,rfl,ht t⟩
 ·rename_i c t
  split at h
  ·rename_i id off hc
   split at h
   ·split at h
    ·rename_i vs de
     have hv:=ht c
     rw[hc] at hv
     obtain⟨C,B,hC,hB,e⟩:=hv
     obtain⟨C',au,hO⟩:=ok.obj id _ (by rw[hM];omega)
     rw[hC] at au;cases au
     obtain⟨B',gk,av⟩:=WN hO
     rw[hB] at gk;cases gk
     obtain⟨rv2,ky,cw⟩:∃rv,(loadVar t ⟨B,0+off,none⟩).run E.P w=.ok rv w∧zN M v rv:=WM ok hH av de h
     refine⟨rv2,?_,cw⟩
     simp  at ky
     unfold HN
     dsimp only
     rw[e]
     simp[asAddr,ky]
    ·cases h
   ·cases h
  ·cases h
theorem vBb {M v p rv}(h:xl v=some p)(hv:zN M v rv):re M p rv:=by
 unfold xl at h
 split at h
 ·cases h;exact hv
 ·cases h;exact hv
 ·cases h
theorem Yy {M}:∀{vs xs rs},zJ (fun a b=>xl a=some b) vs xs→zJ (zN M) vs rs→zJ (re M) xs rs
 |[],[],[],_,_=>trivial
 |_::_,_::_,_::_,h,k=>⟨vBb h.1 k.1,Yy h.2 k.2⟩
theorem Yz {st}:∀(l:List ResultVar) xs,l.mapM (fun r=>(qz E st r).bind xl)=some xs→∃vs,l.mapM (qz E st)=some vs∧vs.mapM xl=some xs
 |[],xs,h=>by simp_all
 |x::l,xs,h=>by
  simp only[List.mapM_cons,Option.bind_eq_bind,Option.bind_eq_some_iff] at h
  obtain⟨p,⟨v,h1,h2⟩,ps,h3,h4⟩:=h
  obtain⟨vs,k1,k2⟩:=Yz l ps h3
  simp_all
theorem yYy (hE:dG E)(hS:fM E.sums)(hm:E.P.follows .mixedOrders=true){fn st}{a:Act}{w v M}(hM:M.h=st.h)(hH:M.H=w.heap)(ok:Ok M)(ht:∀t,zN M (st.t t) (a.tmps.getD t undef))(h:G6 E fn st=some v):
  ∃rv,(results fn a.tmps).run E.P w=.ok rv w∧zN M v rv:=by
 have one:=fun x v=>vEn hE hS hm (x:=x) (v:=v) hM hH ok ht
 have key:∀(l:List ResultVar) (vs:List zQ),l.mapM (qz E st)=some vs→∃rs:List Value,(l.mapM (HN a.tmps)).run E.P w=.ok rs w∧zJ (zN M) vs rs:=by
  intro l
  induction l with
  |nil=>exact fun vs h=>by simp at h;subst h;exact⟨[],rfl,trivial⟩
  |cons x l ih=>
   intro vs h
   simp[Option.bind_eq_some_iff] at h
   obtain⟨v,h1,Mx,h2,h3⟩:=h
   cases h3
   obtain⟨rv,k1,k2⟩:=one x v h1
   obtain⟨rs,k3,k4⟩:=ih Mx h2
   refine⟨rv::rs,?_,k2,k4⟩
   simp_all
 have run:∀(vs:List zQ),fn.results.toList.mapM (qz E st)=some vs→∃rs:List Value,(results fn a.tmps).run E.P w=.ok (if h:rs.length=1 then rs[0] else .tuple rs.toArray) w∧zJ (zN M) vs rs:=fun vs h=>by
  obtain⟨rs,k1,k2⟩:=key _ vs h
  refine⟨rs,?_,k2⟩
  rw[vIx,Array.mapM_eq_mapM_toList]
  simp_all
 unfold G6 at h
 split at h
 ·cases h
  obtain⟨rs,k1,k2⟩:=run [] (by simp_all)
  cases rs with
  |cons _ _=>exact k2.elim
  |nil=>exact⟨_,k1,#[],rfl,trivial⟩
 ·obtain⟨rs,k1,k2⟩:=run [v] (by simp_all)
  match rs,k2 with
  |[r],k2=>exact⟨_,k1,k2.1⟩
 ·split at h
  ·rename_i xs Dr
   cases h
   obtain⟨vs,k1,k2⟩:=Yz _ _ Dr
   obtain⟨rs,r1,r2⟩:=run vs k1
   have hlen:rs.length≠1:=fun e=>by
    have e1:=r2.length
    have e2:=(Dq _ _ _ k1).length
    have h3:fn.results.toList.length=1:=by omega
    match hl:fn.results.toList,h3 with
    |[x],_=>simp_all
   rw[dif_neg hlen] at r1
   exact⟨_,r1,rs.toArray,rfl,Yy (Dq _ _ _ k2) r2⟩
  ·cases h
theorem Nx (hE:dG E)(hS:fM E.sums)(hm:E.P.follows .mixedOrders=true){f fn}(hf:E.P.funcs[f]? =some fn)(hL:∀c,fn.body=some c→vU E.P A pre na fn.ntmps c){args h K}(aG:gg E A k pre na fn args h K=some out){M w vs}(hh:M.h=h)(hH:M.H=w.heap)(ok:Ok M)
  (hv:zJ (zN M) args vs.toList):Calls E.P f vs w fun
   |.returned rv,w'=>∃(M':zH) (v:zQ) (st:St),K v st=some out∧M'.h=st.h∧M'.H=w'.heap∧Ok M'∧fO M M'∧(A.loops=[]→jq M M')∧zN M' v rv∧w'.os=w.os∧w'.tape=w.tape∧w'.output=w.output∧
     (∀t,t<na→zN M' (st.t t) (vs.getD t undef))
   |_,_=>False:=by
 unfold gg at aG
 cases hb:fn.body with
 |none=>simp_all
 |some c=>
  rw[hb] at aG
  dsimp only at aG
  cases hle:Nat.ble args.length fn.ntmps with
  |false=>simp_all
  |true=>
   rw[hle] at aG
   rw[cond_true] at aG
   have hl:=hv.length
   have hle:args.length≤fn.ntmps:=Nat.le_of_ble_eq_true hle
   have cN:vs.size≤fn.ntmps:=by simp at hl;omega
   have DB:∀t,zN M (G7 args t) ((vs++Array.replicate (fn.ntmps-vs.size) undef).getD t undef):=fun t=>by
    unfold G7
    by_cases ht:t<args.length
    ·have Ny:t<vs.size:=by simp at hl;omega
     have:=hv.get t ht (by simpa using Ny)
     simp only[List.getD_eq_getElem?_getD,List.getElem?_eq_getElem ht,Option.getD_some]
     simp only[Array.getD_eq_getD_getElem?,Array.getElem?_append_left Ny,Array.getElem?_eq_getElem Ny,Option.getD_some]
     simpa using this
    ·simp only[List.getD_eq_getElem?_getD,List.getElem?_eq_none (Nat.not_lt.1 ht),Option.getD_none]
     show _=undef
     simp
     grind
   have r:vD A.loops.isEmpty na fn.ntmps (fun t=>(vs++Array.replicate (fn.ntmps-vs.size) undef).getD t undef) M w {t:=G7 args,h:=h} {tmps:=vs++Array.replicate (fn.ntmps-vs.size) undef,defers:=[]} w:=
    ⟨⟨M,hh,hH,ok,⟨.refl M,fun _ _ C h=>⟨C,h,rfl⟩⟩,DB⟩,rfl,by simp;omega,rfl,rfl,rfl,fun _ _=>rfl⟩
   refine calls_of_wp hf hb (Yv hE hS hm (by simp) c (hL c hb) _ _ _ _ _ aG r fun e bz a' w' r' hK=>?_)
   obtain⟨M',q1,q2,q3,q4,q5⟩:=r'.ex
   have fin:∀v,G6 E fn bz=some v→K v bz=some out→a'.defers=[]∧∃rv,(results fn a'.tmps).run E.P w'=.ok rv w'∧∃(M':zH) (v:zQ) (st:St),K v st=some out∧M'.h=st.h∧M'.H=w'.heap∧Ok M'∧fO M M'∧(A.loops=[]→jq M M')∧zN M' v rv∧w'.os=w.os∧w'.tape=w.tape∧w'.output=w.output∧
     (∀t,t<na→zN M' (st.t t) (vs.getD t undef)):=fun v iB hK=>by
    obtain⟨rv,k1,k2⟩:=yYy hE hS hm q1 q2 q3 q5 iB
    refine⟨r'.defers,rv,k1,M',v,bz,hK,q1,q2,q3,q4.g,fun h=>q4.k (by grind),k2,r'.os,r'.tape,r'.output,fun t ht=>?_⟩
    have:=q5 t
    rw[r'.keep t ht] at this
    have e:(vs++Array.replicate (fn.ntmps-vs.size) undef).getD t undef=vs.getD t undef:=by
     by_cases h1:t<vs.size
     ·simp[Array.getD_eq_getD_getElem?,Array.getElem?_append_left h1]
     ·simp
      grind
    simp_all
   cases e with
   |exit id=>cases hK
   |normal=>
    dsimp only at hK
    split at hK
    ·rename_i v iB
     exact fin v iB hK
    ·cases hK
   |ret=>
    dsimp only at hK
    split at hK
    ·rename_i v iB
     exact fin v iB hK
    ·cases hK
end
inductive PC where
 |int (k:IntKind)|bool|dat (sh:Bool) (t:Ty)|fn (f:Nat)
 |nil|nilp
abbrev PC.den:PC→Type
 |.int _=>Int|.bool=>Bool|.dat _ t=>List t.den|.fn _=>Unit|.nil=>Unit|.nilp=>Unit
abbrev PL:List PC→Type
 |[]=>Unit
 |p::l=>p.den×PL l
inductive AS where
 |c (p:PC)|agg (l:List PC)|ptr (l:List PC)|fn (f:Nat) (ba:List (List PC))
def AS.cells:AS→List PC
 |.c p=>[p]
 |.agg l=>l
 |.ptr l=>l
 |.fn _ ba=>ba.flatten
abbrev AD (l:List AS):Type:=PL (l.flatMap AS.cells)
def ua (h:Hp)(t:Ty):zS→Option (List t.den)
 |.nsl=>some []
 |c=>match gd h c with
  |some ⟨s,xs⟩=>eG s t xs
  |none=>none
def pc (h:Hp):(p:PC)→zS→Option p.den
 |.int k,.int j n=>bif dB j k then some n else none
 |.bool,.bool b=>some b
 |.dat false t,c=>ua h t c
 |.dat true t,.fsl true s xs=>eG s t xs
 |.dat true t,.nsl=>some []
 |.fn f,.fn g []=>bif Nat.beq f g then some () else none
 |.nil,.nsl=>some ()
 |.nilp,.nilp=>some ()
 |_,_=>none
def ub (h:Hp):(l:List PC)→List zS→Option (PL l)
 |[],[]=>some ()
 |p::l,c::cs=>match pc h p c,ub h l cs with
  |some d,some ds=>some (d,ds)
  |_,_=>none
 |_,_=>none
def xQ (h:Hp)(id:Nat):Option (List zS):=match h id with
 |some (.box _ cells)=>some cells
 |some (.robox cells)=>some cells
 |_=>none
def pg (h:Hp):List (List PC)→List Nat→Option (List zS)
 |[],[]=>some []
 |l::ls,id::ids=>match xQ h id,pg h ls ids with
  |some cells,some rest=>bif Nat.beq cells.length l.length then some (cells++rest) else none
  |_,_=>none
 |_,_=>none
def AS.get (h:Hp):AS→zQ→Option (List zS)
 |.c _,.c x=>some [x]
 |.agg l,.agg xs=>bif Nat.beq xs.length l.length then some xs else none
 |.ptr l,.c (.ptr id 0)=>pg h [l] [id]
 |.fn f ba,.c (.fn g ids)=>bif Nat.beq f g then pg h ba ids else none
 |_,_=>none
def nA (h:Hp):List AS→List zQ→Option (List zS)
 |[],[]=>some []
 |s::l,a::as=>match s.get h a,nA h l as with
  |some cs,some rest=>some (cs++rest)
  |_,_=>none
 |_,_=>none
def uc (h:Hp) l (as:List zQ):Option (AD l):=match nA h l as with
 |some cs=>ub h (l.flatMap AS.cells) cs
 |none=>none
def xR:(p:PC)→p.den→zS
 |.int k,n=>.int k n
 |.bool,b=>.bool b
 |.dat sh t,xs=>.fsl sh t xs
 |.fn f,_=>.fn f []
 |.nil,_=>.nsl
 |.nilp,_=>.nilp
def vJ:(l:List PC)→PL l→List zS
 |[],_=>[]
 |p::l,d=>xR p d.1::vJ l d.2
def HO:List (List PC)→List zS→List (List zS)
 |[],_=>[]
 |l::ls,cs=>cs.take l.length::HO ls (cs.drop l.length)
def AS.mk (n:Nat)(cs:List zS):AS→zQ
 |.c _=>match cs with|x::_=>.c x|[]=>.undef
 |.agg _=>.agg cs
 |.ptr _=>.c (.ptr n 0)
 |.fn f ba=>.c (.fn f ((List.range ba.length).map (n+·)))
def AS.boxes (cs:List zS):AS→List (List zS)
 |.ptr _=>[cs]
 |.fn _ ba=>HO ba cs
 |_=>[]
def iC:List AS→List zS→Nat→List zQ×List (List zS)
 |[],_,_=>([],[])
 |s::l,cs,n=>
  let ai:=cs.take s.cells.length
  let bs:=s.boxes ai
  let rest:=iC l (cs.drop s.cells.length) (n+bs.length)
  (s.mk n ai::rest.1,bs++rest.2)
def iD (bs:List (List zS)):Hp:=fun n=>match bs[n]? with
 |some cells=>some (.robox cells)
 |none=>none
def me l (d:AD l):List zQ×Hp:=
 let r:=iC l (vJ (l.flatMap AS.cells) d) 0
 (r.1,iD r.2)
inductive RC where
 |int (k:IntKind)|bool|fro (t:Ty)|own (t:Ty)|mat
 |jun
 |map
 |nilp|link (j:Nat)
abbrev RC.den:RC→Type
 |.int _=>Int|.bool=>Bool|.fro t=>List t.den|.own t=>List t.den|.mat=>List (List Int)|.jun=>Nat|.map=>List (Int×Bool)|.nilp=>Unit|.link _=>Unit
abbrev RL:List RC→Type
 |[]=>Unit
 |r::l=>r.den×RL l
inductive RS where
 |c (r:RC)|agg (l:List RC)|tup (l:List (Bool×List RC))
def RS.cells:RS→List RC
 |.c r=>[r]
 |.agg l=>l
 |.tup l=>l.flatMap (·.2)
def Nz:List (Bool×List RC)→List (Bool×List zS)→Option (List zS)
 |[],[]=>some []
 | (b, l) :: ls, (g, cs) :: rest => bif (bif b then g else !g && Nat.beq cs.length 1) && Nat.beq cs.length l.length then (match Nz ls rest with
   |some r=>some (cs++r)
   |none=>none) else none
 |_,_=>none
def RS.get:RS→zQ→Option (List zS)
 |.c _,.c x=>some [x]
 |.agg l,.agg xs=>bif Nat.beq xs.length l.length then some xs else none
 |.tup l,.tup xs=>Nz l xs
 |_,_=>none
def NA:List (Bool×List RC)→List zS→List (Bool×List zS)
 |[],_=>[]
 |(b,l)::ls,cs=>(b,cs.take l.length)::NA ls (cs.drop l.length)
def RS.mk (cs:List zS):RS→zQ
 |.c _=>match cs with|x::_=>.c x|[]=>.undef
 |.agg _=>.agg cs
 |.tup l=>.tup (NA l cs)
def dH (h:Hp):List Bool→List zS→Option (List zS×yR)
 |true::l,c::cs=>match kZ h c,dH h l cs with
  |some (c,u),some (cs,us)=>some (c::cs,u++us)
  |_,_=>none
 |false::l,c::cs=>match dH h l cs with
  |some (cs,us)=>some (c::cs,us)
  |none=>none
 |_,cs=>some (cs,[])
def RC.isFro:RC→Bool
 |.fro _=>true
 |_=>false
def PC.isKept:PC→Bool
 |.dat true _=>true
 |_=>false
def mf (h:Hp):(r:RC)→zS→Option r.den
 |.int k,.int j n=>bif dB j k then some n else none
 |.bool,.bool b=>some b
 |.fro t,.fsl true s xs=>eG s t xs
 |.fro t,.nsl=>some []
 |.own t,.osl id none=>match h id with
  |some (.arr true s xs)=>eG s t xs
  |_=>none
 |.own t,.osl id (some (0,n))=>match h id with
  |some (.arr true s xs)=>eG s t (xs.take n)
  |_=>none
 |.own t,.nsl=>some []
 |.mat,.osl id none=>match h id with
  |some (.mat _ xs)=>some xs
  |some (.pmat _ xs n)=>bif Nat.beq xs.length n then some xs else none
  |_=>none
 |.mat,.nsl=>some []
 |.jun,.osl id none=>match h id with
  |some (.arr true (.sl (.int .i64)) xs)=>some xs.length
  |_=>none
 |.jun,.nsl=>some 0
 |.map,.map id=>match h id with
  |some (.imap cj)=>some cj
  |_=>none
 |.nilp,.nilp=>some ()
 |.link _,.ptr _ 0=>some ()
 |_,_=>none
def gx (h:Hp):(l:List RC)→List zS→Option (RL l)
 |[],[]=>some ()
 |r::l,c::cs=>match mf h r c,gx h l cs with
  |some d,some ds=>some (d,ds)
  |_,_=>none
 |_,_=>none
def vO:List RC→List zS→List Nat
 |.own _::l,.osl id _::cs=>id::vO l cs
 |.mat::l,.osl id _::cs=>id::vO l cs
 |.jun::l,.osl id _::cs=>id::vO l cs
 |.map::l,.map id::cs=>id::vO l cs
 |_::l,_::cs=>vO l cs
 |_,_=>[]
def DC (h:Hp)(s:RS)(v:zQ):Option (RL s.cells):=match s.get v with
 |some cs=>match dH h (s.cells.map RC.isFro) cs with
  |some (cs,u)=>bif oF (vO s.cells cs) then gx (qC h u) s.cells cs else none
  |none=>none
 |none=>none
def jt (rs:RS){X:Type}(unpack:RL rs.cells→X)(v:zQ)(st:St):Option X:=match DC st.h rs v with
 |some d=>some (unpack d)
 |none=>none
def nB (nm:Nat):(r:RC)→r.den→zS×yR
 |.int k,n=>(.int k n,[])
 |.bool,b=>(.bool b,[])
 |.fro t,xs=>(.fsl true t xs,[])
 |.own t,xs=>(.osl nm none,[(nm,.arr true t xs)])
 |.mat,xs=>(.osl nm none,[(nm,.mat 0 xs)])
 |.jun,n=>(.osl nm none,[(nm,.pmat 0 [] n)])
 |.map,cj=>(.map nm,[(nm,.imap cj)])
 |.nilp,_=>(.nilp,[])
 |.link _,_=>(.undef,[])
def ll (nm:Nat):(l:List RC)→RL l→List zS×yR
 |[],_=>([],[])
 |r::l,d=>
  let x:=nB nm r d.1
  let y:=ll (nm+1) l d.2
  (x.1::y.1,x.2++y.2)
def YA (nm:Nat)(s:RS)(d:RL s.cells):zQ×yR:=
 let r:=ll nm s.cells d
 (s.mk r.1,r.2)
def rG (h:Hp):Nat→Nat→Bool
 |_,0=>true
 |nm,n+1=>(match h nm with|none=>true|some _=>false)&&rG h (nm+1) n
def rH (h:Hp):AS→zQ→Option (zQ×yR)
 |.c p,.c x=>match dH h [p.isKept] [x] with
  |some ([x],u)=>some (.c x,u)
  |_=>none
 |.agg l,.agg xs=>match dH h (l.map PC.isKept) xs with
  |some (xs,u)=>some (.agg xs,u)
  |none=>none
 |_,a=>some (a,[])
def nC (h:Hp):List AS→List zQ→Option (List zQ×yR)
 |s::l,a::as=>match rH h s a,nC h l as with
  |some (a,u),some (as,us)=>some (a::as,u++us)
  |_,_=>none
 |_,as=>some (as,[])
def lq as (rs:RS){X}(S:AD as→Option X)(pack:X→RL rs.cells)(nm:Nat)(args:List zQ)(h:Hp):yI:=
 match nC h as args with
 |none=>.stuck
 |some (args,u)=>match uc (qC h u) as args with
  |some d=>bif rG h nm rs.cells.length&&Nat.ble rs.cells.length 100 then .call X (S d) (fun r=>((YA nm rs (pack r)).1,u++(YA nm rs (pack r)).2)) else .stuck
  |none=>.stuck
structure Lo (M Ml:zH):Prop where
 H:Ml.H=M.H
 F:Ml.F=fun b=>b<M.H.size
 G:Ml.G=M.G
theorem NB {M M':zH}(ok:Ok M')(hH:M'.H=M.H){t}{xs:List t.den}{v}(h:zV M'.H M'.G (.sl t) xs (fun _=>some v)):zV M.H (fun b=>b<M.H.size) (.sl t) xs (fun _=>some v):=by
 refine yO (fun b hb=>?_) (by grind) _ _ _ _ (by simp) h
 have:=ok.Flt b (ok.GF b hb)
 simp_all
theorem vBh {M}(ok:Ok M){c v t xs}(hv:zR M c v)(h:gd M.h c=some ⟨t,xs⟩):zV M.H (fun b=>b<M.H.size) (.sl t) xs (fun _=>some v):=by
 unfold gd at h
 split at h
 ·rename_i sh s ys
  cases h
  cases sh with
  |true=>exact yO (fun b hb=>ok.Flt b (ok.GF b hb)) (by simp) _ _ _ _ (fun _ _=>rfl) hv
  |false=>exact yO (fun b hb=>ok.Flt b hb) (by simp) _ _ _ _ (fun _ _=>rfl) hv
 ·rename_i id r
  split at h
  ·rename_i own s ys ab
   cases h
   cases own with
   |false=>
    obtain⟨C,hC,hO⟩:=ok.obj _ _ ab
    exact NB ok rfl (tA hC hO hv)
   |true=>
    obtain⟨M',h1,h2,h3,h4⟩:=WS ok ab
    obtain⟨C,hC,hO⟩:=h3.obj id _ (by rw[h2];exact yE _ _ _)
    exact NB h3 h1 (tA hC hO (hv.ext h4.ext))
  ·rename_i ver ys ab
   cases r with
   |some p=>cases h
   |none=>
    cases h
    obtain⟨M',h1,h2,h3,h4⟩:=WU ok ab
    obtain⟨C,hC,hO⟩:=h3.obj id _ (by rw[h2];exact yE _ _ _)
    exact NB h3 h1 (tA (r:=none) hC hO (hv.ext h4.ext))
  ·cases h
 ·rename_i id i ver
  split at h
  ·rename_i v' ys ab
   cases dp:Nat.beq v' ver with
   |false=>simp_all
   |true=>
    rw[dp] at h
    cases h
    have e:v'=ver:=by simpa using dp
    subst e
    obtain⟨C,hC,hO⟩:=ok.obj _ _ ab
    obtain⟨C',au,bP,_,aL⟩:=hv
    rw[hC] at au;cases au
    obtain⟨rb,rl,Dm,ru⟩:=aL hO.1
    by_cases hi:i<ys.length
    ·obtain⟨B,l8,v2,k1,k2,k3,k4,k5,k6⟩:=xo hO hi
     rw[Dm] at k3
     cases k3
     rw[show ys.getD i []=ys[i] by simp_all]
     simp only[zV]
     cases rb with
     |none=>
      obtain⟨rfl,h0⟩:=ru
      grind
     |some R=>
      obtain⟨a,c,rfl,h1,h2,h3⟩:=ru
      refine⟨_,_,c,rfl,rfl,h1,?_⟩
      by_cases h0:ys[i].length=0
      ·simp_all
      ·have ha:a=0:=by omega
       subst ha
       refine .inr ⟨R,0,rfl,?_,fun j hj=>?_⟩
       ·have:=k6 R rfl 0 (by omega)
        unfold yF at this
        grind
       ·simp only[Ty.size]
        simp_all
    ·have:C.rows[i]? =none:=List.getElem?_eq_none (by have:=hO.2.2.2.1;omega)
     simp_all
  ·cases h
 ·cases h
theorem DD {H F t}:zV H F (.sl t) ([]:List t.den) (fun _=>some (.slice none 0 0)):=⟨none,0,0,rfl,rfl,by simp,by simp⟩
theorem vDf {M}(ok:Ok M){c v t xs}(hv:zR M c v)(h:ua M.h t c=some xs):zV M.H (fun b=>b<M.H.size) (.sl t) xs (fun _=>some v):=by
 unfold ua at h
 split at h
 ·cases h
  rw[show v=.slice none 0 0 from hv]
  exact DD
 ·split at h
  ·rename_i s ys hr
   obtain⟨e,hx⟩:=gW h
   subst e
   subst hx
   exact vBh ok hv hr
  ·cases h
def Tr (M:zH)(c c':zS):Prop:=∀v Ml,Lo M Ml→zR M c v→zR Ml c' v
theorem yTm {M}(ok:Ok M){p c d}(h:pc M.h p c=some d):Tr M c (xR p d):=by
 intro v Ml lo hv
 unfold pc at h
 split at h
 ·rename_i k j n
  cases e:dB j k with
  |false=>simp_all
  |true=>rw[e] at h;cases h;rw[←oC e];exact hv
 ·cases h;exact hv
 ·have:=vDf ok hv h
  show zV Ml.H Ml.F _ _ _
  rw[lo.H,lo.F]
  omega
 ·obtain⟨e,hx⟩:=gW h
  subst e
  subst hx
  show zV Ml.H Ml.G _ _ _
  rw[lo.H,lo.G]
  exact hv
 ·cases h
  rw[show v=.slice none 0 0 from hv]
  exact DD
 ·rename_i f g
  cases e:Nat.beq f g with
  |false=>simp_all
  |true=>
   have:f=g:=by simp_all
   subst this
   obtain⟨cv,rfl,hc⟩:=hv
   refine⟨cv,rfl,?_⟩
   generalize cv.toList=l at hc
   cases l with
   |nil=>trivial
   |cons _ _=>exact hc.elim
 ·exact hv
 ·exact hv
 ·cases h
theorem YB {M}(ok:Ok M):∀{l cs d},ub M.h l cs=some d→zJ (Tr M) cs (vJ l d)
 |[],[],_,_=>trivial
 |p::l,c::cs,d,h=>by
  unfold ub at h
  split at h
  ·rename_i x xs h1 h2
   cases h
   exact⟨yTm ok h1,YB ok h2⟩
  ·cases h
theorem NC {M Ml}(lo:Lo M Ml):∀{cs aF vs},zJ (Tr M) cs aF→zJ (zR M) cs vs→zJ (zR Ml) aF vs
 |[],[],[],_,_=>trivial
 |_::_,_::_,_::_,h,k=>⟨h.1 _ _ lo k.1,NC lo h.2 k.2⟩
def rI (M:zH)(C:zT)(cells:List zS):Prop:=∃B vals e,C.blk=some B∧C.rows=[]∧M.H[B]? =some (.cells vals e (0,0))∧zJ (zR M) cells vals.toList
theorem YC {M}(ok:Ok M){id cells}(h:xQ M.h id=some cells):∃C,M.κ id=some C∧rI M C cells:=by
 unfold xQ at h
 split at h
 ·rename_i own cs ab
  cases h
  obtain⟨C,hC,B,vals,e,h1,h2,h3,h4,_⟩:=ok.obj id _ ab
  exact⟨C,hC,B,vals,e,h1,h2,h3,h4⟩
 ·rename_i cs ab
  cases h
  obtain⟨C,hC,B,vals,e,h1,h2,h3,h4,_⟩:=ok.obj id _ ab
  exact⟨C,hC,B,vals,e,h1,h2,h3,h4⟩
 ·cases h
theorem rI.tr {M Ml}(lo:Lo M Ml){C cs aF}(h:rI M C cs)(ht:zJ (Tr M) cs aF):rI Ml C aF:=by
 obtain⟨B,vals,e,h1,h2,h3,h4⟩:=h
 exact⟨B,vals,e,h1,h2,by rw[lo.H];exact h3,NC lo ht h4⟩
theorem ND {M}(ok:Ok M):∀{ls ids cs aF},pg M.h ls ids=some cs→zJ (Tr M) cs aF→cs.length=ls.flatten.length∧ids.length=ls.length∧
  ∃Cs:List zT,zJ (fun id C=>M.κ id=some C) ids Cs∧∀Ml,Lo M Ml→zJ (rI Ml) Cs (HO ls aF)
 |[],[],cs,aF,h,ht=>by cases h;exact⟨rfl,rfl,[],trivial,fun _ _=>trivial⟩
 |l::ls,id::ids,cs,aF,h,ht=>by
  unfold pg at h
  split at h
  ·rename_i cells rest h1 h2
   obtain⟨hl,h⟩:cells.length=l.length∧cells++rest=cs:=by
    cases e:Nat.beq cells.length l.length with
    |false=>simp_all
    |true=>simp_all
   subst h
   have lr:=zJ.take l.length ht
   have kA:=zJ.drop l.length ht
   rw[←hl,List.take_left] at lr
   rw[←hl,List.drop_left] at kA
   obtain⟨C,hC,hB⟩:=YC ok h1
   obtain⟨k1,k2,Cs,k3,k4⟩:=ND ok h2 kA
   refine⟨by simp_all,by simp[k2],C::Cs,⟨hC,k3⟩,fun Ml lo=>⟨?_,?_⟩⟩
   ·rw[←hl];exact hB.tr lo lr
   simp_all
  ·cases h
theorem vGp {M}(ok:Ok M){s:AS}{a v cs aF n}(hv:zN M a v)(h:s.get M.h a=some cs)(ht:zJ (Tr M) cs aF):
  ∃Cs:List zT,(∀Ml,Lo M Ml→zJ (rI Ml) Cs (s.boxes aF))∧(∀Ml,Lo M Ml→(∀i C,Cs[i]? =some C→Ml.κ (n+i)=some C)→zN Ml (s.mk n aF) v):=by
 unfold AS.get at h
 split at h
 ·cases h
  match aF,ht with
  |[c'],ht=>exact⟨[],fun _ _=>trivial,fun Ml lo _=>ht.1 v Ml lo hv⟩
 ·rename_i l xs
  cases e:Nat.beq xs.length l.length with
  |false=>simp_all
  |true=>
   rw[e] at h
   cases h
   obtain⟨vs,rfl,hx⟩:=hv
   exact⟨[],fun _ _=>trivial,fun Ml lo _=>⟨vs,rfl,NC lo ht hx⟩⟩
 ·rename_i l id
  have:=ND ok h ht
  obtain⟨k1,k2,Cs,k3,k4⟩:=this
  obtain⟨C,B,hC,hB,e⟩:=hv
  have hl:aF.length=l.length:=by rw[←ht.length,k1];simp
  match Cs,k3 with
  |[C'],k3=>
   have e':C'=C:=by
    have:M.κ id=some C':=k3.1
    simp_all
   subst e'
   refine⟨[C'],fun Ml lo=>?_,fun Ml lo hκ=>⟨C',B,hκ 0 C' rfl,hB,e⟩⟩
   have:=k4 Ml lo
   simp[HO] at this
   rw[List.take_of_length_le (by omega)] at this
   exact this
 ·rename_i f ba g ids
  cases e:Nat.beq f g with
  |false=>simp_all
  |true=>
   rw[e] at h
   have NF:f=g:=by simp_all
   subst NF
   obtain⟨k1,k2,Cs,k3,k4⟩:=ND ok h ht
   refine⟨Cs,k4,fun Ml lo hκ=>?_⟩
   obtain⟨cv,rfl,hc⟩:=hv
   refine⟨cv,rfl,?_⟩
   have l1:=k3.length
   have l2:=hc.length
   refine zJ.of_get (by simp_all) fun i h1 h2=>?_
   simp
   have hi:i<ids.length:=by omega
   have bm:i<Cs.length:=by omega
   obtain⟨C,B,q1,q2,q3⟩:=hc.get i hi h2
   have q4:=k3.get i hi bm
   simp_all
 ·cases h
theorem NG {h}:∀{ls ids cs},pg h ls ids=some cs→cs.length=ls.flatten.length
 |[],[],cs,e=>by cases e;rfl
 |l::ls,id::ids,cs,e=>by
  unfold pg at e
  split at e
  ·rename_i cells rest h1 h2
   cases el:Nat.beq cells.length l.length with
   |false=>simp_all
   |true=>
    rw[el] at e
    cases e
    have:cells.length=l.length:=by simp_all
    simp[this,NG h2]
  ·cases e
theorem vFj {h}{s:AS}{a cs}(e:s.get h a=some cs):cs.length=s.cells.length:=by
 unfold AS.get at e
 split at e
 ·cases e;rfl
 ·rename_i l xs
  cases el:Nat.beq xs.length l.length with
  |false=>simp_all
  |true=>rw[el] at e;cases e;exact Nat.eq_of_beq_eq_true el
 ·rw[NG e];simp[AS.cells]
 ·rename_i f ba g ids
  cases el:Nat.beq f g with
  |false=>simp_all
  |true=>rw[el] at e;exact NG e
 ·cases e
theorem YD {M}(ok:Ok M):∀{l as vs cs aF n},zJ (zN M) as vs→nA M.h l as=some cs→zJ (Tr M) cs aF→
  ∃Cs:List zT,(∀Ml,Lo M Ml→zJ (rI Ml) Cs (iC l aF n).2)∧(∀Ml,Lo M Ml→(∀i C,Cs[i]? =some C→Ml.κ (n+i)=some C)→zJ (zN Ml) (iC l aF n).1 vs)
 |[],[],[],cs,aF,n,_,_,_=>⟨[],fun _ _=>trivial,fun _ _ _=>trivial⟩
 |s::l,a::as,v::vs,cs,aF,n,hv,h,ht=>by
  unfold nA at h
  split at h
  ·rename_i jm rest h1 h2
   cases h
   have hl:=vFj h1
   have lr:=zJ.take s.cells.length ht
   have kA:=zJ.drop s.cells.length ht
   rw[←hl,List.take_left,hl] at lr
   rw[←hl,List.drop_left,hl] at kA
   obtain⟨C1,k1,k2⟩:=vGp ok (n:=n) hv.1 h1 lr
   obtain⟨C2,k3,k4⟩:=YD ok (n:=n+(s.boxes (aF.take s.cells.length)).length) hv.2 h2 kA
   refine⟨C1++C2,fun Ml lo=>(k1 Ml lo).append (k3 Ml lo),fun Ml lo hκ=>⟨k2 Ml lo fun i C hi=>hκ i C ?_,k4 Ml lo fun i C hi=>?_⟩⟩
   ·grind
   ·have hb:=(k1 Ml lo).length
    have:=hκ (C1.length+i) C (by grind)
    grind
  ·cases h
def zH.below (M:zH)(Cs:List zT)(bs:List (List zS)):zH:={κ:=fun n=>Cs[n]?,F:=fun b=>b<M.H.size,G:=M.G,h:=iD bs,H:=M.H}
theorem zH.below_lo M Cs bs:Lo M (M.below Cs bs):=⟨rfl,rfl,rfl⟩
theorem zH.below_ok {M}(ok:Ok M){Cs bs}(h:zJ (rI (M.below Cs bs)) Cs bs):Ok (M.below Cs bs)∧∀b,¬qH (M.below Cs bs) b:=by
 have hr:∀id o,(M.below Cs bs).h id=some o→∃cells,bs[id]? =some cells∧o=.robox cells:=fun id o e=>by
  have e:iD bs id=some o:=e
  unfold iD at e
  grind
 have DE:∀b,¬qH (M.below Cs bs) b:=fun b ⟨id,o,C,h1,h2,_,_⟩=>by
  obtain⟨cells,_,rfl⟩:=hr id o h1
  cases h2
 refine⟨⟨fun id o e=>?_,fun id e=>?_,fun i j oi oj Ci Cj b _ h1 _ h3 _ _ _ _ _=>?_,by grind,fun b hb=>ok.Flt b (ok.GF b hb),fun b hb=>hb⟩,DE⟩
 ·obtain⟨cells,hc,rfl⟩:=hr id o e
  have aS:id<bs.length:=by
   grind
  have gh:id<Cs.length:=by rw[h.length];omega
  obtain⟨B,vals,ev,q1,q2,q3,q4⟩:=h.get id gh aS
  rw[List.getElem?_eq_getElem aS] at hc
  cases hc
  refine⟨Cs[id],List.getElem?_eq_getElem gh,B,vals,ev,q1,q2,q3,q4,?_⟩
  exact(Array.getElem?_eq_some_iff.1 q3).1
 ·have e:iD bs id=none:=e
  unfold iD at e
  split at e
  ·cases e
  ·rename_i hc
   show Cs[id]? =none
   rw[List.getElem?_eq_none_iff] at hc⊢
   rw[h.length];exact hc
 ·obtain⟨cells,_,rfl⟩:=hr i oi h1
  cases h3
theorem vJ9 {M}(ok:Ok M){l as vs d}(hv:zJ (zN M) as vs)(h:uc M.h l as=some d):
  ∃Ml:zH,Lo M Ml∧Ml.h=(me l d).2∧Ok Ml∧(∀b,¬qH Ml b)∧zJ (zN Ml) (me l d).1 vs:=by
 unfold uc at h
 split at h
 ·rename_i cs hg
  obtain⟨Cs,h1,h2⟩:=YD ok (n:=0) hv hg (YB ok h)
  have lo:=M.below_lo Cs (iC l (vJ (l.flatMap AS.cells) d) 0).2
  have:=zH.below_ok ok (h1 _ lo)
  exact⟨_,lo,rfl,this.1,this.2,h2 _ lo fun i C hi=>by rw[Nat.zero_add];exact hi⟩
 ·cases h
theorem rJ {h0}:∀{l cs aF vs u M},Ok M→wK h0 M.h→zJ (zR M) cs vs→dH h0 l cs=some (aF,u)→
  ∃L:zH,L.H=M.H∧L.h=qC M.h u∧Ok L∧yN M L∧zJ (zR L) aF vs∧wK h0 L.h
 |[],cs,aF,vs,u,M,ok,hf,hc,h=>by
  cases cs<;>cases h<;>exact⟨M,rfl,rfl,ok,.refl M,hc,hf⟩
 |true::l,[],aF,vs,u,M,ok,hf,hc,h
 |false::l,[],aF,vs,u,M,ok,hf,hc,h=>by cases h;exact⟨M,rfl,rfl,ok,.refl M,hc,hf⟩
 |true::l,c::cs,aF,v::vs,u,M,ok,hf,hc,h=>by
  unfold dH at h
  split at h
  ·rename_i c1 u1 jm nf e1 e2
   cases h
   obtain⟨M1,h1,h2,h3,h4,h5,h6,_⟩:=CT ok hf hc.1 e1
   obtain⟨M2,k1,k2,k3,k4,k5,k6⟩:=rJ h3 h6 (hc.2.mono fun _ _ h=>h.ext h4.ext) e2
   exact⟨M2,k1.trans h1,by rw[k2,h2,gV],k3,h4.trans k4,⟨h5.ext k4.ext,k5⟩,k6⟩
  ·cases h
 |false::l,c::cs,aF,v::vs,u,M,ok,hf,hc,h=>by
  unfold dH at h
  split at h
  ·rename_i jm nf e2
   cases h
   obtain⟨M2,k1,k2,k3,k4,k5,k6⟩:=rJ ok hf hc.2 e2
   exact⟨M2,k1,k2,k3,k4,⟨hc.1.ext k4.ext,k5⟩,k6⟩
  ·cases h
def zH.add (M:zH)(nm:Nat)(o:Obj)(C:zT):zH:={M with κ:=κset M.κ nm C,h:=qY M.h nm o}
theorem zH.add_ok {M}(ok:Ok M){nm}(aI:M.h nm=none){o C}(hO:yM (M.add nm o C) o C)(hb:∀b∈C.fp,¬qH M b∧¬M.F b∧b<M.H.size):
  Ok (M.add nm o C)∧yD M (M.add nm o C)∧(∀b,qH (M.add nm o C) b→qH M b∨b∈C.fp):=by
 have x:yD M (M.add nm o C):=⟨fun id D h=>by
  have aW:id≠nm:=fun e=>by rw[e,ok.non nm aI] at h;cases h
  exact⟨D,by show κset M.κ nm _ id=_;rw[κset_ne _ _ aW];exact h,D.le_refl⟩,fun _ h=>h,fun _ h=>h,fun _ _=>rfl,fun _ _=>rfl,fun _ _=>rfl⟩
 refine⟨Ok.build ok x (fun id=>id=nm) (fun id h=>yH _ _ h) (fun id h=>κset_ne _ _ h) (fun _ _ _ _ _ _ _ _ _=>rfl) (fun id o' D h1 h2 h3 h4 b bj=>(ok.own b ⟨id,o',D,h2,h3,h4,bj⟩).1) (Nat.le_refl _)
  (fun id o' e h=>?_) (fun id e h=>?_) (fun id o' D b e h1 h2 h3 h4=>?_) ok.GF ok.Flt,x,fun b bj=>?_⟩
 ·subst e
  have e1:(M.add id o C).h id=some o:=yE _ _ _
  rw[e1] at h
  cases h
  exact⟨_,κset_same _ _ _,hO⟩
 ·have e1:(M.add id o C).h id=some o:=yE _ _ _
  simp_all
 ·subst e
  have e1:(M.add id o C).κ id=some C:=κset_same _ _ _
  rw[e1] at h3
  cases h3
  obtain⟨k1,k2,k3⟩:=hb b h4
  refine⟨fun j oj Cj hj q1 q2 q3 q4=>k1 ⟨j,oj,Cj,?_,q2,?_,q4⟩,k2,k3⟩
  ·rw[←q1];exact(yH _ _ hj).symm
  ·rw[←q3];exact(κset_ne _ _ hj).symm
 ·obtain⟨id,o',D,h1,h2,h3,h4⟩:=bj
  by_cases e:id=nm
  ·have e1:(M.add id o C).κ id=some C:=κset_same _ _ _
   simp_all
  ·exact .inl ⟨id,o',D,by rw[←h1];exact(yH _ _ e).symm,h2,by rw[←h3];exact(κset_ne _ _ e).symm,h4⟩
structure Up (L Mc:zH):Prop where
 H:Mc.H=L.H
 G:Mc.G=L.G
theorem YE {L Mc}(up:Up L Mc){t xs C}(h:yM L (.arr true t xs) C):yM Mc (.arr true t xs) C:=by
 obtain⟨h1,h2,h3,h4⟩:=h
 refine⟨h1,h2,h3,?_⟩
 rw[up.H,up.G]
 exact h4
theorem yWg {L Mc}(up:Up L Mc){ver xs C}(h:yM L (.mat ver xs) C):yM Mc (.mat 0 xs) {C with ver:=0}:=by
 obtain⟨h1,h2⟩:=h
 refine⟨rfl,?_⟩
 rw[up.H]
 exact h2
theorem vE5 {L Mc}(up:Up L Mc){ver n xs C}(h:yM L (.pmat ver xs n) C)(hn:xs.length=n):yM Mc (.mat 0 xs) {C with ver:=0}:=by
 obtain⟨h1,h2,h3,h4,h5,_,h6⟩:=h
 refine⟨rfl,by rw[hn];exact h2,h3,h4,h5,?_⟩
 rw[up.H]
 subst hn
 simp_all
theorem yP7 {L Mc}(up:Up L Mc){xs:List (List Int)}{C}(h:yM L (.arr true (.sl (.int .i64)) xs) C):yM Mc (.pmat 0 [] xs.length) {C with ver:=0}:=by
 obtain⟨h1,h2,h3,h4⟩:=h
 have hr:=h3 rfl
 refine⟨rfl,h1,h2,by simp_all,?_,by simp,?_⟩
 ·simp[zT.fp]
  grind
 ·cases hB:C.blk with
  |none=>simp_all
  |some B=>
   rw[hB] at h4
   obtain⟨vals,e,h5,_,h7,_⟩:=h4
   refine⟨vals,e,by rw[up.H];exact h5,by simpa[Ty.size] using h7,by simp⟩
theorem yRy {L Mc}(fk:Ok L)(ok:Ok Mc)(up:Up L Mc){nm}(aI:Mc.h nm=none){r c d}(h:mf L.h r c=some d)
  (hb:∀id∈vO [r] [c],∀C,L.κ id=some C→∀b∈C.fp,¬qH Mc b∧¬Mc.F b∧b<Mc.H.size):
  ∃cX:zH,cX.H=Mc.H∧cX.G=Mc.G∧cX.F=Mc.F∧cX.h=qC Mc.h (nB nm r d).2∧Ok cX∧yD Mc cX∧
   (∀b,qH cX b→qH Mc b∨∃id∈vO [r] [c],∃C,L.κ id=some C∧b∈C.fp)∧∀v,zR L c v→zR cX (nB nm r d).1 v:=by
 have same : (nB nm r d).2 = [] → (∀ v, zR L c v → zR Mc (nB nm r d).1 v) → _ := fun e hv => (⟨Mc,rfl,rfl,rfl,by rw[e];rfl,ok,.refl Mc,by grind,hv⟩:
  ∃cX:zH,cX.H=Mc.H∧cX.G=Mc.G∧cX.F=Mc.F∧cX.h=qC Mc.h (nB nm r d).2∧Ok cX∧yD Mc cX∧
   (∀b,qH cX b→qH Mc b∨∃id∈vO [r] [c],∃C,L.κ id=some C∧b∈C.fp)∧∀v,zR L c v→zR cX (nB nm r d).1 v)
 unfold mf at h
 split at h
 ·rename_i k j n
  cases e:dB j k with
  |false=>rw[e] at h;cases h
  |true=>
   rw[e] at h
   cases h
   exact same rfl fun v hv=>by rw[←oC e];exact hv
 ·cases h
  exact same rfl fun v hv=>hv
 ·obtain⟨e,hx⟩:=gW h
  subst e
  subst hx
  refine same rfl fun v hv=>?_
  show zV Mc.H Mc.G _ _ _
  rw[up.H,up.G]
  exact hv
 ·cases h
  refine same rfl fun v hv=>?_
  rw[show v=.slice none 0 0 from hv]
  exact DD
 ·rename_i t id
  split at h
  ·rename_i s xs ab
   obtain⟨e,hx⟩:=gW h
   subst e
   subst hx
   obtain⟨C,hC,hO⟩:=fk.obj id _ ab
   obtain⟨k1,k2,k3⟩:=zH.add_ok ok aI (o:=.arr true s xs) (C:=C) (YE (Mc:=Mc.add nm (.arr true s xs) C) ⟨up.H,up.G⟩ hO) (hb id (by simp[vO]) C hC)
   refine⟨Mc.add nm (.arr true s xs) C,rfl,rfl,rfl,rfl,k1,k2,fun b bj=>(k3 b bj).imp (fun h=>h) fun h=>⟨id,by simp[vO],C,hC,h⟩,fun v hv=>?_⟩
   obtain⟨C',au,hS⟩:=hv
   rw[hC] at au;cases au
   refine⟨C,κset_same _ _ _,?_⟩
   show wL Mc.H C 0 C.len v
   rw[up.H];exact hS
  ·cases h
 ·rename_i t id n
  split at h
  ·rename_i s xs ab
   obtain⟨e,hx⟩:=gW h
   subst e
   subst hx
   obtain⟨C,hC,hO⟩:=fk.obj id _ ab
   let C':zT:={C with len:=(xs.take n).length}
   have oN:yM (Mc.add nm (.arr true s (xs.take n)) C') (.arr true s (xs.take n)) C':=by
    obtain⟨q1,q2,q3,q4⟩:=YE (Mc:=Mc.add nm (.arr true s (xs.take n)) C') ⟨up.H,up.G⟩ hO
    refine⟨rfl,q2,q3,?_⟩
    show match C.blk with
     |none=>_
     |some B=>_
    cases hB:C.blk with
    |none=>rw[hB] at q4;show xs.take n=[];rw[q4];simp
    |some B=>
     rw[hB] at q4
     obtain⟨vals,e,r1,r2,r3,r4⟩:=q4
     have hle:(xs.take n).length≤xs.length:=by rw[List.length_take];omega
     have:=Nat.mul_le_mul_right s.size hle
     refine⟨vals,e,r1,r2,by omega,fun i hi=>?_⟩
     rw[List.getElem_take]
     exact r4 i (by omega)
   obtain⟨k1,k2,k3⟩:=zH.add_ok ok aI (o:=.arr true s (xs.take n)) (C:=C') oN (hb id (by simp[vO]) C hC)
   refine⟨Mc.add nm (.arr true s (xs.take n)) C',rfl,rfl,rfl,rfl,k1,k2,fun b bj=>(k3 b bj).imp (fun h=>h) fun h=>⟨id,by simp[vO],C,hC,h⟩,fun v hv=>?_⟩
   obtain⟨C1,fi,h1,hS,_⟩:=hv
   rw[hC] at fi;cases fi
   have hl:(xs.take n).length=n:=by rw[List.length_take,←hO.1];omega
   refine⟨C',κset_same _ _ _,?_⟩
   show wL Mc.H C' 0 (xs.take n).length v
   rw[hl,up.H]
   exact hS
  ·cases h
 ·rename_i t
  cases h
  obtain⟨k1,k2,k3⟩:=Mc.nilObj_ok ok aI t false
  refine⟨Mc.nilObj nm (gv t false) (iA t false),rfl,rfl,rfl,rfl,k1,k2,by grind,fun v hv=>?_⟩
  rw[show v=.slice none 0 0 from hv]
  exact⟨_,κset_same _ _ _,none,0,rfl,rfl,rfl,rfl⟩
 ·rename_i id
  split at h
  ·rename_i ver xs ab
   cases h
   obtain⟨C,hC,hO⟩:=fk.obj id _ ab
   obtain⟨k1,k2,k3⟩:=zH.add_ok ok aI (o:=.mat 0 d) (C:={C with ver:=0}) (yWg (Mc:=Mc.add nm (.mat 0 d) {C with ver:=0}) ⟨up.H,up.G⟩ hO) (hb id (by simp[vO]) C hC)
   refine⟨Mc.add nm (.mat 0 d) {C with ver:=0},rfl,rfl,rfl,rfl,k1,k2,fun b bj=>(k3 b bj).imp (fun h=>h) fun h=>⟨id,by simp[vO],C,hC,h⟩,fun v hv=>?_⟩
   obtain⟨C',au,hS⟩:=hv
   rw[hC] at au;cases au
   refine⟨_,κset_same _ _ _,?_⟩
   show wL Mc.H C 0 C.len v
   rw[up.H];exact hS
  ·rename_i ver xs n ab
   obtain⟨hc,h⟩:Nat.beq xs.length n=true∧some xs=some d:=by
    cases e:Nat.beq xs.length n with
    |true=>rw[e] at h;exact⟨rfl,h⟩
    |false=>rw[e] at h;cases h
   cases h
   obtain⟨C,hC,hO⟩:=fk.obj id _ ab
   obtain⟨k1,k2,k3⟩:=zH.add_ok ok aI (o:=.mat 0 d) (C:={C with ver:=0}) (vE5 (Mc:=Mc.add nm (.mat 0 d) {C with ver:=0}) ⟨up.H,up.G⟩ hO (Nat.eq_of_beq_eq_true hc)) (hb id (by simp[vO]) C hC)
   refine⟨Mc.add nm (.mat 0 d) {C with ver:=0},rfl,rfl,rfl,rfl,k1,k2,fun b bj=>(k3 b bj).imp (fun h=>h) fun h=>⟨id,by simp[vO],C,hC,h⟩,fun v hv=>?_⟩
   obtain⟨C',au,hS⟩:=hv
   rw[hC] at au;cases au
   refine⟨_,κset_same _ _ _,?_⟩
   show wL Mc.H C 0 C.len v
   rw[up.H];exact hS
  ·cases h
 ·cases h
  obtain⟨k1,k2,k3⟩:=Mc.nilObj_ok ok aI (.int .i64) true
  refine⟨Mc.nilObj nm (gv (.int .i64) true) (iA (.int .i64) true),rfl,rfl,rfl,rfl,k1,k2,by grind,fun v hv=>?_⟩
  rw[show v=.slice none 0 0 from hv]
  exact⟨_,κset_same _ _ _,none,0,rfl,rfl,rfl,rfl⟩
 ·rename_i id
  split at h
  ·rename_i xs ab
   cases h
   obtain⟨C,hC,hO⟩:=fk.obj id _ ab
   obtain⟨k1,k2,k3⟩:=zH.add_ok ok aI (o:=.pmat 0 [] xs.length) (C:={C with ver:=0}) (yP7 (Mc:=Mc.add nm (.pmat 0 [] xs.length) {C with ver:=0}) ⟨up.H,up.G⟩ hO) (hb id (by simp[vO]) C hC)
   refine⟨Mc.add nm (.pmat 0 [] xs.length) {C with ver:=0},rfl,rfl,rfl,rfl,k1,k2,fun b bj=>(k3 b bj).imp (fun h=>h) fun h=>⟨id,by simp[vO],C,hC,h⟩,fun v hv=>?_⟩
   obtain⟨C',au,hS⟩:=hv
   rw[hC] at au;cases au
   refine⟨_,κset_same _ _ _,?_⟩
   show wL Mc.H C 0 C.len v
   rw[up.H];exact hS
  ·cases h
 ·cases h
  obtain⟨k1,k2,k3⟩:=zH.add_ok ok aI (o:=.pmat 0 [] 0) (C:=⟨none,0,1,0,[]⟩) ⟨rfl,rfl,rfl,rfl,by simp[zT.fp],Nat.le_refl _,rfl⟩ (nofun)
  refine⟨Mc.add nm (.pmat 0 [] 0) ⟨none,0,1,0,[]⟩,rfl,rfl,rfl,rfl,k1,k2,fun b bj=>(k3 b bj).imp (fun h=>h) nofun,fun v hv=>?_⟩
  rw[show v=.slice none 0 0 from hv]
  exact⟨_,κset_same _ _ _,none,0,rfl,rfl,rfl,rfl⟩
 ·rename_i id
  split at h
  ·rename_i cj ab
   cases h
   obtain⟨C,hC,hO⟩:=fk.obj id _ ab
   have oN:yM (Mc.add nm (.imap d) C) (.imap d) C:=by
    obtain⟨B,es,ck,h1,h2,h3,h4,h5⟩:=hO
    refine⟨B,es,ck,h1,h2,?_,h4,h5⟩
    show Mc.H[B]? =_
    rw[up.H];exact h3
   obtain⟨k1,k2,k3⟩:=zH.add_ok ok aI (o:=.imap d) (C:=C) oN (hb id (by simp[vO]) C hC)
   refine⟨Mc.add nm (.imap d) C,rfl,rfl,rfl,rfl,k1,k2,fun b bj=>(k3 b bj).imp (fun h=>h) fun h=>⟨id,by simp[vO],C,hC,h⟩,fun v hv=>?_⟩
   obtain⟨C',B,au,hB,e⟩:=hv
   rw[hC] at au;cases au
   exact⟨C,B,κset_same _ _ _,hB,e⟩
  ·cases h
 ·exact same rfl fun v hv=>hv
 ·exact same rfl fun v hv=>hv.one
 ·cases h
theorem HP r c l cs:vO (r::l) (c::cs)=vO [r] [c]++vO l cs:=by
 cases r<;>cases c<;>rfl
theorem YF {nm r d n}(h:n≠nm) hh:qC hh (nB nm r d).2 n=hh n:=by
 cases r<;>first|rfl|exact yH _ _ h
theorem NH {h}:∀{n nm},rG h nm n=true→∀i,i<n→h (nm+i)=none
 |n+1,nm,e,i,hi=>by
  unfold rG at e
  rw[Bool.and_eq_true] at e
  cases i with
  |zero=>
   grind
  |succ i=>rw[←NH e.2 i (by omega)];grind
theorem NI {L:zH}(fk:Ok L):∀{l:List RC} {cs:List zS} {d:RL l} {nm:Nat} {Mc:zH},Ok Mc→Up L Mc→(∀i,i<l.length→Mc.h (nm+i)=none)→gx L.h l cs=some d→(vO l cs).Nodup→
  (∀id∈vO l cs,∃o,L.h id=some o∧o.owned=true)→
  (∀id∈vO l cs,∀C,L.κ id=some C→∀b∈C.fp,¬qH Mc b∧¬Mc.F b∧b<Mc.H.size)→
  ∃cX:zH,cX.H=Mc.H∧cX.G=Mc.G∧cX.F=Mc.F∧cX.h=qC Mc.h (ll nm l d).2∧Ok cX∧yD Mc cX∧
   (∀b,qH cX b→qH Mc b∨∃id∈vO l cs,∃C,L.κ id=some C∧b∈C.fp)∧∀vs,zJ (zR L) cs vs→zJ (zR cX) (ll nm l d).1 vs
 |[],[],d,nm,Mc,ok,up,_,_,_,_,_=>⟨Mc,rfl,rfl,rfl,rfl,ok,.refl Mc,fun b h=>.inl h,fun vs h=>by
  cases vs with
  |nil=>trivial
  |cons _ _=>exact h.elim⟩
 |r::l,c::cs,d,nm,Mc,ok,up,hf,h,cC,aA,hb=>by
  unfold gx at h
  split at h
  ·rename_i x xs e1 e2
   cases h
   rw[HP] at cC aA hb
   obtain⟨nd1,nd2,nd3⟩:=List.nodup_append.1 cC
   obtain⟨M1,a1,a2,a3,a4,a5,a6,a7,a8⟩:=yRy fk ok up (by have:=hf 0 (by simp);simpa using this) e1 (by grind)
   have up1:Up L M1:=⟨a1.trans up.H,a2.trans up.G⟩
   obtain ⟨M2, b1, b2, b3, b4, b5, b6, b7, b8⟩ := NI fk (nm := nm + 1) a5 up1 (fun i hi=>by
     rw[a4,YF (by omega)]
     have:=hf (i+1) (by simp;omega)
     grind) e2 nd2 (fun id ab => aA id (by grind)) (fun id ab C hC b xS=>by
     obtain⟨q1,q2,q3⟩:=hb id (List.mem_append_right _ ab) C hC b xS
     refine⟨fun ho=>?_,by simp_all,by simp_all⟩
     rcases a7 b ho with ho|⟨jd,cm,D,hD,NJ⟩
     ·exact q1 ho
     ·have aW:id≠jd:=by grind
      obtain⟨o1,p1,p2⟩:=aA id (by grind)
      obtain⟨o2,p3,p4⟩:=aA jd (List.mem_append_left _ cm)
      exact fk.disj id jd o1 o2 C D b aW p1 p3 p2 p4 hC hD xS NJ)
   refine⟨M2,b1.trans a1,b2.trans a2,b3.trans a3,?_,b5,a6.trans (by simp_all) b6,fun b bj=>?_,fun vs cB=>?_⟩
   ·show M2.h=qC Mc.h ((nB nm r x).2++(ll (nm+1) l xs).2)
    rw[gV,←a4];exact b4
   ·rw[HP]
    grind
   ·cases vs with
    |nil=>exact cB.elim
    |cons v vs=>exact⟨(a8 v cB.1).ext b6,b8 vs cB.2⟩
  ·cases h
 |[],_::_,_,_,_,_,_,_,h,_,_,_=>by cases h
 |_::_,[],_,_,_,_,_,_,h,_,_,_=>by cases h
theorem vQ {α:Type}{c x}{y:α}(h:(bif c then x else none)=some y):c=true∧x=some y:=by
 grind
theorem YG {M}:∀{l xs cs vs},Nz l xs=some cs→zJ (re M) xs vs→
  cs.length=(l.flatMap (·.2)).length∧∃us:List Value,zJ (zR M) cs us∧∀M' aF,zJ (zR M') aF us→zJ (re M') (NA l aF) vs
 |[],[],cs,[],h,_=>by cases h;exact⟨rfl,[],trivial,fun _ _ _=>trivial⟩
 |(b,l)::ls,(g,jm)::rest,cs,v::vs,h,hv=>by
  obtain⟨hc,h⟩:=vQ h
  split at h
  ·rename_i r hr
   cases h
   rw[Bool.and_eq_true] at hc
   have hl:jm.length=l.length:=by simp_all
   obtain⟨k1,us,k2,k3⟩:=YG hr hv.2
   refine⟨by simp_all,?_⟩
   cases b with
   |true=>
    have hg:g=true:=hc.1
    subst hg
    obtain⟨ws,rfl,hw⟩:=hv.1
    refine⟨ws.toList++us,hw.append k2,fun M' aF h'=>⟨?_,?_⟩⟩
    ·have h1:=zJ.take l.length h'
     have NK:=hw.length
     rw[show(ws.toList++us).take l.length=ws.toList from by simp_all] at h1
     exact⟨ws,rfl,h1⟩
    ·have h1:=zJ.drop l.length h'
     have NK:=hw.length
     simp_all
   |false=>
    have hg:=hc.1
    simp  at hg
    obtain⟨HQ,hg2⟩:=hg
    subst HQ
    have xw:jm.length=1:=by simp_all
    match jm,xw with
    |[c],_=>
     have kx:zR M c v:=hv.1
     refine⟨v::us,⟨kx,k2⟩,fun M' aF h'=>?_⟩
     match aF,h' with
     |c'::NL,h'=>
      have e:l.length=1:=by omega
      refine⟨?_,?_⟩
      ·rw[e]
       exact h'.1
      ·rw[e]
       exact k3 M' NL h'.2
  ·cases h
 |[],[],_,_::_,_,hv=>hv.elim
theorem YH {M}{s:RS}{v cs rv}(h:s.get v=some cs)(hv:zN M v rv):
  cs.length=s.cells.length∧∃us:List Value,zJ (zR M) cs us∧∀M' aF,zJ (zR M') aF us→zN M' (s.mk aF) rv:=by
 unfold RS.get at h
 split at h
 ·cases h
  refine⟨rfl,[rv],⟨hv,trivial⟩,fun M' aF h'=>?_⟩
  match aF,h' with
  |[c'],h'=>exact h'.1
 ·obtain⟨hl,h⟩:=vQ h
  cases h
  obtain⟨vs,rfl,hx⟩:=hv
  exact⟨Nat.eq_of_beq_eq_true hl,vs.toList,hx,fun M' aF h'=>⟨vs,rfl,h'⟩⟩
 ·obtain⟨vs,rfl,hx⟩:=hv
  obtain⟨k1,us,k2,k3⟩:=YG h hx
  exact⟨k1,us,k2,fun M' aF h'=>⟨vs,rfl,by grind⟩⟩
 ·cases h
theorem vDs {h0 s a a' v u M}(ok:Ok M)(hf:wK h0 M.h)(hv:zN M a v)(h:rH h0 s a=some (a',u)):
  ∃L:zH,L.H=M.H∧L.h=qC M.h u∧Ok L∧yN M L∧zN L a' v∧wK h0 L.h:=by
 unfold rH at h
 split at h
 ·rename_i p x
  split at h
  ·rename_i y u1 e
   cases h
   obtain⟨L,h1,h2,h3,h4,h5,h6⟩:=rJ (cs:=[x]) (vs:=[v]) ok hf ⟨hv,trivial⟩ e
   exact⟨L,h1,h2,h3,h4,h5.1,h6⟩
  ·cases h
 ·split at h
  ·rename_i ys u1 e
   cases h
   obtain⟨vs,rfl,hx⟩:=hv
   obtain⟨L,h1,h2,h3,h4,h5,h6⟩:=rJ ok hf hx e
   exact⟨L,h1,h2,h3,h4,⟨vs,rfl,h5⟩,h6⟩
  ·cases h
 ·cases h
  exact⟨M,rfl,rfl,ok,.refl M,hv,hf⟩
theorem rK.ext {M M'}(x:yD M M'):∀{as vs},zJ (zN M) as vs→zJ (zN M') as vs:=fun h=>h.mono fun _ _ h=>h.ext x
theorem YI {h0}:∀{l as df vs u M},Ok M→wK h0 M.h→zJ (zN M) as vs→nC h0 l as=some (df,u)→
  ∃L:zH,L.H=M.H∧L.h=qC M.h u∧Ok L∧yN M L∧zJ (zN L) df vs∧wK h0 L.h
 |s::l,a::as,df,v::vs,u,M,ok,hf,hv,h=>by
  unfold nC at h
  split at h
  ·rename_i a1 u1 NM nf e1 e2
   cases h
   obtain⟨M1,h1,h2,h3,h4,h5,h6⟩:=vDs ok hf hv.1 e1
   obtain⟨M2,k1,k2,k3,k4,k5,k6⟩:=YI h3 h6 (rK.ext h4.ext hv.2) e2
   exact⟨M2,k1.trans h1,by rw[k2,h2,gV],k3,h4.trans k4,⟨h5.ext k4.ext,k5⟩,k6⟩
  ·cases h
 |[],as,df,vs,u,M,ok,hf,hv,h=>by
  cases as<;>cases h<;>exact⟨M,rfl,rfl,ok,.refl M,hv,hf⟩
 |s::l,[],df,vs,u,M,ok,hf,hv,h=>by cases h;exact⟨M,rfl,rfl,ok,.refl M,hv,hf⟩
def zH.over (M L:zH):zH:={κ:=M.κ,F:=fun b=>M.F b∨L.G b,G:=L.G,h:=M.h,H:=L.H}
theorem zH.over_ok {M Ml L}(ok:Ok M)(fk:Ok L)(lo:Lo M Ml)(DE:∀b,¬qH Ml b)(g:fO Ml L):Ok (M.over L)∧yN M (M.over L):=by
 have aS:∀b,Ml.F b↔b<M.H.size:=fun b=>by rw[lo.F]
 have cd:∀b,b<M.H.size→L.H[b]? =M.H[b]? :=fun b hb=>by rw[g.same b (by grind),lo.H]
 have cN:M.H.size≤L.H.size:=by grind
 have hG:∀b,L.G b→b<M.H.size→M.G b:=fun b hb hs=>by
  rcases g.Gb b hb (by rw[lo.H];exact hs) with h|h
  ·rw[lo.G] at h;exact h
  simp_all
 have gh:∀b,M.F b→b<M.H.size:=ok.Flt
 have x:yD M (M.over L):=⟨fun id C h=>⟨C,h,C.le_refl⟩,fun b h=>.inl h,fun b h=>g.G b (by rw[lo.G];exact h),fun b h=>cd b (by grind),fun b h=>cd b (ok.Flt b (ok.GF b h)),fun b h=>xm (cd b h)⟩
 have aA:∀b,qH (M.over L) b→qH M b:=fun b h=>h
 refine⟨⟨fun id o h=>?_,fun id h=>ok.non id h,ok.disj,fun b h=>⟨fun hf=>?_,?_⟩,fun b h=>.inr h,fun b h=>?_⟩,⟨x,cN,fun b hb _=>cd b hb,by grind,fun b h hs=>.inl (hG b h hs),fun b h hs=>?_⟩⟩
 ·obtain⟨C,hC,hO⟩:=ok.obj id o h
  exact⟨C,hC,hO.ext x fun ho b hb=>cd b (ok.own b ⟨id,o,C,h,ho,hC,hb⟩).2⟩
 ·have:=ok.own b (aA b h)
  rcases hf with hf|hf
  ·simp_all
  ·exact this.1 (ok.GF b (by grind))
 ·have h1:=(ok.own b (aA b h)).2
  show b<L.H.size
  omega
 ·show b<L.H.size
  rcases h with h|h
  ·grind
  ·exact fk.Flt b (fk.GF b h)
 ·rcases h with h|h
  ·simp_all
  ·exact .inl (ok.GF b (hG b h hs))
theorem yTd {h0 r c d}(h:mf h0 r c=some d):∀id∈vO [r] [c],∃o,h0 id=some o∧o.owned=true:=by
 unfold mf at h
 split at h
 all_goals (try (intro id ab;simp[vO] at ab;done))
 ·intro xL ab
  have:=List.mem_singleton.1 ab
  subst this
  split at h
  ·exact⟨_,by assumption,rfl⟩
  ·cases h
 ·intro xL ab
  have:=List.mem_singleton.1 ab
  subst this
  split at h
  ·exact⟨_,by omega,rfl⟩
  ·cases h
 ·rename_i id
  intro xL ab
  have:=List.mem_singleton.1 ab
  subst this
  split at h
  ·exact⟨_,by assumption,rfl⟩
  ·exact⟨_,by omega,rfl⟩
  ·cases h
 ·intro xL ab
  have:=List.mem_singleton.1 ab
  subst this
  split at h
  ·exact⟨_,by assumption,rfl⟩
  ·cases h
 ·intro xL ab
  have:=List.mem_singleton.1 ab
  subst this
  split at h
  ·exact⟨_,by assumption,rfl⟩
  ·cases h
 ·cases h
theorem rL {L:zH}:∀{l cs d},gx L.h l cs=some d→∀id∈vO l cs,∃o,L.h id=some o∧o.owned=true
 |r::l,c::cs,d,h,id,ab=>by
  unfold gx at h
  split at h
  ·rename_i x xs e1 e2
   rw[HP] at ab
   rcases List.mem_append.1 ab with ab|ab
   ·exact yTd e1 id ab
   ·exact rL e2 id ab
  ·cases h
theorem YJ {E}(hE:dG E)(hS:fM E.sums)(hm:E.P.follows .mixedOrders=true){A k pre na f fn}(hf:E.P.funcs[f]? =some fn)(hL:∀c,fn.body=some c→vU E.P A pre na fn.ntmps c)(bK:∀vs w,(callFunc f vs).run E.P w=.ok (.enter f vs) w)
  {as rs X S pack} {unpack:RL rs.cells→X} (dh:∀d,pack (unpack d)=d) (aG:∀d x,S d=some x→∀Ml vs,zJ (zN Ml) (me as d).1 vs→∃cY,zJ (zN Ml) cY vs∧gg E A k pre na fn cY (me as d).2 (jt rs unpack)=some x)
  {nm args h v u} (hy:yB (lq as rs S pack nm args h) v u):oY E.P f args h v u:=by
 intro M w vs hh hH ok hv
 refine .inl ⟨bK vs w,?_⟩
 unfold lq at hy
 split at hy
 ·exact hy.elim
 rename_i cY u0 ud
 split at hy
 case h_2=>exact hy.elim
 rename_i d hd
 obtain⟨hc,hy⟩:=tM hy
 rw[Bool.and_eq_true] at hc
 obtain⟨x,hx,rfl,rfl⟩:=hy
 subst hh
 obtain⟨M1,a1,a2,a3,a4,a5,a6⟩:=YI ok (wK.refl _) hv ud
 rw[←a2] at hd
 obtain⟨Ml,lo,b2,b3,b4,b5⟩:=vJ9 a3 a5 hd
 obtain⟨YK,ue,NN⟩:=aG d x hx Ml _ b5
 refine Calls.mono (Nx hE hS hm hf hL NN b2 (by rw[lo.H,a1];exact hH) b3 ue) fun e w' he=>?_
 cases e with
 |panicked _=>omega
 |outgrown=>omega
 |returned rv=>
  obtain⟨L0,v0,st,hK,c1,c2,c3,c4,_,c5,c6,c7,c8,_⟩:=he
  have hK:DC st.h rs v0=some (pack x):=by
   unfold jt at hK
   grind
  unfold DC at hK
  split at hK
  case h_2=>cases hK
  rename_i cs kB
  split at hK
  case h_2=>cases hK
  rename_i aF u1 uf
  obtain⟨cC,hK⟩:=vQ hK
  obtain⟨hlen,us,d1,d2⟩:=YH kB c5
  rw[←c1] at uf hK
  obtain⟨L,e1,e2,e3,e4,e5,e6⟩:=rJ c3 (wK.refl _) d1 uf
  rw[←e2] at hK
  have g:fO Ml L:=c4.trans e4.grow
  obtain⟨f1,f2⟩:=zH.over_ok a3 e3 lo b4 g
  have mg:∀i,i<rs.cells.length→(M1.over L).h (nm+i)=none:=fun i hi=>by
   have h1:=NH hc.1 i hi
   show M1.h (nm+i)=none
   rcases a6 (nm+i) with h|⟨own,t,xs,h,_⟩|⟨ver,xs,h,_⟩
   all_goals simp_all
  obtain ⟨Mc, g1, g2, g3, g4, g5, g6, g7, g8⟩ := NI e3 f1 ⟨rfl, rfl⟩ mg hK (xH cC) (rL hK) (fun id ab C hC b hb=>by
   obtain⟨o,ho,fj⟩:=rL hK id ab
   have aA:qH L b:=⟨id,o,C,ho,fj,hC,hb⟩
   have ld:¬b<M1.H.size:=fun aS=>b4 b (g.own b aA (by rw[lo.H];omega))
   refine⟨fun h=>ld (a3.own b h).2,fun h=>?_,(e3.own b aA).2⟩
   rcases h with h|h
   ·exact ld (a3.Flt b h)
   ·exact(e3.own b aA).1 (e3.GF b h))
  have NO:yN M1 Mc:=by
   have aA:∀b,qH Mc b→b<M1.H.size→qH M1 b:=fun b hb aS=>by
    rcases g7 b hb with h|⟨id,ab,C,hC,xS⟩
    ·exact h
    ·obtain⟨o,ho,fj⟩:=rL hK id ab
     exact absurd (g.own b ⟨id,o,C,ho,fj,hC,xS⟩ (by rw[lo.H];omega)) (b4 b)
   refine⟨f2.ext.trans f2.size g6,?_,fun b hb hn=>?_,aA,fun b hb aS=>?_,fun b hb aS=>?_⟩
   ·rw[g1];exact f2.size
   ·rw[g1];exact f2.frame b hb hn
   ·rw[g2] at hb;exact f2.Gb b hb aS
   ·rw[g3] at hb;exact f2.Fb b hb aS
  refine⟨Mc,⟨c6,c7,c8,?_,?_,g5,a4.trans NO⟩,?_⟩
  ·rw[g1];show L.H=_;rw[e1,c2]
  ·rw[gV,←a2];exact g4
  ·exact d2 Mc _ (g8 us e5)
theorem yNb {E}(hE:dG E)(hS:fM E.sums)(hm:E.P.follows .mixedOrders=true){A k pre na f fn}(hf:E.P.funcs[f]? =some fn)(hL:∀c,fn.body=some c→vU E.P A pre na fn.ntmps c)(bK:∀vs w,(callFunc f vs).run E.P w=.ok (.enter f vs) w)
  {as rs X S} {pack:X→RL rs.cells} {unpack} (dh:∀d,pack (unpack d)=d) (aG:∀d,gg E A k pre na fn (me as d).1 (me as d).2 (jt rs unpack)=S d)
  {nm args h v u} (hy:yB (lq as rs S pack nm args h) v u):oY E.P f args h v u:=
 YJ hE hS hm hf hL bK dh (fun d x hx _ _ hv=>⟨_,hv,(aG d).trans hx⟩) hy
theorem yQn {E}(hE:dG E)(hS:fM E.sums)(hm:E.P.follows .mixedOrders=true){A k pre na f fn}(hf:E.P.funcs[f]? =some fn)(hL:∀c,fn.body=some c→vU E.P A pre na fn.ntmps c)(bK:∀vs w,(callFunc f vs).run E.P w=.ok (.enter f vs) w)
  {sh t rs X} {S:List t.den→Option X} {pack unpack} (dh:∀d,pack (unpack d)=d) (bX:∀x,S []=some x→gg E A k pre na fn [.c .nsl] (iD []) (jt rs unpack)=some x)
  (aG:∀xs x,S xs=some x→gg E A k pre na fn [.c (.nfl sh t xs)] (iD []) (jt rs unpack)=some x)
  {nm args h v u} (hy:yB (lq [.c (.dat sh t)] rs (fun d=>S d.1) pack nm args h) v u):oY E.P f args h v u:=
 YJ hE hS hm hf hL bK dh (fun d x hx Ml vs hv=>by
  obtain⟨xs,_⟩:=d
  match vs,hv with
  |[v],hv=>
   have kx:zV Ml.H (bif sh then Ml.G else Ml.F) (.sl t) xs (fun _=>some v):=hv.1
   have ma:=kx
   simp[zV] at kx
   obtain⟨A',n,c,rfl,hn,hc,h⟩:=kx
   cases A' with
   |some a=>exact⟨[.c (.nfl sh t xs)],⟨⟨by simp,ma⟩,trivial⟩,aG xs x hx⟩
   |none=>
    rcases h with⟨rfl,h0⟩|⟨B,o,e,_⟩
    ·have h0:=h0 rfl
     subst h0
     subst hn
     exact⟨[.c .nsl],⟨rfl,trivial⟩,bX x hx⟩
    ·cases e) hy
def yI.orElse:yI→yI→yI
 |.alts [],b=>b
 |a,_=>a
abbrev kC:=Nat→Nat→List zQ→Hp→yI
def dI:List (Nat×kC)→GR
 |[],_,_,_,_,_=>.stuck
 |(g,e)::l,k,nm,f,args,h=>bif Nat.beq g f then(e k nm args h).orElse (dI l k nm f args h) else dI l k nm f args h
def YL (P:Program)(r:Nat×kC):Prop:=∀k nm args h v u,yB (r.2 k nm args h) v u→oY P r.1 args h v u
def DF (e:kC):Prop:=∀k nm (args:List zQ) h h',(args.any vX=false→∀id,(id∈args.flatMap yG∨kk nm id=true)→h id=h' id)→(args.any vX=true→h=h')→e k nm args h=e k nm args h'
theorem vDq {a b v u}(h:yB (a.orElse b) v u):yB a v u∨yB b v u:=by
 unfold yI.orElse at h
 grind
theorem YM {P}:∀{l},(∀r∈l,YL P r)→XQ P (dI l)
 |[],_=>nofun
 |(g,e)::l,hl=>fun k nm f args h v u hy=>by
  have ih:=YM (l:=l) fun r hr=>hl r (by grind)
  unfold dI at hy
  cases hg:Nat.beq g f with
  |false=>rw[hg] at hy;exact ih k nm f args h v u hy
  |true=>
   rw[hg] at hy
   have:g=f:=by simp_all
   subst this
   rcases vDq hy with hy|hy
   ·exact hl (g,e) (by simp) k nm args h v u hy
   ·exact ih k nm g args h v u hy
theorem YN:∀{l},(∀r∈l,DF r.2)→fM (dI l)
 |[],_=>fun k nm f args h h' _ _=>rfl
 |(g,e)::l,hl=>fun k nm f args h h' h1 h2=>by
  have ih:=YN (l:=l) (by grind) k nm f args h h' h1 h2
  unfold dI
  have he:e k nm args h=e k nm args h':=hl (g,e) (by simp) k nm args h h' h1 h2
  rw[ih,he]
section
variable {h h':Hp}
theorem vFy {t c}(hh:∀id∈yY c,h id=h' id):ua h t c=ua h' t c:=by
 have e:=HE hh
 unfold ua
 grind
theorem YO {p c}(hh:∀id∈yY c,h id=h' id):pc h p c=pc h' p c:=by
 have e:=fun t=>vFy (t:=t) hh
 unfold pc
 grind
theorem YP:∀{l cs},(∀id∈cs.flatMap yY,h id=h' id)→ub h l cs=ub h' l cs
 |[],[],_
 |[],_::_,_
 |_::_,[],_=>rfl
 |p::l,c::cs,hh=>by
  simp  at hh
  unfold ub
  rw[YO fun id hi=>hh id (.inl hi),YP (by grind)]
theorem yUs {ls}:pg h ls []=pg h' ls []:=by
 cases ls<;>rfl
theorem vEc {s:AS}{a}(hb:vX a=false):s.get h a=s.get h' a:=by
 unfold AS.get
 cases s with
 |c p=>grind
 |agg l=>grind
 |ptr l=>
  cases a with
  |c x=>cases x<;>first|rfl|(exact absurd hb (by nofun))
  |_=>rfl
 |fn f ba=>
  cases a with
  |c x=>cases x with
   |fn g ids=>
    cases ids with
    |nil=>dsimp only;rw[yUs]
    |cons _ _=>exact absurd hb (by nofun)
   |_=>rfl
  |_=>rfl
theorem yX7 {s:AS}{a cs}(hb:vX a=false)(e:s.get h a=some cs):∀id∈cs.flatMap yY,id∈yG a:=by
 unfold AS.get at e
 split at e
 ·cases e;intro id ab;simp  at ab;exact ab
 ·obtain⟨_,e⟩:=vQ e
  cases e;exact fun id ab=>ab
 ·exact absurd hb (by nofun)
 ·rename_i f ba g ids
  obtain⟨_,e⟩:=vQ e
  cases ids with
  |nil=>cases ba with
   |nil=>cases e;simp
   |cons _ _=>cases e
  |cons _ _=>exact absurd hb (by nofun)
 ·cases e
theorem YQ:∀{l as},as.any vX=false→nA h l as=nA h' l as
 |[],[],_
 |[],_::_,_
 |_::_,[],_=>rfl
 |s::l,a::as,hb=>by
  simp only[List.any_cons,Bool.or_eq_false_iff] at hb
  unfold nA
  rw[vEc (h:=h) (h':=h') hb.1,YQ hb.2]
theorem YR:∀{l as cs},as.any vX=false→nA h l as=some cs→∀id∈cs.flatMap yY,id∈as.flatMap yG
 |[],[],cs,_,e=>by cases e;simp
 |s::l,a::as,cs,hb,e=>by
  simp only[List.any_cons,Bool.or_eq_false_iff] at hb
  unfold nA at e
  split at e
  ·rename_i c1 rest e1 e2
   cases e
   intro id ab
   rw[List.flatMap_append,List.mem_append] at ab
   rw[List.flatMap_cons,List.mem_append]
   rcases ab with ab|ab
   ·exact .inl (yX7 hb.1 e1 id ab)
   ·exact .inr (YR hb.2 e2 id ab)
  ·cases e
theorem yYb {l as}(hb:as.any vX=false)(hh:∀id∈as.flatMap yG,h id=h' id):uc h l as=uc h' l as:=by
 unfold uc
 rw[YQ (h:=h) (h':=h') hb]
 cases e:nA h' l as with
 |none=>rfl
 |some cs=>exact YP fun id ab=>hh id (YR hb e id ab)
theorem xT {x}:[x].flatMap yY=yG (.c x):=by simp[yG]
theorem NP {c c' u}(e:kZ h c=some (c',u)):(∀id∈yY c',id∈yY c)∧(vX (.c c')=true→vX (.c c)=true):=by
 cases c with
 |osl id r=>
  unfold kZ at e
  dsimp only at e
  split at e
  ·cases e;exact⟨nofun,nofun⟩
  ·cases r with
   |none=>cases e;exact⟨nofun,nofun⟩
   |some _=>cases e
  ·cases e
 |mrow _ _ _=>cases e
 |_=>cases e;simp
theorem xU:∀{l cs},(∀id∈cs.flatMap yY,h id=h' id)→dH h l cs=dH h' l cs
 |[],cs,_=>by rfl
 |true::l,[],_
 |false::l,[],_=>rfl
 |true::l,c::cs,hh=>by
  simp  at hh
  unfold dH
  rw[XW fun id hi=>hh id (.inl hi),xU (by grind)]
 |false::l,c::cs,hh=>by
  unfold dH
  rw[xU (by grind)]
theorem xV:∀{l cs aF u},dH h l cs=some (aF,u)→∀id∈aF.flatMap yY,id∈cs.flatMap yY
 |[],cs,aF,u,e=>by cases cs<;>cases e<;>exact by simp
 |true::l,[],aF,u,e
 |false::l,[],aF,u,e=>by cases e;simp
 |true::l,c::cs,aF,u,e=>by
  unfold dH at e
  split at e
  ·rename_i c1 u1 jm nf e1 e2
   cases e
   intro id ab
   rw[List.flatMap_cons,List.mem_append] at ab⊢
   exact ab.imp ((NP e1).1 id) (xV e2 id)
  ·cases e
 |false::l,c::cs,aF,u,e=>by
  unfold dH at e
  split at e
  ·rename_i jm nf e2
   cases e
   intro id ab
   rw[List.flatMap_cons,List.mem_append] at ab⊢
   exact ab.imp (by simp) (xV e2 id)
  ·cases e
theorem vB1 {s a}(hh:∀id∈yG a,h id=h' id):rH h s a=rH h' s a:=by
 unfold rH
 cases s with
 |c p=>cases a with
  |c x=>
   have:=xU (h:=h) (h':=h') (l:=[p.isKept]) (cs:=[x]) (by rw[xT];exact hh)
   simp_all
  |_=>rfl
 |agg l=>cases a with
  |agg xs=>
   have:=xU (h:=h) (h':=h') (l:=l.map PC.isKept) (cs:=xs) hh
   simp_all
  |_=>rfl
 |_=>rfl
theorem vAd {s a a' u}(e:rH h s a=some (a',u)):(∀id∈yG a',id∈yG a)∧(vX a=false→vX a'=false):=by
 unfold rH at e
 split at e
 ·rename_i p x
  split at e
  ·rename_i y u1 e1
   cases e
   refine⟨fun id ab=>by have:=xV e1 id (by rw[xT];omega);rwa [xT] at this,fun hb=>?_⟩
   cases hk:p.isKept with
   |false=>rw[hk] at e1;cases e1;exact hb
   |true=>
    rw[hk] at e1
    unfold dH at e1
    split at e1
    ·rename_i c1 u2 jm nf e2 e3
     cases e1
     cases hy:vX (.c y) with
     |false=>rfl
     |true=>rw[(NP e2).2 hy] at hb;cases hb
    ·cases e1
  ·cases e
 ·split at e
  ·rename_i ys u1 e1
   cases e
   exact⟨xV e1,fun _=>rfl⟩
  ·cases e
 simp_all
theorem YS:∀{l as},(∀id∈as.flatMap yG,h id=h' id)→nC h l as=nC h' l as
 |[],as,_=>by rfl
 |_::_,[],_=>rfl
 |s::l,a::as,hh=>by
  simp  at hh
  unfold nC
  rw[vB1 fun id hi=>hh id (.inl hi),YS (by grind)]
theorem YT:∀{l as df u},nC h l as=some (df,u)→(∀id∈df.flatMap yG,id∈as.flatMap yG)∧(as.any vX=false→df.any vX=false)
 |[],as,df,u,e=>by cases as<;>cases e<;>exact by simp
 |s::l,[],df,u,e=>by cases e;simp
 |s::l,a::as,df,u,e=>by
  unfold nC at e
  split at e
  ·rename_i a1 u1 NM nf e1 e2
   obtain⟨k1,k2⟩:=vAd e1
   obtain⟨k3,k4⟩:=YT e2
   grind
  ·cases e
theorem NQ:∀{n nm},(∀i,i<n→h (nm+i)=h' (nm+i))→rG h nm n=rG h' nm n
 |0,_,_=>rfl
 |n+1,nm,hh=>by
  unfold rG
  have:=hh 0 (by omega)
  rw[Nat.add_zero] at this
  rw[this,NQ (by grind)]
end
theorem YU {as rs X}{S:Nat→AD as→Option X}{pack}:DF fun k nm args h=>lq as rs (S k) pack nm args h:=by
 intro k nm args h h' h1 h2
 cases hb:args.any vX with
 |true=>rw[h2 hb]
 |false=>
  have hh:=h1 hb
  show lq as rs (S k) pack nm args h=lq as rs (S k) pack nm args h'
  unfold lq
  rw[YS (h:=h) (h':=h') (by grind)]
  cases e:nC h' as args with
  |none=>rfl
  |some p=>
   obtain⟨cY,u⟩:=p
   obtain⟨k1,k2⟩:=YT e
   dsimp only
   rw[yYb (h:=qC h u) (h':=qC h' u) (k2 hb) fun id ab=>tU (by grind)]
   cases uc (qC h' u) as cY with
   |none=>rfl
   |some d=>
    cases hle:Nat.ble rs.cells.length 100 with
    |false=>simp
    |true=>
     have hle:=Nat.le_of_ble_eq_true hle
     rw [NQ (h := h) (h' := h') fun i hi => hh _ (.inr (by
      simp only[kk,Bool.and_eq_true]
      exact⟨by simp,by simp[Nat.blt_eq];omega⟩))]
def kD:Code→List Code
 |.seq a b=>kD a++kD b
 |.cond _ a b=>kD a++kD b
 |.block _ b=>kD b
 |.loop b=>[b]
 |_=>[]
def zX (c:Code)(i:Nat):Code:=match(kD c)[i]? with
 |some b=>b
 |none=>.skip
def zY (fn:Func):Code:=match fn.body with
 |some c=>c
 |none=>.skip
def YV (P:Program)(A:qB)(pre na nt:Nat)(b:Code):Prop:=(∃L,qy A b=some L∧zZ P pre na nt b L)∨(qy A b=none∧vU P A pre na nt b)
theorem yU0 {P A pre na nt}:∀c,(∀b∈kD c,YV P A pre na nt b)→vU P A pre na nt c:=by
 intro c
 induction c with
 |seq a b xF xG=>exact fun h=>⟨xF fun x hx=>h x (List.mem_append_left _ hx),xG fun x hx=>h x (List.mem_append_right _ hx)⟩
 |cond t a b xF xG=>exact fun h=>⟨xF fun x hx=>h x (List.mem_append_left _ hx),xG fun x hx=>h x (List.mem_append_right _ hx)⟩
 |block id b ih=>exact fun h=>ih h
 |loop b ih=>
  intro h
  rcases h b (List.mem_cons_self ..) with⟨L,h1,h2⟩|⟨h1,h2⟩
  ·refine⟨by grind,by grind⟩
  ·refine⟨fun L' h3=>?_,fun _=>h2⟩
   simp_all
 |_=>exact fun _=>trivial
theorem xW {P A pre na nt c n}(hn:(kD c).length=n)(h:∀i,i<n→YV P A pre na nt (zX c i)):vU P A pre na nt c:=
 yU0 c fun b hb=>by
  obtain⟨i,hi,rfl⟩:=List.getElem_of_mem hb
  have e:zX c i=(kD c)[i]:=by
   unfold zX
   grind
  grind
theorem loopsOK_of {P A pre na nt c n}(hn:(kD c).length=n)(h:∀i,i<n→∃L,qy A (zX c i)=some L∧zZ P pre na nt (zX c i) L):vU P A pre na nt c:=
 xW hn fun i hi=>.inl (h i hi)
theorem vJx {P A pre na nt c}(hn:(kD c).length=0):vU P A pre na nt c:=loopsOK_of hn (by simp)
theorem body_loops {P A pre na fn}(h:vU P A pre na fn.ntmps (zY fn)):∀c,fn.body=some c→vU P A pre na fn.ntmps c:=fun c hc=>by
 unfold zY at h
 simp_all
theorem DG {P f fn}(hf:P.funcs[f]? =some fn)(hb:fn.body.isNone=false)(hn:(fn.name== "runtime.NumGoroutine")=false):∀vs w,(callFunc f vs).run P w=.ok (.enter f vs) w:=fun vs w=>by
 have h1:(program).run P w=.ok P w:=rfl
 unfold callFunc
 simp only[Sem.run_bind,h1,Result.andThen_ok,hf,hn,hb,Bool.false_eq_true,if_false,Sem.run_pure]
abbrev zA (x:Int):Int:=IntKind.wrap .i64 x
abbrev fl (k:IntKind)(x y:Int):Int:=tl (fun _ a b=>a&&&b) k x y
abbrev fQ (k:IntKind)(x y:Int):Int:=tl (fun _ a b=>a|||b) k x y
abbrev shl (k:IntKind)(x y:Int):Int:=k.wrap (x*2^(min y.toNat k.bits))
abbrev shr (k:IntKind)(x y:Int):Int:=x.fdiv (2^(min y.toNat k.bits))
abbrev zU (n b:Nat):Bool:=Nat.ble (n*b) 140737488355328&&Nat.ble n 140737488355328
abbrev ug (l c:Int)(b:Nat):Bool:=decide (0≤l)&&decide (l≤c)&&decide (c*(b:Int)≤140737488355328)&&decide (c≤140737488355328)
abbrev vR (lt:Bool)(x y:Int):Int:=bif lt then(bif decide (y<x) then y else x) else(bif decide (y>x) then y else x)
abbrev NR (xs:List (List Int))(n:Nat):Option (List (List Int)):=
 jt (.c .mat) (fun d=>d.1) (.c (.osl 0 none)) ⟨fun _=>.undef,fun _=>some (.pmat 0 xs n)⟩
theorem yS9 xs n:NR xs n=bif Nat.beq xs.length n then some xs else none:=by
 unfold NR jt DC RS.get RS.cells
 dsimp only[List.map,RC.isFro,dH,vO,oF,qC]
 cases h:Nat.beq xs.length n<;>simp[gx,mf,h]
theorem YW {l:List Nat}{p:Nat→Bool}(hl:∀t∈l,p t=true)(t:Nat)(h:l.any (Nat.beq t)=true):p t=true:=by
 simp_all
theorem vB7 {P}:CZ P (fun _=>false):=nofun
open Go.ChangeShapes Go.WideShapes Go.ChangeAt Go.RowKit
def DH (f:TypeId→Option Ty):Nat→List (Nat×TypeId)→Option Ty
 |_,[]=>none
 |off,[x]=>bif Nat.beq x.1 off then f x.2 else none
 | off, x :: y :: l => bif Nat.beq x.1 off then (match f x.2 with
  |some a=>(match DH f (off+a.size) (y::l) with|some b=>some (.pair a b)|none=>none)
  |none=>none) else none
def nD (P:Program):TypeDesc→List (Nat×TypeId)
 |.struct fs=>fs.toList.map fun f=>(f.offset,f.type)
 |.array n e=>(List.range n).map fun i=>(i*P.cellsOf e,e)
 |_=>[]
def lu (P:Program):Nat→TypeId→Option Ty
 |0,_=>none
 |d+1,t=>match P.underlying t with
  |some (.int k)=>bif Nat.beq (P.cellsOf t) 1 then some (.int k) else none
  |some .bool=>bif Nat.beq (P.cellsOf t) 1 then some .bool else none
  |some (.slice e)=>bif Nat.beq (P.cellsOf t) 1&&Nat.ble 1 (P.bytesOf e) then(match lu P d e with|some a=>some (.sl a)|none=>none) else none
  |some x=>match DH (lu P d) 0 (nD P x) with
   |some a=>bif Nat.beq (P.cellsOf t) a.size then some a else none
   |none=>none
  |none=>none
def Wf:(t:Ty)→t.den→Prop
 |.int k,n=>(Lit.int k n).wf=true
 |.bool,_=>True
 |.sl t,xs=>xs.length≤reachBytes∧∀i (h:i<xs.length),Wf t xs[i]
 |.pair a b,p=>Wf a p.1∧Wf b p.2
theorem NS {P}:∀{d t ty},lu P d t=some ty→P.cellsOf t=ty.size
 |d+1,t,ty,h=>by
  unfold lu at h
  split at h
  ·obtain⟨h1,h2⟩:=vQ h;cases h2;exact Nat.eq_of_beq_eq_true h1
  ·obtain⟨h1,h2⟩:=vQ h;cases h2;exact Nat.eq_of_beq_eq_true h1
  ·obtain⟨h1,h2⟩:=vQ h
   rw[Bool.and_eq_true] at h1
   split at h2
   ·cases h2;exact Nat.eq_of_beq_eq_true h1.1
   ·cases h2
  ·split at h
   ·obtain⟨h1,h2⟩:=vQ h;simp_all
   ·cases h
  ·cases h
section
variable {H:Type} {enc:TypeId×Value→H} {P:Program} {w:World}
abbrev DI (w:World):Nat→Prop:=fun b=>b<w.heap.size
theorem yVs {a n cs}(h:w.cells? 0 a n=some cs):cs.length=n∧∀i,i<n→∃v,cs[i]? =some v∧w.cell? (a.add i)=some v:=by
 have hl:=mapM_some_length h
 have hg:=mapM_some_get h
 simp at hl
 refine⟨hl,fun i hi=>?_⟩
 have:=hg i i (by simp[hi])
 simp_all
theorem YX {a v}(h:w.cell? a=some v):a.spot=none∧a.block<w.heap.size∧yF w.heap a.block a.off=some v:=by
 unfold World.cell? at h
 cases hb:w.heap[a.block]? with
 |none=>simp_all
 |some o=>
  rw[hb] at h
  cases o with
  |cells c e z=>
   dsimp only at h
   split at h
   ·cases h
   ·refine⟨by simp_all,?_,?_⟩
    ·grind
    ·unfold yF;simp_all
  |_=>cases h
theorem YY {α:Type}{p:Nat→α→Prop}:∀n,(∀i,i<n→∃x,p i x)→∃xs:List α,xs.length=n∧∀i h,p i xs[i]
 |0,_=>by simp
 |n+1,h=>by
  obtain⟨xs,h1,h2⟩:=YY n fun i hi=>h i (by omega)
  obtain⟨x,hx⟩:=h n (by omega)
  refine⟨xs++[x],by simp[h1],fun i hi=>?_⟩
  grind
def jI (l:List Nat):Prop:=l.all (· ≤reachBytes)=true
theorem mh {l m}:jI (l++m)↔jI l∧jI m:=by simp[jI]
theorem YZ {P e}{d:DataW H}:∀{l},jI (DataW.weightsAll P e l)→d∈l→jI (d.weights P e)
 |a::l,h,hd=>by
  have h:=mh.1 h
  rcases List.mem_cons.1 hd with rfl|hd
  ·exact h.1
  ·exact YZ h.2 hd
theorem Y0 {P e}:∀{ts} {ds:List (DataW H)},(∀t∈ts,t=e)→jI (DataW.weightsAll P e ds)→jI (DataW.weightsEach P ts ds)
 |t::ts,d::ds,ht,h=>by
  have h:=mh.1 h
  rw[ht t (by simp)]
  exact mh.2 ⟨h.1,Y0 (by grind) h.2⟩
 |[],_,_,_=>by simp[DataW.weightsEach,jI]
 |_::_,[],_,_=>by rfl
def HR (P:Program)(w:World)(ty:Ty)(cs:List Value):Prop:=∃x:ty.den,cs.length=ty.size∧zV w.heap (DI w) ty x (fun j=>cs[j]?)∧Wf ty x
theorem Y1 {d fuel}(ih:∀t ty cs x,lu P d t=some ty→DataW.trod enc P w 0 (fun _=>true) true fuel t cs=some x→jI (x.1.weights P t)→HR P w ty cs):
  ∀l off ty (cs:List Value) out,DH (lu P d) off l=some ty→off+ty.size≤cs.length→
   (l.mapM fun p=>DataW.trod enc P w 0 (fun _=>true) true fuel p.2 ((cs.drop p.1).take (P.cellsOf p.2)))=some out→jI (DataW.weightsEach P (l.map (·.2)) (out.map (·.1)))→HR P w ty ((cs.drop off).take ty.size)
 |[x],off,ty,cs,out,h,hc,hm,hw=>by
  obtain⟨h1,h2⟩:=vQ h
  have ho:x.1=off:=by simpa using h1
  simp only[List.mapM_cons,List.mapM_nil,Option.pure_def,Option.bind_eq_bind,Option.bind_eq_some_iff] at hm
  obtain⟨y,hy,_,e,e'⟩:=hm
  cases e;cases e'
  rw[ho,NS h2] at hy
  exact ih _ _ _ _ h2 hy (mh.1 hw).1
 |x::y::l,off,ty,cs,out,h,hc,hm,hw=>by
  obtain⟨h1,h2⟩:=vQ h
  have ho:x.1=off:=by simpa using h1
  split at h2
  ·rename_i a ha
   split at h2
   ·rename_i b hb
    cases h2
    simp only[Ty.size] at hc⊢
    rw[List.mapM_cons] at hm
    simp only[Option.pure_def,Option.bind_eq_bind,Option.bind_eq_some_iff] at hm
    obtain⟨z,hz,zs,hzs,e⟩:=hm
    cases e
    rw[ho,NS ha] at hz
    have hw:=mh.1 hw
    obtain⟨p,p1,p2,p3⟩:=ih _ _ _ _ ha hz hw.1
    obtain⟨q,q1,q2,q3⟩:=Y1 ih (y::l) (off+a.size) b cs zs hb (by omega) hzs hw.2
    refine⟨(p,q),by simp only[List.length_take,List.length_drop,Ty.size];omega,⟨?_,?_⟩,p3,q3⟩
    ·refine yO (fun _ h=>h) (by simp) a p _ _ (fun j hj=>?_) p2
     simp only[List.getElem?_take,List.getElem?_drop]
     rw[if_pos (by omega),if_pos hj]
    grind
   ·cases h2
  ·cases h2
theorem NT:∀d t ty fuel cs x,lu P d t=some ty→DataW.trod enc P w 0 (fun _=>true) true fuel t cs=some x→jI (x.1.weights P t)→HR P w ty cs
 |0,_,_,_,_,_,h,_,_=>by cases h
 |d+1,t,ty,0,cs,x,_,h,_=>by simp[DataW.trod] at h
 |d+1,t,ty,fuel+1,cs,x,hl,h,hw=>by
  unfold lu at hl
  split at hl
  ·rename_i k hu
   obtain⟨_,hl⟩:=vQ hl
   cases hl
   obtain⟨n,rfl,_,uh⟩:=DataW.trod_int hu h
   exact⟨n,rfl,rfl,uh⟩
  ·rename_i hu
   obtain⟨_,hl⟩:=vQ hl
   cases hl
   obtain⟨b,rfl,_⟩:=DataW.trod_bool hu h
   exact⟨b,rfl,rfl,trivial⟩
  ·rename_i e hu
   obtain⟨dF,hl⟩:=vQ hl
   rw[Bool.and_eq_true] at dF
   have dF:=Nat.le_of_ble_eq_true dF.2
   split at hl
   ·rename_i a ha
    cases hl
    rcases DataW.trod_slice hu h with⟨rfl,_⟩|⟨ad,len,cap,elems,rest,n,hn,rfl,rfl,_,My,hm,hel,hg,_,_⟩
    ·refine⟨([]:List a.den),rfl,?_,?_⟩
     ·simp only[zV]
      exact⟨none,0,0,rfl,rfl,Nat.le_refl _,.inl ⟨trivial,fun _=>rfl⟩⟩
     ·simp only[Wf]
      exact by simp
    ·unfold DataW.weights at hw
     rw[hu] at hw
     have hw:jI ([((elems.map (·.1)).length+(rest.map (·.1)).length)*P.bytesOf e]++(DataW.weightsAll P e (elems.map (·.1))++DataW.weightsAll P e (rest.map (·.1)))):=hw
     obtain⟨DJ,hw⟩:=mh.1 hw
     have hw2:=(mh.1 hw).1
     have hlen:len≤reachBytes:=by
      simp only[jI,List.all_cons,List.all_nil,Bool.and_true,decide_eq_true_eq,List.length_map] at DJ
      have:=Nat.mul_le_mul_left (elems.length+rest.length) dF
      omega
     have key:∀i,i<len→∃x:a.den,(zV w.heap (DI w) a x (fun j=>yF w.heap ad.block (ad.off+i*a.size+j))∧(i=0→ad.spot=none)∧ad.block<w.heap.size)∧Wf a x:=by
      intro i hi
      have h1:=hg i hi
      have No:i<elems.length:=by omega
      rw[List.getElem?_eq_getElem No,Option.bind_eq_some_iff] at h1
      obtain⟨cs,kB,htr⟩:=h1
      rw[NS ha] at kB
      obtain⟨y,y1,y2,y3⟩:=NT d e a n cs _ ha htr (YZ hw2 (by grind))
      obtain⟨c1,c2⟩:=yVs kB
      have ui:∀j,((ad.add (i*a.size)).add j).block=ad.block∧((ad.add (i*a.size)).add j).off=ad.off+i*a.size+j:=by
       intro j
       unfold Addr.add
       constructor
       ·split<;>split<;>rfl
       ·split<;>split<;>simp_all
      have at0:(i=0→ad.spot=none)∧ad.block<w.heap.size:=by
       obtain⟨v,_,hv⟩:=c2 0 a.size_pos
       have h1:=YX hv
       refine⟨fun h0=>?_,by have:=h1.2.1;rwa [(ui 0).1] at this⟩
       have h2:=h1.1
       subst h0
       simpa[Addr.add] using h2
      refine⟨y,⟨yO (fun _ h=>h) (fun _ _=>rfl) a y _ _ (fun j hj=>?_) y2,at0⟩,y3⟩
      obtain⟨v,v1,v2⟩:=c2 j hj
      rw[v1]
      have h1:=(YX v2).2.2
      rwa [(ui j).1,(ui j).2] at h1
     obtain⟨xs,x1,x2⟩:=YY len key
     refine⟨xs,rfl,?_,?_⟩
     ·simp only[zV]
      refine⟨some ad,len,cap,rfl,x1.symm,My,?_⟩
      by_cases h0:xs=[]
      ·exact by grind
      ·refine .inr ⟨ad.block,ad.off,?_,?_,fun i hi=>(x2 i hi).1.1⟩
       ·have:=(x2 0 (List.length_pos_iff.2 h0)).1.2.1 rfl
        cases ad
        simp at this
        rw[this]
       ·exact by grind
     ·simp only[Wf]
      exact by grind
   ·cases hl
  ·rename_i y n1 n2 n3 hu
   split at hl
   ·rename_i a ha
    obtain⟨cN,hl⟩:=vQ hl
    cases hl
    have cN:P.cellsOf t=ty.size:=by simpa using cN
    have fin:∀out,cs.length=P.cellsOf t→((nD P y).mapM fun p=>DataW.trod enc P w 0 (fun _=>true) true fuel p.2 ((cs.drop p.1).take (P.cellsOf p.2)))=some out→jI (DataW.weightsEach P ((nD P y).map (·.2)) (out.map (·.1)))→HR P w ty cs:=by
     intro out hlen gp hw
     have:=Y1 (fun t' ty' aF x' h1 h2 h3=>NT d t' ty' fuel aF x' h1 h2 h3) (nD P y) 0 ty cs out ha (by omega) gp hw
     rwa [List.drop_zero,List.take_of_length_le (by omega)] at this
    unfold DataW.trod at h
    rw[hu] at h
    cases y with
    |struct fs=>
     dsimp only at h
     split at h
     ·rename_i hlen
      rw[Option.map_eq_some_iff] at h
      obtain⟨out,ho,rfl⟩:=h
      unfold DataW.weights at hw
      rw[hu] at hw
      refine fin out hlen ?_ (by rw[nD,List.map_map];exact hw)
      simp only[nD,List.mapM_map]
      exact ho
     ·cases h
    |array n e=>
     dsimp only at h
     split at h
     ·rename_i hlen
      rw[Option.map_eq_some_iff] at h
      obtain⟨out,ho,rfl⟩:=h
      unfold DataW.weights at hw
      rw[hu] at hw
      refine fin out hlen ?_ (Y0 (fun t ht=>by simp[nD] at ht;exact ht.2.symm) hw)
      simp only[nD,List.mapM_map]
      exact ho
     ·cases h
    |_=>simp[nD,DH] at ha
   ·cases hl
  ·cases hl
end
open Go.ChangeShapes Go.WideShapes Go.ChangeAt Go.RowKit
def ph (sh:Bool):Ty→List PC
 |.int k=>[.int k]
 |.bool=>[.bool]
 |.sl t=>[.dat sh t]
 |.pair a b=>ph sh a++ph sh b
def rM:(l m:List PC)→PL l→PL m→PL (l++m)
 |[],_,_,e=>e
 |_::l,m,d,e=>(d.1,rM l m d.2 e)
theorem NU:∀l m d e,vJ (l++m) (rM l m d e)=vJ l d++vJ m e
 |[],_,_,_=>rfl
 |p::l,m,d,e=>by
  show xR p d.1::vJ (l++m) (rM l m d.2 e)=xR p d.1::(vJ l d.2++vJ m e)
  rw[NU l m d.2 e]
def nE sh:(t:Ty)→t.den→PL (ph sh t)
 |.int _,n=>(n,())
 |.bool,b=>(b,())
 |.sl _,xs=>(xs,())
 |.pair a b,p=>rM _ _ (nE sh a p.1) (nE sh b p.2)
def WfP:(p:PC)→p.den→Prop
 |.int k,n=>(Lit.int k n).wf=true
 |.bool,_=>True
 |.dat _ t,xs=>Wf (.sl t) xs
 |.fn _,_=>True
 |.nil,_=>True
 |.nilp,_=>True
def pj:(l:List PC)→PL l→Prop
 |[],_=>True
 |p::l,d=>WfP p d.1∧pj l d.2
theorem NV:∀l m d e,pj l d→pj m e→pj (l++m) (rM l m d e)
 |[],_,_,_,_,h=>h
 |_::l,m,d,e,h,h'=>⟨h.1,NV l m d.2 e h.2 h'⟩
theorem NW sh:∀t x,Wf t x→pj (ph sh t) (nE sh t x)
 |.int _,_,h
 |.bool,_,h
 |.sl _,_,h=>⟨h,trivial⟩
 |.pair a b,p,h=>NV _ _ _ _ (NW sh a p.1 h.1) (NW sh b p.2 h.2)
theorem HS:∀l d,(vJ l d).length=l.length
 |[],_=>rfl
 |p::l,d=>by
  show(vJ l d.2).length+1=l.length+1
  rw[HS l d.2]
def M0 (w:World):zH:=⟨fun _=>none,DI w,DI w,iD [],w.heap⟩
theorem yZf w:Ok (M0 w) where
 obj:=nofun
 non:=fun _ _=>rfl
 disj:=fun i j oi oj Ci Cj b _ h=>by cases h
 own:=nofun
 GF:=fun _ h=>h
 Flt:=fun _ h=>h
theorem NX sh {w}:∀t x cs,cs.length=t.size→zV w.heap (DI w) t x (fun j=>cs[j]?)→zJ (zR (M0 w)) (vJ (ph sh t) (nE sh t x)) cs
 |.int k,n,cs,hl,h=>by
  match cs,hl with
  |[c],_=>
   have e:c=.int k n:=by simpa[zV] using h
   exact⟨e,trivial⟩
 |.bool,b,cs,hl,h=>by
  match cs,hl with
  |[c],_=>
   have e:c=.bool b:=by simpa[zV] using h
   exact⟨e,trivial⟩
 |.sl t,xs,cs,hl,h=>by
  match cs,hl with
  |[c],_=>
   refine⟨?_,trivial⟩
   have h':=yO (F':=(bif sh then(M0 w).G else(M0 w).F)) (fun b h=>by cases sh<;>exact h) (fun b _=>rfl) (.sl t) xs (fun j=>[c][j]?) (fun _=>some c) (by grind) h
   exact h'
 |.pair a b,p,cs,hl,h=>by
  have fm:cs.length=a.size+b.size:=hl
  have h1:=NX sh a p.1 (cs.take a.size) (by grind) (yO (fun _ h=>h) (by simp) a p.1 _ _ (by grind) h.1)
  have h2:=NX sh b p.2 (cs.drop a.size) (by grind) (yO (by simp) (fun _ _=>rfl) b p.2 _ _ (by grind) h.2)
  show zJ _ (vJ (ph sh a++ph sh b) (rM _ _ (nE sh a p.1) (nE sh b p.2))) cs
  rw[NU]
  have:=zJ.append h1 h2
  simp_all
def nF (sh : Bool) (P : Program) (t : TypeId) (ty : Ty) : AS := bif jE P t == some true then .agg (ph sh ty) else (match ty with
 |.int k=>.c (.int k)|.bool=>.c .bool|.sl t=>.c (.dat sh t)|.pair a b=>.agg (ph sh (.pair a b)))
def HT (P:Program):List TypeId→Option (List Ty)
 |[]=>some []
 |t::ts=>match lu P 8 t,HT P ts with
  |some a,some l=>some (a::l)
  |_,_=>none
def pn (sh:Bool)(P:Program):List TypeId→List Ty→List AS
 |t::ts,a::l=>nF sh P t a::pn sh P ts l
 |_,_=>[]
theorem ySw {P t ty}(h:lu P 8 t=some ty)(ha:(jE P t==some true)=false):(∃k,P.underlying t=some (.int k)∧ty=.int k)∨(P.underlying t=some .bool∧ty=.bool)∨∃e a,P.underlying t=some (.slice e)∧ty=.sl a:=by
 unfold lu at h
 split at h
 ·grind
 ·grind
 ·grind
 ·rename_i x _ _ _ hu
  split at h
  ·rename_i a hx
   unfold jE at ha
   rw[hu] at ha
   cases x<;>first|(simp[nD,DH] at hx;done)|(cases ha)
  ·cases h
 ·cases h
section
variable {H:Type} {enc:TypeId×Value→H} {P:Program} {w:World}
theorem yNx sh {t ty v d ps base}(hl:lu P 8 t=some ty)(dX:Value.okWide P w .any base t v)(h:DataW.Trod enc P w 0 (fun _=>true) true t v d ps)(hw:jI (d.weights P t)):
  ∃x:PL (nF sh P t ty).cells,(∀n,zN (M0 w) ((nF sh P t ty).mk n (vJ _ x)) v)∧(nF sh P t ty).boxes (vJ _ x)=[]∧pj _ x:=by
 obtain⟨fuel,hf⟩:=h
 obtain⟨x,x1,x2,x3⟩:=NT 8 t ty fuel _ _ hl hf hw
 have cw:=NX sh ty x _ x1 x2
 have xX:=NW sh ty x x3
 unfold nF
 cases ha:(jE P t==some true) with
 |true=>
  refine⟨nE sh ty x,fun n=>?_,rfl,xX⟩
  have nc:jE P t=some true:=by simp_all
  have hv:∃cs,v=.agg cs:=by
   unfold jE at nc
   unfold Value.okWide at dX
   grind
  obtain⟨cs,rfl⟩:=hv
  exact⟨cs,rfl,cw⟩
 |false=>
  rcases ySw hl ha with⟨k,hu,rfl⟩|⟨hu,rfl⟩|⟨e,a,hu,rfl⟩
  ·have hv:∃n,v=.int k n:=by
    simp[Value.okWide,Cell.okWide] at dX
    cases v<;>simp_all[Cell.ok]
   obtain⟨n0,rfl⟩:=hv
   exact⟨nE sh _ x,fun n=>cw.1,rfl,xX⟩
  ·have hv:∃b,v=.bool b:=by
    simp[Value.okWide,Cell.okWide] at dX
    cases v<;>simp_all[Cell.ok]
   obtain⟨b,rfl⟩:=hv
   exact⟨nE sh _ x,fun n=>cw.1,rfl,xX⟩
  ·obtain⟨ad,len,cap,rfl⟩:=okWide_slice hu dX
   exact⟨nE sh _ x,fun n=>cw.1,rfl,xX⟩
theorem Y2 sh {base}:∀ts tys vs ds ps n,HT P ts=some tys→(∀(j:Nat) t v,ts[j]? =some t→vs[j]? =some v→Value.okWide P w .any base t v)→
  DataW.TrodAll enc P w 0 (fun _=>true) true ts vs ds ps→jI (DataW.weightsEach P ts ds)→∃x:AD (pn sh P ts tys),zJ (zN (M0 w)) (iC (pn sh P ts tys) (vJ _ x) n).1 vs∧(iC (pn sh P ts tys) (vJ _ x) n).2=[]∧pj _ x
 |[],tys,vs,ds,ps,n,hl,dX,h,_=>by
  match vs,ds,h with
  |[],[],_=>exact⟨(),trivial,rfl,trivial⟩
 |t::ts,tys,vs,ds,ps,n,hl,dX,h,hw=>by
  unfold HT at hl
  split at hl
  ·rename_i a l ha fm
   cases hl
   match vs,ds,h with
   |v::vs,d::ds,h=>
    obtain⟨p,q,h1,h2,_⟩:=h
    have hw:=mh.1 hw
    obtain⟨x,x1,x2,x3⟩:=yNx sh ha (dX 0 t v rfl rfl) h1 hw.1
    obtain⟨y,y1,y2,y3⟩:=Y2 sh ts l vs ds q n fm (fun j t' v' h1 h2=>dX (j+1) t' v' h1 h2) h2 hw.2
    refine⟨rM _ _ x y,?_⟩
    have e:vJ ((pn sh P (t::ts) (a::l)).flatMap AS.cells) (rM _ _ x y)=vJ _ x++vJ _ y:=NU _ _ _ _
    have ht:(vJ _ x++vJ _ y).take (nF sh P t a).cells.length=vJ _ x:=by
     rw[List.take_append_of_le_length (by rw[HS];omega),List.take_of_length_le (by rw[HS];omega)]
    have hd:(vJ _ x++vJ _ y).drop (nF sh P t a).cells.length=vJ _ y:=by
     rw[List.drop_append_of_le_length (by rw[HS];exact by simp),List.drop_of_length_le (by grind),List.nil_append]
    rw[e]
    have em:iC (pn sh P (t::ts) (a::l)) (vJ _ x++vJ _ y) n=((nF sh P t a).mk n (vJ _ x)::(iC (pn sh P ts l) (vJ _ y) n).1,(iC (pn sh P ts l) (vJ _ y) n).2):=by
     show((nF sh P t a).mk n _::_,(nF sh P t a).boxes _++_)=_
     simp_all
    rw[em]
    exact⟨⟨x1 n,y1⟩,y2,NV _ _ _ _ x3 y3⟩
  ·cases hl
theorem Y3 {us}{gs:List (DataW H)}:∀{ts ds},ts.length=ds.length→jI (DataW.weightsEach P (ts++us) (ds++gs))→jI (DataW.weightsEach P ts ds)
 |[],[],_,_=>by rfl
 |t::ts,d::ds,hl,h=>mh.2 ⟨(mh.1 h).1,Y3 (by simp_all) (mh.1 h).2⟩
theorem Y4:∀{ts vs ds ps},DataW.TrodAll enc P w 0 (fun _=>true) true ts vs ds ps→ts.length=ds.length
 |[],[],[],_,_=>rfl
 |_::_,_::_,_::_,_,⟨_,_,_,h,_⟩=>by rw[List.length_cons,List.length_cons,Y4 h]
theorem lawArgs sh {base ts tys asp vs ds ps}(hl:HT P ts=some tys)(has:pn sh P ts tys=asp)
  (dX:∀(j:Nat) t v,ts[j]? =some t→vs[j]? =some v→Value.okWide P w .any base t v) (h:DataW.TrodAll enc P w 0 (fun _=>true) true ts vs ds ps) {us gs} (hw:jI (DataW.weightsEach P (ts++us) (ds++gs))):
  ∃x:AD asp,zJ (zN (M0 w)) (iC asp (vJ _ x) 0).1 vs∧(iC asp (vJ _ x) 0).2=[]∧pj _ x:=by
 subst has
 exact Y2 sh ts tys vs ds ps 0 hl dX h (Y3 (Y4 h) hw)
theorem law_calls {E}(hE:dG E)(hS:fM E.sums)(hm:E.P.follows .mixedOrders=true){A k pre f fn}(hf:E.P.funcs[f]? =some fn)(hL:∀c,fn.body=some c→vU E.P A pre 0 fn.ntmps c)
  {as d unpack} (hup:∀d,unpack d=d.1) (aG:gg E A k pre 0 fn (me as d).1 (me as d).2 (jt (.c .bool) unpack)=some true) (hb:(iC as (vJ _ d) 0).2=[]) {vs} (hv:zJ (zN (M0 w)) (iC as (vJ _ d) 0).1 vs.toList):
  Calls E.P f vs w fun e w'=>e=.returned (.bool true)∧Below w.heap.size w w':=by
 have hh:(M0 w).h=(me as d).2:=by
  show iD []=iD (iC as (vJ _ d) 0).2
  rw[hb]
 refine Calls.mono (Nx hE hS hm hf hL aG (M:=M0 w) (w:=w) hh rfl (yZf w) hv) fun e w' he=>?_
 cases e with
 |returned rv=>
  obtain⟨M',v,st,hK,_,hH,_,hg,_,hrv,o1,o2,o3,_⟩:=he
  refine⟨?_,o1,o2,o3,?_,fun b hb=>?_⟩
  ·unfold jt at hK
   split at hK
   ·rename_i r hr
    unfold DC at hr
    split at hr
    ·rename_i cs kB
     split at hr
     ·rename_i aF u xv
      cases v with
      |c x=>
       cases kB
       have e1:aF=[x]:=by
        simp[RS.cells,RC.isFro,dH] at xv
        simp_all
       subst e1
       have nk:gx (qC st.h u) [.bool] [x]=some r:=hr
       cases x with
       |bool b=>
        have e2:r=(b,()):=by simp[gx,mf] at nk;grind
        have:rv=.bool b:=hrv
        grind
       |_=>simp[gx,mf] at nk
      |_=>cases kB
     ·cases hr
    ·cases hr
   ·cases hK
  ·have:=hg.size
   rw[hH] at this
   exact this
  ·have:=hg.same b hb
   rw[hH] at this
   exact this
 |_=>simp_all
end
inductive XC where
 |p (c:PC)|own (t:Ty)|mat|map
 |link (j:Nat)
abbrev XC.den:XC→Type
 |.p c=>c.den|.own t=>List t.den|.mat=>List (List Int)|.map=>List (Int×Bool)|.link _=>Unit
def XC.lnk:XC→Option Nat
 |.link j=>some j
 |_=>none
def RC.lnk:RC→Option Nat
 |.link j=>some j
 |_=>none
def nG:List (Option Nat)→List Nat→List zS→Bool
 |none::l,ids,_::cs=>nG l ids cs
 |some j::l,ids,.ptr id 0::cs=>(match ids[j]? with|some k=>Nat.beq id k|none=>false)&&nG l ids cs
 |some _::_,_,_=>false
 |_,_,_=>true
def uj:List (Option Nat)→List Nat→List zS→List zS
 |none::l,ids,c::cs=>c::uj l ids cs
 |some j::l,ids,c::cs=>(match ids[j]? with|some id=>.ptr id 0|none=>c)::uj l ids cs
 |_,_,cs=>cs
def NY:List zS→Option Nat
 |[]=>none
 |.ptr id 0::_=>some id
 |_::l=>NY l
def DK (h:Hp):Nat→Nat→Option (List Nat)
 |0,_=>none
 |1,id=>some [id]
 |n+2,id=>match xQ h id with
  | some cells => (match NY cells with
   |some id2=>(match DK h (n+1) id2 with|some l=>some (id::l)|none=>none)
   |none=>none)
  |none=>none
def iE:Nat→Nat→List Nat
 |_,0=>[]
 |n,m+1=>n::iE (n+1) m
abbrev XL:List XC→Type
 |[]=>Unit
 |c::l=>c.den×XL l
inductive AX where
 |c (x:XC)|agg (l:List PC)|ptr (io:Bool) (l:List XC)|fn (f:Nat) (ba:List (Bool×List XC))
 |chn (ls:List (List XC))
def AX.cells:AX→List XC
 |.c x=>[x]
 |.agg l=>l.map .p
 |.ptr _ l=>l
 |.fn _ ba=>ba.flatMap (·.2)
 |.chn ls=>ls.flatten
def AX.nb:AX→Nat
 |.ptr _ _=>1
 |.fn _ ba=>ba.length
 |.chn ls=>ls.length
 |_=>0
def AX.isChn:AX→Bool
 |.chn _=>true
 |_=>false
def xY (ls:List (List XC)):List (Bool×List XC):=ls.map fun l=>(true,l)
abbrev XD (l:List AX):Type:=XL (l.flatMap AX.cells)
def AX.looks:AX→Bool
 |.ptr _ _=>true
 |.fn _ _=>true
 |_=>false
def pq (l:List AX)(na:Nat):Bool:=l.zipIdx.all fun p=> !p.1.looks||Nat.blt p.2 na
def xZ (h:Hp)(io:Bool)(id:Nat):Option (List zS):=match io,h id with
 |true,some (.box true cells)=>some cells
 |false,some (.box _ cells)=>some cells
 |false,some (.robox cells)=>some cells
 |_,_=>none
def fR (h:Hp):List (Bool×List XC)→List Nat→Option (List zS×List (Bool×Nat))
 |[],[]=>some ([],[])
 |(io,l)::ls,id::ids=>match xZ h io id,fR h ls ids with
  |some cells,some (rest,bs)=>bif Nat.beq cells.length l.length then some (cells++rest,(io,id)::bs) else none
  |_,_=>none
 |_,_=>none
def AX.get (h:Hp):AX→zQ→Option (List zS×List (Bool×Nat))
 |.c _,.c x=>some ([x],[])
 |.agg l,.agg xs=>bif Nat.beq xs.length l.length then some (xs,[]) else none
 |.ptr io l,.c (.ptr id 0)=>fR h [(io,l)] [id]
 |.fn f ba,.c (.fn g ids)=>bif Nat.beq f g then fR h ba ids else none
 |.chn ls,.c (.ptr id 0)=>match DK h ls.length id with
  |some ids=>fR h (xY ls) ids
  |none=>none
 |_,_=>none
def gy (h:Hp):List AX→List zQ→Option (List zS×List (Bool×Nat))
 |[],[]=>some ([],[])
 |s::l,a::as=>match s.get h a,gy h l as with
  |some (cs,bs),some (aF,uk)=>some (cs++aF,bs++uk)
  |_,_=>none
 |_,_=>none
def DL (h:Hp):(x:XC)→zS→Option x.den
 |.p p,c=>pc h p c
 |.own t,.osl id none=>match h id with
  |some (.arr true s xs)=>eG s t xs
  |_=>none
 |.mat,.osl id none=>match h id with
  |some (.mat _ xs)=>some xs
  |_=>none
 |.map,.map id=>match h id with
  |some (.imap cj)=>some cj
  |_=>none
 |.link _,.ptr _ 0=>some ()
 |_,_=>none
def mi (h:Hp):(l:List XC)→List zS→Option (XL l)
 |[],[]=>some ()
 |x::l,c::cs=>match DL h x c,mi h l cs with
  |some d,some ds=>some (d,ds)
  |_,_=>none
 |_,_=>none
def wT:List XC→List zS→List Nat
 |.p _::l,_::cs=>wT l cs
 |.link _::l,_::cs=>wT l cs
 |_::l,.osl id _::cs=>id::wT l cs
 |_::l,.map id::cs=>id::wT l cs
 |_::l,_::cs=>wT l cs
 |_,_=>[]
def DM:List XC→List zS→List Nat
 |.p _::l,c::cs=>yY c++DM l cs
 |_::l,_::cs=>DM l cs
 |_,_=>[]
def vZ:Nat:=500
def eP:(l:List XC)→XL l→Nat→List zS×List Obj
 |[],_,_=>([],[])
 |.p p::l,d,n=>let r:=eP l d.2 n;(xR p d.1::r.1,r.2)
 |.own t::l,d,n=>let r:=eP l d.2 (n+1);(.osl n none::r.1,.arr true t d.1::r.2)
 |.mat::l,d,n=>let r:=eP l d.2 (n+1);(.osl n none::r.1,.mat 0 d.1::r.2)
 |.map::l,d,n=>let r:=eP l d.2 (n+1);(.map n::r.1,.imap d.1::r.2)
 |.link j::l,d,n=>let r:=eP l d.2 n;(.ptr j 0::r.1,r.2)
def DN:List (Bool×List XC)→List zS→List Obj
 |[],_=>[]
 |(io,l)::ls,cs=>(bif io then .box true (cs.take l.length) else .robox (cs.take l.length))::DN ls (cs.drop l.length)
def AX.mk (n:Nat)(cs:List zS):AX→zQ
 |.c _=>match cs with|x::_=>.c x|[]=>.undef
 |.agg _=>.agg cs
 |.ptr _ _=>.c (.ptr n 0)
 |.fn f ba=>.c (.fn f ((List.range ba.length).map (n+·)))
 |.chn _=>.c (.ptr n 0)
def AX.boxes (cs:List zS):AX→List Obj
 |.ptr io l=>DN [(io,l)] cs
 |.fn _ ba=>DN ba cs
 |.chn ls=>DN (xY ls) cs
 |_=>[]
def um:List AX→List zS→Nat→List zQ×List Obj
 |[],_,_=>([],[])
 |s::l,cs,n=>
  let ai:=cs.take s.cells.length
  let bs:=s.boxes ai
  let rest:=um l (cs.drop s.cells.length) (n+bs.length)
  (s.mk n ai::rest.1,bs++rest.2)
def DO (bs rows:List Obj):Hp:=fun n=>bif Nat.ble vZ n then rows[n-vZ]? else bs[n]?
def gz l (d:XD l):List zQ×Hp:=
 let r:=eP (l.flatMap AX.cells) d vZ
 let m:=um l r.1 0
 (m.1,DO m.2 r.2)
def DP:List (Bool×List XC)→List Nat→Option (List Nat)
 |[],[]=>some []
 |(io,_)::ls,id::ids=>match DP ls ids with
  |some l=>some (bif io then id::l else l)
  |none=>none
 |_,_=>none
def AX.io (b:Nat):AX→zQ→Option (List Nat)
 |.c _,_=>some []
 |.agg _,_=>some []
 |.ptr io l,.c (.ptr id 0)=>DP [(io,l)] [id]
 |.fn _ ba,.c (.fn _ ids)=>DP ba ids
 |.chn ls,_=>some (iE b ls.length)
 |_,_=>none
def HU:List AX→(Nat→zQ)→Nat→Nat→Option (List Nat)
 |[],_,_,_=>some []
 |s::l,t,n,b=>match s.io b (t n),HU l t (n+1) (b+s.nb) with
  |some a,some b=>some (a++b)
  |_,_=>none
def ya (h:Hp):List (List RC)→List Nat→Option (List zS)
 |[],[]=>some []
 |o::os,n::ns=>match h n,ya h os ns with
  |some (.box true cells),some rest=>bif Nat.beq cells.length o.length then some (cells++rest) else none
  |_,_=>none
 |_,_=>none
def NZ (h:Hp)(ns:Nat)(cs:List zS):Option (List Nat):=bif Nat.beq ns 0 then some [] else match NY cs with
 |some id=>DK h ns id
 |none=>none
def rN (st:St)(as:List AX)(rs:RS)(os:List (List RC))(ns:Nat)(v:zQ):Option (RL (rs.cells++os.flatten)):=
 match HU as st.t 0 0 with
 |none=>none
 |some io=>match rs.get v with
  |none=>none
  |some cs=>match NZ st.h ns cs with
   |none=>none
   |some nw=>match ya st.h os (io++nw) with
    |none=>none
    | some bs => bif oF (io ++ nw) then (match dH st.h ((rs.cells++os.flatten).map RC.isFro) (cs++bs) with
     |some (cs,u)=>bif oF (vO (rs.cells++os.flatten) cs)&&nG ((rs.cells++os.flatten).map RC.lnk) (io++nw) cs then gx (qC st.h u) (rs.cells++os.flatten) cs else none
     |none=>none) else none
def DQ (as:List AX)(rs:RS)(os:List (List RC))(ns:Nat){X:Type}(unpack:RL (rs.cells++os.flatten)→X)(v:zQ)(st:St):Option X:=match rN st as rs os ns v with
 |some d=>some (unpack d)
 |none=>none
def HV (as:List AX)(rs:RS)(os:List (List RC))(ns:Nat)(rs2:RS)(os2:List (List RC))(ns2:Nat){X Y:Type}(up:RL (rs.cells++os.flatten)→X)(iF:RL (rs2.cells++os2.flatten)→Y)(v:zQ)(st:St):Option (X⊕Y):=match rN st as rs os ns v with
 |some d=>some (.inl (up d))
 |none=>match rN st as rs2 os2 ns2 v with
  |some d=>some (.inr (iF d))
  |none=>none
def rO:List (List RC)→List zS→List (List zS)
 |[],_=>[]
 |o::os,cs=>cs.take o.length::rO os (cs.drop o.length)
def vA:List (Bool×Nat)→List Nat
 |[]=>[]
 |(true,id)::l=>id::vA l
 |(false,_)::l=>vA l
def HW:List (Bool×Nat)→List Nat
 |[]=>[]
 |(true,_)::l=>HW l
 |(false,id)::l=>id::HW l
def yc:List Nat→List (List zS)→yR
 |id::ids,cs::css=>(id,.box true cs)::yc ids css
 |_,_=>[]
def mj (ids:List Nat):yR:=ids.map fun id=>(id,.gone)
def yT8 (nm:Nat)(rs:RS)(os:List (List RC))(ids:List Nat)(d:RL (rs.cells++os.flatten)):zQ×yR:=
 let r:=ll nm (rs.cells++os.flatten) d
 let cs:=uj ((rs.cells++os.flatten).map RC.lnk) ids r.1
 (rs.mk (cs.take rs.cells.length),r.2++yc ids (rO os (cs.drop rs.cells.length)))
def N0 (a b:List Nat):Bool:=a.all fun x=> !b.any (Nat.beq x)
def rP (h:Hp):AX→zQ→Option (zQ×yR)
 |.c (.p p),.c x=>match dH h [p.isKept] [x] with
  |some ([x],u)=>some (.c x,u)
  |_=>none
 |.agg l,.agg xs=>match dH h (l.map PC.isKept) xs with
  |some (xs,u)=>some (.agg xs,u)
  |none=>none
 |_,a=>some (a,[])
def nH (h:Hp):List AX→List zQ→Option (List zQ×yR)
 |s::l,a::as=>match rP h s a,nH h l as with
  |some (a,u),some (as,us)=>some (a::as,u++us)
  |_,_=>none
 |_,as=>some (as,[])
def uo as (nm n:Nat)(args:List zQ)(h:Hp):Option (yR×List Nat×List Nat×XD as):=
 match nH h as args with
 |none=>none
 |some (args,u)=>match gy (qC h u) as args with
  |none=>none
  |some (cs,bs)=>match mi (qC h u) (as.flatMap AX.cells) cs with
   |none=>none
   |some d=>
    let rows:=wT (as.flatMap AX.cells) cs
    let ai:=vA bs++rows
    bif rG h nm n&&Nat.ble n 100&&Nat.ble bs.length vZ&&oF ai&&N0 ai (DM (as.flatMap AX.cells) cs)&&N0 ai (HW bs)&&nG ((as.flatMap AX.cells).map XC.lnk) (bs.map (·.2)) cs then
     some (u,vA bs,rows,d)
    else none
def DR (u:yR)(io rows:List Nat)(rs:RS)(os:List (List RC))(ns nm:Nat)(d:RL (rs.cells++os.flatten)):zQ×yR:=
 let r:=yT8 nm rs os (io++iE (nm+(rs.cells++os.flatten).length) ns) d
 (r.1,u++(mj rows++r.2))
def nI as (rs:RS)(os:List (List RC))(ns:Nat){X}(S:XD as→Option X)(pack:X→RL (rs.cells++os.flatten))(nm:Nat)(args:List zQ)(h:Hp):yI:=
 match uo as nm ((rs.cells++os.flatten).length+ns) args h with
 |none=>.stuck
 |some (u,io,rows,d)=>.call X (S d) fun r=>DR u io rows rs os ns nm (pack r)
def pt as (rs:RS)(os:List (List RC))(ns:Nat)(rs2:RS)(os2:List (List RC))(ns2:Nat){X Y}(S:XD as→Option (X⊕Y))(pk:X→RL (rs.cells++os.flatten))(fq:Y→RL (rs2.cells++os2.flatten))(nm:Nat)(args:List zQ)(h:Hp):yI:=
 match uo as nm (((rs.cells++os.flatten).length+ns)+((rs2.cells++os2.flatten).length+ns2)) args h with
 |none=>.stuck
 |some (u,io,rows,d)=>.call2 X Y (S d) (fun r=>DR u io rows rs os ns nm (pk r)) (fun r=>DR u io rows rs2 os2 ns2 nm (fq r))
def gY (M:zH)(ai:List Nat)(b:Nat):Prop:=∃id∈ai,∃C,M.κ id=some C∧b∈C.fp
structure nJ (M:zH) (ai:List Nat) (Ml:zH):Prop where
 H:Ml.H=M.H
 F:Ml.F=fun b=>b<M.H.size∧¬gY M ai b
 G:Ml.G=M.G
def kE (M:zH)(ai:List Nat):Prop:=∀id∈ai,∃o,M.h id=some o∧o.owned=true
theorem gY.own {M ai}(ho:kE M ai){b}(h:gY M ai b):qH M b:=by
 obtain⟨id,ab,C,hC,hb⟩:=h
 obtain⟨o,h1,h2⟩:=ho id ab
 exact⟨id,o,C,h1,h2,hC,hb⟩
theorem pv {M}(ok:Ok M){ai}(ho:kE M ai){b}(h:M.F b):b<M.H.size∧¬gY M ai b:=⟨ok.Flt b h,fun hh=>(ok.own b (hh.own ho)).1 h⟩
theorem Y5 {M M'}(ok:Ok M){ai}(ho:kE M ai){id o}(hn:id∉ai)(hh:M'.h=qY M.h id o)(hκ:M'.κ=M.κ)(hH:M'.H=M.H)(gl:Ok M'){b}(h:M'.G b):b<M.H.size∧¬gY M ai b:=by
 have hf:=gl.GF b h
 refine⟨by have:=gl.Flt b hf;simp_all,fun hd=>?_⟩
 obtain⟨jd,hj,C,hC,hb⟩:=hd
 obtain⟨q,h1,h2⟩:=ho jd hj
 refine(gl.own b ⟨jd,q,C,?_,h2,?_,hb⟩).1 hf
 ·rw[hh,yH _ _ (by grind)];exact h1
 simp_all
theorem yXm {M}(ok:Ok M){ai}(ho:kE M ai){c v t xs}(hn:∀id∈yY c,id∉ai)(hv:zR M c v)(h:gd M.h c=some ⟨t,xs⟩):
  zV M.H (fun b=>b<M.H.size∧¬gY M ai b) (.sl t) xs (fun _=>some v):=by
 unfold gd at h
 split at h
 ·rename_i sh s ys
  cases h
  cases sh with
  |true=>exact yO (fun b hb=>pv ok ho (ok.GF b hb)) (by simp) _ _ _ _ (fun _ _=>rfl) hv
  |false=>exact yO (fun b hb=>pv ok ho hb) (by simp) _ _ _ _ (fun _ _=>rfl) hv
 ·rename_i id r
  have l7:id∉ai:=hn id (by simp[yY])
  split at h
  ·rename_i own s ys ab
   cases h
   cases own with
   |false=>
    obtain⟨C,hC,hO⟩:=ok.obj _ _ ab
    exact yO (fun b hb=>pv ok ho (ok.GF b hb)) (by simp) _ _ _ _ (by simp) (tA hC hO hv)
   |true=>
    obtain⟨M',h1,h2,h3,h4,h5⟩:=WR ok ab
    obtain⟨C,hC,hO⟩:=h3.obj id _ (by rw[h2];exact yE _ _ _)
    have:=tA hC hO (hv.ext h4.ext)
    exact yO (fun b hb=>Y5 ok ho l7 h2 h5 h1 h3 hb) (by grind) _ _ _ _ (by simp) this
  ·rename_i ver ys ab
   cases r with
   |some p=>cases h
   |none=>
    cases h
    obtain⟨M',h1,h2,h3,h4,h5⟩:=WT ok ab
    obtain⟨C,hC,hO⟩:=h3.obj id _ (by rw[h2];exact yE _ _ _)
    have:=tA (r:=none) hC hO (hv.ext h4.ext)
    exact yO (fun b hb=>Y5 ok ho l7 h2 h5 h1 h3 hb) (by grind) _ _ _ _ (by simp) this
  ·cases h
 ·rename_i id i ver
  have l7:id∉ai:=hn id (by simp[yY])
  split at h
  ·rename_i v' ys ab
   cases dp:Nat.beq v' ver with
   |false=>rw[dp] at h;cases h
   |true=>
    rw[dp] at h
    cases h
    have e:v'=ver:=by simpa using dp
    subst e
    obtain⟨C,hC,hO⟩:=ok.obj _ _ ab
    obtain⟨C',au,bP,_,aL⟩:=hv
    rw[hC] at au;cases au
    obtain⟨rb,rl,Dm,ru⟩:=aL hO.1
    by_cases hi:i<ys.length
    ·obtain⟨B,l8,v2,k1,k2,k3,k4,k5,k6⟩:=xo hO hi
     rw[Dm] at k3
     cases k3
     rw[show ys.getD i []=ys[i] by simp[List.getD,hi]]
     simp only[zV]
     cases rb with
     |none=>
      obtain⟨rfl,h0⟩:=ru
      grind
     |some R=>
      obtain⟨a,c,rfl,h1,h2,h3⟩:=ru
      refine⟨_,_,c,rfl,rfl,h1,?_⟩
      by_cases h0:ys[i].length=0
      ·simp_all
      ·have ha:a=0:=by omega
       subst ha
       have hR:R∈C.fp:=by
        simp only[zT.fp,List.mem_append,List.mem_filterMap]
        grind
       refine .inr ⟨R,0,rfl,⟨?_,fun hd=>?_⟩,fun j hj=>?_⟩
       ·have:=k6 R rfl 0 (by omega)
        unfold yF at this
        grind
       ·obtain⟨jd,hj,D,hD,hb⟩:=hd
        obtain⟨q,q1,q2⟩:=ho jd hj
        exact ok.disj jd id q _ D C R (by grind) q1 ab q2 rfl hD hC hb hR
       ·simp only[zV,Ty.size,Nat.zero_add,Nat.mul_one,Nat.add_zero]
        exact by grind
    ·have:C.rows[i]? =none:=List.getElem?_eq_none (by have:=hO.2.2.2.1;omega)
     simp_all
  ·cases h
 ·cases h
def TrX (M:zH)(ai:List Nat)(c c':zS):Prop:=∀v Ml,nJ M ai Ml→zR M c v→zR Ml c' v
theorem vG7 {M}(ok:Ok M){ai}(ho:kE M ai){p c d}(hn:∀id∈yY c,id∉ai)(h:pc M.h p c=some d):TrX M ai c (xR p d):=by
 intro v Ml lo hv
 unfold pc at h
 split at h
 ·rename_i k j n
  cases e:dB j k with
  |false=>simp_all
  |true=>rw[e] at h;cases h;rw[←oC e];exact hv
 ·cases h;exact hv
 ·show zV Ml.H Ml.F _ _ _
  rw[lo.H,lo.F]
  unfold ua at h
  split at h
  ·cases h
   rw[show v=.slice none 0 0 from hv]
   exact DD
  ·split at h
   ·rename_i s ys hr
    obtain⟨e,hx⟩:=gW h
    subst e
    subst hx
    exact yXm ok ho hn hv hr
   ·cases h
 ·obtain⟨e,hx⟩:=gW h
  subst e
  subst hx
  show zV Ml.H Ml.G _ _ _
  rw[lo.H,lo.G]
  exact hv
 ·cases h
  rw[show v=.slice none 0 0 from hv]
  exact DD
 ·rename_i f g
  cases e:Nat.beq f g with
  |false=>simp_all
  |true=>
   have:f=g:=by simp_all
   subst this
   obtain⟨cv,rfl,hc⟩:=hv
   refine⟨cv,rfl,?_⟩
   generalize cv.toList=l at hc
   cases l with
   |nil=>trivial
   |cons _ _=>exact hc.elim
 ·exact hv
 ·exact hv
 ·cases h
def nK (M:zH)(ai:List Nat)(κ:Nat→Option zT)(c c':zS):Prop:=∀v Ml,nJ M ai Ml→Ml.κ=κ→zR M c v→zR Ml c' v
structure vAl (M:zH) (id:Nat) (o:Obj) (C:zT):Prop where
 κ:M.κ id=some C
 rep:∀Ml:zH,Ml.H=M.H→Ml.G=M.G→yM Ml o {C with ver:=0}
 own:o.owned=true
 was:∃q,M.h id=some q∧q.owned=true
theorem yNv {M Ml}(hH:Ml.H=M.H){cj C}(h:yM M (.imap cj) C):yM Ml (.imap cj) {C with ver:=0}:=by
 obtain⟨B,es,ck,h1,h2,h3,h4,h5⟩:=h
 exact⟨B,es,ck,h1,h2,by simp_all,h4,h5⟩
theorem Y6 {j l ids c cs}(h:nG (some j::l) ids (c::cs)=true):∃id,c=.ptr id 0∧ids[j]? =some id∧nG l ids cs=true:=by
 cases c with
 |ptr id off=>
  cases off with
  |zero=>
   have h:((match ids[j]? with|some k=>Nat.beq id k|none=>false)&&nG l ids cs)=true:=h
   rw[Bool.and_eq_true] at h
   have h1:=h.1
   split at h1
   all_goals simp_all
  |succ _=>cases h
 |_=>cases h
theorem yd {M}(ok:Ok M){ai}(ho:kE M ai){κ}:∀{l cs d n ids},mi M.h l cs=some d→nG (l.map XC.lnk) ids cs=true→(∀id∈DM l cs,id∉ai)→
  (wT l cs).length=(eP l d n).2.length∧(∀(i:Nat) id o,(wT l cs)[i]? =some id→(eP l d n).2[i]? =some o→∃C,vAl M id o C)∧
   ((∀i id C,(wT l cs)[i]? =some id→M.κ id=some C→κ (n+i)=some {C with ver:=0})→(∀j id,ids[j]? =some id→κ j=M.κ id)→zJ (nK M ai κ) cs (eP l d n).1)
 |[],[],_,n,_,_,_,_=>⟨rfl,nofun,fun _ _=>trivial⟩
 |x::l,c::cs,d,n,ids,h,hl,hn=>by
  unfold mi at h
  split at h
  ·rename_i y ys h1 h2
   cases h
   cases x with
   |p p=>
    have kF:∀id∈yY c,id∉ai:=fun id ab=>hn id (List.mem_append_left _ ab)
    obtain⟨k1,k2,k3⟩:=yd ok ho (κ:=κ) (n:=n) (ids:=ids) h2 hl (fun id ab=>hn id (List.mem_append_right _ ab))
    exact⟨k1,k2,fun hκ hj=>⟨fun v Ml lo _ hv=>vG7 ok ho kF h1 v Ml lo hv,k3 hκ hj⟩⟩
   |own t=>
    cases c with
    |osl id r=>
     cases r with
     |some _=>cases h1
     |none=>
      have h1:(match M.h id with|some (.arr true s xs)=>eG s t xs|_=>none)=some y:=h1
      split at h1
      ·rename_i s xs ab
       obtain⟨e,hx⟩:=gW h1
       subst e
       subst hx
       obtain⟨C,hC,hO⟩:=ok.obj id _ ab
       obtain⟨k1,k2,k3⟩:=yd ok ho (κ:=κ) (n:=n+1) (ids:=ids) h2 hl hn
       refine⟨by simp only[wT,eP,List.length_cons,k1],fun i jd o hi kp=>?_,fun hκ hj=>⟨fun v Ml lo hk hv=>?_,k3 (fun i jd D hi hD=>?_) hj⟩⟩
       ·cases i with
        |zero=>
         cases hi
         cases kp
         refine⟨C,hC,fun Ml e1 e2=>?_,rfl,_,ab,rfl⟩
         obtain⟨q1,q2,q3,q4⟩:=hO
         refine⟨q1,q2,q3,?_⟩
         rw[e1,e2]
         exact q4
        |succ i=>exact k2 i jd o hi kp
       ·obtain⟨D,hD,hS⟩:=hv
        rw[hC] at hD;cases hD
        refine⟨{C with ver:=0},by rw[hk];exact hκ 0 id C rfl hC,?_⟩
        rw[lo.H]
        exact hS
       ·have:=hκ (i+1) jd D hi hD
        rw[←this];congr 1;omega
      ·cases h1
    |_=>cases h1
   |mat=>
    cases c with
    |osl id r=>
     cases r with
     |some _=>cases h1
     |none=>
      have h1:(match M.h id with|some (.mat _ xs)=>some xs|_=>none)=some y:=h1
      split at h1
      ·rename_i ver xs ab
       cases h1
       obtain⟨C,hC,hO⟩:=ok.obj id _ ab
       obtain⟨k1,k2,k3⟩:=yd ok ho (κ:=κ) (n:=n+1) (ids:=ids) h2 hl hn
       refine⟨by simp only[wT,eP,List.length_cons,k1],fun i jd o hi kp=>?_,fun hκ hj=>⟨fun v Ml lo hk hv=>?_,k3 (fun i jd D hi hD=>?_) hj⟩⟩
       ·cases i with
        |zero=>
         cases hi
         cases kp
         refine⟨C,hC,fun Ml e1 e2=>?_,rfl,_,ab,rfl⟩
         obtain⟨q1,q2⟩:=hO
         refine⟨rfl,?_⟩
         rw[e1]
         exact q2
        |succ i=>exact k2 i jd o hi kp
       ·obtain⟨D,hD,hS⟩:=hv
        rw[hC] at hD;cases hD
        refine⟨{C with ver:=0},by rw[hk];exact hκ 0 id C rfl hC,?_⟩
        show wL Ml.H {C with ver:=0} 0 C.len v
        rw[lo.H]
        exact hS
       ·have:=hκ (i+1) jd D hi hD
        rw[←this];congr 1;omega
      ·cases h1
    |_=>cases h1
   |map=>
    cases c with
    |map id=>
     have h1:(match M.h id with|some (.imap cj)=>some cj|_=>none)=some y:=h1
     split at h1
     ·rename_i cj ab
      cases h1
      obtain⟨C,hC,hO⟩:=ok.obj id _ ab
      obtain⟨k1,k2,k3⟩:=yd ok ho (κ:=κ) (n:=n+1) (ids:=ids) h2 hl hn
      refine⟨by simp only[wT,eP,List.length_cons,k1],fun i jd o hi kp=>?_,fun hκ hj=>⟨fun v Ml lo hk hv=>?_,k3 (fun i jd D hi hD=>?_) hj⟩⟩
      ·cases i with
       |zero=>
        cases hi
        cases kp
        exact⟨C,hC,fun Ml e1 e2=>yNv e1 hO,rfl,_,ab,rfl⟩
       |succ i=>exact k2 i jd o hi kp
      ·obtain⟨D,B,hD,hB,e⟩:=hv
       rw[hC] at hD;cases hD
       exact⟨{C with ver:=0},B,by rw[hk];exact hκ 0 id C rfl hC,hB,e⟩
      ·have:=hκ (i+1) jd D hi hD
       rw[←this];congr 1;omega
     ·cases h1
    |_=>cases h1
   |link j=>
    obtain⟨id,rfl,ab,fm⟩:=Y6 hl
    obtain⟨k1,k2,k3⟩:=yd ok ho (κ:=κ) (n:=n) (ids:=ids) h2 fm hn
    refine⟨k1,k2,fun hκ hj=>⟨fun v Ml lo hk hv=>?_,k3 hκ hj⟩⟩
    obtain⟨C,B,hC,hB,e⟩:=hv
    exact⟨C,B,by rw[hk,hj j id ab];exact hC,hB,e⟩
  ·cases h
 |[],_::_,_,_,_,h,_,_=>by cases h
 |_::_,[],_,_,_,h,_,_=>by cases h
theorem DS {M Ml ai}(lo:nJ M ai Ml):∀{cs aF vs},zJ (nK M ai Ml.κ) cs aF→zJ (zR M) cs vs→zJ (zR Ml) aF vs
 |[],[],[],_,_=>trivial
 |_::_,_::_,_::_,h,k=>⟨h.1 _ _ lo rfl k.1,DS lo h.2 k.2⟩
def ye (ai:List Nat)(bs:List (Bool×Nat)):Prop:=∀b∈bs,(b.1=true→b.2∈ai)∧(b.1=false→b.2∉ai)
theorem vDp {M}(ok:Ok M){ai}(ho:kE M ai){io id cells}(h:xZ M.h io id=some cells)(hm:(io=true→id∈ai)∧(io=false→id∉ai)):
  ∃C B,M.κ id=some C∧C.blk=some B∧∀Ml bo,nJ M ai Ml→zJ (nK M ai Ml.κ) cells bo→yM Ml (bif io then .box true bo else .robox bo) C:=by
 unfold xZ at h
 split at h
 ·rename_i cs ab
  cases h
  obtain⟨C,hC,B,vals,e,h1,h2,h3,h4,h5⟩:=ok.obj id _ ab
  exact⟨C,B,hC,h1,fun Ml bo lo ht=>⟨B,vals,e,h1,h2,by rw[lo.H];exact h3,DS lo ht h4,by simp⟩⟩
 ·rename_i own cs ab
  cases h
  obtain⟨C,hC,B,vals,e,h1,h2,h3,h4,h5⟩:=ok.obj id _ ab
  refine⟨C,B,hC,h1,fun Ml bo lo ht=>⟨B,vals,e,h1,h2,by rw[lo.H];exact h3,DS lo ht h4,?_⟩⟩
  rw[lo.F]
  cases own with
  |false=>exact pv ok ho (ok.GF B (h5 rfl))
  |true=>
   refine⟨by grind,fun hd=>?_⟩
   obtain⟨jd,hj,D,hD,hb⟩:=hd
   obtain⟨q,q1,q2⟩:=ho jd hj
   exact ok.disj jd id q _ D C B (by grind) q1 ab q2 rfl hD hC hb (by simp[zT.fp,h1])
 ·rename_i cs ab
  cases h
  obtain⟨C,hC,B,vals,e,h1,h2,h3,h4,h5⟩:=ok.obj id _ ab
  refine⟨C,B,hC,h1,fun Ml bo lo ht=>⟨B,vals,e,h1,h2,by rw[lo.H];exact h3,DS lo ht h4,?_⟩⟩
  rw[lo.F]
  exact pv ok ho h5
 ·cases h
def N1 (M:zH)(ai:List Nat)(bs:List (Bool×Nat))(mk:List zS→List Obj)(cs:List zS):Prop:=∀(Ml:zH) (aF:List zS),nJ M ai Ml→zJ (nK M ai Ml.κ) cs aF→
 zJ (fun(b:Bool×Nat) o=>∃C B,M.κ b.2=some C∧C.blk=some B∧yM Ml o C∧o.owned=b.1) bs (mk aF)
theorem HX {M}(ok:Ok M){ai}(ho:kE M ai):∀{ls ids cs bs},fR M.h ls ids=some (cs,bs)→ye ai bs→
  cs.length=(ls.flatMap (·.2)).length∧bs=(ls.map (·.1)).zip ids∧ids.length=ls.length∧N1 M ai bs (DN ls) cs
 |[],[],cs,bs,h,_=>by cases h;exact⟨rfl,rfl,rfl,fun _ _ _ _=>trivial⟩
 |(io,l)::ls,id::ids,cs,bs,h,hf=>by
  unfold fR at h
  split at h
  ·rename_i cells rest uk h1 h2
   obtain⟨hl,h⟩:=vQ h
   cases h
   have hl:cells.length=l.length:=Nat.eq_of_beq_eq_true hl
   obtain⟨C,B,hC,hB,hO⟩:=vDp ok ho h1 (hf _ (List.mem_cons_self ..))
   obtain⟨k1,k2,k3,k4⟩:=HX ok ho h2 fun b hb=>hf b (by grind)
   refine⟨by simp_all,by simp_all,by simp[k3],fun Ml aF lo ht=>?_⟩
   have lr:=zJ.take l.length ht
   have kA:=zJ.drop l.length ht
   rw[←hl,List.drop_left] at kA
   refine⟨⟨C,B,hC,hB,?_,?_⟩,?_⟩
   ·simp_all
   ·cases io<;>rfl
   ·rw[←hl];exact k4 Ml _ lo kA
  ·cases h
theorem DT {h}:∀{ls ids cs bs},fR h ls ids=some (cs,bs)→bs.length=ls.length
 |[],[],_,_,e=>by cases e;rfl
 |(io,l)::ls,id::ids,cs,bs,e=>by
  unfold fR at e
  split at e
  ·rename_i cells rest uk h1 h2
   obtain⟨_,e⟩:=vQ e
   cases e
   simp[DT h2]
  ·cases e
theorem yU3 {h}{s:AX}{a cs bs}(e:s.get h a=some (cs,bs)):bs.length=s.nb:=by
 unfold AX.get at e
 split at e
 ·cases e;rfl
 ·obtain⟨_,e⟩:=vQ e
  cases e;rfl
 ·rw[DT e];rfl
 ·obtain⟨_,e⟩:=vQ e
  rw[DT e];rfl
 ·split at e
  ·rw[DT e];simp[xY,AX.nb]
  ·cases e
 ·cases e
theorem N2 {h}:∀{n id ids},DK h n id=some ids→ids.head? =some id∧ids.length=n
 |1,_,_,e=>by cases e;simp
 |n+2,id,ids,e=>by
  unfold DK at e
  split at e
  ·split at e
   ·split at e
    ·rename_i l hl
     cases e
     exact⟨rfl,by simp[(N2 hl).2]⟩
    ·cases e
   ·cases e
  ·cases e
theorem vJp {M}(ok:Ok M){ai}(ho:kE M ai){s:AX}{a v cs bs}(hv:zN M a v)(h:s.get M.h a=some (cs,bs))(hf:ye ai bs):
  cs.length=s.cells.length∧N1 M ai bs (fun aF=>s.boxes aF) cs∧∀Ml aF n,nJ M ai Ml→zJ (nK M ai Ml.κ) cs aF→(∀i b,bs[i]? =some b→Ml.κ (n+i)=M.κ b.2)→zN Ml (s.mk n aF) v:=by
 unfold AX.get at h
 split at h
 ·cases h
  refine⟨rfl,fun Ml aF lo ht=>trivial,fun Ml aF n lo ht _=>?_⟩
  match aF,ht with
  |[c'],ht=>exact ht.1 v Ml lo rfl hv
 ·rename_i l xs
  obtain⟨hl,h'⟩:=vQ h
  cases h'
  have hl:cs.length=l.length:=Nat.eq_of_beq_eq_true hl
  obtain⟨vs,rfl,hx⟩:=hv
  exact⟨by simp[AX.cells,hl],fun Ml aF lo ht=>trivial,fun Ml aF n lo ht _=>⟨vs,rfl,DS lo ht hx⟩⟩
 ·rename_i io l id
  obtain⟨k1,k2,k3,k4⟩:=HX ok ho h hf
  refine⟨by rw[k1];simp[AX.cells],k4,fun Ml aF n lo ht hκ=>?_⟩
  obtain⟨C,B,hC,hB,e⟩:=hv
  exact⟨C,B,by have:=hκ 0 (io,id) (by rw[k2];rfl);simp_all,hB,e⟩
 ·rename_i f ba g ids
  obtain⟨hg,h'⟩:=vQ h
  have NF:f=g:=Nat.eq_of_beq_eq_true hg
  subst NF
  obtain⟨k1,k2,k3,k4⟩:=HX ok ho h' hf
  refine⟨by rw[k1];rfl,k4,fun Ml aF n lo ht hκ=>?_⟩
  obtain⟨cv,rfl,hc⟩:=hv
  refine⟨cv,rfl,?_⟩
  have l2:=hc.length
  refine zJ.of_get (by simp_all) fun i h1 h2=>?_
  have hi:i<ids.length:=by omega
  obtain⟨C,B,q1,q2,q3⟩:=hc.get i hi h2
  have hb:bs[i]? =some ((ba.map (·.1))[i]'(by simp at h1⊢;omega),ids[i]):=by
   grind
  grind
 ·rename_i ls id
  split at h
  ·rename_i ids iz
   obtain⟨k1,k2,k3,k4⟩:=HX ok ho h hf
   refine⟨by rw[k1];simp[AX.cells,xY,List.flatMap_map],k4,fun Ml aF n lo ht hκ=>?_⟩
   obtain⟨C,B,hC,hB,e⟩:=hv
   have hb:bs[0]? =some (true,id):=by
    obtain⟨h1,h2⟩:=N2 iz
    rw[k2]
    cases ids with
    |nil=>cases h1
    |cons i ids=>
     cases h1
     cases ls with
     |nil=>cases k3
     |cons l ls=>rfl
   exact⟨C,B,by grind,hB,e⟩
  ·cases h
 ·cases h
theorem Y7 {M}(ok:Ok M){ai}(ho:kE M ai):∀{l as vs cs bs},zJ (zN M) as vs→gy M.h l as=some (cs,bs)→ye ai bs→
  cs.length=(l.flatMap AX.cells).length∧(∀n,N1 M ai bs (fun aF=>(um l aF n).2) cs)∧
   ∀Ml aF n,nJ M ai Ml→zJ (nK M ai Ml.κ) cs aF→(∀i b,bs[i]? =some b→Ml.κ (n+i)=M.κ b.2)→zJ (zN Ml) (um l aF n).1 vs
 |[],[],[],cs,bs,_,h,_=>by cases h;exact⟨rfl,fun _ _ _ _ _=>trivial,fun _ _ _ _ _ _=>trivial⟩
 |s::l,a::as,v::vs,cs,bs,hv,h,hf=>by
  unfold gy at h
  split at h
  ·rename_i jm Y8 Y9 bs2 h1 h2
   cases h
   have hf1:ye ai Y8:=fun b hb=>hf b (by grind)
   have hf2:ye ai bs2:=fun b hb=>hf b (by grind)
   obtain⟨k1,k2,k3⟩:=vJp ok ho hv.1 h1 hf1
   obtain⟨k4,k5,k6⟩:=Y7 ok ho hv.2 h2 hf2
   have cut:∀{κ:Nat→Option zT} {aF:List zS},zJ (nK M ai κ) (jm++Y9) aF→zJ (nK M ai κ) jm (aF.take s.cells.length)∧zJ (nK M ai κ) Y9 (aF.drop s.cells.length):=by
    intro κ aF ht
    have lr:=zJ.take s.cells.length ht
    have kA:=zJ.drop s.cells.length ht
    simp_all
   refine⟨by simp_all,fun n Ml aF lo ht=>?_,fun Ml aF n lo ht hκ=>?_⟩
   ·obtain⟨lr,kA⟩:=cut ht
    exact(k2 Ml _ lo lr).append (k5 _ Ml _ lo kA)
   ·obtain⟨lr,kA⟩:=cut ht
    have hlen:=(k2 Ml _ lo lr).length
    refine⟨k3 Ml _ n lo lr fun i b hb=>hκ i b ?_,k6 Ml _ _ lo kA fun i b hb=>?_⟩
    ·grind
    ·have:=hκ (Y8.length+i) b (by grind)
     grind
  ·cases h
def κX (M : zH) (bs : List (Bool × Nat)) (rows : List Nat) : Nat → Option zT := fun n => bif Nat.ble vZ n then (match rows[n-vZ]? with
  |some id=>(M.κ id).map fun C=>{C with ver:=0}
  |none=>none)
 else (match bs[n]? with
  |some b=>M.κ b.2
  |none=>none)
theorem uq:∀{bs} {i id:Nat},bs[i]? =some (true,id)→id∈vA bs
 |(true,a)::bs,0,id,h=>by cases h;exact List.mem_cons_self ..
 |(true,a)::bs,i+1,id,h=>List.mem_cons_of_mem _ (uq (bs:=bs) (i:=i) h)
 |(false,a)::bs,i+1,id,h=>uq (bs:=bs) (i:=i) h
theorem N3:∀{bs} {i j id:Nat},(vA bs).Nodup→bs[i]? =some (true,id)→bs[j]? =some (true,id)→i=j
 |(true,a)::bs,0,0,id,_,_,_=>rfl
 |(true,a)::bs,0,j+1,id,hn,h,k=>by
  cases h
  exact absurd (uq (bs:=bs) (i:=j) k) (List.nodup_cons.1 hn).1
 |(true,a)::bs,i+1,0,id,hn,h,k=>by
  cases k
  exact absurd (uq (bs:=bs) (i:=i) h) (List.nodup_cons.1 hn).1
 |(true,a)::bs,i+1,j+1,id,hn,h,k=>by rw[N3 (bs:=bs) (List.nodup_cons.1 hn).2 h k]
 |(false,a)::bs,i+1,j+1,id,hn,h,k=>by rw[N3 (bs:=bs) hn h k]
theorem yQg {M}(ok:Ok M){l as vs cs bs}{d:XD l}(hv:zJ (zN M) as vs)(hg:gy M.h l as=some (cs,bs))(hd:mi M.h (l.flatMap AX.cells) cs=some d)
  (cC:(vA bs++wT (l.flatMap AX.cells) cs).Nodup) (nz:∀id∈DM (l.flatMap AX.cells) cs,id∉vA bs++wT (l.flatMap AX.cells) cs) (ur:∀id∈HW bs,id∉vA bs++wT (l.flatMap AX.cells) cs) (hlen:bs.length≤vZ) (pw:nG ((l.flatMap AX.cells).map XC.lnk) (bs.map (·.2)) cs=true) (ho:kE M (vA bs++wT (l.flatMap AX.cells) cs)):
  ∃Ml:zH,nJ M (vA bs++wT (l.flatMap AX.cells) cs) Ml∧Ml.h=(gz l d).2∧Ok Ml∧(∀b,qH Ml b→gY M (vA bs++wT (l.flatMap AX.cells) cs) b)∧zJ (zN Ml) (gz l d).1 vs∧Ml.κ=κX M bs (wT (l.flatMap AX.cells) cs):=by
 generalize eQ:vA bs++wT (l.flatMap AX.cells) cs=ai at*
 have rQ:ye ai bs:=by
  intro b hb
  obtain⟨i,hi,rfl⟩:=List.getElem_of_mem hb
  have CP:bs[i]? =some bs[i]:=List.getElem?_eq_getElem hi
  refine⟨fun e=>?_,fun e=>?_⟩
  ·rw[←eQ]
   have:bs[i]? =some (true,bs[i].2):=by rw[CP,←e]
   exact List.mem_append_left _ (uq this)
  ·apply ur
   clear hg hd cC nz ur hlen ho eQ hv pw
   induction bs generalizing i with
   |nil=>exact absurd hi (Nat.not_lt_zero i)
   |cons c bs ih=>
    obtain⟨io,a⟩:=c
    cases i with
    |zero=>cases io<;>first|exact List.mem_cons_self .. |cases e
    |succ i=>cases io<;>first|exact List.mem_cons_of_mem _ (by grind)|exact ih i (by simpa using hi) (List.getElem_mem _) (List.getElem?_eq_getElem _) e
 let κ:=κX M bs (wT (l.flatMap AX.cells) cs)
 obtain⟨k1,k2,k3⟩:=yd ok ho (κ:=κ) (n:=vZ) (ids:=bs.map (·.2)) hd pw nz
 have ht : zJ (nK M ai κ) cs (eP (l.flatMap AX.cells) d vZ).1 := k3 (fun i id C hi hC=>by
  show κX M bs _ (vZ+i)=_
  unfold κX
  rw[Nat.ble_eq_true_of_le (Nat.le_add_right _ _),show vZ+i-vZ=i by omega,hi]
  simp[hC]) fun j id hj=>by
  rw[List.getElem?_map] at hj
  obtain⟨b,hb,rfl⟩:=Option.map_eq_some_iff.1 hj
  have hi:j<bs.length:=by grind
  show κX M bs _ j=_
  unfold κX
  have:Nat.ble vZ j=false:=by
   cases h:Nat.ble vZ j with
   |false=>rfl
   |true=>have:=Nat.le_of_ble_eq_true h;omega
  rw[this,hb]
  rfl
 obtain⟨a1,a2,a3⟩:=Y7 ok ho hv hg rQ
 let Ml:zH:={κ:=κ,F:=fun b=>b<M.H.size∧¬gY M ai b,G:=M.G,h:=(gz l d).2,H:=M.H}
 have lo:nJ M ai Ml:=⟨rfl,rfl,rfl⟩
 have uu:=a2 0 Ml _ lo ht
 have hκbox:∀i b,bs[i]? =some b→Ml.κ (0+i)=M.κ b.2:=fun i b hb=>by
  have hi:i<bs.length:=by grind
  show κX M bs _ (0+i)=_
  unfold κX
  have:Nat.ble vZ (0+i)=false:=by
   cases h:Nat.ble vZ (0+i) with
   |false=>rfl
   |true=>have:=Nat.le_of_ble_eq_true h;omega
  rw[this,Nat.zero_add,hb]
  rfl
 have iG:∀id o,Ml.h id=some o→∃jd C,Ml.κ id=some C∧yM Ml o C∧(o.owned=true→jd∈ai∧∃D,M.κ jd=some D∧D.fp=C.fp)∧
   ((Nat.ble vZ id=true∧(wT (l.flatMap AX.cells) cs)[id-vZ]? =some jd)∨(Nat.ble vZ id=false∧∃io,bs[id]? =some (io,jd)∧o.owned=io)):=by
  intro id o h
  have h:DO (um l (eP (l.flatMap AX.cells) d vZ).1 0).2 (eP (l.flatMap AX.cells) d vZ).2 id=some o:=h
  unfold DO at h
  cases hb:Nat.ble vZ id with
  |true=>
   rw[hb] at h
   have h:(eP (l.flatMap AX.cells) d vZ).2[id-vZ]? =some o:=h
   have hi:=(List.getElem?_eq_some_iff.1 h).1
   have hj:(wT (l.flatMap AX.cells) cs)[id-vZ]? =some ((wT (l.flatMap AX.cells) cs)[id-vZ]'(by omega)):=by simp
   obtain⟨C,hR⟩:=k2 _ _ _ hj h
   refine⟨_,{C with ver:=0},?_,hR.rep Ml rfl rfl,fun _=>⟨?_,C,hR.κ,rfl⟩,.inl ⟨rfl,hj⟩⟩
   ·show κX M bs _ id=_
    unfold κX
    rw[hb,hj]
    simp[hR.κ]
   ·rw[←eQ]
    exact by simp
  |false=>
   rw[hb] at h
   have hi:=(List.getElem?_eq_some_iff.1 h).1
   have N4:id<bs.length:=by rw[uu.length];exact hi
   have hq:=uu.get id N4 hi
   rw[List.getElem?_eq_getElem hi] at h
   cases h
   obtain⟨C,B,q1,q2,q3,q4⟩:=hq
   have CP:bs[id]? =some bs[id]:=List.getElem?_eq_getElem N4
   refine⟨bs[id].2,C,?_,q3,fun e=>⟨(rQ _ (List.getElem_mem N4)).1 (by rw[←q4];exact e),C,q1,rfl⟩,by grind⟩
   have:=hκbox id _ CP
   rw[Nat.zero_add] at this
   rw[this];exact q1
 have aA:∀b,qH Ml b→gY M ai b:=fun b ⟨id,o,C,h1,h2,h3,h4⟩=>by
  obtain⟨jd,C',q1,_,q3,_⟩:=iG id o h1
  rw[h3] at q1
  cases q1
  obtain⟨p1,D,p2,p3⟩:=q3 h2
  exact⟨jd,p1,D,p2,by rw[p3];exact h4⟩
 refine⟨Ml,lo,rfl,⟨fun id o h=>?_,fun id h=>?_,fun i j oi oj Ci Cj b ko h1 h2 h3 h4 h5 h6 h7 h8=>?_,fun b hb=>⟨fun hf=>hf.2 (aA b hb),(ok.own b ((aA b hb).own ho)).2⟩,fun b hb=>pv ok ho (ok.GF b hb),fun b hb=>hb.1⟩,aA,a3 Ml _ 0 lo ht hκbox,rfl⟩
 ·obtain⟨jd,C,q1,q2,_⟩:=iG id o h
  exact⟨C,q1,q2⟩
 ·have h:DO (um l (eP (l.flatMap AX.cells) d vZ).1 0).2 (eP (l.flatMap AX.cells) d vZ).2 id=none:=h
  unfold DO at h
  show κX M bs _ id=none
  unfold κX
  cases hb:Nat.ble vZ id with
  |true=>
   rw[hb] at h
   have h:(eP (l.flatMap AX.cells) d vZ).2[id-vZ]? =none:=h
   rw[List.getElem?_eq_none_iff,←k1] at h
   rw[List.getElem?_eq_none h]
   rfl
  |false=>
   rw[hb] at h
   have h:(um l (eP (l.flatMap AX.cells) d vZ).1 0).2[id]? =none:=h
   rw[List.getElem?_eq_none_iff,←uu.length] at h
   rw[List.getElem?_eq_none h]
   rfl
 ·obtain⟨ji,Ci',p1,_,p3,p4⟩:=iG i oi h1
  obtain⟨jj,Cj',q1,_,q3,q4⟩:=iG j oj h2
  rw[h5] at p1;cases p1
  rw[h6] at q1;cases q1
  obtain⟨p5,Di,p6,p7⟩:=p3 h3
  obtain⟨q5,Dj,q6,q7⟩:=q3 h4
  obtain⟨oi',r1,r2⟩:=ho ji p5
  obtain⟨oj',r3,r4⟩:=ho jj q5
  refine ok.disj ji jj oi' oj' Di Dj b (fun e=>?_) r1 r3 r2 r4 p6 q6 (by rw[p7];exact h7) (by rw[q7];exact h8)
  subst e
  rw[←eQ] at cC
  obtain⟨n1,n2,n3⟩:=List.nodup_append.1 cC
  rcases p4 with⟨p8,p9⟩|⟨p8,io,p9,px⟩<;>rcases q4 with⟨q8,q9⟩|⟨q8,io',q9,HY⟩
  ·have:=(List.getElem?_inj (by grind) n2).1 (p9.trans q9.symm)
   have e1:=Nat.le_of_ble_eq_true p8
   have e2:=Nat.le_of_ble_eq_true q8
   exact ko (by omega)
  ·rw[h4] at HY
   subst HY
   exact n3 _ (uq q9) _ (List.mem_of_getElem? p9) rfl
  ·rw[h3] at px
   subst px
   exact n3 _ (uq p9) _ (List.mem_of_getElem? q9) rfl
  ·rw[h3] at px
   rw[h4] at HY
   subst px
   subst HY
   exact ko (N3 n1 p9 q9)
theorem rR {n}:∀{ids h},qC h (mj ids) n=if n∈ids then some .gone else h n
 |[],_=>by rfl
 |id::ids,h=>by
  show qC (qY h id .gone) (mj ids) n=_
  rw[rR (ids:=ids)]
  by_cases e:n=id
  ·subst e;simp[yE]
  ·rw[yH _ _ e];simp[e]
def zH.overX (M L:zH)(ai:List Nat):zH:={κ:=M.κ,F:=fun b=>M.F b∨L.G b,G:=L.G,h:=qC M.h (mj ai),H:=L.H}
theorem zH.overX_ok {M Ml L ai}(ok:Ok M)(fk:Ok L)(lo:nJ M ai Ml)(ho:kE M ai)(hand:∀b,qH Ml b→gY M ai b)(g:fO Ml L):
  Ok (M.overX L ai)∧yN M (M.overX L ai)∧(∀b,qH (M.overX L ai) b→qH M b∧¬gY M ai b):=by
 have cd:∀b,b<M.H.size→¬gY M ai b→L.H[b]? =M.H[b]? :=fun b hb hn=>by rw[g.same b (by rw[lo.F];simp_all),lo.H]
 have cN:M.H.size≤L.H.size:=by have:=g.size;rw[lo.H] at this;exact this
 have hG:∀b,L.G b→b<M.H.size→M.G b∨gY M ai b:=fun b hb hs=>by
  rcases g.Gb b hb (by rw[lo.H];exact hs) with h|h
  ·rw[lo.G] at h;simp_all
  simp_all
 have Za:∀b,M.F b→L.H[b]? =M.H[b]? :=fun b h=>cd b (pv ok ho h).1 (pv ok ho h).2
 have x:yD M (M.overX L ai):=⟨fun id C h=>⟨C,h,C.le_refl⟩,fun b h=>.inl h,fun b h=>g.G b (by rw[lo.G];exact h),fun b h=>Za b h,fun b h=>Za b (ok.GF b h),fun b h=>by
  have:=g.bsz b (by rw[lo.H];exact h)
  rw[lo.H] at this
  exact this⟩
 have iG:∀id o,(M.overX L ai).h id=some o→o.owned=true→id∉ai∧M.h id=some o:=fun id o h fj=>by
  have h:qC M.h (mj ai) id=some o:=h
  rw[rR] at h
  by_cases hm:id∈ai
  ·rw[if_pos hm] at h;cases h;cases fj
  simp_all
 have N5:∀id o C,id∉ai→M.h id=some o→o.owned=true→M.κ id=some C→∀b∈C.fp,¬gY M ai b:=fun id o C hm h fj hC b hb ⟨jd,hj,D,hD,NJ⟩=>by
  obtain⟨q,q1,q2⟩:=ho jd hj
  exact ok.disj id jd o q C D b (by grind) h q1 fj q2 hC hD hb NJ
 have aA:∀b,qH (M.overX L ai) b→qH M b∧¬gY M ai b:=fun b ⟨id,o,C,h1,h2,h3,h4⟩=>by
  obtain⟨k1,k2⟩:=iG id o h1 h2
  exact⟨⟨id,o,C,k2,h2,h3,h4⟩,N5 id o C k1 k2 h2 h3 b h4⟩
 refine⟨⟨fun id o h=>?_,fun id h=>?_,fun i j oi oj Ci Cj b ko h1 h2 h3 h4 h5 h6 h7 h8=>?_,fun b h=>⟨fun hf=>?_,?_⟩,fun b h=>.inr h,fun b h=>?_⟩,⟨x,cN,fun b hb hn=>cd b hb fun hh=>hn (hh.own ho),by grind,fun b h hs=>?_,fun b h hs=>?_⟩,aA⟩
 ·have h:qC M.h (mj ai) id=some o:=h
  rw[rR] at h
  by_cases hm:id∈ai
  ·rw[if_pos hm] at h
   cases h
   obtain⟨q,q1,q2⟩:=ho id hm
   obtain⟨C,hC,_⟩:=ok.obj id q q1
   exact⟨C,hC,trivial⟩
  ·rw[if_neg hm] at h
   obtain⟨C,hC,hO⟩:=ok.obj id o h
   exact⟨C,hC,hO.ext x fun fj b hb=>cd b (ok.own b ⟨id,o,C,h,fj,hC,hb⟩).2 (by grind)⟩
 ·have h:qC M.h (mj ai) id=none:=h
  rw[rR] at h
  by_cases hm:id∈ai
  ·simp_all
  ·rw[if_neg hm] at h;exact ok.non id h
 ·exact ok.disj i j oi oj Ci Cj b ko (iG i oi h1 h3).2 (by grind) h3 h4 h5 h6 h7 h8
 ·obtain⟨k1,k2⟩:=aA b h
  have:=ok.own b k1
  rcases hf with hf|hf
  ·simp_all
  ·rcases hG b hf this.2 with h|h
   ·exact this.1 (ok.GF b h)
   simp_all
 ·have h1:=(ok.own b (aA b h).1).2
  show b<L.H.size
  omega
 ·show b<L.H.size
  rcases h with h|h
  ·have:=ok.Flt b h;omega
  ·exact fk.Flt b (fk.GF b h)
 ·rcases hG b h hs with h|h
  ·simp_all
  ·exact .inr (h.own ho)
 ·rcases h with h|h
  ·simp_all
  ·rcases hG b h hs with h|h
   ·exact .inl (ok.GF b h)
   ·exact .inr (h.own ho)
def zT.bare (C:zT):zT:={C with ver:=C.ver+1,rows:=[]}
def zH.revive (M:zH)(id:Nat)(C:zT)(cs:List zS):zH:={M with κ:=κset M.κ id C.bare,h:=qY M.h id (.box true cs)}
theorem zH.revive_ok {M}(ok:Ok M){id C B vals e cs}(hC:M.κ id=some C)(hB:C.blk=some B)(hH:M.H[B]? =some (.cells vals e (0,0)))(hc:zJ (zR M) cs vals.toList)
  (h1:¬qH M B) (h2:¬M.F B):Ok (M.revive id C cs)∧yD M (M.revive id C cs)∧(∀b,qH (M.revive id C cs) b→qH M b∨b=B):=by
 have hκ:(M.revive id C cs).κ id=some C.bare:=κset_same _ _ _
 have x:yD M (M.revive id C cs):=⟨fun jd D h=>by
  by_cases e':jd=id
  ·subst e'
   rw[hC] at h;cases h
   exact⟨_,hκ,rfl,rfl,rfl,Nat.le_succ _,fun h=>absurd h (by simp[zT.bare])⟩
  ·exact⟨D,by show κset M.κ id _ jd=_;rw[κset_ne _ _ e'];exact h,D.le_refl⟩,fun _ h=>h,fun _ h=>h,fun _ _=>rfl,fun _ _=>rfl,fun _ _=>rfl⟩
 have mZ:C.bare.fp=[B]:=by simp[zT.fp,zT.bare,hB]
 have tP:(M.revive id C cs).h id=some (.box true cs):=yE _ _ _
 refine⟨Ok.build ok x (fun jd=>jd=id) (fun jd h=>yH _ _ h) (fun jd h=>κset_ne _ _ h) (fun _ _ _ _ _ _ _ _ _=>rfl) (fun jd o' D k1 k2 k3 k4 b bj=>(ok.own b ⟨jd,o',D,k2,k3,k4,bj⟩).1) (Nat.le_refl _)
  (fun jd o' e' h=>?_) (fun jd e' h=>?_) (fun jd o' D b e' k1 k2 k3 k4=>?_) ok.GF ok.Flt,x,fun b bj=>?_⟩
 ·subst e'
  rw[tP] at h
  cases h
  exact⟨_,hκ,B,vals,e,hB,rfl,hH,hc.mono fun _ _ h=>h.ext x,by simp⟩
 ·simp_all
 ·subst e'
  rw[hκ] at k3
  cases k3
  rw[mZ,List.mem_singleton] at k4
  subst k4
  refine⟨fun j oj Cj hj q1 q2 q3 q4=>h1 ⟨j,oj,Cj,?_,q2,?_,q4⟩,h2,(Array.getElem?_eq_some_iff.1 hH).1⟩
  ·rw[←q1];exact(yH _ _ hj).symm
  ·rw[←q3];exact(κset_ne _ _ hj).symm
 ·obtain⟨jd,o',D,k1,k2,k3,k4⟩:=bj
  by_cases e':jd=id
  ·simp_all
  ·exact .inl ⟨jd,o',D,by rw[←k1];exact(yH _ _ e').symm,k2,by rw[←k3];exact(κset_ne _ _ e').symm,k4⟩
structure Zb (M:zH) (id:Nat) (cs:List zS) (B:Nat):Prop where
 at':∃C,M.κ id=some C∧C.blk=some B
 rep:∃vals e,M.H[B]? =some (.cells vals e (0,0))∧zJ (zR M) cs vals.toList
 own:¬qH M B
 F:¬M.F B
def lv (R:Nat→List zS→Nat→Prop):List Nat→List (List zS)→List Nat→Prop
 |[],[],[]=>True
 |a::l,b::m,c::n=>R a b c∧lv R l m n
 |_,_,_=>False
theorem lv.mono {R S}:∀{l m n},(∀a b c,c∈n→R a b c→S a b c)→lv R l m n→lv S l m n
 |[],[],[],_,_=>trivial
 |_::_,_::_,_::_,h,k=>⟨h _ _ _ (by simp) k.1,lv.mono (by grind) k.2⟩
theorem Zc:∀{ids css Bs M},Ok M→lv (Zb M) ids css Bs→Bs.Nodup→
  ∃M':zH,M'.H=M.H∧M'.G=M.G∧M'.F=M.F∧M'.h=qC M.h (yc ids css)∧Ok M'∧yD M M'∧(∀b,qH M' b→qH M b∨b∈Bs)
 |[],[],[],M,ok,_,_=>⟨M,rfl,rfl,rfl,rfl,ok,.refl M,by simp⟩
 |id::ids,cs::css,B::Bs,M,ok,h,hn=>by
  obtain⟨C,hC,hB⟩:=h.1.at'
  obtain⟨vals,e,hH,hc⟩:=h.1.rep
  obtain⟨k1,k2,k3⟩:=zH.revive_ok ok hC hB hH hc h.1.own h.1.F
  obtain⟨n1,n2⟩:=List.nodup_cons.1 hn
  obtain ⟨M', a1, a2, a3, a4, a5, a6, a7⟩ := Zc (M := M.revive id C cs) k1 (lv.mono (fun a b c hcB hb=>by
   refine⟨?_,?_,fun ho=>?_,hb.F⟩
   ·obtain⟨D,q1,q2⟩:=hb.at'
    obtain⟨D',q3,le⟩:=k2.κ _ _ q1
    exact⟨D',q3,le.blk.trans q2⟩
   ·obtain⟨vals,e,q1,q2⟩:=hb.rep
    exact⟨vals,e,q1,q2.mono fun _ _ h=>h.ext k2⟩
   ·rcases k3 _ ho with h|h
    ·exact hb.own h
    simp_all) h.2) n2
  exact⟨M',a1,a2,a3,a4,a5,yD.trans (M:=M) (M':=M.revive id C cs) (Nat.le_refl _) k2 a6,by grind⟩
theorem Zd:∀{ids css h h'},ids.length=css.length→(∀n,n∉ids→h n=h' n)→qC h (yc ids css)=qC h' (yc ids css)
 |[],[],h,h',_,e=>funext fun n=>e n (by simp)
 |id::ids,cs::css,h,h',hl,e=>Zd (ids:=ids) (css:=css) (by simp_all) fun n hn=>by
   by_cases k:n=id
   ·subst k;rw[yE,yE]
   ·rw[yH _ _ k,yH _ _ k];simp_all
theorem yVx {h0 s a a' v u M}(ok:Ok M)(hf:wK h0 M.h)(hv:zN M a v)(h:rP h0 s a=some (a',u)):
  ∃L:zH,L.H=M.H∧L.h=qC M.h u∧Ok L∧yN M L∧zN L a' v∧wK h0 L.h:=by
 unfold rP at h
 split at h
 ·rename_i p x
  split at h
  ·rename_i y u1 e
   cases h
   obtain⟨L,h1,h2,h3,h4,h5,h6⟩:=rJ (cs:=[x]) (vs:=[v]) ok hf ⟨hv,trivial⟩ e
   exact⟨L,h1,h2,h3,h4,h5.1,h6⟩
  ·cases h
 ·split at h
  ·rename_i ys u1 e
   cases h
   obtain⟨vs,rfl,hx⟩:=hv
   obtain⟨L,h1,h2,h3,h4,h5,h6⟩:=rJ ok hf hx e
   exact⟨L,h1,h2,h3,h4,⟨vs,rfl,h5⟩,h6⟩
  ·cases h
 ·cases h
  exact⟨M,rfl,rfl,ok,.refl M,hv,hf⟩
theorem Ze {h0}:∀{l as df vs u M},Ok M→wK h0 M.h→zJ (zN M) as vs→nH h0 l as=some (df,u)→
  ∃L:zH,L.H=M.H∧L.h=qC M.h u∧Ok L∧yN M L∧zJ (zN L) df vs∧wK h0 L.h
 |s::l,a::as,df,v::vs,u,M,ok,hf,hv,h=>by
  unfold nH at h
  split at h
  ·rename_i a1 u1 NM nf e1 e2
   cases h
   obtain⟨M1,h1,h2,h3,h4,h5,h6⟩:=yVx ok hf hv.1 e1
   obtain⟨M2,k1,k2,k3,k4,k5,k6⟩:=Ze h3 h6 (rK.ext h4.ext hv.2) e2
   exact⟨M2,k1.trans h1,by rw[k2,h2,gV],k3,h4.trans k4,⟨h5.ext k4.ext,k5⟩,k6⟩
  ·cases h
 |[],as,df,vs,u,M,ok,hf,hv,h=>by
  cases as<;>cases h<;>exact⟨M,rfl,rfl,ok,.refl M,hv,hf⟩
 |s::l,[],df,vs,u,M,ok,hf,hv,h=>by cases h;exact⟨M,rfl,rfl,ok,.refl M,hv,hf⟩
def iH (M L:zH)(id jd:Nat):Prop:=∃C D B,M.κ id=some C∧C.blk=some B∧L.κ jd=some D∧D.blk=some B
theorem N6 {M L}:∀{ls is js out} {us:List Value} {cs bs},fR M.h ls is=some (cs,bs)→DP ls js=some out→
  zJ (fun id u=>∃C B,M.κ id=some C∧C.blk=some B∧u=.pointer (some ⟨B,0,none⟩)) is us→zJ (fun id u=>∃C B,L.κ id=some C∧C.blk=some B∧u=.pointer (some ⟨B,0,none⟩)) js us→zJ (iH M L) (vA bs) out
 |[],[],[],out,us,cs,bs,h,k,_,_=>by cases h;cases k;exact trivial
 |(io,l)::ls,i::is,j::js,out,u::us,cs,bs,h,k,p,q=>by
  unfold fR at h
  split at h
  ·rename_i cells rest uk h1 h2
   obtain⟨_,h⟩:=vQ h
   cases h
   unfold DP at k
   split at k
   ·rename_i o ho
    cases k
    have ih:=N6 h2 ho p.2 q.2
    cases io with
    |false=>exact ih
    |true=>
     obtain⟨C,B,k1,k2,k3⟩:=p.1
     obtain⟨D,B',k4,k5,k6⟩:=q.1
     rw[k3] at k6
     cases k6
     exact⟨⟨C,D,B,k1,k2,k4,k5⟩,ih⟩
   ·cases k
  ·cases h
theorem Zf {M L}:∀{bs n},(∀q∈bs,q.1=true)→(∀i q,bs[i]? =some q→iH M L q.2 (n+i))→zJ (iH M L) (vA bs) (iE n bs.length)
 |[],n,_,_=>trivial
 |(true,id)::bs,n,h,k=>⟨k 0 _ rfl,Zf (by grind) fun i q hq=>by
   have:=k (i+1) q hq
   grind⟩
 |(false,id)::bs,n,h,k=>by simp_all
theorem Zg {h}:∀{ls ids cs bs},fR h ls ids=some (cs,bs)→bs.map (·.1)=ls.map (·.1)
 |[],[],_,_,e=>by cases e;rfl
 |(io,l)::ls,id::ids,cs,bs,e=>by
  unfold fR at e
  split at e
  ·rename_i cells rest uk h1 h2
   obtain⟨_,e⟩:=vQ e
   cases e
   simp[Zg h2]
  ·cases e
theorem yWv {M L}{s:AX}{a b v cs bs out}(h:s.get M.h a=some (cs,bs)){n}(k:s.io n b=some out)(p:zN M a v)(q:s.looks=true→zN L b v)(hk:s.isChn=true→∀i q,bs[i]? =some q→iH M L q.2 (n+i)):zJ (iH M L) (vA bs) out:=by
 unfold AX.get at h
 split at h
 ·cases h;cases k;exact trivial
 ·obtain⟨_,h'⟩:=vQ h
  cases h';cases k;exact trivial
 ·unfold AX.io at k
  split at k
  ·rename_i e;cases e
  ·rename_i e;cases e
  ·rename_i io' l' jd e
   cases e
   exact N6 (us:=[v]) h k ⟨p,trivial⟩ ⟨q rfl,trivial⟩
  all_goals simp_all
 ·obtain⟨hg,h'⟩:=vQ h
  unfold AX.io at k
  split at k
  ·simp_all
  ·simp_all
  ·simp_all
  ·rename_i f' Zh g' js e
   cases e
   obtain⟨cv,rfl,hc⟩:=p
   obtain⟨cv',e',ir⟩:=q rfl
   cases e'
   exact N6 h' k hc ir
  all_goals simp_all
 ·rename_i ls id
  split at h
  ·cases k
   have h1:=DT h
   have h2:ls.length=bs.length:=by rw[h1];simp[xY]
   rw[h2]
   exact Zf (fun q hq=>by
    have:q.1∈bs.map (·.1):=by grind
    rw[Zg h] at this
    exact(by simpa[xY] using this:_∧_).2) (hk rfl)
  ·cases h
 ·cases h
theorem Zi {M L}:∀{l as vs t n cs bs out m},gy M.h l as=some (cs,bs)→HU l t n m=some out→zJ (zN M) as vs→(∀i h s,l[i]? =some s→s.looks=true→zN L (t (n+i)) vs[i])→(l.any AX.isChn=true→∀i q,bs[i]? =some q→iH M L q.2 (m+i))→
  zJ (iH M L) (vA bs) out
 |[],[],[],t,n,cs,bs,out,m,h,k,_,_,_=>by cases h;cases k;exact trivial
 |s::l,a::as,v::vs,t,n,cs,bs,out,m,h,k,p,q,hk=>by
  unfold gy at h
  split at h
  ·rename_i c1 b1 c2 b2 h1 h2
   cases h
   unfold HU at k
   split at k
   ·rename_i o1 o2 k1 k2
    cases k
    have e:∀b1 b2:List (Bool×Nat),vA (b1++b2)=vA b1++vA b2:=fun b1 b2=>by
     induction b1 with
     |nil=>rfl
     |cons x b1 ih=>obtain⟨io,y⟩:=x;cases io<;>simp[vA,ih]
    rw[e]
    have hnb:=yU3 h1
    refine(yWv h1 k1 p.1 (q 0 (by simp) s rfl) (by grind)).append (Zi h2 k2 p.2 (fun i hi s' hs hl=>?_) fun hc i q hq=>?_)
    rotate_left
    ·have:=hk (by simp_all) (b1.length+i) q (by grind)
     grind
    have:=q (i+1) (by simp_all) s' (by simp_all) hl
    grind
   ·cases k
  ·cases h
 |[],_::_,_,_,_,_,_,_,_,h,_,_,_,_=>by cases h
theorem Zj {L}(fk:Ok L):∀{os ids bs},ya L.h os ids=some bs→bs.length=os.flatten.length∧ids.length=os.length∧
  ∃us:List Value,zJ (zR L) bs us∧∀{M cs},M.H=L.H→zJ (zR M) cs us→lv (fun id cs B=>(∃cells,L.h id=some (.box true cells))∧(∃C,L.κ id=some C∧C.blk=some B∧C.rows=[])∧∃vals e,M.H[B]? =some (.cells vals e (0,0))∧zJ (zR M) cs vals.toList) ids (rO os cs) (ids.map fun id=>((L.κ id).bind zT.blk).getD 0)
 |[],[],bs,h=>by cases h;exact⟨rfl,rfl,[],trivial,fun _ _=>trivial⟩
 |o::os,n::ns,bs,h=>by
  unfold ya at h
  split at h
  ·rename_i cells rest h1 h2
   obtain⟨hl,h⟩:=vQ h
   cases h
   obtain⟨C,hC,B,vals,e,q1,q2,q3,q4,_⟩:=fk.obj n _ h1
   obtain⟨k1,k2,us,k3,k4⟩:=Zj fk h2
   refine⟨by simp_all,by simp[k2],vals.toList++us,q4.append k3,fun{M cs} hH hc=>⟨⟨by grind,⟨C,hC,?_,q2⟩,vals,e,?_,?_⟩,?_⟩⟩
   ·simp_all
   ·simp_all
   ·have h1:=zJ.take o.length hc
    have NK:=q4.length
    simp_all
   ·have h1:=zJ.drop o.length hc
    have NK:=q4.length
    simp_all
  ·cases h
theorem yP6 {h0 r c d}(h:mf h0 r c=some d):∀id∈vO [r] [c],∀own cells,h0 id≠some (.box own cells):=by
  unfold mf at h
  split at h
  all_goals (try (intro id ab;simp[vO] at ab;done))
  all_goals first
    |(done)
    | (intro xL ab own cells hb
       have:=List.mem_singleton.1 ab
       simp_all)
    |(cases h)
theorem Zk {L}:∀{l cs d},gx L l cs=some d→∀id∈vO l cs,∀own cells,L id≠some (.box own cells)
 |r::l,c::cs,d,h,id,ab=>by
  unfold gx at h
  split at h
  ·rename_i x xs e1 e2
   rw[HP] at ab
   rcases List.mem_append.1 ab with ab|ab
   ·exact yP6 e1 id ab
   ·exact Zk e2 id ab
  ·cases h
theorem Zl:∀a b,vA (a++b)=vA a++vA b
 |[],_=>rfl
 |(true,_)::a,b
 |(false,_)::a,b=>by simp[vA,Zl a b]
theorem DU {h}:∀{ls is cs bs},fR h ls is=some (cs,bs)→∀id∈vA bs,∃o,h id=some o∧o.owned=true
 |[],[],_,_,e=>by cases e;nofun
 |(io,l)::ls,i::is,cs,bs,e=>by
  unfold fR at e
  split at e
  ·rename_i cells rest uk h1 h2
   obtain⟨_,e⟩:=vQ e
   cases e
   intro id ab
   cases io with
   |false=>exact DU h2 id ab
   |true=>
    rcases List.mem_cons.1 ab with rfl|ab
    ·unfold xZ at h1
     split at h1
     ·rename_i c hc
      exact⟨_,hc,rfl⟩
     all_goals simp_all
    ·exact DU h2 id ab
  ·cases e
theorem yQb {h}{s:AX}{a cs bs}(e:s.get h a=some (cs,bs)):∀id∈vA bs,∃o,h id=some o∧o.owned=true:=by
 unfold AX.get at e
 split at e
 ·cases e;nofun
 ·obtain⟨_,e⟩:=vQ e
  cases e;nofun
 ·exact DU e
 ·obtain⟨_,e⟩:=vQ e
  exact DU e
 ·split at e
  ·exact DU e
  ·cases e
 ·cases e
theorem Zm {h}:∀{l as cs bs},gy h l as=some (cs,bs)→l.length=as.length∧∀id∈vA bs,∃o,h id=some o∧o.owned=true
 |[],[],_,_,e=>by cases e;exact⟨rfl,nofun⟩
 |s::l,a::as,cs,bs,e=>by
  unfold gy at e
  split at e
  ·rename_i c1 b1 c2 b2 h1 h2
   cases e
   obtain⟨k1,k2⟩:=Zm h2
   refine⟨by simp[k1],fun id ab=>?_⟩
   rw[Zl] at ab
   rcases List.mem_append.1 ab with ab|ab
   ·exact yQb h1 id ab
   simp_all
  ·cases e
theorem Zn {h}:∀{l cs d},mi h l cs=some d→∀id∈wT l cs,∃o,h id=some o∧o.owned=true
 |[],[],_,_=>nofun
 |x::l,c::cs,d,e=>by
  unfold mi at e
  split at e
  ·rename_i y ys h1 h2
   have ih:=Zn h2
   unfold DL at h1
   split at h1
   ·exact ih
   ·intro jd ab
    rcases List.mem_cons.1 ab with rfl|ab
    ·split at h1
     ·rename_i s xs hs
      exact⟨_,hs,rfl⟩
     ·cases h1
    ·simp_all
   ·intro jd ab
    rcases List.mem_cons.1 ab with rfl|ab
    ·split at h1
     ·rename_i s xs hs
      exact⟨_,hs,rfl⟩
     ·cases h1
    ·exact ih jd ab
   ·intro jd ab
    rcases List.mem_cons.1 ab with rfl|ab
    ·split at h1
     ·rename_i xs hs
      exact⟨_,hs,rfl⟩
     ·cases h1
    simp_all
   ·exact ih
   ·cases h1
  ·cases e
theorem Zo {a b}(h:N0 a b=true):∀id∈b,id∉a:=fun id hb ha=>by
 have h:=List.all_eq_true.1 h id ha
 have:b.any (Nat.beq id)=true:=List.any_eq_true.2 ⟨id,hb,by simp⟩
 simp_all
theorem Zp:∀os cs,(rO os cs).length=os.length
 |[],_=>rfl
 |_::os,cs=>by simp[rO,Zp os]
theorem Zq {M L}{P:zH→Nat→Prop}{R}:∀{ids js css Bs},zJ (iH M L) ids js→lv R js css Bs→lv (fun id cs B=>∃jd,iH M L id jd∧R jd cs B) ids css Bs
 |[],[],[],[],_,_=>trivial
 |_::_,_::_,_::_,_::_,h,k=>⟨⟨_,h.1,k.1⟩,Zq (P:=P) h.2 k.2⟩
theorem zH.gone_ok {M}(ok:Ok M){nm}(aI:M.h nm=none) C:
  Ok (M.add nm .gone C)∧yD M (M.add nm .gone C)∧(∀b,qH (M.add nm .gone C) b→qH M b):=by
 have x:yD M (M.add nm .gone C):=⟨fun id D h=>by
  have aW:id≠nm:=fun e=>by rw[e,ok.non nm aI] at h;cases h
  exact⟨D,by show κset M.κ nm _ id=_;rw[κset_ne _ _ aW];exact h,D.le_refl⟩,fun _ h=>h,fun _ h=>h,fun _ _=>rfl,fun _ _=>rfl,fun _ _=>rfl⟩
 have at':∀o,(M.add nm .gone C).h nm=some o→o=.gone:=fun o h=>by
  have e1:(M.add nm .gone C).h nm=some .gone:=yE _ _ _
  simp_all
 refine⟨Ok.build ok x (fun id=>id=nm) (fun id h=>yH _ _ h) (fun id h=>κset_ne _ _ h) (fun _ _ _ _ _ _ _ _ _=>rfl) (fun id o' D h1 h2 h3 h4 b bj=>(ok.own b ⟨id,o',D,h2,h3,h4,bj⟩).1) (Nat.le_refl _)
  (fun id o' e h=>?_) (fun id e h=>?_) (fun id o' D b e h1 h2 h3 h4=>?_) ok.GF ok.Flt,x,fun b bj=>?_⟩
 ·subst e
  rw[at' o' h]
  exact⟨_,κset_same _ _ _,trivial⟩
 ·have e1:(M.add id .gone C).h id=some .gone:=yE _ _ _
  simp_all
 ·subst e
  rw[at' o' h1] at h2;cases h2
 ·obtain⟨id,o',D,h1,h2,h3,h4⟩:=bj
  by_cases e:id=nm
  ·subst e
   rw[at' o' h1] at h2;cases h2
  ·exact⟨id,o',D,by rw[←h1];exact(yH _ _ e).symm,h2,by rw[←h3];exact(κset_ne _ _ e).symm,h4⟩
theorem Zr:∀{n nm Bs M},Ok M→(∀i,i<n→M.h (nm+i)=none)→Bs.length=n→
  ∃M':zH,M'.H=M.H∧M'.G=M.G∧M'.F=M.F∧M'.h=qC M.h (mj (iE nm n))∧Ok M'∧yD M M'∧(∀b,qH M' b→qH M b)∧zJ (fun id B=>∃C,M'.κ id=some C∧C.blk=some B) (iE nm n) Bs
 |0,nm,[],M,ok,_,_=>⟨M,rfl,rfl,rfl,rfl,ok,.refl M,by simp,trivial⟩
 |n+1,nm,B::Bs,M,ok,hf,hl=>by
  obtain⟨k1,k2,k3⟩:=zH.gone_ok ok (hf 0 (by omega)) ⟨some B,0,0,0,[]⟩
  obtain ⟨M', a1, a2, a3, a4, a5, a6, a7, a8⟩ := Zr (n := n) (nm := nm + 1) (Bs := Bs) k1 (fun i hi=>by
   have:=hf (i+1) (by omega)
   rw[show nm+1+i=nm+(i+1) by omega,←this]
   exact yH _ _ (by omega)) (by simp_all)
  refine⟨M',a1,a2,a3,a4,a5,yD.trans (M:=M) (M':=M.add nm .gone ⟨some B,0,0,0,[]⟩) (Nat.le_refl _) k2 a6,by grind,?_,a8⟩
  obtain⟨C,h1,h2⟩:=a6.κ nm _ (κset_same _ _ _)
  exact⟨C,h1,h2.blk⟩
theorem N7 {L M ids js}(hs:zJ (iH M L) ids js):∀{l cs ds vs},nG l js cs=true→zJ (zR L) cs vs→zJ (zR M) ds vs→zJ (zR M) (uj l ids ds) vs
 |[],cs,ds,vs,_,_,hd=>by exact hd
 |none::l,[],[],[],_,_,_=>trivial
 |none::l,c::cs,d::ds,v::vs,h,hc,hd=>⟨hd.1,N7 hs (l:=l) h hc.2 hd.2⟩
 |some j::l,c::cs,d::ds,v::vs,h,hc,hd=>by
  obtain⟨id,rfl,ab,h'⟩:=Y6 h
  refine⟨?_,N7 hs h' hc.2 hd.2⟩
  have hj:=(List.getElem?_eq_some_iff.1 ab).1
  have hi:j<ids.length:=by rw[hs.length];exact hj
  have:=hs.get j hi hj
  rw[(List.getElem?_eq_some_iff.1 ab).2] at this
  obtain⟨C,D,B,q1,q2,q3,q4⟩:=this
  obtain⟨D',B',p1,p2,p3⟩:=hc.1
  rw[q3] at p1;cases p1
  rw[q4] at p2;cases p2
  rw[List.getElem?_eq_getElem hi]
  exact⟨C,B,q1,q2,p3⟩
 |_,[],_::_,[],_,_,hd=>hd.elim
 |_,_::_,[],[],_,hc,_=>hc.elim
theorem vBm {h ns cs nw}(e:NZ h ns cs=some nw):nw.length=ns:=by
 unfold NZ at e
 cases h0:Nat.beq ns 0 with
 |true=>simp_all
 |false=>
  rw[h0] at e
  split at e
  ·exact(N2 e).2
  ·cases e
def HZ (w:World)(na:Nat)(chn:Bool)(M:zH)(vs:Array Value)(rv:Value)(w':World)(v:zQ)(st:St):Prop:=
 ∃M':zH,M'.h=st.h∧M'.H=w'.heap∧Ok M'∧fO M M'∧(chn=true→jq M M')∧zN M' v rv∧w'.os=w.os∧w'.tape=w.tape∧w'.output=w.output∧(∀t,t<na→zN M' (st.t t) (vs.getD t undef))
theorem Zs {n}:∀{l nm d hh},(∀j,j<l.length→n≠nm+j)→qC hh (ll nm l d).2 n=hh n
 |[],_,_,_,_=>rfl
 |r::l,nm,d,hh,h=>by
  show qC hh ((nB nm r d.1).2++(ll (nm+1) l d.2).2) n=_
  rw[gV,Zs fun j hj=>by have:=h (j+1) (by simp_all);omega,YF (by have:=h 0 (by simp);omega)]
theorem yP1 {M}(ok:Ok M){io id cells}(h:xZ M.h io id=some cells):∃C B,M.κ id=some C∧C.blk=some B:=by
 have h':xQ M.h id=some cells:=by
  unfold xZ at h
  unfold xQ
  grind
 obtain⟨C,h1,B,_,_,h2,_⟩:=YC ok h'
 simp_all
theorem H0 {M}(ok:Ok M):∀{ls is cs bs},fR M.h ls is=some (cs,bs)→∀q∈bs,∃C B,M.κ q.2=some C∧C.blk=some B
 |[],[],_,_,e=>by cases e;simp
 |(io,l)::ls,i::is,cs,bs,e=>by
  unfold fR at e
  split at e
  ·rename_i cells rest uk h1 h2
   obtain⟨_,e⟩:=vQ e
   cases e
   intro q hq
   rcases List.mem_cons.1 hq with rfl|hq
   ·exact yP1 ok h1
   ·exact H0 ok h2 q hq
  ·cases e
theorem Zt {M}(ok:Ok M):∀{l as cs bs},gy M.h l as=some (cs,bs)→∀q∈bs,∃C B,M.κ q.2=some C∧C.blk=some B
 |[],[],_,_,e=>by cases e;simp
 |s::l,a::as,cs,bs,e=>by
  unfold gy at e
  split at e
  ·rename_i c1 b1 c2 b2 h1 h2
   cases e
   intro q hq
   rcases List.mem_append.1 hq with hq|hq
   ·unfold AX.get at h1
    split at h1
    ·simp_all
    ·grind
    ·exact H0 ok h1 q hq
    ·obtain⟨_,h1⟩:=vQ h1
     exact H0 ok h1 q hq
    ·split at h1
     ·exact H0 ok h1 q hq
     ·cases h1
    ·cases h1
   ·exact Zt ok h2 q hq
  ·cases e
theorem Zu {L}(ok:Ok L):∀{os ids bs},ya L.h os ids=some bs→∀j∈ids,∃cells C B,L.h j=some (.box true cells)∧L.κ j=some C∧C.blk=some B
 |[],[],_,_=>by simp
 |o::os,n::ns,bs,h=>by
  unfold ya at h
  split at h
  ·rename_i cells rest h1 h2
   intro j hj
   rcases List.mem_cons.1 hj with rfl|hj
   ·obtain⟨C,hC,B,vals,e,q1,_⟩:=ok.obj _ _ h1
    simp_all
   ·exact Zu ok h2 j hj
  ·cases h
theorem Zv {L}(ok:Ok L):∀{js:List Nat},js.Nodup→(∀j∈js,∃cells C B,L.h j=some (.box true cells)∧L.κ j=some C∧C.blk=some B)→(js.map fun id=>((L.κ id).bind zT.blk).getD 0).Nodup
 |[],_,_=>by simp
 |a::js,hn,aV=>by
  obtain⟨n1,n2⟩:=List.nodup_cons.1 hn
  refine List.nodup_cons.2 ⟨fun kG=>?_,Zv ok n2 (by grind)⟩
  obtain⟨j,hj,mm⟩:=List.mem_map.1 kG
  obtain⟨Zw,C,B,q1,q2,q3⟩:=aV a (by simp)
  obtain⟨c2',D,B',q4,q5,q6⟩:=aV j (by grind)
  have mm:((L.κ j).bind zT.blk).getD 0=((L.κ a).bind zT.blk).getD 0:=mm
  rw[q2,q5] at mm
  have mm:(D.blk.getD 0)=(C.blk.getD 0):=mm
  rw[q3,q6] at mm
  subst mm
  exact ok.disj a j _ _ C D B' (by grind) q1 q4 rfl rfl q2 q5 (by simp[zT.fp,q3]) (by simp[zT.fp,q6])
theorem Zx {na as}(gA:pq as na=true){nm n args h u0 io rows d}(he:uo as nm n args h=some (u0,io,rows,d)) M w vs (hh:M.h=h)(hH:M.H=w.heap)(ok:Ok M)(hv:zJ (zN M) args vs.toList):
  ∃Ml:zH,Ml.h=(gz as d).2∧Ml.H=w.heap∧Ok Ml∧zJ (zN Ml) (gz as d).1 vs.toList∧
   ∀rv w' v0 st,HZ w na (as.any AX.isChn) Ml vs rv w' v0 st→∀rs os ns dx,rN st as rs os ns v0=some dx→(rs.cells++os.flatten).length+ns≤n→
    ∃Mf,oX M w (DR u0 io rows rs os ns nm dx).2 Mf w'∧zN Mf (DR u0 io rows rs os ns nm dx).1 rv:=by
 unfold uo at he
 split at he
 ·cases he
 rename_i cY u ud
 split at he
 ·cases he
 rename_i cs bs cF
 split at he
 ·cases he
 rename_i d' hd
 dsimp only at he
 obtain⟨hc,he⟩:=kz he
 cases he
 simp only[Bool.and_eq_true] at hc
 obtain⟨⟨⟨⟨⟨⟨uv,bU⟩,bY⟩,cZ⟩,gC⟩,H2⟩,H3⟩:=hc
 subst hh
 obtain⟨M1,a1,a2,a3,a4,a5,a6⟩:=Ze ok (wK.refl _) hv ud
 rw[←a2] at hd cF
 obtain⟨Zy,rC⟩:=Zm cF
 have aL:=Zn hd
 have cR:kE M1 (vA bs++wT (as.flatMap AX.cells) cs):=fun id ab=>(List.mem_append.1 ab).elim (rC id) (aL id)
 have N8:=xH cZ
 obtain⟨Ml,lo,b2,b3,b4,b5,b6⟩:=yQg a3 a5 cF hd N8 (Zo gC) (Zo H2) (Nat.le_of_ble_eq_true bY) H3 cR
 generalize eQ:vA bs++wT (as.flatMap AX.cells) cs=ai at*
 refine⟨Ml,b2,by rw[lo.H,a1];exact hH,b3,b5,fun rv w' v0 st ⟨L0,c1,c2,c3,c4,ck,c5,c6,c7,c8,c9⟩ rs os ns dx hK hn=>?_⟩
 unfold rN at hK
 split at hK
 ·cases hK
 rename_i N9 iz
 split at hK
 ·cases hK
 rename_i ccs kB
 split at hK
 ·cases hK
 rename_i nw hnw
 split at hK
 ·cases hK
 rename_i bcs py
 obtain⟨DV,H4⟩:=kz hK
 clear hK
 split at H4
 case h_2=>cases H4
 rename_i aF u1 uf
 obtain⟨cC,hK⟩:=kz H4
 clear H4
 rw[Bool.and_eq_true] at cC
 obtain⟨cC,DW⟩:=cC
 have Oa:=vBm hnw
 obtain⟨hlen,us,d1,d2⟩:=YH kB c5
 rw[←c1] at uf hK py
 obtain⟨js,rj⟩:∃js,js=N9++nw:=⟨_,rfl⟩
 rw[←rj] at py DV DW
 obtain⟨k1,k2,H5,k3,k4⟩:=Zj c3 py
 obtain⟨L,e1,e2,e3,e4,e5,e6⟩:=rJ c3 (wK.refl _) (d1.append k3) uf
 rw[←e2] at hK
 have g:fO Ml L:=c4.trans e4.grow
 obtain⟨f1,f2,f3⟩:=zH.overX_ok a3 e3 lo cR b4 g
 have cd : zJ (iH M1 L0) (vA bs) N9 := Zi cF iz a5 (fun i hi s hs pw=>by
  have bm:i<vs.size:=by simpa using hi
  have aS:i<na:=by
   have:=List.all_eq_true.1 gA (s,i) (List.mk_mem_zipIdx_iff_getElem?.2 hs)
   simp only[pw,Bool.not_true,Bool.false_or] at this
   exact Mn this
  have:=c9 i aS
  rw[Nat.zero_add]
  have e:vs.getD i undef=vs.toList[i]:=by simp[bm]
  rw[←e];exact this) fun ju i q hq=>by
   obtain⟨C,B,p1,p2⟩:=Zt a3 cF q (List.mem_of_getElem? hq)
   have hi:i<bs.length:=(List.getElem?_eq_some_iff.1 hq).1
   have hκ:Ml.κ i=some C:=by
    rw[b6]
    unfold κX
    have:Nat.ble vZ i=false:=by
     cases h:Nat.ble vZ i with
     |false=>rfl
     |true=>have h1:=Nat.le_of_ble_eq_true h;have h2:=Nat.le_of_ble_eq_true bY;omega
    rw[this,hq]
    exact p1
   obtain⟨C',p3,p4⟩:=ck ju i C hκ
   rw[Nat.zero_add]
   exact⟨C,C',B,p1,p2,p3,p4.trans p2⟩
 have mn:∀i,i<n→(M1.overX L ai).h (nm+i)=none:=fun i hi=>by
  have h1:=NH uv i hi
  have h2:M1.h (nm+i)=none:=by
   rw[a2]
   rcases a6 (nm+i) with h|⟨own,t,xs,h,_⟩|⟨ver,xs,h,_⟩
   ·rw[a2] at h;rw[h];exact h1
   ·rw[h1] at h;cases h
   ·rw[h1] at h;cases h
  show qC M1.h (mj ai) (nm+i)=none
  rw[rR,if_neg,h2]
  intro kG
  obtain⟨o,ho,_⟩:=cR _ kG
  rw[h2] at ho;cases ho
 have mg:∀i,i<(rs.cells++os.flatten).length→(M1.overX L ai).h (nm+i)=none:=fun i hi=>mn i (by omega)
 have pz:∀b,qH L b→b<M1.H.size→gY M1 ai b:=fun b hb aS=>b4 b (g.own b hb (by rw[lo.H];exact aS))
 have rS:∀b,qH L b→¬(M1.overX L ai).F b:=fun b hb h=>by
  rcases h with h|h
  ·exact(pv a3 cR h).2 (pz b hb (a3.Flt b h))
  ·exact(e3.own b hb).1 (e3.GF b h)
 have rT:∀b,qH L b→¬qH (M1.overX L ai) b:=fun b hb h=>by
  obtain⟨q1,q2⟩:=f3 b h
  exact q2 (pz b hb (a3.own b q1).2)
 obtain ⟨Mc, g1, g2, g3, g4, g5, g6, g7, g8⟩ := NI e3 f1 ⟨rfl, rfl⟩ mg hK (xH cC) (rL hK) (fun id ab C hC b hb=>by
  obtain⟨o,ho,fj⟩:=rL hK id ab
  have aA:qH L b:=⟨id,o,C,ho,fj,hC,hb⟩
  exact⟨rT b aA,rS b aA,(e3.own b aA).2⟩)
 obtain ⟨Mg, n1, n2, n3, n4, n5, n6, n7, n8⟩ := Zr (n := ns) (nm := nm + (rs.cells ++ os.flatten).length) (Bs := nw.map fun id => ((L0.κ id).bind zT.blk).getD 0) g5 (fun i hi=>by
  rw[g4,Zs (fun j hj=>by omega),Nat.add_assoc]
  exact mn _ (by omega)) (by simp[Oa])
 have mo:∀j∈js,∃cells C B,L0.h j=some (.box true cells)∧L0.κ j=some C∧C.blk=some B:=Zu c3 py
 have Zz:yD M1 Mg:=(f2.ext.trans f2.size g6).trans (by rw[g1];exact f2.size) n6
 have Dc:zJ (iH Mg L0) (vA bs) N9:=cd.mono fun id jd hq=>by
  obtain⟨C,D,B,q1,q2,q3,q4⟩:=hq
  obtain⟨C',p3,le⟩:=Zz.κ id C q1
  exact⟨C',D,B,p3,le.blk.trans q2,q3,q4⟩
 have Ob:zJ (iH Mg L0) (iE (nm+(rs.cells++os.flatten).length) ns) nw:=by
  have ZA:=n8.length
  rw[List.length_map] at ZA
  refine zJ.of_get ZA fun i h1 h2=>?_
  obtain⟨C,q1,q2⟩:=n8.get i h1 (by simpa using h2)
  obtain⟨cells,D,B,p1,p2,p3⟩:=mo nw[i] (by rw[rj];exact List.mem_append_right _ (List.getElem_mem _))
  refine⟨C,D,B,q1,?_,p2,p3⟩
  rw[q2,List.getElem_map,p2]
  show some (D.blk.getD 0)=_
  rw[p3];rfl
 have iI:zJ (iH Mg L0) (vA bs++iE (nm+(rs.cells++os.flatten).length) ns) js:=by
  rw[rj];exact Dc.append Ob
 have pA:zJ (iH Mg L) (vA bs++iE (nm+(rs.cells++os.flatten).length) ns) js:=iI.mono fun id jd hq=>by
  obtain⟨C,D,B,q1,q2,q3,q4⟩:=hq
  obtain⟨D',p3,le⟩:=e4.ext.κ jd D q3
  exact⟨C,D',B,q1,q2,p3,le.blk.trans q4⟩
 have uw:=N7 pA DW e5 ((g8 _ e5).mono fun _ _ h=>h.ext n6)
 obtain⟨G,hG⟩:∃G,G=uj ((rs.cells++os.flatten).map RC.lnk) (vA bs++iE (nm+(rs.cells++os.flatten).length) ns) (ll nm (rs.cells++os.flatten) dx).1:=⟨_,rfl⟩
 rw[←hG] at uw
 have xB:us.length=rs.cells.length:=by rw[←d1.length,hlen]
 have hgr:zJ (zR Mg) (G.take rs.cells.length) us:=by
  have:=zJ.take rs.cells.length uw
  rwa [show(us++H5).take rs.cells.length=us from by rw[←xB,List.take_left]] at this
 have hgb:zJ (zR Mg) (G.drop rs.cells.length) H5:=by
  have:=zJ.drop rs.cells.length uw
  rwa [show(us++H5).drop rs.cells.length=H5 from by rw[←xB,List.drop_left]] at this
 have hHc:Mg.H=L0.H:=by rw[n1,g1];exact e1
 have DX:=Zq (P:=fun _ _=>True) iI (k4 hHc hgb)
 have rU:∀jd B,(∃cells,L0.h jd=some (.box true cells))→(∃C,L0.κ jd=some C∧C.blk=some B)→∃cells C,L.h jd=some (.box true cells)∧L.κ jd=some C∧B∈C.fp:=fun jd B ⟨cells,q1⟩ ⟨C,q2,q3⟩=>by
  obtain⟨C',q4,le⟩:=e4.ext.κ jd C q2
  refine⟨cells,C',?_,q4,?_⟩
  ·rcases e6 jd with h|⟨own,t,xs,h,_⟩|⟨ver,xs,h,_⟩
   ·rw[h,q1]
   ·rw[q1] at h;cases h
   ·rw[q1] at h;cases h
  ·have:C'.blk=some B:=le.blk.trans q3
   simp[zT.fp,this]
 have DY:∀b,b∈(js.map fun id=>((L0.κ id).bind zT.blk).getD 0)→qH L b:=fun b hb=>by
  obtain⟨j,hj,rfl⟩:=List.mem_map.1 hb
  obtain⟨cells,C,B,q1,q2,q3⟩:=mo j hj
  obtain⟨bo,D,p4,p5,p6⟩:=rU j B ⟨cells,q1⟩ ⟨C,q2,q3⟩
  have e:((L0.κ j).bind zT.blk).getD 0=B:=by rw[q2];show C.blk.getD 0=B;rw[q3];rfl
  rw[e]
  exact⟨j,_,D,p4,rfl,p5,p6⟩
 have ux : lv (Zb Mg) (vA bs ++ iE (nm + (rs.cells ++ os.flatten).length) ns) (rO os (G.drop rs.cells.length)) (js.map fun id => ((L0.κ id).bind zT.blk).getD 0) := lv.mono (fun id css B _ ⟨jd,q1,q2,⟨D0,q3,ZB,_⟩,q4⟩=>by
  obtain⟨C,D1,B',p1,p2,p3,ZC⟩:=q1
  rw[q3] at p3;cases p3
  rw[ZB] at ZC;cases ZC
  obtain⟨cells,D,p4,p5,p6⟩:=rU jd B q2 ⟨_,q3,ZB⟩
  have aA:qH L B:=⟨jd,_,D,p4,rfl,p5,p6⟩
  refine⟨⟨C,p1,p2⟩,q4,fun ho=>?_,?_⟩
  ·rcases g7 B (n7 B ho) with h|⟨kd,DZ,D',p7,p8⟩
   ·exact rT B aA h
   ·obtain⟨o,p9,px⟩:=rL hK kd DZ
    refine e3.disj jd kd _ o D D' B (fun e=>?_) p4 p9 rfl px p5 p7 p6 p8
    exact Zk hK kd DZ true cells (by rw[←e];exact p4)
  ·rw[n3,g3];exact rS B aA) DX
 have hBs:(js.map fun id=>((L0.κ id).bind zT.blk).getD 0).Nodup:=Zv c3 (xH DV) mo
 obtain⟨Mf,r1,r2,r3,r4,r5,r6,r7⟩:=Zc n5 ux hBs
 have NO:yN M1 Mf:=by
  have aA:∀b,qH Mf b→b<M1.H.size→qH M1 b:=fun b hb aS=>by
   rcases r7 b hb with hb|hb
   ·rcases g7 b (n7 b hb) with h|⟨id,ab,C,hC,xS⟩
    ·exact(f3 b h).1
    ·obtain⟨o,ho,fj⟩:=rL hK id ab
     exact(pz b ⟨id,o,C,ho,fj,hC,xS⟩ aS).own cR
   ·exact(pz b (DY b hb) aS).own cR
  have HQ:Mf.H=(M1.overX L ai).H:=r1.trans (n1.trans g1)
  refine⟨Zz.trans ?_ r6,?_,fun b hb hn=>?_,aA,fun b hb aS=>?_,fun b hb aS=>?_⟩
  ·rw[n1,g1];exact f2.size
  ·rw[HQ];exact f2.size
  ·rw[HQ];exact f2.frame b hb hn
  ·rw[r2,n2,g2] at hb;exact f2.Gb b hb aS
  ·rw[r3,n3,g3] at hb;exact f2.Fb b hb aS
 have mq:(vA bs++iE (nm+(rs.cells++os.flatten).length) ns).length=(rO os (G.drop rs.cells.length)).length:=by
  rw[Zp,iI.length,k2]
 refine⟨Mf,⟨c6,c7,c8,?_,?_,r5,a4.trans NO⟩,?_⟩
 ·rw[r1,n1,g1];show L.H=_;rw[e1,c2]
 ·rw[r4,n4,g4]
  show _=qC M.h (u0++(mj (wT (as.flatMap AX.cells) cs)++((ll nm (rs.cells++os.flatten) dx).2++yc (vA bs++iE (nm+(rs.cells++os.flatten).length) ns) (rO os ((uj ((rs.cells++os.flatten).map RC.lnk) (vA bs++iE (nm+(rs.cells++os.flatten).length) ns) (ll nm (rs.cells++os.flatten) dx).1).drop rs.cells.length)))))
  rw[←hG,gV,gV,gV,←a2]
  refine Zd mq fun m hm=>?_
  rw[List.mem_append,not_or] at hm
  rw[rR,if_neg hm.2]
  refine tU ?_
  show qC M1.h (mj ai) m=_
  rw[rR,rR,←eQ]
  simp[hm.1]
 ·show zN Mf (rs.mk ((uj ((rs.cells++os.flatten).map RC.lnk) (vA bs++iE (nm+(rs.cells++os.flatten).length) ns) (ll nm (rs.cells++os.flatten) dx).1).take rs.cells.length)) rv
  rw[←hG]
  exact d2 Mf _ (hgr.mono fun _ _ h=>h.ext r6)
theorem ZD {P na f}(bK:∀vs w,(callFunc f vs).run P w=.ok (.enter f vs) w)
  {as rs os ns X} {S:XD as→Option X} {pack unpack} (dh:∀d,pack (unpack d)=d) (gA:pq as na=true)
  (iJ:∀d x,S d=some x→∀M w vs,M.h=(gz as d).2→M.H=w.heap→Ok M→zJ (zN M) (gz as d).1 vs.toList→Calls P f vs w fun
   |.returned rv,w'=>∃(v:zQ) (st:St),DQ as rs os ns unpack v st=some x∧HZ w na (as.any AX.isChn) M vs rv w' v st
   |_,_=>False)
  {nm args h v u} (hy:yB (nI as rs os ns S pack nm args h) v u):oY P f args h v u:=by
 intro M w vs hh hH ok hv
 refine .inl ⟨bK vs w,?_⟩
 unfold nI at hy
 split at hy
 ·exact hy.elim
 rename_i u0 io rows d he
 obtain⟨x,hx,rfl,rfl⟩:=hy
 obtain⟨Ml,b1,b2,b3,b4,b5⟩:=Zx gA he M w vs hh hH ok hv
 refine Calls.mono (iJ d x hx Ml w vs b1 b2 b3 b4) fun e w' hl=>?_
 cases e with
 |panicked _=>omega
 |outgrown=>omega
 |returned rv=>
  obtain⟨v0,st,hK,hl⟩:=hl
  have hK:rN st as rs os ns v0=some (pack x):=by
   unfold DQ at hK
   grind
  grind
theorem vDn {P na f}(bK:∀vs w,(callFunc f vs).run P w=.ok (.enter f vs) w)
  {as rs rs2 os os2 ns ns2 X Y} {S:XD as→Option (X⊕Y)} {pk up fq iF}
  (dh:∀d,pk (up d)=d) (kH:∀d,fq (iF d)=d) (gA:pq as na=true)
  (iJ:∀d x,S d=some x→∀M w vs,M.h=(gz as d).2→M.H=w.heap→Ok M→zJ (zN M) (gz as d).1 vs.toList→Calls P f vs w fun
   |.returned rv,w'=>∃(v:zQ) (st:St),HV as rs os ns rs2 os2 ns2 up iF v st=some x∧HZ w na (as.any AX.isChn) M vs rv w' v st
   |_,_=>False)
  {nm args h v u} (hy:yB (pt as rs os ns rs2 os2 ns2 S pk fq nm args h) v u):oY P f args h v u:=by
 intro M w vs hh hH ok hv
 refine .inl ⟨bK vs w,?_⟩
 unfold pt at hy
 split at hy
 ·exact hy.elim
 rename_i u0 io rows d he
 obtain⟨Ml,b1,b2,b3,b4,b5⟩:=Zx gA he M w vs hh hH ok hv
 rcases hy with⟨x,hx,rfl,rfl⟩|⟨x,hx,rfl,rfl⟩<;>
 ·refine Calls.mono (iJ d _ hx Ml w vs b1 b2 b3 b4) fun e w' hl=>?_
  cases e with
  |panicked _=>omega
  |outgrown=>omega
  |returned rv=>
   obtain⟨v0,st,hK,hl⟩:=hl
   unfold HV at hK
   grind
theorem ZE {E}(hE:dG E)(hS:fM E.sums)(hm:E.P.follows .mixedOrders=true){A k pre na f fn}(hf:E.P.funcs[f]? =some fn)(hL:∀c,fn.body=some c→vU E.P A pre na fn.ntmps c){chn}(ju:(!chn||A.loops.isEmpty)=true)
  {R K} {x:R} {args h} (aG:gg E A k pre na fn args h K=some x) {M w vs} (h1:M.h=h) (h2:M.H=w.heap) (h3:Ok M) (h4:zJ (zN M) args vs.toList):
  Calls E.P f vs w fun
   |.returned rv,w'=>∃(v:zQ) (st:St),K v st=some x∧HZ w na chn M vs rv w' v st
   |_,_=>False:=by
 refine Calls.mono (Nx hE hS hm hf hL aG h1 h2 h3 h4) fun e w' hl=>?_
 cases e with
 |panicked _=>omega
 |outgrown=>omega
 |returned rv=>
  obtain⟨M',v,st,a1,a2,a3,a4,a5,a6,a7,a8,a9,D4,D5⟩:=hl
  refine⟨v,st,a1,M',a2,a3,a4,a5,fun hc=>a6 ?_,a7,a8,a9,D4,D5⟩
  simp_all
theorem yOo {E}(hE:dG E)(hS:fM E.sums)(hm:E.P.follows .mixedOrders=true){A k pre na f fn}(hf:E.P.funcs[f]? =some fn)(hL:∀c,fn.body=some c→vU E.P A pre na fn.ntmps c)(bK:∀vs w,(callFunc f vs).run E.P w=.ok (.enter f vs) w)
  {as rs os ns X} {S:XD as→Option X} {pack unpack} (dh:∀d,pack (unpack d)=d) (gA:pq as na=true) (ju:(!as.any AX.isChn||A.loops.isEmpty)=true)
  (aG:∀d,gg E A k pre na fn (gz as d).1 (gz as d).2 (DQ as rs os ns unpack)=S d)
  {nm args h v u} (hy:yB (nI as rs os ns S pack nm args h) v u):oY E.P f args h v u:=
 ZD bK dh gA (fun d x hx M w vs h1 h2 h3 h4=>ZE hE hS hm hf hL ju ((aG d).trans hx) h1 h2 h3 h4) hy
theorem vJt {E}(hE:dG E)(hS:fM E.sums)(hm:E.P.follows .mixedOrders=true){A k pre na f fn}(hf:E.P.funcs[f]? =some fn)(hL:∀c,fn.body=some c→vU E.P A pre na fn.ntmps c)(bK:∀vs w,(callFunc f vs).run E.P w=.ok (.enter f vs) w)
  {as rs rs2 os os2 ns ns2 X Y} {S:XD as→Option (X⊕Y)} {pk up fq iF}
  (dh:∀d,pk (up d)=d) (kH:∀d,fq (iF d)=d) (gA:pq as na=true) (ju:(!as.any AX.isChn||A.loops.isEmpty)=true)
  (aG:∀d,gg E A k pre na fn (gz as d).1 (gz as d).2 (HV as rs os ns rs2 os2 ns2 up iF)=S d)
  {nm args h v u} (hy:yB (pt as rs os ns rs2 os2 ns2 S pk fq nm args h) v u):oY E.P f args h v u:=
 vDn bK dh kH gA (fun d x hx M w vs h1 h2 h3 h4=>ZE hE hS hm hf hL ju ((aG d).trans hx) h1 h2 h3 h4) hy
section
variable {h h':Hp}
theorem vKp {x c}(hh:∀id∈yY c,h id=h' id):DL h x c=DL h' x c:=by
 unfold DL
 split
 ·exact YO hh
 ·rename_i id;rw[hh id (by simp[yY])]
 ·rename_i id;rw[hh id (by simp[yY])]
 ·rename_i id;rw[hh id (by simp[yY])]
 ·rfl
 ·rfl
theorem ZF:∀{l cs},(∀id∈cs.flatMap yY,h id=h' id)→mi h l cs=mi h' l cs
 |[],[],_
 |[],_::_,_
 |_::_,[],_=>rfl
 |p::l,c::cs,hh=>by
  simp  at hh
  unfold mi
  rw[vKp fun id hi=>hh id (.inl hi),ZF (by grind)]
theorem ySj {ls}:fR h ls []=fR h' ls []:=by
 cases ls<;>rfl
theorem yTe {s:AX}{a}(hb:vX a=false):s.get h a=s.get h' a:=by
 unfold AX.get
 cases s with
 |c p=>grind
 |agg l=>grind
 |ptr io l=>
  cases a with
  |c x=>cases x<;>first|rfl|(exact absurd hb (by simp[vX]))
  |_=>rfl
 |fn f ba=>
  cases a with
  |c x=>cases x with
   |fn g ids=>
    cases ids with
    |nil=>dsimp only;rw[ySj]
    |cons _ _=>exact absurd hb (by nofun)
   |_=>rfl
  |_=>rfl
 |chn ls=>
  cases a with
  |c x=>cases x<;>first|rfl|(exact absurd hb (by nofun))
  |_=>rfl
theorem yV4 {s:AX}{a cs bs}(hb:vX a=false)(e:s.get h a=some (cs,bs)):∀id∈cs.flatMap yY,id∈yG a:=by
 unfold AX.get at e
 split at e
 ·cases e;intro id ab;simp  at ab;exact ab
 ·obtain⟨_,e⟩:=vQ e
  cases e;exact fun id ab=>ab
 ·exact absurd hb (by nofun)
 ·rename_i f ba g ids
  obtain⟨_,e⟩:=vQ e
  cases ids with
  |nil=>cases ba with
   |nil=>cases e;simp
   |cons _ _=>cases e
  |cons _ _=>exact absurd hb (by nofun)
 ·exact absurd hb (by nofun)
 ·cases e
theorem ZG:∀{l as},as.any vX=false→gy h l as=gy h' l as
 |[],[],_
 |[],_::_,_
 |_::_,[],_=>rfl
 |s::l,a::as,hb=>by
  simp only[List.any_cons,Bool.or_eq_false_iff] at hb
  unfold gy
  rw[yTe (h:=h) (h':=h') hb.1,ZG hb.2]
theorem ZH:∀{l as cs bs},as.any vX=false→gy h l as=some (cs,bs)→∀id∈cs.flatMap yY,id∈as.flatMap yG
 |[],[],cs,bs,_,e=>by cases e;simp
 |s::l,a::as,cs,bs,hb,e=>by
  simp only[List.any_cons,Bool.or_eq_false_iff] at hb
  unfold gy at e
  split at e
  ·rename_i c1 b1 c2 b2 e1 e2
   cases e
   intro id ab
   rw[List.flatMap_append,List.mem_append] at ab
   rw[List.flatMap_cons,List.mem_append]
   rcases ab with ab|ab
   ·exact .inl (yV4 hb.1 e1 id ab)
   ·exact .inr (ZH hb.2 e2 id ab)
  ·cases e
theorem yTr {s a}(hh:∀id∈yG a,h id=h' id):rP h s a=rP h' s a:=by
 unfold rP
 split
 ·rename_i p x
  have:=xU (h:=h) (h':=h') (l:=[p.isKept]) (cs:=[x]) (by rw[xT];exact hh)
  simp_all
 ·rename_i l xs
  have:=xU (h:=h) (h':=h') (l:=l.map PC.isKept) (cs:=xs) hh
  simp_all
 ·rfl
theorem yPu {s a a' u}(e:rP h s a=some (a',u)):(∀id∈yG a',id∈yG a)∧(vX a=false→vX a'=false):=by
 unfold rP at e
 split at e
 ·rename_i p x
  split at e
  ·rename_i y u1 e1
   cases e
   refine⟨fun id ab=>by have:=xV e1 id (by rw[xT];omega);rwa [xT] at this,fun hb=>?_⟩
   cases hk:p.isKept with
   |false=>rw[hk] at e1;cases e1;exact hb
   |true=>
    rw[hk] at e1
    unfold dH at e1
    split at e1
    ·rename_i c1 u2 jm nf e2 e3
     cases e1
     cases hy:vX (.c y) with
     |false=>rfl
     |true=>rw[(NP e2).2 hy] at hb;cases hb
    ·cases e1
  ·cases e
 ·split at e
  ·rename_i ys u1 e1
   cases e
   exact⟨xV e1,fun _=>rfl⟩
  ·cases e
 simp_all
theorem ZI:∀{l as},(∀id∈as.flatMap yG,h id=h' id)→nH h l as=nH h' l as
 |[],as,_=>by rfl
 |_::_,[],_=>rfl
 |s::l,a::as,hh=>by
  simp  at hh
  unfold nH
  rw[yTr fun id hi=>hh id (.inl hi),ZI (by grind)]
theorem ZJ:∀{l as df u},nH h l as=some (df,u)→(∀id∈df.flatMap yG,id∈as.flatMap yG)∧(as.any vX=false→df.any vX=false)
 |[],as,df,u,e=>by cases as<;>cases e<;>exact by simp
 |s::l,[],df,u,e=>by cases e;simp
 |s::l,a::as,df,u,e=>by
  unfold nH at e
  split at e
  ·rename_i a1 u1 NM nf e1 e2
   obtain⟨k1,k2⟩:=yPu e1
   obtain⟨k3,k4⟩:=ZJ e2
   grind
  ·cases e
theorem ZK {as nm n args}(h1:args.any vX=false→∀id,(id∈args.flatMap yG∨kk nm id=true)→h id=h' id)(h2:args.any vX=true→h=h'):uo as nm n args h=uo as nm n args h':=by
 cases hb:args.any vX with
 |true=>rw[h2 hb]
 |false=>
  have hh:=h1 hb
  unfold uo
  rw[ZI (h:=h) (h':=h') (by grind)]
  cases e:nH h' as args with
  |none=>rfl
  |some p=>
   obtain⟨cY,u⟩:=p
   obtain⟨k1,k2⟩:=ZJ e
   dsimp only
   rw[ZG (h:=qC h u) (h':=qC h' u) (k2 hb)]
   cases e2:gy (qC h' u) as cY with
   |none=>rfl
   |some q=>
    obtain⟨cs,bs⟩:=q
    dsimp only
    rw[ZF (h:=qC h u) (h':=qC h' u) fun id ab=>tU (hh id (.inl (k1 id (ZH (k2 hb) e2 id ab))))]
    cases mi (qC h' u) (as.flatMap AX.cells) cs with
    |none=>rfl
    |some d=>
     cases hle:Nat.ble n 100 with
     |false=>simp
     |true=>
      have hle:=Nat.le_of_ble_eq_true hle
      rw [NQ (h := h) (h' := h') fun i hi => hh _ (.inr (by
       simp only[kk,Bool.and_eq_true]
       exact⟨by simp,by simp[Nat.blt_eq];omega⟩))]
end
theorem ZL {as rs os ns X}{S:Nat→XD as→Option X}{pack}:DF fun k nm args h=>nI as rs os ns (S k) pack nm args h:=by
 intro k nm args h h' h1 h2
 show nI as rs os ns (S k) pack nm args h=nI as rs os ns (S k) pack nm args h'
 unfold nI
 rw[ZK h1 h2]
theorem yTf {as rs rs2 os os2 ns ns2 X Y}{S:Nat→XD as→Option (X⊕Y)}{pk fq}:DF fun k nm args h=>pt as rs os ns rs2 os2 ns2 (S k) pk fq nm args h:=by
 intro k nm args h h' h1 h2
 show pt as rs os ns rs2 os2 ns2 (S k) pk fq nm args h=pt as rs os ns rs2 os2 ns2 (S k) pk fq nm args h'
 unfold pt
 rw[ZK h1 h2]
structure zB (P:Program) (r:Nat×kC):Prop where
 ok:YL P r
 loc:DF r.2
def yf (P:Program):List (Nat×kC)→Prop
 |[]=>True
 |r::l=>zB P r∧yf P l
theorem yf.all {P}:∀{l},yf P l→∀r∈l,zB P r
 |a::l,h,r,hr=>by
  rcases List.mem_cons.1 hr with rfl|hr
  ·exact h.1
  ·exact yf.all h.2 r hr
structure jL (E:Env):Prop where
 ok:dG E
 loc:fM E.sums
 ord:E.P.follows .mixedOrders=true
theorem Oc {P l eqT}(he:CZ P eqT)(hm:P.follows .mixedOrders=true)(h:yf P l):jL ⟨P,eqT,dI l⟩:=
 ⟨⟨he,YM fun r hr=>(h.all r hr).ok⟩,YN fun r hr=>(h.all r hr).loc,hm⟩
theorem lz {P l}(hm:P.follows .mixedOrders=true)(h:yf P l):jL ⟨P,fun _=>false,dI l⟩:=Oc vB7 hm h
theorem qN {P A pre na nt c L}(h:zZ P pre na nt (zX c 0) L)(hn:(kD c).length=1:=by kernel_rfl) (hl:qy A (zX c 0)=some L:=by kernel_rfl):vU P A pre na nt c:=
 loopsOK_of hn (by grind)
theorem zF {P A pre na nt c}(hn:(kD c).length=0:=by kernel_rfl):vU P A pre na nt c:=vJx hn
def ZM (E:Env)(A:qB)(na nt:Nat)(b:Code) ins outs {X Y:Type}(jc:qs outs→X)(c:Y→mW ins→Option X)(bf:Nat→Y→Y):Prop:=
 ∀k rec d,c (bf k rec) d=G4 (1000+eL) ins d fun st=>gf E A k 1000 na nt b st (WC 1000 ins outs jc (c rec))
abbrev yY0 (X:Type):=Nat→X→(R:Type)→(Ex→St→Option R)→Option R
theorem vHn {E A na nt b ins outs X Y jc c bf}(hE:jL E)(hs:ZM E A na nt b ins outs jc c bf)(f:Nat→Nat→Y)(elim:yY0 X)
  (hX:∀o R K,elim (1000+eL) (jc o) R K=xk (1000+eL) outs o K) (hL:vU E.P A 1000 na nt b) (h0:∀k d,c (f k 0) d=none:=by intros;rfl) (h1:∀k n,f k (n+1)=bf k (f k n):=by intros;rfl):
  zZ E.P 1000 na nt b ⟨ins,outs,X,fun k d=>c (f k k) d,elim⟩:=
 yVm hE.ok hE.loc hE.ord hL jc elim hX (fun k n d=>c (f k n) d) h0 (fun k n d=>by rw[h1];exact hs k (f k n) d)
def Od (E:Env)(A:qB)(na:Nat)(fn:Func) as (rs:RS){X}(up:RL rs.cells→X)(S:Nat→AD as→Option X):Prop:=
 ∀k d,gg E A k 1000 na fn (me as d).1 (me as d).2 (jt rs up)=S k d
def ZN (E:Env)(A:qB)(na:Nat)(fn:Func) as (rs:RS)(os:List (List RC))(ns:Nat){X}(up:RL (rs.cells++os.flatten)→X)(S:Nat→XD as→Option X):Prop:=
 ∀k d,gg E A k 1000 na fn (gz as d).1 (gz as d).2 (DQ as rs os ns up)=S k d
def ZO (E:Env)(A:qB)(na:Nat)(fn:Func) as (rs:RS)(os:List (List RC))(ns:Nat)(rs2:RS)(os2:List (List RC))(ns2:Nat){X Y}(up:RL (rs.cells++os.flatten)→X)(iF:RL (rs2.cells++os2.flatten)→Y)(S:Nat→XD as→Option (X⊕Y)):Prop:=
 ∀k d,gg E A k 1000 na fn (gz as d).1 (gz as d).2 (HV as rs os ns rs2 os2 ns2 up iF)=S k d
theorem yT3 {E A na f fn as rs X S pack}{unpack:RL rs.cells→X}(hE:jL E)(aG:Od E A na fn as rs unpack S)(hL:vU E.P A 1000 na fn.ntmps (zY fn))
  (hf:E.P.funcs[f]? =some fn:=by kernel_rfl) (hb:fn.body.isNone=false:=by kernel_rfl) (hn:(fn.name== "runtime.NumGoroutine")=false:=by kernel_rfl) (dh:∀d,pack (unpack d)=d:=by intro d;rfl):
  zB E.P (f,fun k nm args h=>lq as rs (S k) pack nm args h):=
 ⟨fun k _ _ _ _ _ hy=>yNb hE.ok hE.loc hE.ord hf (body_loops hL) (DG hf hb hn) dh (aG k) hy,YU⟩
theorem yOc {E A na f fn as rs os ns X}{S:Nat→XD as→Option X}{pack unpack}(hE:jL E)(aG:ZN E A na fn as rs os ns unpack S)
  (hL:vU E.P A 1000 na fn.ntmps (zY fn)) (hf:E.P.funcs[f]? =some fn:=by kernel_rfl) (hb:fn.body.isNone=false:=by kernel_rfl) (hn:(fn.name== "runtime.NumGoroutine")=false:=by kernel_rfl) (gA:pq as na=true:=by kernel_rfl) (ju:(!as.any AX.isChn||A.loops.isEmpty)=true:=by kernel_rfl) (dh:∀d,pack (unpack d)=d:=by intro d;rfl):
  zB E.P (f,fun k nm args h=>nI as rs os ns (S k) pack nm args h):=
 ⟨fun k _ _ _ _ _ hy=>yOo hE.ok hE.loc hE.ord hf (body_loops hL) (DG hf hb hn) dh gA ju (aG k) hy,ZL⟩
theorem yYo {E A na f fn as rs rs2 os os2 ns ns2 X Y}{S:Nat→XD as→Option (X⊕Y)}{pk up fq iF}(hE:jL E)
  (aG:ZO E A na fn as rs os ns rs2 os2 ns2 up iF S)
  (hL:vU E.P A 1000 na fn.ntmps (zY fn)) (hf:E.P.funcs[f]? =some fn:=by kernel_rfl) (hb:fn.body.isNone=false:=by kernel_rfl) (hn:(fn.name== "runtime.NumGoroutine")=false:=by kernel_rfl) (gA:pq as na=true:=by kernel_rfl) (ju:(!as.any AX.isChn||A.loops.isEmpty)=true:=by kernel_rfl) (dh:∀d,pk (up d)=d:=by intro d;rfl) (kH:∀d,fq (iF d)=d:=by intro d;rfl):
  zB E.P (f,fun k nm args h=>pt as rs os ns rs2 os2 ns2 (S k) pk fq nm args h):=
 ⟨fun k _ _ _ _ _ hy=>vJt hE.ok hE.loc hE.ord hf (body_loops hL) (DG hf hb hn) dh kH gA ju (aG k) hy,yTf⟩
theorem yR3 {E A na f fn sh t rs X}{S:Nat→List t.den→Option X}{pack unpack}(hE:jL E)(bX:∀k,gg E A k 1000 na fn [.c .nsl] (iD []) (jt rs unpack)=S k [])
  (aG:∀k xs,gg E A k 1000 na fn [.c (.nfl sh t xs)] (iD []) (jt rs unpack)=S k xs) (hL:vU E.P A 1000 na fn.ntmps (zY fn)) (hf:E.P.funcs[f]? =some fn:=by kernel_rfl) (hb:fn.body.isNone=false:=by kernel_rfl) (hn:(fn.name== "runtime.NumGoroutine")=false:=by kernel_rfl) (dh:∀d,pack (unpack d)=d:=by intro d;rfl):
  zB E.P (f,fun k nm args h=>lq [.c (.dat sh t)] rs (fun d=>S k d.1) pack nm args h):=
 ⟨fun k _ _ _ _ _ hy=>yQn hE.ok hE.loc hE.ord hf (body_loops hL) (DG hf hb hn) dh (fun x hx=>(bX k).trans hx) (by grind) hy,YU⟩
def yg (k:Nat)(a b c:Int):Option (Int×Int):=
 bif decide (c=0) then some (Int.ofNat ((a.toNat+b.toNat+0)%18446744073709551616),Int.ofNat ((a.toNat+b.toNat+0)/18446744073709551616)) else none
def H6:kC:=fun k nm args h=>match args with
 |[.c (.int .u64 a),.c (.int .u64 b),.c (.int .u64 c)]=>.call (Int×Int) (yg k a b c) (fun r=>(.tup [(false,[.int .u64 r.1]),(false,[.int .u64 r.2])],[]))
 |_=>.stuck
theorem yVp {P} a b w:
  (add64Entry #[.int .u64 a,.int .u64 b,.int .u64 0]).run P w=.ok (.tuple #[.int .u64 (Int.ofNat ((a.toNat+b.toNat+0)%18446744073709551616)),.int .u64 (Int.ofNat ((a.toNat+b.toNat+0)/18446744073709551616))]) w:=rfl
theorem vCv {P f fn}(hf:P.funcs[f]? =some fn:=by kernel_rfl) (mr:(fn.name== "runtime.NumGoroutine")=false:=by kernel_rfl) (hb:fn.body.isNone=true:=by kernel_rfl)
  (hn:Extern.findNext fn=none:=by kernel_rfl) (he:Extern.find fn=some add64Entry:=by kernel_rfl):
  zB P (f,H6):=by
 refine⟨fun k nm args h v u hy=>?_,fun _ _ _ _ _ _ _=>rfl⟩
 intro M w vs hh hH ok hv
 refine .inr ?_
 replace hy:yB (H6 k nm args h) v u:=hy
 unfold H6 at hy
 split at hy
 ·rename_i a b c
  obtain⟨x,hx,rfl,rfl⟩:=hy
  match hl:vs.toList,hv with
  |[v1,v2,v3],hv=>
   obtain⟨h1,h2,h3,_⟩:=hv
   cases h1;cases h2;cases h3
   obtain rfl:vs=#[.int .u64 a,.int .u64 b,.int .u64 c]:=by grind
   obtain⟨hc,hx⟩:=vQ hx
   cases hx
   have hc:c=0:=by simp_all
   subst hc
   refine⟨.tuple #[.int .u64 (Int.ofNat ((a.toNat+b.toNat+0)%18446744073709551616)),.int .u64 (Int.ofNat ((a.toNat+b.toNat+0)/18446744073709551616))],w,M,?_,⟨rfl,rfl,rfl,hH,rfl,ok,.refl M⟩,?_⟩
   ·rw[run_callFunc_extern hf mr hb hn he,yVp a b w]
    rfl
   ·exact⟨#[.int .u64 (Int.ofNat ((a.toNat+b.toNat+0)%18446744073709551616)),.int .u64 (Int.ofNat ((a.toNat+b.toNat+0)/18446744073709551616))],rfl,rfl,rfl,trivial⟩
 ·exact hy.elim
end Go.Ab
