/- part 2 -/
import Derived.Test.YtkhhepacokaakaaGreatGiAbB
import Derived.ProofKit
import Derived.Below
import Derived.Carry
import Derived.Laws.Externs
set_option linter.unusedVariables false
set_option linter.unusedSimpArgs false
set_option linter.unusedSectionVars false
namespace Go.Ab
def Ex.toExit:Ex→Exit
 |.normal=>.normal
 |.ret=>.ret
 |.exit id=>.exit id
theorem XE {P Q c}(I:Nat→Act→World→Prop)(round:∀n a w,I n a w→c.wp P (Exit.then (fun a' w'=>∃m,m<n∧I m a' w') Q) a w){n a w}(h₀:I n a w):(Code.loop c).wp P Q a w:=by
 intro b k cs
 have key:∀n a w,I n a w→∃e a' w',Q e a' w'∧Arrives P (lone (b.at a (.code c::.inLoop c::k)) cs w) b k cs e a' w':=by
  intro n
  induction n using Nat.strongRecOn with
  |_ n ih=>
   intro a w hI
   obtain⟨e,a₁,w₁,hq,gm⟩:=round n a w hI b (.inLoop c::k) cs
   cases e with
   |normal=>
    obtain⟨m,hm,hI₁⟩:=hq
    obtain⟨e₂,a₂,w₂,hq₂,harr₂⟩:=ih m hm a₁ w₁ hI₁
    exact⟨e₂,a₂,w₂,hq₂,.of_steps (Steps.trans gm (.one step_inLoop)) harr₂⟩
   |exit id=>exact⟨_,a₁,w₁,hq,.pass (x:=.inLoop c) rfl (by simp) gm⟩
   |goto l=>exact⟨_,a₁,w₁,hq,.pass (x:=.inLoop c) rfl (by simp) gm⟩
   |ret=>exact⟨_,a₁,w₁,hq,.pass (x:=.inLoop c) rfl (fun _ _=>.inl (by simp)) gm⟩
   |panic ch=>exact⟨_,a₁,w₁,hq,.pass (x:=.inLoop c) rfl (fun _ _=>.inl (by simp)) gm⟩
   |outgrown=>exact⟨_,a₁,w₁,hq,.pass (x:=.inLoop c) rfl (by simp) gm⟩
 obtain⟨e,a',w',hq,gm⟩:=key n a w h₀
 exact⟨e,a',w',hq,.of_steps (.one step_loop) gm⟩
def Hs (tmps:Array Value):ResultVar→Sem Value
 |.tmp t=>pure (tmps.getD t undef)
 |.cell c t=>do loadVar t (←asAddr (tmps.getD c undef))
def tU (base:Nat):(l:List (Ex×zH))→qg l→Ex×St
 |[],d=>(.normal,⟨fun _=>.undef,fun _=>none⟩)
 |[p],d=>(p.1,zP base p.2 d)
 |p::q::l,d=>match d with
  |.inl d=>(p.1,zP base p.2 d)
  |.inr d=>tU base (q::l) d
theorem XF {R base K}{out:R}:∀{l d},xk base l d K=some out→K (tU base l d).1 (tU base l d).2=some out
 |[p],_,h
 |p::q::l,.inl d,h=>h
 |p::q::l,.inr d,h=>XF (l:=q::l) h
def De (base:Nat):(l:List zH)→ot l→St
 |[],_=>⟨fun _=>.undef,fun _=>none⟩
 |[S],d=>zP base S d
 |S::T::l,d=>match d with
  |.inl d=>zP base S d
  |.inr d=>De base (T::l) d
theorem XG {R base K}{out:R}:∀{l d},GJ base l d K=some out→K (De base l d)=some out
 |[S],_,h
 |S::T::l,.inl d,h=>h
 |S::T::l,.inr d,h=>XG (l:=T::l) h
def zZ (P:Program)(pre na nt:Nat)(b:Code)(L:qC):Prop:=∀k d x,L.sum k d=some x→∀(a0:Nat→Value) (M0:zG) (w0:World) (a:Act) (w:World) (Q:Exit→Act→World→Prop),
 vA false na nt a0 M0 w0 (De (pre+eC) L.ins d) a w→
 (∀(o:qg L.outs) a' w',(∀R K,L.elim (pre+eC) x R K=xk (pre+eC) L.outs o K)→vA false na nt a0 M0 w0 (tU (pre+eC) L.outs o).2 a' w'→Q (tU (pre+eC) L.outs o).1.toExit a' w')→
 (Code.loop b).wp P Q a w
def vR (P:Program)(A:qB)(pre na nt:Nat):Code→Prop
 |.seq a b=>vR P A pre na nt a∧vR P A pre na nt b
 |.cond _ a b=>vR P A pre na nt a∧vR P A pre na nt b
 |.block _ b=>vR P A pre na nt b
 |.loop b=>(∀L,qn A b=some L→zZ P pre na nt b L)∧(qn A b=none→vR P A pre na nt b)
 |_=>True
theorem XH {A c b st}(h:st.ev c=.c (.bool b)):GK A c b st=st:=by
 unfold GK
 split
 ·rw[MK h]
 ·rfl
section
variable {nl:Bool} {E:Env} {A:qB} {k pre na nt:Nat} {a0:Nat→Value} {R:Type} {M0:zG} {w0:World} {out:R}
theorem MX {a w st}(r:vA false na nt a0 M0 w0 st a w):∀{l x},xj pre l st=some x→vA false na nt a0 M0 w0 (De (pre+eC) l x) a w
 |[S],x,h=>Hr r h
 |S::T::l,x,h=>by
  unfold xj at h
  split at h
  ·rename_i d hd
   cases h
   exact Hr r hd
  ·split at h
   ·rename_i d hd
    cases h
    exact MX r (l:=T::l) hd
   ·cases h
theorem XI (hE:dB E)(hS:fF E.sums)(hm:E.P.follows .mixedOrders=true)(Hb:nl=true→A.loops=[]):∀c,vR E.P A pre na nt c→∀st K a w Q,fW E A k pre na nt c st K=some out→vA nl na nt a0 M0 w0 st a w→
  (∀e bx a' w',vA nl na nt a0 M0 w0 bx a' w'→K e bx=some out→Q e.toExit a' w')→c.wp E.P Q a w:=by
 intro c
 induction c with
 |skip=>exact fun _ st K a w Q h r hK=>wp_skip (hK .normal st a w r h)
 |region id ops draw=>
  intro _ st K a w Q h r hK
  cases draw with
  |true=>
   cases he:Ct ops with
   |false=>simp only[fW,he] at h;cases h
   |true=>
    simp only[fW,he] at h
    exact yNz hE hS hm he h r fun bx a' w' r' h'=>hK .normal bx a' w' r' h'
  |false=>
   have:=Xg hE (Q:=Q) _ _ _ _ a w (by grind) h r fun bx a' w' r' h'=>hK .normal bx a' w' r' h'
   refine wp_region ?_
   have e:(ops.toList.zipIdx.map fun p=>(p.2,p.1)).map (·.1)=List.range ops.size:=by
    rw[List.map_map]
    have e2:((fun x:Nat×Oper=>x.1)∘fun p:Oper×Nat=>(p.2,p.1))=Prod.snd:=rfl
    rw[e2,List.zipIdx_map_snd,←List.range_eq_range']
    simp
   simp_all
 |seq x y MY MZ=>
  intro hL st K a w Q h r hK
  simp only[fW] at h
  refine wp_seq (MY hL.1 st _ a w _ h r fun e bx a' w' r' h'=>?_)
  cases e with
  |normal=>exact MZ hL.2 bx K a' w' Q h' r' hK
  |ret=>exact hK .ret bx a' w' r' h'
  |exit id=>exact hK (.exit id) bx a' w' r' h'
 |cond c x y MY MZ=>
  intro hL st K a w Q h r hK
  simp only[fW] at h
  split at h
  ·rename_i t ht
   obtain⟨M,_,_,_,_,hv⟩:=r.ex
   have hc:=Xc hv c
   rw[ht] at hc
   refine wp_cond (t:=t) hc ?_
   cases t with
   |true=>
    rw[XH ht,cond_true] at h
    exact MY hL.1 st K a w Q h r hK
   |false=>
    rw[XH ht,cond_false] at h
    exact MZ hL.2 st K a w Q h r hK
  ·cases h
 |block id b ih=>
  intro hL st K a w Q h r hK
  simp only[fW] at h
  refine wp_block (ih hL st _ a w _ h r fun e bx a' w' r' h'=>?_)
  cases e with
  |normal=>exact hK .normal bx a' w' r' h'
  |ret=>exact hK .ret bx a' w' r' h'
  |exit i=>
   show if i=id then Q .normal a' w' else Q (.exit i) a' w'
   dsimp only at h'
   cases e:Nat.beq i id with
   |true=>
    rw[e] at h'
    rw[if_pos (by simpa using e)]
    exact hK .normal bx a' w' r' h'
   |false=>
    rw[e] at h'
    rw[if_neg (fun e'=>by simp_all)]
    exact hK (.exit i) bx a' w' r' h'
 |loop b ih=>
  intro hL st K a w Q h r hK
  simp only[fW] at h
  split at h
  ·rename_i hN
   refine XE (fun n a w=>∃st,vA nl na nt a0 M0 w0 st a w∧Lv (fW E A k pre na nt b) n st K=some out) (fun n a w ⟨st,r,hi⟩=>?_) ⟨st,r,h⟩
   cases n with
   |zero=>cases hi
   |succ n=>
    refine ih (hL.2 hN) st _ a w _ hi r fun e bx a' w' r' h'=>?_
    cases e with
    |normal=>exact⟨n,by simp,bx,r',h'⟩
    |ret=>exact hK .ret bx a' w' r' h'
    |exit id=>exact hK (.exit id) bx a' w' r' h'
  ·rename_i L hN
   split at h
   ·cases h
   ·rename_i d hd
    obtain⟨x,hx,h⟩:=Option.bind_eq_some_iff.1 h
    cases nl with
    |true=>
     unfold qn at hN
     grind
    |false=>exact hL.1 L hN k d x hx a0 M0 w0 a w Q (MX r hd) fun o a' w' ho r'=>hK _ _ a' w' r' (XF (by simp_all))
 |exit id=>exact fun _ st K a w Q h r hK=>wp_exit (hK (.exit id) st a w r h)
 |ret=>exact fun _ st K a w Q h r hK=>wp_ret (hK .ret st a w r h)
 |_=>nofun
theorem XJ {a b}(h:Lp a b=true):a=b:=by
 cases a<;>cases b<;>first|rfl|(cases h)|skip
 rw[Nat.eq_of_beq_eq_true h]
theorem XK {a w st e}(r:vA false na nt a0 M0 w0 st a w):∀{l x},Cv pre l e st=some x→(tU (pre+eC) l x).1=e∧vA false na nt a0 M0 w0 (tU (pre+eC) l x).2 a w
 |[p],x,h=>by
  obtain⟨he,h⟩:=kk h
  exact⟨XJ he,Hr r h⟩
 |p::q::l,x,h=>by
  unfold Cv at h
  split at h
  ·rename_i d hd
   cases h
   obtain⟨he,hd⟩:=kk hd
   exact⟨XJ he,Hr r hd⟩
  ·split at h
   ·rename_i d hd
    cases h
    exact XK r (l:=q::l) hd
   ·cases h
theorem yLi (hE:dB E)(hS:fF E.sums)(hm:E.P.follows .mixedOrders=true){b ins outs}(hL:vR E.P A pre na nt b){X} iS elim (hX:∀o R K,elim (pre+eC) (iS o) R K=xk (pre+eC) outs o K)
  (rec:Nat→Nat→ot ins→Option X) (h0:∀k d,rec k 0 d=none)
  (aC:∀k n d,rec k (n+1) d=GJ (pre+eC) ins d fun st=>fW E A k pre na nt b st (VP pre ins outs iS (rec k n))):zZ E.P pre na nt b ⟨ins,outs,X,fun k d=>rec k k d,elim⟩:=by
 intro k d x hx a0 M0 w0 a w Q r hQ
 refine XE (fun n a w=>∃d,vA false na nt a0 M0 w0 (De (pre+eC) ins d) a w∧rec k n d=some x) (fun n a w ⟨d,r,hi⟩=>?_) ⟨d,r,hx⟩
 cases n with
 |zero=>simp_all
 |succ n=>
  rw[aC k n d] at hi
  refine XI hE hS hm (by simp) b hL _ _ a w _ (XG hi) r fun e bx a' w' r' h'=>?_
  have out:∀e,(match Cv pre outs e bx with|some o=>some (iS o)|none=>none)=some x→Q e.toExit a' w':=fun e h'=>by
   split at h'
   ·rename_i o ho
    obtain⟨h1,h2⟩:=XK (pre:=pre) r' ho
    grind
   ·cases h'
  cases e with
  |normal=>
   have h':(match xj pre ins bx with|some d=>rec k n d|none=>none)=some x:=h'
   split at h'
   ·rename_i d' hd
    exact⟨n,by simp,d',MX r' hd,h'⟩
   ·cases h'
  |ret=>exact out .ret h'
  |exit id=>exact out (.exit id) h'
theorem yWb fn tmps:results fn tmps=(do let vs←fn.results.mapM (Hs tmps);pure (if h:vs.size=1 then vs[0] else .tuple vs)):=rfl
theorem yPs (hE:dB E)(hS:fF E.sums)(hm:E.P.follows .mixedOrders=true){st}{a:Act}{w x v M}(hM:M.h=st.h)(hH:M.H=w.heap)(ok:Ok M)(ht:∀t,zN M (st.t t) (a.tmps.getD t undef))(h:qo E st x=some v):
  ∃rv,(Hs a.tmps x).run E.P w=.ok rv w∧zN M v rv:=by
 unfold qo at h
 split at h
 ·rename_i t
  cases h
  exact⟨_,rfl,ht t⟩
 ·rename_i c t
  split at h
  ·rename_i id off hc
   split at h
   ·split at h
    ·rename_i vs cZ
     have hv:=ht c
     rw[hc] at hv
     obtain⟨C,B,hC,hB,e⟩:=hv
     obtain⟨C',au,hO⟩:=ok.obj id _ (by rw[hM];omega)
     rw[hC] at au;cases au
     obtain⟨B',gb,av⟩:=V0 hO
     rw[hB] at gb;cases gb
     obtain⟨rv2,kj,cw⟩:∃rv,(loadVar t ⟨B,0+off,none⟩).run E.P w=.ok rv w∧zN M v rv:=VZ ok hH av cZ h
     refine⟨rv2,?_,cw⟩
     simp  at kj
     unfold Hs
     dsimp only
     rw[e]
     simp[asAddr,kj]
    ·cases h
   ·cases h
  ·cases h
theorem ySh {M v p rv}(h:xl v=some p)(hv:zN M v rv):qp M p rv:=by
 unfold xl at h
 split at h
 ·cases h;exact hv
 ·cases h;exact hv
 ·cases h
theorem XM {M}:∀{vs xs rs},zI (fun a b=>xl a=some b) vs xs→zI (zN M) vs rs→zI (qp M) xs rs
 |[],[],[],_,_=>trivial
 |_::_,_::_,_::_,h,k=>⟨ySh h.1 k.1,XM h.2 k.2⟩
theorem XN {st}:∀(l:List ResultVar) xs,l.mapM (fun r=>(qo E st r).bind xl)=some xs→∃vs,l.mapM (qo E st)=some vs∧vs.mapM xl=some xs
 |[],xs,h=>by simp_all
 |x::l,xs,h=>by
  simp only[List.mapM_cons,Option.bind_eq_bind,Option.bind_eq_some_iff] at h
  obtain⟨p,⟨v,h1,h2⟩,ps,h3,h4⟩:=h
  obtain⟨vs,k1,k2⟩:=XN l ps h3
  simp_all
theorem yU0 (hE:dB E)(hS:fF E.sums)(hm:E.P.follows .mixedOrders=true){fn st}{a:Act}{w v M}(hM:M.h=st.h)(hH:M.H=w.heap)(ok:Ok M)(ht:∀t,zN M (st.t t) (a.tmps.getD t undef))(h:GL E fn st=some v):
  ∃rv,(results fn a.tmps).run E.P w=.ok rv w∧zN M v rv:=by
 have one:=fun x v=>yPs hE hS hm (x:=x) (v:=v) hM hH ok ht
 have key:∀(l:List ResultVar) (vs:List zO),l.mapM (qo E st)=some vs→∃rs:List Value,(l.mapM (Hs a.tmps)).run E.P w=.ok rs w∧zI (zN M) vs rs:=by
  intro l
  induction l with
  |nil=>exact fun vs h=>by simp at h;subst h;exact⟨[],rfl,trivial⟩
  |cons x l ih=>
   intro vs h
   simp[Option.bind_eq_some_iff] at h
   obtain⟨v,h1,LW,h2,h3⟩:=h
   cases h3
   obtain⟨rv,k1,k2⟩:=one x v h1
   obtain⟨rs,k3,k4⟩:=ih LW h2
   refine⟨rv::rs,?_,k2,k4⟩
   simp_all
 have run:∀(vs:List zO),fn.results.toList.mapM (qo E st)=some vs→∃rs:List Value,(results fn a.tmps).run E.P w=.ok (if h:rs.length=1 then rs[0] else .tuple rs.toArray) w∧zI (zN M) vs rs:=fun vs h=>by
  obtain⟨rs,k1,k2⟩:=key _ vs h
  refine⟨rs,?_,k2⟩
  rw[yWb,Array.mapM_eq_mapM_toList]
  simp_all
 unfold GL at h
 split at h
 ·cases h
  obtain⟨rs,k1,k2⟩:=run [] (by simp_all)
  cases rs with
  |cons _ _=>exact k2.elim
  |nil=>exact⟨_,k1,#[],rfl,trivial⟩
 ·obtain⟨rs,k1,k2⟩:=run [v] (by simp_all)
  match rs,k2 with
  |[r],k2=>exact⟨_,k1,k2.1⟩
 ·split at h
  ·rename_i xs C5
   cases h
   obtain⟨vs,k1,k2⟩:=XN _ _ C5
   obtain⟨rs,r1,r2⟩:=run vs k1
   have hlen:rs.length≠1:=fun e=>by
    have e1:=r2.length
    have e2:=(C4 _ _ _ k1).length
    have h3:fn.results.toList.length=1:=by omega
    match hl:fn.results.toList,h3 with
    |[x],_=>simp_all
   rw[dif_neg hlen] at r1
   exact⟨_,r1,rs.toArray,rfl,XM (C4 _ _ _ k2) r2⟩
  ·cases h
theorem M3 (hE:dB E)(hS:fF E.sums)(hm:E.P.follows .mixedOrders=true){f fn}(hf:E.P.funcs[f]? =some fn)(hL:∀c,fn.body=some c→vR E.P A pre na fn.ntmps c){args h K}(aF:fY E A k pre na fn args h K=some out){M w vs}(hh:M.h=h)(hH:M.H=w.heap)(ok:Ok M)
  (hv:zI (zN M) args vs.toList):Calls E.P f vs w fun
   |.returned rv,w'=>∃(M':zG) (v:zO) (st:St),K v st=some out∧M'.h=st.h∧M'.H=w'.heap∧Ok M'∧fG M M'∧(A.loops=[]→ik M M')∧zN M' v rv∧w'.os=w.os∧w'.tape=w.tape∧w'.output=w.output∧
     (∀t,t<na→zN M' (st.t t) (vs.getD t undef))
   |_,_=>False:=by
 unfold fY at aF
 cases hb:fn.body with
 |none=>simp_all
 |some c=>
  rw[hb] at aF
  dsimp only at aF
  cases hle:Nat.ble args.length fn.ntmps with
  |false=>simp_all
  |true=>
   rw[hle] at aF
   rw[cond_true] at aF
   have hl:=hv.length
   have hle:args.length≤fn.ntmps:=Nat.le_of_ble_eq_true hle
   have cM:vs.size≤fn.ntmps:=by simp at hl;omega
   have Df:∀t,zN M (GM args t) ((vs++Array.replicate (fn.ntmps-vs.size) undef).getD t undef):=fun t=>by
    unfold GM
    by_cases ht:t<args.length
    ·have M4:t<vs.size:=by simp at hl;omega
     have:=hv.get t ht (by simpa using M4)
     simp only[List.getD_eq_getElem?_getD,List.getElem?_eq_getElem ht,Option.getD_some]
     simp only[Array.getD_eq_getD_getElem?,Array.getElem?_append_left M4,Array.getElem?_eq_getElem M4,Option.getD_some]
     simpa using this
    ·simp only[List.getD_eq_getElem?_getD,List.getElem?_eq_none (Nat.not_lt.1 ht),Option.getD_none]
     show _=undef
     simp
     grind
   have r:vA A.loops.isEmpty na fn.ntmps (fun t=>(vs++Array.replicate (fn.ntmps-vs.size) undef).getD t undef) M w {t:=GM args,h:=h} {tmps:=vs++Array.replicate (fn.ntmps-vs.size) undef,defers:=[]} w:=
    ⟨⟨M,hh,hH,ok,⟨.refl M,fun _ _ C h=>⟨C,h,rfl⟩⟩,Df⟩,rfl,by simp;omega,rfl,rfl,rfl,fun _ _=>rfl⟩
   refine calls_of_wp hf hb (XI hE hS hm (by simp) c (hL c hb) _ _ _ _ _ aF r fun e bx a' w' r' hK=>?_)
   obtain⟨M',q1,q2,q3,q4,q5⟩:=r'.ex
   have fin:∀v,GL E fn bx=some v→K v bx=some out→a'.defers=[]∧∃rv,(results fn a'.tmps).run E.P w'=.ok rv w'∧∃(M':zG) (v:zO) (st:St),K v st=some out∧M'.h=st.h∧M'.H=w'.heap∧Ok M'∧fG M M'∧(A.loops=[]→ik M M')∧zN M' v rv∧w'.os=w.os∧w'.tape=w.tape∧w'.output=w.output∧
     (∀t,t<na→zN M' (st.t t) (vs.getD t undef)):=fun v im hK=>by
    obtain⟨rv,k1,k2⟩:=yU0 hE hS hm q1 q2 q3 q5 im
    refine⟨r'.defers,rv,k1,M',v,bx,hK,q1,q2,q3,q4.g,fun h=>q4.k (by grind),k2,r'.os,r'.tape,r'.output,fun t ht=>?_⟩
    have:=q5 t
    rw[r'.keep t ht] at this
    have e:(vs++Array.replicate (fn.ntmps-vs.size) undef).getD t undef=vs.getD t undef:=by
     by_cases h1:t<vs.size
     ·simp[Array.getD_eq_getD_getElem?,Array.getElem?_append_left h1]
     ·simp
      grind
    simp_all
   cases e with
   |exit id=>cases hK
   |normal=>
    dsimp only at hK
    split at hK
    ·rename_i v im
     exact fin v im hK
    ·cases hK
   |ret=>
    dsimp only at hK
    split at hK
    ·rename_i v im
     exact fin v im hK
    ·cases hK
end
inductive PC where
 |int (k:IntKind)|bool|dat (sh:Bool) (t:Ty)|fn (f:Nat)
 |nil|nilp
abbrev PC.den:PC→Type
 |.int _=>Int|.bool=>Bool|.dat _ t=>List t.den|.fn _=>Unit|.nil=>Unit|.nilp=>Unit
abbrev PL:List PC→Type
 |[]=>Unit
 |p::l=>p.den×PL l
inductive AS where
 |c (p:PC)|agg (l:List PC)|ptr (l:List PC)|fn (f:Nat) (aZ:List (List PC))
def AS.cells:AS→List PC
 |.c p=>[p]
 |.agg l=>l
 |.ptr l=>l
 |.fn _ aZ=>aZ.flatten
abbrev AD (l:List AS):Type:=PL (l.flatMap AS.cells)
def tV (h:Hp)(t:Ty):zR→Option (List t.den)
 |.nsl=>some []
 |c=>match fV h c with
  |some ⟨s,xs⟩=>eh s t xs
  |none=>none
def oT (h:Hp):(p:PC)→zR→Option p.den
 |.int k,.int j n=>bif dv j k then some n else none
 |.bool,.bool b=>some b
 |.dat false t,c=>tV h t c
 |.dat true t,.fsl true s xs=>eh s t xs
 |.dat true t,.nsl=>some []
 |.fn f,.fn g []=>bif Nat.beq f g then some () else none
 |.nil,.nsl=>some ()
 |.nilp,.nilp=>some ()
 |_,_=>none
def tW (h:Hp):(l:List PC)→List zR→Option (PL l)
 |[],[]=>some ()
 |p::l,c::cs=>match oT h p c,tW h l cs with
  |some d,some ds=>some (d,ds)
  |_,_=>none
 |_,_=>none
def xQ (h:Hp)(id:Nat):Option (List zR):=match h id with
 |some (.box _ cells)=>some cells
 |some (.robox cells)=>some cells
 |_=>none
def oU (h:Hp):List (List PC)→List Nat→Option (List zR)
 |[],[]=>some []
 |l::ls,id::ids=>match xQ h id,oU h ls ids with
  |some cells,some rest=>bif Nat.beq cells.length l.length then some (cells++rest) else none
  |_,_=>none
 |_,_=>none
def AS.get (h:Hp):AS→zO→Option (List zR)
 |.c _,.c x=>some [x]
 |.agg l,.agg xs=>bif Nat.beq xs.length l.length then some xs else none
 |.ptr l,.c (.ptr id 0)=>oU h [l] [id]
 |.fn f aZ,.c (.fn g ids)=>bif Nat.beq f g then oU h aZ ids else none
 |_,_=>none
def ni (h:Hp):List AS→List zO→Option (List zR)
 |[],[]=>some []
 |s::l,a::as=>match s.get h a,ni h l as with
  |some cs,some rest=>some (cs++rest)
  |_,_=>none
 |_,_=>none
def tX (h:Hp) l (as:List zO):Option (AD l):=match ni h l as with
 |some cs=>tW h (l.flatMap AS.cells) cs
 |none=>none
def xR:(p:PC)→p.den→zR
 |.int k,n=>.int k n
 |.bool,b=>.bool b
 |.dat sh t,xs=>.fsl sh t xs
 |.fn f,_=>.fn f []
 |.nil,_=>.nsl
 |.nilp,_=>.nilp
def vE:(l:List PC)→PL l→List zR
 |[],_=>[]
 |p::l,d=>xR p d.1::vE l d.2
def Ht:List (List PC)→List zR→List (List zR)
 |[],_=>[]
 |l::ls,cs=>cs.take l.length::Ht ls (cs.drop l.length)
def AS.mk (n:Nat)(cs:List zR):AS→zO
 |.c _=>match cs with|x::_=>.c x|[]=>.undef
 |.agg _=>.agg cs
 |.ptr _=>.c (.ptr n 0)
 |.fn f aZ=>.c (.fn f ((List.range aZ.length).map (n+·)))
def AS.boxes (cs:List zR):AS→List (List zR)
 |.ptr _=>[cs]
 |.fn _ aZ=>Ht aZ cs
 |_=>[]
def iq:List AS→List zR→Nat→List zO×List (List zR)
 |[],_,_=>([],[])
 |s::l,cs,n=>
  let ai:=cs.take s.cells.length
  let bs:=s.boxes ai
  let rest:=iq l (cs.drop s.cells.length) (n+bs.length)
  (s.mk n ai::rest.1,bs++rest.2)
def ir (bs:List (List zR)):Hp:=fun n=>match bs[n]? with
 |some cells=>some (.robox cells)
 |none=>none
def lT l (d:AD l):List zO×Hp:=
 let r:=iq l (vE (l.flatMap AS.cells) d) 0
 (r.1,ir r.2)
inductive RC where
 |int (k:IntKind)|bool|fro (t:Ty)|own (t:Ty)|mat
 |jun
 |map
 |nilp|link (j:Nat)
abbrev RC.den:RC→Type
 |.int _=>Int|.bool=>Bool|.fro t=>List t.den|.own t=>List t.den|.mat=>List (List Int)|.jun=>Nat|.map=>List (Int×Bool)|.nilp=>Unit|.link _=>Unit
abbrev RL:List RC→Type
 |[]=>Unit
 |r::l=>r.den×RL l
inductive RS where
 |c (r:RC)|agg (l:List RC)|tup (l:List (Bool×List RC))
def RS.cells:RS→List RC
 |.c r=>[r]
 |.agg l=>l
 |.tup l=>l.flatMap (·.2)
def M5:List (Bool×List RC)→List (Bool×List zR)→Option (List zR)
 |[],[]=>some []
 | (b, l) :: ls, (g, cs) :: rest => bif (bif b then g else !g && Nat.beq cs.length 1) && Nat.beq cs.length l.length then (match M5 ls rest with
   |some r=>some (cs++r)
   |none=>none) else none
 |_,_=>none
def RS.get:RS→zO→Option (List zR)
 |.c _,.c x=>some [x]
 |.agg l,.agg xs=>bif Nat.beq xs.length l.length then some xs else none
 |.tup l,.tup xs=>M5 l xs
 |_,_=>none
def M6:List (Bool×List RC)→List zR→List (Bool×List zR)
 |[],_=>[]
 |(b,l)::ls,cs=>(b,cs.take l.length)::M6 ls (cs.drop l.length)
def RS.mk (cs:List zR):RS→zO
 |.c _=>match cs with|x::_=>.c x|[]=>.undef
 |.agg _=>.agg cs
 |.tup l=>.tup (M6 l cs)
def dC (h:Hp):List Bool→List zR→Option (List zR×yO)
 |true::l,c::cs=>match kK h c,dC h l cs with
  |some (c,u),some (cs,us)=>some (c::cs,u++us)
  |_,_=>none
 |false::l,c::cs=>match dC h l cs with
  |some (cs,us)=>some (c::cs,us)
  |none=>none
 |_,cs=>some (cs,[])
def RC.isFro:RC→Bool
 |.fro _=>true
 |_=>false
def PC.isKept:PC→Bool
 |.dat true _=>true
 |_=>false
def lU (h:Hp):(r:RC)→zR→Option r.den
 |.int k,.int j n=>bif dv j k then some n else none
 |.bool,.bool b=>some b
 |.fro t,.fsl true s xs=>eh s t xs
 |.fro t,.nsl=>some []
 |.own t,.osl id none=>match h id with
  |some (.arr true s xs)=>eh s t xs
  |_=>none
 |.own t,.osl id (some (0,n))=>match h id with
  |some (.arr true s xs)=>eh s t (xs.take n)
  |_=>none
 |.own t,.nsl=>some []
 |.mat,.osl id none=>match h id with
  |some (.mat _ xs)=>some xs
  |some (.pmat _ xs n)=>bif Nat.beq xs.length n then some xs else none
  |_=>none
 |.mat,.nsl=>some []
 |.jun,.osl id none=>match h id with
  |some (.arr true (.sl (.int .i64)) xs)=>some xs.length
  |_=>none
 |.jun,.nsl=>some 0
 |.map,.map id=>match h id with
  |some (.imap cg)=>some cg
  |_=>none
 |.nilp,.nilp=>some ()
 |.link _,.ptr _ 0=>some ()
 |_,_=>none
def gn (h:Hp):(l:List RC)→List zR→Option (RL l)
 |[],[]=>some ()
 |r::l,c::cs=>match lU h r c,gn h l cs with
  |some d,some ds=>some (d,ds)
  |_,_=>none
 |_,_=>none
def vH:List RC→List zR→List Nat
 |.own _::l,.osl id _::cs=>id::vH l cs
 |.mat::l,.osl id _::cs=>id::vH l cs
 |.jun::l,.osl id _::cs=>id::vH l cs
 |.map::l,.map id::cs=>id::vH l cs
 |_::l,_::cs=>vH l cs
 |_,_=>[]
def Dg (h:Hp)(s:RS)(v:zO):Option (RL s.cells):=match s.get v with
 |some cs=>match dC h (s.cells.map RC.isFro) cs with
  |some (cs,u)=>bif oh (vH s.cells cs) then gn (qA h u) s.cells cs else none
  |none=>none
 |none=>none
def jb (rs:RS){X:Type}(unpack:RL rs.cells→X)(v:zO)(st:St):Option X:=match Dg st.h rs v with
 |some d=>some (unpack d)
 |none=>none
def nj (nm:Nat):(r:RC)→r.den→zR×yO
 |.int k,n=>(.int k n,[])
 |.bool,b=>(.bool b,[])
 |.fro t,xs=>(.fsl true t xs,[])
 |.own t,xs=>(.osl nm none,[(nm,.arr true t xs)])
 |.mat,xs=>(.osl nm none,[(nm,.mat 0 xs)])
 |.jun,n=>(.osl nm none,[(nm,.pmat 0 [] n)])
 |.map,cg=>(.map nm,[(nm,.imap cg)])
 |.nilp,_=>(.nilp,[])
 |.link _,_=>(.undef,[])
def kT (nm:Nat):(l:List RC)→RL l→List zR×yO
 |[],_=>([],[])
 |r::l,d=>
  let x:=nj nm r d.1
  let y:=kT (nm+1) l d.2
  (x.1::y.1,x.2++y.2)
def XO (nm:Nat)(s:RS)(d:RL s.cells):zO×yO:=
 let r:=kT nm s.cells d
 (s.mk r.1,r.2)
def rq (h:Hp):Nat→Nat→Bool
 |_,0=>true
 |nm,n+1=>(match h nm with|none=>true|some _=>false)&&rq h (nm+1) n
def rr (h:Hp):AS→zO→Option (zO×yO)
 |.c p,.c x=>match dC h [p.isKept] [x] with
  |some ([x],u)=>some (.c x,u)
  |_=>none
 |.agg l,.agg xs=>match dC h (l.map PC.isKept) xs with
  |some (xs,u)=>some (.agg xs,u)
  |none=>none
 |_,a=>some (a,[])
def nk (h:Hp):List AS→List zO→Option (List zO×yO)
 |s::l,a::as=>match rr h s a,nk h l as with
  |some (a,u),some (as,us)=>some (a::as,u++us)
  |_,_=>none
 |_,as=>some (as,[])
def kU as (rs:RS){X}(S:AD as→Option X)(pack:X→RL rs.cells)(nm:Nat)(args:List zO)(h:Hp):yG:=
 match nk h as args with
 |none=>.stuck
 |some (args,u)=>match tX (qA h u) as args with
  |some d=>bif rq h nm rs.cells.length&&Nat.ble rs.cells.length 100 then .call X (S d) (fun r=>((XO nm rs (pack r)).1,u++(XO nm rs (pack r)).2)) else .stuck
  |none=>.stuck
structure Lo (M Ml:zG):Prop where
 H:Ml.H=M.H
 F:Ml.F=fun b=>b<M.H.size
 G:Ml.G=M.G
theorem M7 {M M':zG}(ok:Ok M')(hH:M'.H=M.H){t}{xs:List t.den}{v}(h:zU M'.H M'.G (.sl t) xs (fun _=>some v)):zU M.H (fun b=>b<M.H.size) (.sl t) xs (fun _=>some v):=by
 refine yK (fun b hb=>?_) (by grind) _ _ _ _ (by simp) h
 have:=ok.Flt b (ok.GF b hb)
 simp_all
theorem vFe {M}(ok:Ok M){c v t xs}(hv:zQ M c v)(h:fV M.h c=some ⟨t,xs⟩):zU M.H (fun b=>b<M.H.size) (.sl t) xs (fun _=>some v):=by
 unfold fV at h
 split at h
 ·rename_i sh s ys
  cases h
  cases sh with
  |true=>exact yK (fun b hb=>ok.Flt b (ok.GF b hb)) (by simp) _ _ _ _ (fun _ _=>rfl) hv
  |false=>exact yK (fun b hb=>ok.Flt b hb) (by simp) _ _ _ _ (fun _ _=>rfl) hv
 ·rename_i id r
  split at h
  ·rename_i own s ys ab
   cases h
   cases own with
   |false=>
    obtain⟨C,hC,hO⟩:=ok.obj _ _ ab
    exact M7 ok rfl (tv hC hO hv)
   |true=>
    obtain⟨M',h1,h2,h3,h4⟩:=V4 ok ab
    obtain⟨C,hC,hO⟩:=h3.obj id _ (by rw[h2];exact yA _ _ _)
    exact M7 h3 h1 (tv hC hO (hv.ext h4.ext))
  ·rename_i ver ys ab
   cases r with
   |some p=>cases h
   |none=>
    cases h
    obtain⟨M',h1,h2,h3,h4⟩:=V6 ok ab
    obtain⟨C,hC,hO⟩:=h3.obj id _ (by rw[h2];exact yA _ _ _)
    exact M7 h3 h1 (tv (r:=none) hC hO (hv.ext h4.ext))
  ·cases h
 ·rename_i id i ver
  split at h
  ·rename_i v' ys ab
   cases dm:Nat.beq v' ver with
   |false=>simp_all
   |true=>
    rw[dm] at h
    cases h
    have e:v'=ver:=by simpa using dm
    subst e
    obtain⟨C,hC,hO⟩:=ok.obj _ _ ab
    obtain⟨C',au,bP,_,aL⟩:=hv
    rw[hC] at au;cases au
    obtain⟨rb,rl,CY,qy⟩:=aL hO.1
    by_cases hi:i<ys.length
    ·obtain⟨B,lO,v2,k1,k2,k3,k4,k5,k6⟩:=xo hO hi
     rw[CY] at k3
     cases k3
     rw[show ys.getD i []=ys[i] by simp_all]
     simp only[zU]
     cases rb with
     |none=>
      obtain⟨rfl,h0⟩:=qy
      grind
     |some R=>
      obtain⟨a,c,rfl,h1,h2,h3⟩:=qy
      refine⟨_,_,c,rfl,rfl,h1,?_⟩
      by_cases h0:ys[i].length=0
      ·simp_all
      ·have ha:a=0:=by omega
       subst ha
       refine .inr ⟨R,0,rfl,?_,fun j hj=>?_⟩
       ·have:=k6 R rfl 0 (by omega)
        unfold yD at this
        grind
       ·simp only[Ty.size]
        simp_all
    ·have:C.rows[i]? =none:=List.getElem?_eq_none (by have:=hO.2.2.2.1;omega)
     simp_all
  ·cases h
 ·cases h
theorem Dh {H F t}:zU H F (.sl t) ([]:List t.den) (fun _=>some (.slice none 0 0)):=⟨none,0,0,rfl,rfl,by simp,by simp⟩
theorem yWe {M}(ok:Ok M){c v t xs}(hv:zQ M c v)(h:tV M.h t c=some xs):zU M.H (fun b=>b<M.H.size) (.sl t) xs (fun _=>some v):=by
 unfold tV at h
 split at h
 ·cases h
  rw[show v=.slice none 0 0 from hv]
  exact Dh
 ·split at h
  ·rename_i s ys hr
   obtain⟨e,hx⟩:=gL h
   subst e
   subst hx
   exact vFe ok hv hr
  ·cases h
def Tr (M:zG)(c c':zR):Prop:=∀v Ml,Lo M Ml→zQ M c v→zQ Ml c' v
theorem vBs {M}(ok:Ok M){p c d}(h:oT M.h p c=some d):Tr M c (xR p d):=by
 intro v Ml lo hv
 unfold oT at h
 split at h
 ·rename_i k j n
  cases e:dv j k with
  |false=>simp_all
  |true=>rw[e] at h;cases h;rw[←od e];exact hv
 ·cases h;exact hv
 ·have:=yWe ok hv h
  show zU Ml.H Ml.F _ _ _
  rw[lo.H,lo.F]
  omega
 ·obtain⟨e,hx⟩:=gL h
  subst e
  subst hx
  show zU Ml.H Ml.G _ _ _
  rw[lo.H,lo.G]
  exact hv
 ·cases h
  rw[show v=.slice none 0 0 from hv]
  exact Dh
 ·rename_i f g
  cases e:Nat.beq f g with
  |false=>simp_all
  |true=>
   have:f=g:=by simp_all
   subst this
   obtain⟨cv,rfl,hc⟩:=hv
   refine⟨cv,rfl,?_⟩
   generalize cv.toList=l at hc
   cases l with
   |nil=>trivial
   |cons _ _=>exact hc.elim
 ·exact hv
 ·exact hv
 ·cases h
theorem XP {M}(ok:Ok M):∀{l cs d},tW M.h l cs=some d→zI (Tr M) cs (vE l d)
 |[],[],_,_=>trivial
 |p::l,c::cs,d,h=>by
  unfold tW at h
  split at h
  ·rename_i x xs h1 h2
   cases h
   exact⟨vBs ok h1,XP ok h2⟩
  ·cases h
theorem M8 {M Ml}(lo:Lo M Ml):∀{cs aE vs},zI (Tr M) cs aE→zI (zQ M) cs vs→zI (zQ Ml) aE vs
 |[],[],[],_,_=>trivial
 |_::_,_::_,_::_,h,k=>⟨h.1 _ _ lo k.1,M8 lo h.2 k.2⟩
def ru (M:zG)(C:zT)(cells:List zR):Prop:=∃B vals e,C.blk=some B∧C.rows=[]∧M.H[B]? =some (.cells vals e (0,0))∧zI (zQ M) cells vals.toList
theorem XQ {M}(ok:Ok M){id cells}(h:xQ M.h id=some cells):∃C,M.κ id=some C∧ru M C cells:=by
 unfold xQ at h
 split at h
 ·rename_i own cs ab
  cases h
  obtain⟨C,hC,B,vals,e,h1,h2,h3,h4,_⟩:=ok.obj id _ ab
  exact⟨C,hC,B,vals,e,h1,h2,h3,h4⟩
 ·rename_i cs ab
  cases h
  obtain⟨C,hC,B,vals,e,h1,h2,h3,h4,_⟩:=ok.obj id _ ab
  exact⟨C,hC,B,vals,e,h1,h2,h3,h4⟩
 ·cases h
theorem ru.tr {M Ml}(lo:Lo M Ml){C cs aE}(h:ru M C cs)(ht:zI (Tr M) cs aE):ru Ml C aE:=by
 obtain⟨B,vals,e,h1,h2,h3,h4⟩:=h
 exact⟨B,vals,e,h1,h2,by rw[lo.H];exact h3,M8 lo ht h4⟩
theorem M9 {M}(ok:Ok M):∀{ls ids cs aE},oU M.h ls ids=some cs→zI (Tr M) cs aE→cs.length=ls.flatten.length∧ids.length=ls.length∧
  ∃Cs:List zT,zI (fun id C=>M.κ id=some C) ids Cs∧∀Ml,Lo M Ml→zI (ru Ml) Cs (Ht ls aE)
 |[],[],cs,aE,h,ht=>by cases h;exact⟨rfl,rfl,[],trivial,fun _ _=>trivial⟩
 |l::ls,id::ids,cs,aE,h,ht=>by
  unfold oU at h
  split at h
  ·rename_i cells rest h1 h2
   obtain⟨hl,h⟩:cells.length=l.length∧cells++rest=cs:=by
    cases e:Nat.beq cells.length l.length with
    |false=>simp_all
    |true=>simp_all
   subst h
   have kV:=zI.take l.length ht
   have kl:=zI.drop l.length ht
   rw[←hl,List.take_left] at kV
   rw[←hl,List.drop_left] at kl
   obtain⟨C,hC,hB⟩:=XQ ok h1
   obtain⟨k1,k2,Cs,k3,k4⟩:=M9 ok h2 kl
   refine⟨by simp_all,by simp[k2],C::Cs,⟨hC,k3⟩,fun Ml lo=>⟨?_,?_⟩⟩
   ·rw[←hl];exact hB.tr lo kV
   simp_all
  ·cases h
theorem yPy {M}(ok:Ok M){s:AS}{a v cs aE n}(hv:zN M a v)(h:s.get M.h a=some cs)(ht:zI (Tr M) cs aE):
  ∃Cs:List zT,(∀Ml,Lo M Ml→zI (ru Ml) Cs (s.boxes aE))∧(∀Ml,Lo M Ml→(∀i C,Cs[i]? =some C→Ml.κ (n+i)=some C)→zN Ml (s.mk n aE) v):=by
 unfold AS.get at h
 split at h
 ·cases h
  match aE,ht with
  |[c'],ht=>exact⟨[],fun _ _=>trivial,fun Ml lo _=>ht.1 v Ml lo hv⟩
 ·rename_i l xs
  cases e:Nat.beq xs.length l.length with
  |false=>simp_all
  |true=>
   rw[e] at h
   cases h
   obtain⟨vs,rfl,hx⟩:=hv
   exact⟨[],fun _ _=>trivial,fun Ml lo _=>⟨vs,rfl,M8 lo ht hx⟩⟩
 ·rename_i l id
  have:=M9 ok h ht
  obtain⟨k1,k2,Cs,k3,k4⟩:=this
  obtain⟨C,B,hC,hB,e⟩:=hv
  have hl:aE.length=l.length:=by rw[←ht.length,k1];simp
  match Cs,k3 with
  |[C'],k3=>
   have e':C'=C:=by
    have:M.κ id=some C':=k3.1
    simp_all
   subst e'
   refine⟨[C'],fun Ml lo=>?_,fun Ml lo hκ=>⟨C',B,hκ 0 C' rfl,hB,e⟩⟩
   have:=k4 Ml lo
   simp[Ht] at this
   rw[List.take_of_length_le (by omega)] at this
   exact this
 ·rename_i f aZ g ids
  cases e:Nat.beq f g with
  |false=>simp_all
  |true=>
   rw[e] at h
   have Na:f=g:=by simp_all
   subst Na
   obtain⟨k1,k2,Cs,k3,k4⟩:=M9 ok h ht
   refine⟨Cs,k4,fun Ml lo hκ=>?_⟩
   obtain⟨cv,rfl,hc⟩:=hv
   refine⟨cv,rfl,?_⟩
   have l1:=k3.length
   have l2:=hc.length
   refine zI.of_get (by simp_all) fun i h1 h2=>?_
   simp
   have hi:i<ids.length:=by omega
   have bj:i<Cs.length:=by omega
   obtain⟨C,B,q1,q2,q3⟩:=hc.get i hi h2
   have q4:=k3.get i hi bj
   simp_all
 ·cases h
theorem Nb {h}:∀{ls ids cs},oU h ls ids=some cs→cs.length=ls.flatten.length
 |[],[],cs,e=>by cases e;rfl
 |l::ls,id::ids,cs,e=>by
  unfold oU at e
  split at e
  ·rename_i cells rest h1 h2
   cases el:Nat.beq cells.length l.length with
   |false=>simp_all
   |true=>
    rw[el] at e
    cases e
    have:cells.length=l.length:=by simp_all
    simp[this,Nb h2]
  ·cases e
theorem vHy {h}{s:AS}{a cs}(e:s.get h a=some cs):cs.length=s.cells.length:=by
 unfold AS.get at e
 split at e
 ·cases e;rfl
 ·rename_i l xs
  cases el:Nat.beq xs.length l.length with
  |false=>simp_all
  |true=>rw[el] at e;cases e;exact Nat.eq_of_beq_eq_true el
 ·rw[Nb e];simp[AS.cells]
 ·rename_i f aZ g ids
  cases el:Nat.beq f g with
  |false=>simp_all
  |true=>rw[el] at e;exact Nb e
 ·cases e
theorem XR {M}(ok:Ok M):∀{l as vs cs aE n},zI (zN M) as vs→ni M.h l as=some cs→zI (Tr M) cs aE→
  ∃Cs:List zT,(∀Ml,Lo M Ml→zI (ru Ml) Cs (iq l aE n).2)∧(∀Ml,Lo M Ml→(∀i C,Cs[i]? =some C→Ml.κ (n+i)=some C)→zI (zN Ml) (iq l aE n).1 vs)
 |[],[],[],cs,aE,n,_,_,_=>⟨[],fun _ _=>trivial,fun _ _ _=>trivial⟩
 |s::l,a::as,v::vs,cs,aE,n,hv,h,ht=>by
  unfold ni at h
  split at h
  ·rename_i iY rest h1 h2
   cases h
   have hl:=vHy h1
   have kV:=zI.take s.cells.length ht
   have kl:=zI.drop s.cells.length ht
   rw[←hl,List.take_left,hl] at kV
   rw[←hl,List.drop_left,hl] at kl
   obtain⟨C1,k1,k2⟩:=yPy ok (n:=n) hv.1 h1 kV
   obtain⟨C2,k3,k4⟩:=XR ok (n:=n+(s.boxes (aE.take s.cells.length)).length) hv.2 h2 kl
   refine⟨C1++C2,fun Ml lo=>(k1 Ml lo).append (k3 Ml lo),fun Ml lo hκ=>⟨k2 Ml lo fun i C hi=>hκ i C ?_,k4 Ml lo fun i C hi=>?_⟩⟩
   ·grind
   ·have hb:=(k1 Ml lo).length
    have:=hκ (C1.length+i) C (by grind)
    grind
  ·cases h
def zG.below (M:zG)(Cs:List zT)(bs:List (List zR)):zG:={κ:=fun n=>Cs[n]?,F:=fun b=>b<M.H.size,G:=M.G,h:=ir bs,H:=M.H}
theorem zG.below_lo M Cs bs:Lo M (M.below Cs bs):=⟨rfl,rfl,rfl⟩
theorem zG.below_ok {M}(ok:Ok M){Cs bs}(h:zI (ru (M.below Cs bs)) Cs bs):Ok (M.below Cs bs)∧∀b,¬qF (M.below Cs bs) b:=by
 have hr:∀id o,(M.below Cs bs).h id=some o→∃cells,bs[id]? =some cells∧o=.robox cells:=fun id o e=>by
  have e:ir bs id=some o:=e
  unfold ir at e
  grind
 have Dl:∀b,¬qF (M.below Cs bs) b:=fun b ⟨id,o,C,h1,h2,_,_⟩=>by
  obtain⟨cells,_,rfl⟩:=hr id o h1
  cases h2
 refine⟨⟨fun id o e=>?_,fun id e=>?_,fun i j oi oj Ci Cj b _ h1 _ h3 _ _ _ _ _=>?_,by grind,fun b hb=>ok.Flt b (ok.GF b hb),fun b hb=>hb⟩,Dl⟩
 ·obtain⟨cells,hc,rfl⟩:=hr id o e
  have aT:id<bs.length:=by
   grind
  have fZ:id<Cs.length:=by rw[h.length];omega
  obtain⟨B,vals,ev,q1,q2,q3,q4⟩:=h.get id fZ aT
  rw[List.getElem?_eq_getElem aT] at hc
  cases hc
  refine⟨Cs[id],List.getElem?_eq_getElem fZ,B,vals,ev,q1,q2,q3,q4,?_⟩
  exact(Array.getElem?_eq_some_iff.1 q3).1
 ·have e:ir bs id=none:=e
  unfold ir at e
  split at e
  ·cases e
  ·rename_i hc
   show Cs[id]? =none
   rw[List.getElem?_eq_none_iff] at hc⊢
   rw[h.length];exact hc
 ·obtain⟨cells,_,rfl⟩:=hr i oi h1
  cases h3
theorem yYy {M}(ok:Ok M){l as vs d}(hv:zI (zN M) as vs)(h:tX M.h l as=some d):
  ∃Ml:zG,Lo M Ml∧Ml.h=(lT l d).2∧Ok Ml∧(∀b,¬qF Ml b)∧zI (zN Ml) (lT l d).1 vs:=by
 unfold tX at h
 split at h
 ·rename_i cs hg
  obtain⟨Cs,h1,h2⟩:=XR ok (n:=0) hv hg (XP ok h)
  have lo:=M.below_lo Cs (iq l (vE (l.flatMap AS.cells) d) 0).2
  have:=zG.below_ok ok (h1 _ lo)
  exact⟨_,lo,rfl,this.1,this.2,h2 _ lo fun i C hi=>by rw[Nat.zero_add];exact hi⟩
 ·cases h
theorem rz {h0}:∀{l cs aE vs u M},Ok M→wI h0 M.h→zI (zQ M) cs vs→dC h0 l cs=some (aE,u)→
  ∃L:zG,L.H=M.H∧L.h=qA M.h u∧Ok L∧yL M L∧zI (zQ L) aE vs∧wI h0 L.h
 |[],cs,aE,vs,u,M,ok,hf,hc,h=>by
  cases cs<;>cases h<;>exact⟨M,rfl,rfl,ok,.refl M,hc,hf⟩
 |true::l,[],aE,vs,u,M,ok,hf,hc,h
 |false::l,[],aE,vs,u,M,ok,hf,hc,h=>by cases h;exact⟨M,rfl,rfl,ok,.refl M,hc,hf⟩
 |true::l,c::cs,aE,v::vs,u,M,ok,hf,hc,h=>by
  unfold dC at h
  split at h
  ·rename_i c1 u1 iY mP e1 e2
   cases h
   obtain⟨M1,h1,h2,h3,h4,h5,h6,_⟩:=Cz ok hf hc.1 e1
   obtain⟨M2,k1,k2,k3,k4,k5,k6⟩:=rz h3 h6 (hc.2.mono fun _ _ h=>h.ext h4.ext) e2
   exact⟨M2,k1.trans h1,by rw[k2,h2,gK],k3,h4.trans k4,⟨h5.ext k4.ext,k5⟩,k6⟩
  ·cases h
 |false::l,c::cs,aE,v::vs,u,M,ok,hf,hc,h=>by
  unfold dC at h
  split at h
  ·rename_i iY mP e2
   cases h
   obtain⟨M2,k1,k2,k3,k4,k5,k6⟩:=rz ok hf hc.2 e2
   exact⟨M2,k1,k2,k3,k4,⟨hc.1.ext k4.ext,k5⟩,k6⟩
  ·cases h
def zG.add (M:zG)(nm:Nat)(o:Obj)(C:zT):zG:={M with κ:=κset M.κ nm C,h:=qW M.h nm o}
theorem zG.add_ok {M}(ok:Ok M){nm}(aG:M.h nm=none){o C}(hO:yJ (M.add nm o C) o C)(hb:∀b∈C.fp,¬qF M b∧¬M.F b∧b<M.H.size):
  Ok (M.add nm o C)∧yB M (M.add nm o C)∧(∀b,qF (M.add nm o C) b→qF M b∨b∈C.fp):=by
 have x:yB M (M.add nm o C):=⟨fun id D h=>by
  have aV:id≠nm:=fun e=>by rw[e,ok.non nm aG] at h;cases h
  exact⟨D,by show κset M.κ nm _ id=_;rw[κset_ne _ _ aV];exact h,D.le_refl⟩,fun _ h=>h,fun _ h=>h,fun _ _=>rfl,fun _ _=>rfl,fun _ _=>rfl⟩
 refine⟨Ok.build ok x (fun id=>id=nm) (fun id h=>yE _ _ h) (fun id h=>κset_ne _ _ h) (fun _ _ _ _ _ _ _ _ _=>rfl) (fun id o' D h1 h2 h3 h4 b bh=>(ok.own b ⟨id,o',D,h2,h3,h4,bh⟩).1) (Nat.le_refl _)
  (fun id o' e h=>?_) (fun id e h=>?_) (fun id o' D b e h1 h2 h3 h4=>?_) ok.GF ok.Flt,x,fun b bh=>?_⟩
 ·subst e
  have e1:(M.add id o C).h id=some o:=yA _ _ _
  rw[e1] at h
  cases h
  exact⟨_,κset_same _ _ _,hO⟩
 ·have e1:(M.add id o C).h id=some o:=yA _ _ _
  simp_all
 ·subst e
  have e1:(M.add id o C).κ id=some C:=κset_same _ _ _
  rw[e1] at h3
  cases h3
  obtain⟨k1,k2,k3⟩:=hb b h4
  refine⟨fun j oj Cj hj q1 q2 q3 q4=>k1 ⟨j,oj,Cj,?_,q2,?_,q4⟩,k2,k3⟩
  ·rw[←q1];exact(yE _ _ hj).symm
  ·rw[←q3];exact(κset_ne _ _ hj).symm
 ·obtain⟨id,o',D,h1,h2,h3,h4⟩:=bh
  by_cases e:id=nm
  ·have e1:(M.add id o C).κ id=some C:=κset_same _ _ _
   simp_all
  ·exact .inl ⟨id,o',D,by rw[←h1];exact(yE _ _ e).symm,h2,by rw[←h3];exact(κset_ne _ _ e).symm,h4⟩
structure Up (L Mc:zG):Prop where
 H:Mc.H=L.H
 G:Mc.G=L.G
theorem XS {L Mc}(up:Up L Mc){t xs C}(h:yJ L (.arr true t xs) C):yJ Mc (.arr true t xs) C:=by
 obtain⟨h1,h2,h3,h4⟩:=h
 refine⟨h1,h2,h3,?_⟩
 rw[up.H,up.G]
 exact h4
theorem vDa {L Mc}(up:Up L Mc){ver xs C}(h:yJ L (.mat ver xs) C):yJ Mc (.mat 0 xs) {C with ver:=0}:=by
 obtain⟨h1,h2⟩:=h
 refine⟨rfl,?_⟩
 rw[up.H]
 exact h2
theorem yQx {L Mc}(up:Up L Mc){ver n xs C}(h:yJ L (.pmat ver xs n) C)(hn:xs.length=n):yJ Mc (.mat 0 xs) {C with ver:=0}:=by
 obtain⟨h1,h2,h3,h4,h5,_,h6⟩:=h
 refine⟨rfl,by rw[hn];exact h2,h3,h4,h5,?_⟩
 rw[up.H]
 subst hn
 simp_all
theorem yVk {L Mc}(up:Up L Mc){xs:List (List Int)}{C}(h:yJ L (.arr true (.sl (.int .i64)) xs) C):yJ Mc (.pmat 0 [] xs.length) {C with ver:=0}:=by
 obtain⟨h1,h2,h3,h4⟩:=h
 have hr:=h3 rfl
 refine⟨rfl,h1,h2,by simp_all,?_,by simp,?_⟩
 ·simp[zT.fp]
  grind
 ·cases hB:C.blk with
  |none=>simp_all
  |some B=>
   rw[hB] at h4
   obtain⟨vals,e,h5,_,h7,_⟩:=h4
   refine⟨vals,e,by rw[up.H];exact h5,by simpa[Ty.size] using h7,by simp⟩
theorem vHq {L Mc}(fc:Ok L)(ok:Ok Mc)(up:Up L Mc){nm}(aG:Mc.h nm=none){r c d}(h:lU L.h r c=some d)
  (hb:∀id∈vH [r] [c],∀C,L.κ id=some C→∀b∈C.fp,¬qF Mc b∧¬Mc.F b∧b<Mc.H.size):
  ∃cX:zG,cX.H=Mc.H∧cX.G=Mc.G∧cX.F=Mc.F∧cX.h=qA Mc.h (nj nm r d).2∧Ok cX∧yB Mc cX∧
   (∀b,qF cX b→qF Mc b∨∃id∈vH [r] [c],∃C,L.κ id=some C∧b∈C.fp)∧∀v,zQ L c v→zQ cX (nj nm r d).1 v:=by
 have same : (nj nm r d).2 = [] → (∀ v, zQ L c v → zQ Mc (nj nm r d).1 v) → _ := fun e hv => (⟨Mc,rfl,rfl,rfl,by rw[e];rfl,ok,.refl Mc,by grind,hv⟩:
  ∃cX:zG,cX.H=Mc.H∧cX.G=Mc.G∧cX.F=Mc.F∧cX.h=qA Mc.h (nj nm r d).2∧Ok cX∧yB Mc cX∧
   (∀b,qF cX b→qF Mc b∨∃id∈vH [r] [c],∃C,L.κ id=some C∧b∈C.fp)∧∀v,zQ L c v→zQ cX (nj nm r d).1 v)
 unfold lU at h
 split at h
 ·rename_i k j n
  cases e:dv j k with
  |false=>rw[e] at h;cases h
  |true=>
   rw[e] at h
   cases h
   exact same rfl fun v hv=>by rw[←od e];exact hv
 ·cases h
  exact same rfl fun v hv=>hv
 ·obtain⟨e,hx⟩:=gL h
  subst e
  subst hx
  refine same rfl fun v hv=>?_
  show zU Mc.H Mc.G _ _ _
  rw[up.H,up.G]
  exact hv
 ·cases h
  refine same rfl fun v hv=>?_
  rw[show v=.slice none 0 0 from hv]
  exact Dh
 ·rename_i t id
  split at h
  ·rename_i s xs ab
   obtain⟨e,hx⟩:=gL h
   subst e
   subst hx
   obtain⟨C,hC,hO⟩:=fc.obj id _ ab
   obtain⟨k1,k2,k3⟩:=zG.add_ok ok aG (o:=.arr true s xs) (C:=C) (XS (Mc:=Mc.add nm (.arr true s xs) C) ⟨up.H,up.G⟩ hO) (hb id (by simp[vH]) C hC)
   refine⟨Mc.add nm (.arr true s xs) C,rfl,rfl,rfl,rfl,k1,k2,fun b bh=>(k3 b bh).imp (fun h=>h) fun h=>⟨id,by simp[vH],C,hC,h⟩,fun v hv=>?_⟩
   obtain⟨C',au,hS⟩:=hv
   rw[hC] at au;cases au
   refine⟨C,κset_same _ _ _,?_⟩
   show wJ Mc.H C 0 C.len v
   rw[up.H];exact hS
  ·cases h
 ·rename_i t id n
  split at h
  ·rename_i s xs ab
   obtain⟨e,hx⟩:=gL h
   subst e
   subst hx
   obtain⟨C,hC,hO⟩:=fc.obj id _ ab
   let C':zT:={C with len:=(xs.take n).length}
   have oC:yJ (Mc.add nm (.arr true s (xs.take n)) C') (.arr true s (xs.take n)) C':=by
    obtain⟨q1,q2,q3,q4⟩:=XS (Mc:=Mc.add nm (.arr true s (xs.take n)) C') ⟨up.H,up.G⟩ hO
    refine⟨rfl,q2,q3,?_⟩
    show match C.blk with
     |none=>_
     |some B=>_
    cases hB:C.blk with
    |none=>rw[hB] at q4;show xs.take n=[];rw[q4];simp
    |some B=>
     rw[hB] at q4
     obtain⟨vals,e,r1,r2,r3,r4⟩:=q4
     have hle:(xs.take n).length≤xs.length:=by rw[List.length_take];omega
     have:=Nat.mul_le_mul_right s.size hle
     refine⟨vals,e,r1,r2,by omega,fun i hi=>?_⟩
     rw[List.getElem_take]
     exact r4 i (by omega)
   obtain⟨k1,k2,k3⟩:=zG.add_ok ok aG (o:=.arr true s (xs.take n)) (C:=C') oC (hb id (by simp[vH]) C hC)
   refine⟨Mc.add nm (.arr true s (xs.take n)) C',rfl,rfl,rfl,rfl,k1,k2,fun b bh=>(k3 b bh).imp (fun h=>h) fun h=>⟨id,by simp[vH],C,hC,h⟩,fun v hv=>?_⟩
   obtain⟨C1,fa,h1,hS,_⟩:=hv
   rw[hC] at fa;cases fa
   have hl:(xs.take n).length=n:=by rw[List.length_take,←hO.1];omega
   refine⟨C',κset_same _ _ _,?_⟩
   show wJ Mc.H C' 0 (xs.take n).length v
   rw[hl,up.H]
   exact hS
  ·cases h
 ·rename_i t
  cases h
  obtain⟨k1,k2,k3⟩:=Mc.nilObj_ok ok aG t false
  refine⟨Mc.nilObj nm (gl t false) (il t false),rfl,rfl,rfl,rfl,k1,k2,by grind,fun v hv=>?_⟩
  rw[show v=.slice none 0 0 from hv]
  exact⟨_,κset_same _ _ _,none,0,rfl,rfl,rfl,rfl⟩
 ·rename_i id
  split at h
  ·rename_i ver xs ab
   cases h
   obtain⟨C,hC,hO⟩:=fc.obj id _ ab
   obtain⟨k1,k2,k3⟩:=zG.add_ok ok aG (o:=.mat 0 d) (C:={C with ver:=0}) (vDa (Mc:=Mc.add nm (.mat 0 d) {C with ver:=0}) ⟨up.H,up.G⟩ hO) (hb id (by simp[vH]) C hC)
   refine⟨Mc.add nm (.mat 0 d) {C with ver:=0},rfl,rfl,rfl,rfl,k1,k2,fun b bh=>(k3 b bh).imp (fun h=>h) fun h=>⟨id,by simp[vH],C,hC,h⟩,fun v hv=>?_⟩
   obtain⟨C',au,hS⟩:=hv
   rw[hC] at au;cases au
   refine⟨_,κset_same _ _ _,?_⟩
   show wJ Mc.H C 0 C.len v
   rw[up.H];exact hS
  ·rename_i ver xs n ab
   obtain⟨hc,h⟩:Nat.beq xs.length n=true∧some xs=some d:=by
    cases e:Nat.beq xs.length n with
    |true=>rw[e] at h;exact⟨rfl,h⟩
    |false=>rw[e] at h;cases h
   cases h
   obtain⟨C,hC,hO⟩:=fc.obj id _ ab
   obtain⟨k1,k2,k3⟩:=zG.add_ok ok aG (o:=.mat 0 d) (C:={C with ver:=0}) (yQx (Mc:=Mc.add nm (.mat 0 d) {C with ver:=0}) ⟨up.H,up.G⟩ hO (Nat.eq_of_beq_eq_true hc)) (hb id (by simp[vH]) C hC)
   refine⟨Mc.add nm (.mat 0 d) {C with ver:=0},rfl,rfl,rfl,rfl,k1,k2,fun b bh=>(k3 b bh).imp (fun h=>h) fun h=>⟨id,by simp[vH],C,hC,h⟩,fun v hv=>?_⟩
   obtain⟨C',au,hS⟩:=hv
   rw[hC] at au;cases au
   refine⟨_,κset_same _ _ _,?_⟩
   show wJ Mc.H C 0 C.len v
   rw[up.H];exact hS
  ·cases h
 ·cases h
  obtain⟨k1,k2,k3⟩:=Mc.nilObj_ok ok aG (.int .i64) true
  refine⟨Mc.nilObj nm (gl (.int .i64) true) (il (.int .i64) true),rfl,rfl,rfl,rfl,k1,k2,by grind,fun v hv=>?_⟩
  rw[show v=.slice none 0 0 from hv]
  exact⟨_,κset_same _ _ _,none,0,rfl,rfl,rfl,rfl⟩
 ·rename_i id
  split at h
  ·rename_i xs ab
   cases h
   obtain⟨C,hC,hO⟩:=fc.obj id _ ab
   obtain⟨k1,k2,k3⟩:=zG.add_ok ok aG (o:=.pmat 0 [] xs.length) (C:={C with ver:=0}) (yVk (Mc:=Mc.add nm (.pmat 0 [] xs.length) {C with ver:=0}) ⟨up.H,up.G⟩ hO) (hb id (by simp[vH]) C hC)
   refine⟨Mc.add nm (.pmat 0 [] xs.length) {C with ver:=0},rfl,rfl,rfl,rfl,k1,k2,fun b bh=>(k3 b bh).imp (fun h=>h) fun h=>⟨id,by simp[vH],C,hC,h⟩,fun v hv=>?_⟩
   obtain⟨C',au,hS⟩:=hv
   rw[hC] at au;cases au
   refine⟨_,κset_same _ _ _,?_⟩
   show wJ Mc.H C 0 C.len v
   rw[up.H];exact hS
  ·cases h
 ·cases h
  obtain⟨k1,k2,k3⟩:=zG.add_ok ok aG (o:=.pmat 0 [] 0) (C:=⟨none,0,1,0,[]⟩) ⟨rfl,rfl,rfl,rfl,by simp[zT.fp],Nat.le_refl _,rfl⟩ (nofun)
  refine⟨Mc.add nm (.pmat 0 [] 0) ⟨none,0,1,0,[]⟩,rfl,rfl,rfl,rfl,k1,k2,fun b bh=>(k3 b bh).imp (fun h=>h) nofun,fun v hv=>?_⟩
  rw[show v=.slice none 0 0 from hv]
  exact⟨_,κset_same _ _ _,none,0,rfl,rfl,rfl,rfl⟩
 ·rename_i id
  split at h
  ·rename_i cg ab
   cases h
   obtain⟨C,hC,hO⟩:=fc.obj id _ ab
   have oC:yJ (Mc.add nm (.imap d) C) (.imap d) C:=by
    obtain⟨B,es,ck,h1,h2,h3,h4,h5⟩:=hO
    refine⟨B,es,ck,h1,h2,?_,h4,h5⟩
    show Mc.H[B]? =_
    rw[up.H];exact h3
   obtain⟨k1,k2,k3⟩:=zG.add_ok ok aG (o:=.imap d) (C:=C) oC (hb id (by simp[vH]) C hC)
   refine⟨Mc.add nm (.imap d) C,rfl,rfl,rfl,rfl,k1,k2,fun b bh=>(k3 b bh).imp (fun h=>h) fun h=>⟨id,by simp[vH],C,hC,h⟩,fun v hv=>?_⟩
   obtain⟨C',B,au,hB,e⟩:=hv
   rw[hC] at au;cases au
   exact⟨C,B,κset_same _ _ _,hB,e⟩
  ·cases h
 ·exact same rfl fun v hv=>hv
 ·exact same rfl fun v hv=>hv.one
 ·cases h
theorem Hu r c l cs:vH (r::l) (c::cs)=vH [r] [c]++vH l cs:=by
 cases r<;>cases c<;>rfl
theorem XT {nm r d n}(h:n≠nm) hh:qA hh (nj nm r d).2 n=hh n:=by
 cases r<;>first|rfl|exact yE _ _ h
theorem Nc {h}:∀{n nm},rq h nm n=true→∀i,i<n→h (nm+i)=none
 |n+1,nm,e,i,hi=>by
  unfold rq at e
  rw[Bool.and_eq_true] at e
  cases i with
  |zero=>
   grind
  |succ i=>rw[←Nc e.2 i (by omega)];grind
theorem Nd {L:zG}(fc:Ok L):∀{l:List RC} {cs:List zR} {d:RL l} {nm:Nat} {Mc:zG},Ok Mc→Up L Mc→(∀i,i<l.length→Mc.h (nm+i)=none)→gn L.h l cs=some d→(vH l cs).Nodup→
  (∀id∈vH l cs,∃o,L.h id=some o∧o.owned=true)→
  (∀id∈vH l cs,∀C,L.κ id=some C→∀b∈C.fp,¬qF Mc b∧¬Mc.F b∧b<Mc.H.size)→
  ∃cX:zG,cX.H=Mc.H∧cX.G=Mc.G∧cX.F=Mc.F∧cX.h=qA Mc.h (kT nm l d).2∧Ok cX∧yB Mc cX∧
   (∀b,qF cX b→qF Mc b∨∃id∈vH l cs,∃C,L.κ id=some C∧b∈C.fp)∧∀vs,zI (zQ L) cs vs→zI (zQ cX) (kT nm l d).1 vs
 |[],[],d,nm,Mc,ok,up,_,_,_,_,_=>⟨Mc,rfl,rfl,rfl,rfl,ok,.refl Mc,fun b h=>.inl h,fun vs h=>by
  cases vs with
  |nil=>trivial
  |cons _ _=>exact h.elim⟩
 |r::l,c::cs,d,nm,Mc,ok,up,hf,h,cC,aA,hb=>by
  unfold gn at h
  split at h
  ·rename_i x xs e1 e2
   cases h
   rw[Hu] at cC aA hb
   obtain⟨nd1,nd2,nd3⟩:=List.nodup_append.1 cC
   obtain⟨M1,a1,a2,a3,a4,a5,a6,a7,a8⟩:=vHq fc ok up (by have:=hf 0 (by simp);simpa using this) e1 (by grind)
   have up1:Up L M1:=⟨a1.trans up.H,a2.trans up.G⟩
   obtain ⟨M2, b1, b2, b3, b4, b5, b6, b7, b8⟩ := Nd fc (nm := nm + 1) a5 up1 (fun i hi=>by
     rw[a4,XT (by omega)]
     have:=hf (i+1) (by simp;omega)
     grind) e2 nd2 (fun id ab => aA id (by grind)) (fun id ab C hC b xS=>by
     obtain⟨q1,q2,q3⟩:=hb id (List.mem_append_right _ ab) C hC b xS
     refine⟨fun ho=>?_,by simp_all,by simp_all⟩
     rcases a7 b ho with ho|⟨jd,cj,D,hD,Nf⟩
     ·exact q1 ho
     ·have aV:id≠jd:=by grind
      obtain⟨o1,p1,p2⟩:=aA id (by grind)
      obtain⟨o2,p3,p4⟩:=aA jd (List.mem_append_left _ cj)
      exact fc.disj id jd o1 o2 C D b aV p1 p3 p2 p4 hC hD xS Nf)
   refine⟨M2,b1.trans a1,b2.trans a2,b3.trans a3,?_,b5,a6.trans (by simp_all) b6,fun b bh=>?_,fun vs cB=>?_⟩
   ·show M2.h=qA Mc.h ((nj nm r x).2++(kT (nm+1) l xs).2)
    rw[gK,←a4];exact b4
   ·rw[Hu]
    grind
   ·cases vs with
    |nil=>exact cB.elim
    |cons v vs=>exact⟨(a8 v cB.1).ext b6,b8 vs cB.2⟩
  ·cases h
 |[],_::_,_,_,_,_,_,_,h,_,_,_=>by cases h
 |_::_,[],_,_,_,_,_,_,h,_,_,_=>by cases h
theorem vN {α:Type}{c x}{y:α}(h:(bif c then x else none)=some y):c=true∧x=some y:=by
 grind
theorem XU {M}:∀{l xs cs vs},M5 l xs=some cs→zI (qp M) xs vs→
  cs.length=(l.flatMap (·.2)).length∧∃us:List Value,zI (zQ M) cs us∧∀M' aE,zI (zQ M') aE us→zI (qp M') (M6 l aE) vs
 |[],[],cs,[],h,_=>by cases h;exact⟨rfl,[],trivial,fun _ _ _=>trivial⟩
 |(b,l)::ls,(g,iY)::rest,cs,v::vs,h,hv=>by
  obtain⟨hc,h⟩:=vN h
  split at h
  ·rename_i r hr
   cases h
   rw[Bool.and_eq_true] at hc
   have hl:iY.length=l.length:=by simp_all
   obtain⟨k1,us,k2,k3⟩:=XU hr hv.2
   refine⟨by simp_all,?_⟩
   cases b with
   |true=>
    have hg:g=true:=hc.1
    subst hg
    obtain⟨ws,rfl,hw⟩:=hv.1
    refine⟨ws.toList++us,hw.append k2,fun M' aE h'=>⟨?_,?_⟩⟩
    ·have h1:=zI.take l.length h'
     have Ng:=hw.length
     rw[show(ws.toList++us).take l.length=ws.toList from by simp_all] at h1
     exact⟨ws,rfl,h1⟩
    ·have h1:=zI.drop l.length h'
     have Ng:=hw.length
     simp_all
   |false=>
    have hg:=hc.1
    simp  at hg
    obtain⟨Hv,hg2⟩:=hg
    subst Hv
    have xw:iY.length=1:=by simp_all
    match iY,xw with
    |[c],_=>
     have ki:zQ M c v:=hv.1
     refine⟨v::us,⟨ki,k2⟩,fun M' aE h'=>?_⟩
     match aE,h' with
     |c'::Nh,h'=>
      have e:l.length=1:=by omega
      refine⟨?_,?_⟩
      ·rw[e]
       exact h'.1
      ·rw[e]
       exact k3 M' Nh h'.2
  ·cases h
 |[],[],_,_::_,_,hv=>hv.elim
theorem XV {M}{s:RS}{v cs rv}(h:s.get v=some cs)(hv:zN M v rv):
  cs.length=s.cells.length∧∃us:List Value,zI (zQ M) cs us∧∀M' aE,zI (zQ M') aE us→zN M' (s.mk aE) rv:=by
 unfold RS.get at h
 split at h
 ·cases h
  refine⟨rfl,[rv],⟨hv,trivial⟩,fun M' aE h'=>?_⟩
  match aE,h' with
  |[c'],h'=>exact h'.1
 ·obtain⟨hl,h⟩:=vN h
  cases h
  obtain⟨vs,rfl,hx⟩:=hv
  exact⟨Nat.eq_of_beq_eq_true hl,vs.toList,hx,fun M' aE h'=>⟨vs,rfl,h'⟩⟩
 ·obtain⟨vs,rfl,hx⟩:=hv
  obtain⟨k1,us,k2,k3⟩:=XU h hx
  exact⟨k1,us,k2,fun M' aE h'=>⟨vs,rfl,by grind⟩⟩
 ·cases h
theorem yO5 {h0 s a a' v u M}(ok:Ok M)(hf:wI h0 M.h)(hv:zN M a v)(h:rr h0 s a=some (a',u)):
  ∃L:zG,L.H=M.H∧L.h=qA M.h u∧Ok L∧yL M L∧zN L a' v∧wI h0 L.h:=by
 unfold rr at h
 split at h
 ·rename_i p x
  split at h
  ·rename_i y u1 e
   cases h
   obtain⟨L,h1,h2,h3,h4,h5,h6⟩:=rz (cs:=[x]) (vs:=[v]) ok hf ⟨hv,trivial⟩ e
   exact⟨L,h1,h2,h3,h4,h5.1,h6⟩
  ·cases h
 ·split at h
  ·rename_i ys u1 e
   cases h
   obtain⟨vs,rfl,hx⟩:=hv
   obtain⟨L,h1,h2,h3,h4,h5,h6⟩:=rz ok hf hx e
   exact⟨L,h1,h2,h3,h4,⟨vs,rfl,h5⟩,h6⟩
  ·cases h
 ·cases h
  exact⟨M,rfl,rfl,ok,.refl M,hv,hf⟩
theorem rA.ext {M M'}(x:yB M M'):∀{as vs},zI (zN M) as vs→zI (zN M') as vs:=fun h=>h.mono fun _ _ h=>h.ext x
theorem XW {h0}:∀{l as de vs u M},Ok M→wI h0 M.h→zI (zN M) as vs→nk h0 l as=some (de,u)→
  ∃L:zG,L.H=M.H∧L.h=qA M.h u∧Ok L∧yL M L∧zI (zN L) de vs∧wI h0 L.h
 |s::l,a::as,de,v::vs,u,M,ok,hf,hv,h=>by
  unfold nk at h
  split at h
  ·rename_i a1 u1 Ni mP e1 e2
   cases h
   obtain⟨M1,h1,h2,h3,h4,h5,h6⟩:=yO5 ok hf hv.1 e1
   obtain⟨M2,k1,k2,k3,k4,k5,k6⟩:=XW h3 h6 (rA.ext h4.ext hv.2) e2
   exact⟨M2,k1.trans h1,by rw[k2,h2,gK],k3,h4.trans k4,⟨h5.ext k4.ext,k5⟩,k6⟩
  ·cases h
 |[],as,de,vs,u,M,ok,hf,hv,h=>by
  cases as<;>cases h<;>exact⟨M,rfl,rfl,ok,.refl M,hv,hf⟩
 |s::l,[],de,vs,u,M,ok,hf,hv,h=>by cases h;exact⟨M,rfl,rfl,ok,.refl M,hv,hf⟩
def zG.over (M L:zG):zG:={κ:=M.κ,F:=fun b=>M.F b∨L.G b,G:=L.G,h:=M.h,H:=L.H}
theorem zG.over_ok {M Ml L}(ok:Ok M)(fc:Ok L)(lo:Lo M Ml)(Dl:∀b,¬qF Ml b)(g:fG Ml L):Ok (M.over L)∧yL M (M.over L):=by
 have aT:∀b,Ml.F b↔b<M.H.size:=fun b=>by rw[lo.F]
 have cc:∀b,b<M.H.size→L.H[b]? =M.H[b]? :=fun b hb=>by rw[g.same b (by grind),lo.H]
 have cM:M.H.size≤L.H.size:=by grind
 have hG:∀b,L.G b→b<M.H.size→M.G b:=fun b hb hs=>by
  rcases g.Gb b hb (by rw[lo.H];exact hs) with h|h
  ·rw[lo.G] at h;exact h
  simp_all
 have fZ:∀b,M.F b→b<M.H.size:=ok.Flt
 have x:yB M (M.over L):=⟨fun id C h=>⟨C,h,C.le_refl⟩,fun b h=>.inl h,fun b h=>g.G b (by rw[lo.G];exact h),fun b h=>cc b (by grind),fun b h=>cc b (ok.Flt b (ok.GF b h)),fun b h=>xm (cc b h)⟩
 have aA:∀b,qF (M.over L) b→qF M b:=fun b h=>h
 refine⟨⟨fun id o h=>?_,fun id h=>ok.non id h,ok.disj,fun b h=>⟨fun hf=>?_,?_⟩,fun b h=>.inr h,fun b h=>?_⟩,⟨x,cM,fun b hb _=>cc b hb,by grind,fun b h hs=>.inl (hG b h hs),fun b h hs=>?_⟩⟩
 ·obtain⟨C,hC,hO⟩:=ok.obj id o h
  exact⟨C,hC,hO.ext x fun ho b hb=>cc b (ok.own b ⟨id,o,C,h,ho,hC,hb⟩).2⟩
 ·have:=ok.own b (aA b h)
  rcases hf with hf|hf
  ·simp_all
  ·exact this.1 (ok.GF b (by grind))
 ·have h1:=(ok.own b (aA b h)).2
  show b<L.H.size
  omega
 ·show b<L.H.size
  rcases h with h|h
  ·grind
  ·exact fc.Flt b (fc.GF b h)
 ·rcases h with h|h
  ·simp_all
  ·exact .inl (ok.GF b (hG b h hs))
theorem yX9 {h0 r c d}(h:lU h0 r c=some d):∀id∈vH [r] [c],∃o,h0 id=some o∧o.owned=true:=by
 unfold lU at h
 split at h
 all_goals (try (intro id ab;simp[vH] at ab;done))
 ·intro xL ab
  have:=List.mem_singleton.1 ab
  subst this
  split at h
  ·exact⟨_,by assumption,rfl⟩
  ·cases h
 ·intro xL ab
  have:=List.mem_singleton.1 ab
  subst this
  split at h
  ·exact⟨_,by omega,rfl⟩
  ·cases h
 ·rename_i id
  intro xL ab
  have:=List.mem_singleton.1 ab
  subst this
  split at h
  ·exact⟨_,by assumption,rfl⟩
  ·exact⟨_,by omega,rfl⟩
  ·cases h
 ·intro xL ab
  have:=List.mem_singleton.1 ab
  subst this
  split at h
  ·exact⟨_,by assumption,rfl⟩
  ·cases h
 ·intro xL ab
  have:=List.mem_singleton.1 ab
  subst this
  split at h
  ·exact⟨_,by assumption,rfl⟩
  ·cases h
 ·cases h
theorem rC {L:zG}:∀{l cs d},gn L.h l cs=some d→∀id∈vH l cs,∃o,L.h id=some o∧o.owned=true
 |r::l,c::cs,d,h,id,ab=>by
  unfold gn at h
  split at h
  ·rename_i x xs e1 e2
   rw[Hu] at ab
   rcases List.mem_append.1 ab with ab|ab
   ·exact yX9 e1 id ab
   ·exact rC e2 id ab
  ·cases h
theorem XX {E}(hE:dB E)(hS:fF E.sums)(hm:E.P.follows .mixedOrders=true){A k pre na f fn}(hf:E.P.funcs[f]? =some fn)(hL:∀c,fn.body=some c→vR E.P A pre na fn.ntmps c)(bI:∀vs w,(callFunc f vs).run E.P w=.ok (.enter f vs) w)
  {as rs X S pack} {unpack:RL rs.cells→X} (df:∀d,pack (unpack d)=d) (aF:∀d x,S d=some x→∀Ml vs,zI (zN Ml) (lT as d).1 vs→∃cY,zI (zN Ml) cY vs∧fY E A k pre na fn cY (lT as d).2 (jb rs unpack)=some x)
  {nm args h v u} (hy:qX (kU as rs S pack nm args h) v u):oN E.P f args h v u:=by
 intro M w vs hh hH ok hv
 refine .inl ⟨bI vs w,?_⟩
 unfold kU at hy
 split at hy
 ·exact hy.elim
 rename_i cY u0 tY
 split at hy
 case h_2=>exact hy.elim
 rename_i d hd
 obtain⟨hc,hy⟩:=tI hy
 rw[Bool.and_eq_true] at hc
 obtain⟨x,hx,rfl,rfl⟩:=hy
 subst hh
 obtain⟨M1,a1,a2,a3,a4,a5,a6⟩:=XW ok (wI.refl _) hv tY
 rw[←a2] at hd
 obtain⟨Ml,lo,b2,b3,b4,b5⟩:=yYy a3 a5 hd
 obtain⟨XY,tZ,Nj⟩:=aF d x hx Ml _ b5
 refine Calls.mono (M3 hE hS hm hf hL Nj b2 (by rw[lo.H,a1];exact hH) b3 tZ) fun e w' he=>?_
 cases e with
 |panicked _=>omega
 |outgrown=>omega
 |returned rv=>
  obtain⟨L0,v0,st,hK,c1,c2,c3,c4,_,c5,c6,c7,c8,_⟩:=he
  have hK:Dg st.h rs v0=some (pack x):=by
   unfold jb at hK
   grind
  unfold Dg at hK
  split at hK
  case h_2=>cases hK
  rename_i cs ko
  split at hK
  case h_2=>cases hK
  rename_i aE u1 ua
  obtain⟨cC,hK⟩:=vN hK
  obtain⟨hlen,us,d1,d2⟩:=XV ko c5
  rw[←c1] at ua hK
  obtain⟨L,e1,e2,e3,e4,e5,e6⟩:=rz c3 (wI.refl _) d1 ua
  rw[←e2] at hK
  have g:fG Ml L:=c4.trans e4.grow
  obtain⟨f1,f2⟩:=zG.over_ok a3 e3 lo b4 g
  have lV:∀i,i<rs.cells.length→(M1.over L).h (nm+i)=none:=fun i hi=>by
   have h1:=Nc hc.1 i hi
   show M1.h (nm+i)=none
   rcases a6 (nm+i) with h|⟨own,t,xs,h,_⟩|⟨ver,xs,h,_⟩
   all_goals simp_all
  obtain ⟨Mc, g1, g2, g3, g4, g5, g6, g7, g8⟩ := Nd e3 f1 ⟨rfl, rfl⟩ lV hK (xH cC) (rC hK) (fun id ab C hC b hb=>by
   obtain⟨o,ho,fb⟩:=rC hK id ab
   have aA:qF L b:=⟨id,o,C,ho,fb,hC,hb⟩
   have kN:¬b<M1.H.size:=fun aT=>b4 b (g.own b aA (by rw[lo.H];omega))
   refine⟨fun h=>kN (a3.own b h).2,fun h=>?_,(e3.own b aA).2⟩
   rcases h with h|h
   ·exact kN (a3.Flt b h)
   ·exact(e3.own b aA).1 (e3.GF b h))
  have Nk:yL M1 Mc:=by
   have aA:∀b,qF Mc b→b<M1.H.size→qF M1 b:=fun b hb aT=>by
    rcases g7 b hb with h|⟨id,ab,C,hC,xS⟩
    ·exact h
    ·obtain⟨o,ho,fb⟩:=rC hK id ab
     exact absurd (g.own b ⟨id,o,C,ho,fb,hC,xS⟩ (by rw[lo.H];omega)) (b4 b)
   refine⟨f2.ext.trans f2.size g6,?_,fun b hb hn=>?_,aA,fun b hb aT=>?_,fun b hb aT=>?_⟩
   ·rw[g1];exact f2.size
   ·rw[g1];exact f2.frame b hb hn
   ·rw[g2] at hb;exact f2.Gb b hb aT
   ·rw[g3] at hb;exact f2.Fb b hb aT
  refine⟨Mc,⟨c6,c7,c8,?_,?_,g5,a4.trans Nk⟩,?_⟩
  ·rw[g1];show L.H=_;rw[e1,c2]
  ·rw[gK,←a2];exact g4
  ·exact d2 Mc _ (g8 us e5)
theorem yRj {E}(hE:dB E)(hS:fF E.sums)(hm:E.P.follows .mixedOrders=true){A k pre na f fn}(hf:E.P.funcs[f]? =some fn)(hL:∀c,fn.body=some c→vR E.P A pre na fn.ntmps c)(bI:∀vs w,(callFunc f vs).run E.P w=.ok (.enter f vs) w)
  {as rs X S} {pack:X→RL rs.cells} {unpack} (df:∀d,pack (unpack d)=d) (aF:∀d,fY E A k pre na fn (lT as d).1 (lT as d).2 (jb rs unpack)=S d)
  {nm args h v u} (hy:qX (kU as rs S pack nm args h) v u):oN E.P f args h v u:=
 XX hE hS hm hf hL bI df (fun d x hx _ _ hv=>⟨_,hv,(aF d).trans hx⟩) hy
theorem vFz {E}(hE:dB E)(hS:fF E.sums)(hm:E.P.follows .mixedOrders=true){A k pre na f fn}(hf:E.P.funcs[f]? =some fn)(hL:∀c,fn.body=some c→vR E.P A pre na fn.ntmps c)(bI:∀vs w,(callFunc f vs).run E.P w=.ok (.enter f vs) w)
  {sh t rs X} {S:List t.den→Option X} {pack unpack} (df:∀d,pack (unpack d)=d) (bW:∀x,S []=some x→fY E A k pre na fn [.c .nsl] (ir []) (jb rs unpack)=some x)
  (aF:∀xs x,S xs=some x→fY E A k pre na fn [.c (.nfl sh t xs)] (ir []) (jb rs unpack)=some x)
  {nm args h v u} (hy:qX (kU [.c (.dat sh t)] rs (fun d=>S d.1) pack nm args h) v u):oN E.P f args h v u:=
 XX hE hS hm hf hL bI df (fun d x hx Ml vs hv=>by
  obtain⟨xs,_⟩:=d
  match vs,hv with
  |[v],hv=>
   have ki:zU Ml.H (bif sh then Ml.G else Ml.F) (.sl t) xs (fun _=>some v):=hv.1
   have lQ:=ki
   simp[zU] at ki
   obtain⟨A',n,c,rfl,hn,hc,h⟩:=ki
   cases A' with
   |some a=>exact⟨[.c (.nfl sh t xs)],⟨⟨by simp,lQ⟩,trivial⟩,aF xs x hx⟩
   |none=>
    rcases h with⟨rfl,h0⟩|⟨B,o,e,_⟩
    ·have h0:=h0 rfl
     subst h0
     subst hn
     exact⟨[.c .nsl],⟨rfl,trivial⟩,bW x hx⟩
    ·cases e) hy
def yG.orElse:yG→yG→yG
 |.alts [],b=>b
 |a,_=>a
abbrev kp:=Nat→Nat→List zO→Hp→yG
def dD:List (Nat×kp)→Gv
 |[],_,_,_,_,_=>.stuck
 |(g,e)::l,k,nm,f,args,h=>bif Nat.beq g f then(e k nm args h).orElse (dD l k nm f args h) else dD l k nm f args h
def XZ (P:Program)(r:Nat×kp):Prop:=∀k nm args h v u,qX (r.2 k nm args h) v u→oN P r.1 args h v u
def Dm (e:kp):Prop:=∀k nm (args:List zO) h h',(args.any vW=false→∀id,(id∈args.flatMap yC∨j8 nm id=true)→h id=h' id)→(args.any vW=true→h=h')→e k nm args h=e k nm args h'
theorem yNe {a b v u}(h:qX (a.orElse b) v u):qX a v u∨qX b v u:=by
 unfold yG.orElse at h
 grind
theorem X0 {P}:∀{l},(∀r∈l,XZ P r)→W1 P (dD l)
 |[],_=>nofun
 |(g,e)::l,hl=>fun k nm f args h v u hy=>by
  have ih:=X0 (l:=l) fun r hr=>hl r (by grind)
  unfold dD at hy
  cases hg:Nat.beq g f with
  |false=>rw[hg] at hy;exact ih k nm f args h v u hy
  |true=>
   rw[hg] at hy
   have:g=f:=by simp_all
   subst this
   rcases yNe hy with hy|hy
   ·exact hl (g,e) (by simp) k nm args h v u hy
   ·exact ih k nm g args h v u hy
theorem X1:∀{l},(∀r∈l,Dm r.2)→fF (dD l)
 |[],_=>fun k nm f args h h' _ _=>rfl
 |(g,e)::l,hl=>fun k nm f args h h' h1 h2=>by
  have ih:=X1 (l:=l) (by grind) k nm f args h h' h1 h2
  unfold dD
  have he:e k nm args h=e k nm args h':=hl (g,e) (by simp) k nm args h h' h1 h2
  rw[ih,he]
section
variable {h h':Hp}
theorem vF7 {t c}(hh:∀id∈yT c,h id=h' id):tV h t c=tV h' t c:=by
 have e:=Hi hh
 unfold tV
 grind
theorem X2 {p c}(hh:∀id∈yT c,h id=h' id):oT h p c=oT h' p c:=by
 have e:=fun t=>vF7 (t:=t) hh
 unfold oT
 grind
theorem X3:∀{l cs},(∀id∈cs.flatMap yT,h id=h' id)→tW h l cs=tW h' l cs
 |[],[],_
 |[],_::_,_
 |_::_,[],_=>rfl
 |p::l,c::cs,hh=>by
  simp  at hh
  unfold tW
  rw[X2 fun id hi=>hh id (.inl hi),X3 (by grind)]
theorem yOa {ls}:oU h ls []=oU h' ls []:=by
 cases ls<;>rfl
theorem yUe {s:AS}{a}(hb:vW a=false):s.get h a=s.get h' a:=by
 unfold AS.get
 cases s with
 |c p=>grind
 |agg l=>grind
 |ptr l=>
  cases a with
  |c x=>cases x<;>first|rfl|(exact absurd hb (by nofun))
  |_=>rfl
 |fn f aZ=>
  cases a with
  |c x=>cases x with
   |fn g ids=>
    cases ids with
    |nil=>dsimp only;rw[yOa]
    |cons _ _=>exact absurd hb (by nofun)
   |_=>rfl
  |_=>rfl
theorem vAi {s:AS}{a cs}(hb:vW a=false)(e:s.get h a=some cs):∀id∈cs.flatMap yT,id∈yC a:=by
 unfold AS.get at e
 split at e
 ·cases e;intro id ab;simp  at ab;exact ab
 ·obtain⟨_,e⟩:=vN e
  cases e;exact fun id ab=>ab
 ·exact absurd hb (by nofun)
 ·rename_i f aZ g ids
  obtain⟨_,e⟩:=vN e
  cases ids with
  |nil=>cases aZ with
   |nil=>cases e;simp
   |cons _ _=>cases e
  |cons _ _=>exact absurd hb (by nofun)
 ·cases e
theorem X4:∀{l as},as.any vW=false→ni h l as=ni h' l as
 |[],[],_
 |[],_::_,_
 |_::_,[],_=>rfl
 |s::l,a::as,hb=>by
  simp only[List.any_cons,Bool.or_eq_false_iff] at hb
  unfold ni
  rw[yUe (h:=h) (h':=h') hb.1,X4 hb.2]
theorem X5:∀{l as cs},as.any vW=false→ni h l as=some cs→∀id∈cs.flatMap yT,id∈as.flatMap yC
 |[],[],cs,_,e=>by cases e;simp
 |s::l,a::as,cs,hb,e=>by
  simp only[List.any_cons,Bool.or_eq_false_iff] at hb
  unfold ni at e
  split at e
  ·rename_i c1 rest e1 e2
   cases e
   intro id ab
   rw[List.flatMap_append,List.mem_append] at ab
   rw[List.flatMap_cons,List.mem_append]
   rcases ab with ab|ab
   ·exact .inl (vAi hb.1 e1 id ab)
   ·exact .inr (X5 hb.2 e2 id ab)
  ·cases e
theorem vF9 {l as}(hb:as.any vW=false)(hh:∀id∈as.flatMap yC,h id=h' id):tX h l as=tX h' l as:=by
 unfold tX
 rw[X4 (h:=h) (h':=h') hb]
 cases e:ni h' l as with
 |none=>rfl
 |some cs=>exact X3 fun id ab=>hh id (X5 hb e id ab)
theorem xT {x}:[x].flatMap yT=yC (.c x):=by simp[yC]
theorem Nl {c c' u}(e:kK h c=some (c',u)):(∀id∈yT c',id∈yT c)∧(vW (.c c')=true→vW (.c c)=true):=by
 cases c with
 |osl id r=>
  unfold kK at e
  dsimp only at e
  split at e
  ·cases e;exact⟨nofun,nofun⟩
  ·cases r with
   |none=>cases e;exact⟨nofun,nofun⟩
   |some _=>cases e
  ·cases e
 |mrow _ _ _=>cases e
 |_=>cases e;simp
theorem xU:∀{l cs},(∀id∈cs.flatMap yT,h id=h' id)→dC h l cs=dC h' l cs
 |[],cs,_=>by rfl
 |true::l,[],_
 |false::l,[],_=>rfl
 |true::l,c::cs,hh=>by
  simp  at hh
  unfold dC
  rw[W7 fun id hi=>hh id (.inl hi),xU (by grind)]
 |false::l,c::cs,hh=>by
  unfold dC
  rw[xU (by grind)]
theorem xV:∀{l cs aE u},dC h l cs=some (aE,u)→∀id∈aE.flatMap yT,id∈cs.flatMap yT
 |[],cs,aE,u,e=>by cases cs<;>cases e<;>exact by simp
 |true::l,[],aE,u,e
 |false::l,[],aE,u,e=>by cases e;simp
 |true::l,c::cs,aE,u,e=>by
  unfold dC at e
  split at e
  ·rename_i c1 u1 iY mP e1 e2
   cases e
   intro id ab
   rw[List.flatMap_cons,List.mem_append] at ab⊢
   exact ab.imp ((Nl e1).1 id) (xV e2 id)
  ·cases e
 |false::l,c::cs,aE,u,e=>by
  unfold dC at e
  split at e
  ·rename_i iY mP e2
   cases e
   intro id ab
   rw[List.flatMap_cons,List.mem_append] at ab⊢
   exact ab.imp (by simp) (xV e2 id)
  ·cases e
theorem vC6 {s a}(hh:∀id∈yC a,h id=h' id):rr h s a=rr h' s a:=by
 unfold rr
 cases s with
 |c p=>cases a with
  |c x=>
   have:=xU (h:=h) (h':=h') (l:=[p.isKept]) (cs:=[x]) (by rw[xT];exact hh)
   simp_all
  |_=>rfl
 |agg l=>cases a with
  |agg xs=>
   have:=xU (h:=h) (h':=h') (l:=l.map PC.isKept) (cs:=xs) hh
   simp_all
  |_=>rfl
 |_=>rfl
theorem yRn {s a a' u}(e:rr h s a=some (a',u)):(∀id∈yC a',id∈yC a)∧(vW a=false→vW a'=false):=by
 unfold rr at e
 split at e
 ·rename_i p x
  split at e
  ·rename_i y u1 e1
   cases e
   refine⟨fun id ab=>by have:=xV e1 id (by rw[xT];omega);rwa [xT] at this,fun hb=>?_⟩
   cases hk:p.isKept with
   |false=>rw[hk] at e1;cases e1;exact hb
   |true=>
    rw[hk] at e1
    unfold dC at e1
    split at e1
    ·rename_i c1 u2 iY mP e2 e3
     cases e1
     cases hy:vW (.c y) with
     |false=>rfl
     |true=>rw[(Nl e2).2 hy] at hb;cases hb
    ·cases e1
  ·cases e
 ·split at e
  ·rename_i ys u1 e1
   cases e
   exact⟨xV e1,fun _=>rfl⟩
  ·cases e
 simp_all
theorem X6:∀{l as},(∀id∈as.flatMap yC,h id=h' id)→nk h l as=nk h' l as
 |[],as,_=>by rfl
 |_::_,[],_=>rfl
 |s::l,a::as,hh=>by
  simp  at hh
  unfold nk
  rw[vC6 fun id hi=>hh id (.inl hi),X6 (by grind)]
theorem X7:∀{l as de u},nk h l as=some (de,u)→(∀id∈de.flatMap yC,id∈as.flatMap yC)∧(as.any vW=false→de.any vW=false)
 |[],as,de,u,e=>by cases as<;>cases e<;>exact by simp
 |s::l,[],de,u,e=>by cases e;simp
 |s::l,a::as,de,u,e=>by
  unfold nk at e
  split at e
  ·rename_i a1 u1 Ni mP e1 e2
   obtain⟨k1,k2⟩:=yRn e1
   obtain⟨k3,k4⟩:=X7 e2
   grind
  ·cases e
theorem Nm:∀{n nm},(∀i,i<n→h (nm+i)=h' (nm+i))→rq h nm n=rq h' nm n
 |0,_,_=>rfl
 |n+1,nm,hh=>by
  unfold rq
  have:=hh 0 (by omega)
  rw[Nat.add_zero] at this
  rw[this,Nm (by grind)]
end
theorem X8 {as rs X}{S:Nat→AD as→Option X}{pack}:Dm fun k nm args h=>kU as rs (S k) pack nm args h:=by
 intro k nm args h h' h1 h2
 cases hb:args.any vW with
 |true=>rw[h2 hb]
 |false=>
  have hh:=h1 hb
  show kU as rs (S k) pack nm args h=kU as rs (S k) pack nm args h'
  unfold kU
  rw[X6 (h:=h) (h':=h') (by grind)]
  cases e:nk h' as args with
  |none=>rfl
  |some p=>
   obtain⟨cY,u⟩:=p
   obtain⟨k1,k2⟩:=X7 e
   dsimp only
   rw[vF9 (h:=qA h u) (h':=qA h' u) (k2 hb) fun id ab=>tP (by grind)]
   cases tX (qA h' u) as cY with
   |none=>rfl
   |some d=>
    cases hle:Nat.ble rs.cells.length 100 with
    |false=>simp
    |true=>
     have hle:=Nat.le_of_ble_eq_true hle
     rw [Nm (h := h) (h' := h') fun i hi => hh _ (.inr (by
      simp only[j8,Bool.and_eq_true]
      exact⟨by simp,by simp[Nat.blt_eq];omega⟩))]
def kq:Code→List Code
 |.seq a b=>kq a++kq b
 |.cond _ a b=>kq a++kq b
 |.block _ b=>kq b
 |.loop b=>[b]
 |_=>[]
def zV (c:Code)(i:Nat):Code:=match(kq c)[i]? with
 |some b=>b
 |none=>.skip
def zX (fn:Func):Code:=match fn.body with
 |some c=>c
 |none=>.skip
def X9 (P:Program)(A:qB)(pre na nt:Nat)(b:Code):Prop:=(∃L,qn A b=some L∧zZ P pre na nt b L)∨(qn A b=none∧vR P A pre na nt b)
theorem vAn {P A pre na nt}:∀c,(∀b∈kq c,X9 P A pre na nt b)→vR P A pre na nt c:=by
 intro c
 induction c with
 |seq a b xF xG=>exact fun h=>⟨xF fun x hx=>h x (List.mem_append_left _ hx),xG fun x hx=>h x (List.mem_append_right _ hx)⟩
 |cond t a b xF xG=>exact fun h=>⟨xF fun x hx=>h x (List.mem_append_left _ hx),xG fun x hx=>h x (List.mem_append_right _ hx)⟩
 |block id b ih=>exact fun h=>ih h
 |loop b ih=>
  intro h
  rcases h b (List.mem_cons_self ..) with⟨L,h1,h2⟩|⟨h1,h2⟩
  ·refine⟨by grind,by grind⟩
  ·refine⟨fun L' h3=>?_,fun _=>h2⟩
   simp_all
 |_=>exact fun _=>trivial
theorem Dn {P A pre na nt c n}(hn:(kq c).length=n)(h:∀i,i<n→X9 P A pre na nt (zV c i)):vR P A pre na nt c:=
 vAn c fun b hb=>by
  obtain⟨i,hi,rfl⟩:=List.getElem_of_mem hb
  have e:zV c i=(kq c)[i]:=by
   unfold zV
   grind
  grind
theorem rD {P A pre na nt c n}(hn:(kq c).length=n)(h:∀i,i<n→∃L,qn A (zV c i)=some L∧zZ P pre na nt (zV c i) L):vR P A pre na nt c:=
 Dn hn fun i hi=>.inl (h i hi)
theorem vAl {P A pre na nt c}(hn:(kq c).length=0):vR P A pre na nt c:=rD hn (by simp)
theorem body_loops {P A pre na fn}(h:vR P A pre na fn.ntmps (zX fn)):∀c,fn.body=some c→vR P A pre na fn.ntmps c:=fun c hc=>by
 unfold zX at h
 simp_all
theorem Dp {P f fn}(hf:P.funcs[f]? =some fn)(hb:fn.body.isNone=false)(hn:(fn.name== "runtime.NumGoroutine")=false):∀vs w,(callFunc f vs).run P w=.ok (.enter f vs) w:=fun vs w=>by
 have h1:(program).run P w=.ok P w:=rfl
 unfold callFunc
 simp only[Sem.run_bind,h1,Result.andThen_ok,hf,hn,hb,Bool.false_eq_true,if_false,Sem.run_pure]
abbrev zA (x:Int):Int:=IntKind.wrap .i64 x
abbrev gO (k:IntKind)(x y:Int):Int:=td (fun _ a b=>a&&&b) k x y
abbrev fI (k:IntKind)(x y:Int):Int:=td (fun _ a b=>a|||b) k x y
abbrev shl (k:IntKind)(x y:Int):Int:=k.wrap (x*2^(min y.toNat k.bits))
abbrev shr (k:IntKind)(x y:Int):Int:=x.fdiv (2^(min y.toNat k.bits))
abbrev zY (n b:Nat):Bool:=Nat.ble (n*b) 140737488355328&&Nat.ble n 140737488355328
abbrev ub (l c:Int)(b:Nat):Bool:=decide (0≤l)&&decide (l≤c)&&decide (c*(b:Int)≤140737488355328)&&decide (c≤140737488355328)
abbrev vP (lt:Bool)(x y:Int):Int:=bif lt then(bif decide (y<x) then y else x) else(bif decide (y>x) then y else x)
abbrev Nn (xs:List (List Int))(n:Nat):Option (List (List Int)):=
 jb (.c .mat) (fun d=>d.1) (.c (.osl 0 none)) ⟨fun _=>.undef,fun _=>some (.pmat 0 xs n)⟩
theorem yT8 xs n:Nn xs n=bif Nat.beq xs.length n then some xs else none:=by
 unfold Nn jb Dg RS.get RS.cells
 dsimp only[List.map,RC.isFro,dC,vH,oh,qA]
 cases h:Nat.beq xs.length n<;>simp[gn,lU,h]
theorem Ya {l:List Nat}{p:Nat→Bool}(hl:∀t∈l,p t=true)(t:Nat)(h:l.any (Nat.beq t)=true):p t=true:=by
 simp_all
theorem vEo {P}:CF P (fun _=>false):=nofun
open Go.ChangeShapes Go.WideShapes Go.ChangeAt Go.RowKit
def Dq (f:TypeId→Option Ty):Nat→List (Nat×TypeId)→Option Ty
 |_,[]=>none
 |off,[x]=>bif Nat.beq x.1 off then f x.2 else none
 | off, x :: y :: l => bif Nat.beq x.1 off then (match f x.2 with
  |some a=>(match Dq f (off+a.size) (y::l) with|some b=>some (.pair a b)|none=>none)
  |none=>none) else none
def nn (P:Program):TypeDesc→List (Nat×TypeId)
 |.struct fs=>fs.toList.map fun f=>(f.offset,f.type)
 |.array n e=>(List.range n).map fun i=>(i*P.cellsOf e,e)
 |_=>[]
def kW (P:Program):Nat→TypeId→Option Ty
 |0,_=>none
 |d+1,t=>match P.underlying t with
  |some (.int k)=>bif Nat.beq (P.cellsOf t) 1 then some (.int k) else none
  |some .bool=>bif Nat.beq (P.cellsOf t) 1 then some .bool else none
  |some (.slice e)=>bif Nat.beq (P.cellsOf t) 1&&Nat.ble 1 (P.bytesOf e) then(match kW P d e with|some a=>some (.sl a)|none=>none) else none
  |some x=>match Dq (kW P d) 0 (nn P x) with
   |some a=>bif Nat.beq (P.cellsOf t) a.size then some a else none
   |none=>none
  |none=>none
def Wf:(t:Ty)→t.den→Prop
 |.int k,n=>(Lit.int k n).wf=true
 |.bool,_=>True
 |.sl t,xs=>xs.length≤reachBytes∧∀i (h:i<xs.length),Wf t xs[i]
 |.pair a b,p=>Wf a p.1∧Wf b p.2
theorem No {P}:∀{d t ty},kW P d t=some ty→P.cellsOf t=ty.size
 |d+1,t,ty,h=>by
  unfold kW at h
  split at h
  ·obtain⟨h1,h2⟩:=vN h;cases h2;exact Nat.eq_of_beq_eq_true h1
  ·obtain⟨h1,h2⟩:=vN h;cases h2;exact Nat.eq_of_beq_eq_true h1
  ·obtain⟨h1,h2⟩:=vN h
   rw[Bool.and_eq_true] at h1
   split at h2
   ·cases h2;exact Nat.eq_of_beq_eq_true h1.1
   ·cases h2
  ·split at h
   ·obtain⟨h1,h2⟩:=vN h;simp_all
   ·cases h
  ·cases h
section
variable {H:Type} {enc:TypeId×Value→H} {P:Program} {w:World}
abbrev Dr (w:World):Nat→Prop:=fun b=>b<w.heap.size
theorem yL0 {a n cs}(h:w.cells? 0 a n=some cs):cs.length=n∧∀i,i<n→∃v,cs[i]? =some v∧w.cell? (a.add i)=some v:=by
 have hl:=mapM_some_length h
 have hg:=mapM_some_get h
 simp at hl
 refine⟨hl,fun i hi=>?_⟩
 have:=hg i i (by simp[hi])
 simp_all
theorem Yb {a v}(h:w.cell? a=some v):a.spot=none∧a.block<w.heap.size∧yD w.heap a.block a.off=some v:=by
 unfold World.cell? at h
 cases hb:w.heap[a.block]? with
 |none=>simp_all
 |some o=>
  rw[hb] at h
  cases o with
  |cells c e z=>
   dsimp only at h
   split at h
   ·cases h
   ·refine⟨by simp_all,?_,?_⟩
    ·grind
    ·unfold yD;simp_all
  |_=>cases h
theorem Yc {α:Type}{p:Nat→α→Prop}:∀n,(∀i,i<n→∃x,p i x)→∃xs:List α,xs.length=n∧∀i h,p i xs[i]
 |0,_=>by simp
 |n+1,h=>by
  obtain⟨xs,h1,h2⟩:=Yc n fun i hi=>h i (by omega)
  obtain⟨x,hx⟩:=h n (by omega)
  refine⟨xs++[x],by simp[h1],fun i hi=>?_⟩
  grind
def wV (l:List Nat):Prop:=l.all (· ≤reachBytes)=true
theorem lW {l m}:wV (l++m)↔wV l∧wV m:=by simp[wV]
theorem Yd {P e}{d:DataW H}:∀{l},wV (DataW.weightsAll P e l)→d∈l→wV (d.weights P e)
 |a::l,h,hd=>by
  have h:=lW.1 h
  rcases List.mem_cons.1 hd with rfl|hd
  ·exact h.1
  ·exact Yd h.2 hd
theorem Ye {P e}:∀{ts} {ds:List (DataW H)},(∀t∈ts,t=e)→wV (DataW.weightsAll P e ds)→wV (DataW.weightsEach P ts ds)
 |t::ts,d::ds,ht,h=>by
  have h:=lW.1 h
  rw[ht t (by simp)]
  exact lW.2 ⟨h.1,Ye (by grind) h.2⟩
 |[],_,_,_=>by simp[DataW.weightsEach,wV]
 |_::_,[],_,_=>by rfl
def Hw (P:Program)(w:World)(ty:Ty)(cs:List Value):Prop:=∃x:ty.den,cs.length=ty.size∧zU w.heap (Dr w) ty x (fun j=>cs[j]?)∧Wf ty x
theorem Yf {d fuel}(ih:∀t ty cs x,kW P d t=some ty→DataW.trod enc P w 0 (fun _=>true) true fuel t cs=some x→wV (x.1.weights P t)→Hw P w ty cs):
  ∀l off ty (cs:List Value) out,Dq (kW P d) off l=some ty→off+ty.size≤cs.length→
   (l.mapM fun p=>DataW.trod enc P w 0 (fun _=>true) true fuel p.2 ((cs.drop p.1).take (P.cellsOf p.2)))=some out→wV (DataW.weightsEach P (l.map (·.2)) (out.map (·.1)))→Hw P w ty ((cs.drop off).take ty.size)
 |[x],off,ty,cs,out,h,hc,hm,hw=>by
  obtain⟨h1,h2⟩:=vN h
  have ho:x.1=off:=by simpa using h1
  simp only[List.mapM_cons,List.mapM_nil,Option.pure_def,Option.bind_eq_bind,Option.bind_eq_some_iff] at hm
  obtain⟨y,hy,_,e,e'⟩:=hm
  cases e;cases e'
  rw[ho,No h2] at hy
  exact ih _ _ _ _ h2 hy (lW.1 hw).1
 |x::y::l,off,ty,cs,out,h,hc,hm,hw=>by
  obtain⟨h1,h2⟩:=vN h
  have ho:x.1=off:=by simpa using h1
  split at h2
  ·rename_i a ha
   split at h2
   ·rename_i b hb
    cases h2
    simp only[Ty.size] at hc⊢
    rw[List.mapM_cons] at hm
    simp only[Option.pure_def,Option.bind_eq_bind,Option.bind_eq_some_iff] at hm
    obtain⟨z,hz,zs,hzs,e⟩:=hm
    cases e
    rw[ho,No ha] at hz
    have hw:=lW.1 hw
    obtain⟨p,p1,p2,p3⟩:=ih _ _ _ _ ha hz hw.1
    obtain⟨q,q1,q2,q3⟩:=Yf ih (y::l) (off+a.size) b cs zs hb (by omega) hzs hw.2
    refine⟨(p,q),by simp only[List.length_take,List.length_drop,Ty.size];omega,⟨?_,?_⟩,p3,q3⟩
    ·refine yK (fun _ h=>h) (by simp) a p _ _ (fun j hj=>?_) p2
     simp only[List.getElem?_take,List.getElem?_drop]
     rw[if_pos (by omega),if_pos hj]
    grind
   ·cases h2
  ·cases h2
theorem Np:∀d t ty fuel cs x,kW P d t=some ty→DataW.trod enc P w 0 (fun _=>true) true fuel t cs=some x→wV (x.1.weights P t)→Hw P w ty cs
 |0,_,_,_,_,_,h,_,_=>by cases h
 |d+1,t,ty,0,cs,x,_,h,_=>by simp[DataW.trod] at h
 |d+1,t,ty,fuel+1,cs,x,hl,h,hw=>by
  unfold kW at hl
  split at hl
  ·rename_i k hu
   obtain⟨_,hl⟩:=vN hl
   cases hl
   obtain⟨n,rfl,_,uc⟩:=DataW.trod_int hu h
   exact⟨n,rfl,rfl,uc⟩
  ·rename_i hu
   obtain⟨_,hl⟩:=vN hl
   cases hl
   obtain⟨b,rfl,_⟩:=DataW.trod_bool hu h
   exact⟨b,rfl,rfl,trivial⟩
  ·rename_i e hu
   obtain⟨dA,hl⟩:=vN hl
   rw[Bool.and_eq_true] at dA
   have dA:=Nat.le_of_ble_eq_true dA.2
   split at hl
   ·rename_i a ha
    cases hl
    rcases DataW.trod_slice hu h with⟨rfl,_⟩|⟨ad,len,cap,elems,rest,n,hn,rfl,rfl,_,LX,hm,hel,hg,_,_⟩
    ·refine⟨([]:List a.den),rfl,?_,?_⟩
     ·simp only[zU]
      exact⟨none,0,0,rfl,rfl,Nat.le_refl _,.inl ⟨trivial,fun _=>rfl⟩⟩
     ·simp only[Wf]
      exact by simp
    ·unfold DataW.weights at hw
     rw[hu] at hw
     have hw:wV ([((elems.map (·.1)).length+(rest.map (·.1)).length)*P.bytesOf e]++(DataW.weightsAll P e (elems.map (·.1))++DataW.weightsAll P e (rest.map (·.1)))):=hw
     obtain⟨Ds,hw⟩:=lW.1 hw
     have hw2:=(lW.1 hw).1
     have hlen:len≤reachBytes:=by
      simp only[wV,List.all_cons,List.all_nil,Bool.and_true,decide_eq_true_eq,List.length_map] at Ds
      have:=Nat.mul_le_mul_left (elems.length+rest.length) dA
      omega
     have key:∀i,i<len→∃x:a.den,(zU w.heap (Dr w) a x (fun j=>yD w.heap ad.block (ad.off+i*a.size+j))∧(i=0→ad.spot=none)∧ad.block<w.heap.size)∧Wf a x:=by
      intro i hi
      have h1:=hg i hi
      have MR:i<elems.length:=by omega
      rw[List.getElem?_eq_getElem MR,Option.bind_eq_some_iff] at h1
      obtain⟨cs,ko,htr⟩:=h1
      rw[No ha] at ko
      obtain⟨y,y1,y2,y3⟩:=Np d e a n cs _ ha htr (Yd hw2 (by grind))
      obtain⟨c1,c2⟩:=yL0 ko
      have ud:∀j,((ad.add (i*a.size)).add j).block=ad.block∧((ad.add (i*a.size)).add j).off=ad.off+i*a.size+j:=by
       intro j
       unfold Addr.add
       constructor
       ·split<;>split<;>rfl
       ·split<;>split<;>simp_all
      have at0:(i=0→ad.spot=none)∧ad.block<w.heap.size:=by
       obtain⟨v,_,hv⟩:=c2 0 a.size_pos
       have h1:=Yb hv
       refine⟨fun h0=>?_,by have:=h1.2.1;rwa [(ud 0).1] at this⟩
       have h2:=h1.1
       subst h0
       simpa[Addr.add] using h2
      refine⟨y,⟨yK (fun _ h=>h) (fun _ _=>rfl) a y _ _ (fun j hj=>?_) y2,at0⟩,y3⟩
      obtain⟨v,v1,v2⟩:=c2 j hj
      rw[v1]
      have h1:=(Yb v2).2.2
      rwa [(ud j).1,(ud j).2] at h1
     obtain⟨xs,x1,x2⟩:=Yc len key
     refine⟨xs,rfl,?_,?_⟩
     ·simp only[zU]
      refine⟨some ad,len,cap,rfl,x1.symm,LX,?_⟩
      by_cases h0:xs=[]
      ·exact by grind
      ·refine .inr ⟨ad.block,ad.off,?_,?_,fun i hi=>(x2 i hi).1.1⟩
       ·have:=(x2 0 (List.length_pos_iff.2 h0)).1.2.1 rfl
        cases ad
        simp at this
        rw[this]
       ·exact by grind
     ·simp only[Wf]
      exact by grind
   ·cases hl
  ·rename_i y n1 n2 n3 hu
   split at hl
   ·rename_i a ha
    obtain⟨cM,hl⟩:=vN hl
    cases hl
    have cM:P.cellsOf t=ty.size:=by simpa using cM
    have fin:∀out,cs.length=P.cellsOf t→((nn P y).mapM fun p=>DataW.trod enc P w 0 (fun _=>true) true fuel p.2 ((cs.drop p.1).take (P.cellsOf p.2)))=some out→wV (DataW.weightsEach P ((nn P y).map (·.2)) (out.map (·.1)))→Hw P w ty cs:=by
     intro out hlen gi hw
     have:=Yf (fun t' ty' aE x' h1 h2 h3=>Np d t' ty' fuel aE x' h1 h2 h3) (nn P y) 0 ty cs out ha (by omega) gi hw
     rwa [List.drop_zero,List.take_of_length_le (by omega)] at this
    unfold DataW.trod at h
    rw[hu] at h
    cases y with
    |struct fs=>
     dsimp only at h
     split at h
     ·rename_i hlen
      rw[Option.map_eq_some_iff] at h
      obtain⟨out,ho,rfl⟩:=h
      unfold DataW.weights at hw
      rw[hu] at hw
      refine fin out hlen ?_ (by rw[nn,List.map_map];exact hw)
      simp only[nn,List.mapM_map]
      exact ho
     ·cases h
    |array n e=>
     dsimp only at h
     split at h
     ·rename_i hlen
      rw[Option.map_eq_some_iff] at h
      obtain⟨out,ho,rfl⟩:=h
      unfold DataW.weights at hw
      rw[hu] at hw
      refine fin out hlen ?_ (Ye (fun t ht=>by simp[nn] at ht;exact ht.2.symm) hw)
      simp only[nn,List.mapM_map]
      exact ho
     ·cases h
    |_=>simp[nn,Dq] at ha
   ·cases hl
  ·cases hl
end
open Go.ChangeShapes Go.WideShapes Go.ChangeAt Go.RowKit
def oV (sh:Bool):Ty→List PC
 |.int k=>[.int k]
 |.bool=>[.bool]
 |.sl t=>[.dat sh t]
 |.pair a b=>oV sh a++oV sh b
def rE:(l m:List PC)→PL l→PL m→PL (l++m)
 |[],_,_,e=>e
 |_::l,m,d,e=>(d.1,rE l m d.2 e)
theorem Nq:∀l m d e,vE (l++m) (rE l m d e)=vE l d++vE m e
 |[],_,_,_=>rfl
 |p::l,m,d,e=>by
  show xR p d.1::vE (l++m) (rE l m d.2 e)=xR p d.1::(vE l d.2++vE m e)
  rw[Nq l m d.2 e]
def np sh:(t:Ty)→t.den→PL (oV sh t)
 |.int _,n=>(n,())
 |.bool,b=>(b,())
 |.sl _,xs=>(xs,())
 |.pair a b,p=>rE _ _ (np sh a p.1) (np sh b p.2)
def WfP:(p:PC)→p.den→Prop
 |.int k,n=>(Lit.int k n).wf=true
 |.bool,_=>True
 |.dat _ t,xs=>Wf (.sl t) xs
 |.fn _,_=>True
 |.nil,_=>True
 |.nilp,_=>True
def oW:(l:List PC)→PL l→Prop
 |[],_=>True
 |p::l,d=>WfP p d.1∧oW l d.2
theorem Nr:∀l m d e,oW l d→oW m e→oW (l++m) (rE l m d e)
 |[],_,_,_,_,h=>h
 |_::l,m,d,e,h,h'=>⟨h.1,Nr l m d.2 e h.2 h'⟩
theorem Ns sh:∀t x,Wf t x→oW (oV sh t) (np sh t x)
 |.int _,_,h
 |.bool,_,h
 |.sl _,_,h=>⟨h,trivial⟩
 |.pair a b,p,h=>Nr _ _ _ _ (Ns sh a p.1 h.1) (Ns sh b p.2 h.2)
theorem Hy:∀l d,(vE l d).length=l.length
 |[],_=>rfl
 |p::l,d=>by
  show(vE l d.2).length+1=l.length+1
  rw[Hy l d.2]
def M0 (w:World):zG:=⟨fun _=>none,Dr w,Dr w,ir [],w.heap⟩
theorem yXc w:Ok (M0 w) where
 obj:=nofun
 non:=fun _ _=>rfl
 disj:=fun i j oi oj Ci Cj b _ h=>by cases h
 own:=nofun
 GF:=fun _ h=>h
 Flt:=fun _ h=>h
theorem Nt sh {w}:∀t x cs,cs.length=t.size→zU w.heap (Dr w) t x (fun j=>cs[j]?)→zI (zQ (M0 w)) (vE (oV sh t) (np sh t x)) cs
 |.int k,n,cs,hl,h=>by
  match cs,hl with
  |[c],_=>
   have e:c=.int k n:=by simpa[zU] using h
   exact⟨e,trivial⟩
 |.bool,b,cs,hl,h=>by
  match cs,hl with
  |[c],_=>
   have e:c=.bool b:=by simpa[zU] using h
   exact⟨e,trivial⟩
 |.sl t,xs,cs,hl,h=>by
  match cs,hl with
  |[c],_=>
   refine⟨?_,trivial⟩
   have h':=yK (F':=(bif sh then(M0 w).G else(M0 w).F)) (fun b h=>by cases sh<;>exact h) (fun b _=>rfl) (.sl t) xs (fun j=>[c][j]?) (fun _=>some c) (by grind) h
   exact h'
 |.pair a b,p,cs,hl,h=>by
  have fe:cs.length=a.size+b.size:=hl
  have h1:=Nt sh a p.1 (cs.take a.size) (by grind) (yK (fun _ h=>h) (by simp) a p.1 _ _ (by grind) h.1)
  have h2:=Nt sh b p.2 (cs.drop a.size) (by grind) (yK (by simp) (fun _ _=>rfl) b p.2 _ _ (by grind) h.2)
  show zI _ (vE (oV sh a++oV sh b) (rE _ _ (np sh a p.1) (np sh b p.2))) cs
  rw[Nq]
  have:=zI.append h1 h2
  simp_all
def nq (sh : Bool) (P : Program) (t : TypeId) (ty : Ty) : AS := bif jD P t == some true then .agg (oV sh ty) else (match ty with
 |.int k=>.c (.int k)|.bool=>.c .bool|.sl t=>.c (.dat sh t)|.pair a b=>.agg (oV sh (.pair a b)))
def Hz (P:Program):List TypeId→Option (List Ty)
 |[]=>some []
 |t::ts=>match kW P 8 t,Hz P ts with
  |some a,some l=>some (a::l)
  |_,_=>none
def oX (sh:Bool)(P:Program):List TypeId→List Ty→List AS
 |t::ts,a::l=>nq sh P t a::oX sh P ts l
 |_,_=>[]
theorem yZh {P t ty}(h:kW P 8 t=some ty)(ha:(jD P t==some true)=false):(∃k,P.underlying t=some (.int k)∧ty=.int k)∨(P.underlying t=some .bool∧ty=.bool)∨∃e a,P.underlying t=some (.slice e)∧ty=.sl a:=by
 unfold kW at h
 split at h
 ·grind
 ·grind
 ·grind
 ·rename_i x _ _ _ hu
  split at h
  ·rename_i a hx
   unfold jD at ha
   rw[hu] at ha
   cases x<;>first|(simp[nn,Dq] at hx;done)|(cases ha)
  ·cases h
 ·cases h
section
variable {H:Type} {enc:TypeId×Value→H} {P:Program} {w:World}
theorem vAa sh {t ty v d ps base}(hl:kW P 8 t=some ty)(dQ:Value.okWide P w .any base t v)(h:DataW.Trod enc P w 0 (fun _=>true) true t v d ps)(hw:wV (d.weights P t)):
  ∃x:PL (nq sh P t ty).cells,(∀n,zN (M0 w) ((nq sh P t ty).mk n (vE _ x)) v)∧(nq sh P t ty).boxes (vE _ x)=[]∧oW _ x:=by
 obtain⟨fuel,hf⟩:=h
 obtain⟨x,x1,x2,x3⟩:=Np 8 t ty fuel _ _ hl hf hw
 have cw:=Nt sh ty x _ x1 x2
 have xW:=Ns sh ty x x3
 unfold nq
 cases ha:(jD P t==some true) with
 |true=>
  refine⟨np sh ty x,fun n=>?_,rfl,xW⟩
  have mO:jD P t=some true:=by simp_all
  have hv:∃cs,v=.agg cs:=by
   unfold jD at mO
   unfold Value.okWide at dQ
   grind
  obtain⟨cs,rfl⟩:=hv
  exact⟨cs,rfl,cw⟩
 |false=>
  rcases yZh hl ha with⟨k,hu,rfl⟩|⟨hu,rfl⟩|⟨e,a,hu,rfl⟩
  ·have hv:∃n,v=.int k n:=by
    simp[Value.okWide,Cell.okWide] at dQ
    cases v<;>simp_all[Cell.ok]
   obtain⟨n0,rfl⟩:=hv
   exact⟨np sh _ x,fun n=>cw.1,rfl,xW⟩
  ·have hv:∃b,v=.bool b:=by
    simp[Value.okWide,Cell.okWide] at dQ
    cases v<;>simp_all[Cell.ok]
   obtain⟨b,rfl⟩:=hv
   exact⟨np sh _ x,fun n=>cw.1,rfl,xW⟩
  ·obtain⟨ad,len,cap,rfl⟩:=okWide_slice hu dQ
   exact⟨np sh _ x,fun n=>cw.1,rfl,xW⟩
theorem Yg sh {base}:∀ts tys vs ds ps n,Hz P ts=some tys→(∀(j:Nat) t v,ts[j]? =some t→vs[j]? =some v→Value.okWide P w .any base t v)→
  DataW.TrodAll enc P w 0 (fun _=>true) true ts vs ds ps→wV (DataW.weightsEach P ts ds)→∃x:AD (oX sh P ts tys),zI (zN (M0 w)) (iq (oX sh P ts tys) (vE _ x) n).1 vs∧(iq (oX sh P ts tys) (vE _ x) n).2=[]∧oW _ x
 |[],tys,vs,ds,ps,n,hl,dQ,h,_=>by
  match vs,ds,h with
  |[],[],_=>exact⟨(),trivial,rfl,trivial⟩
 |t::ts,tys,vs,ds,ps,n,hl,dQ,h,hw=>by
  unfold Hz at hl
  split at hl
  ·rename_i a l ha fe
   cases hl
   match vs,ds,h with
   |v::vs,d::ds,h=>
    obtain⟨p,q,h1,h2,_⟩:=h
    have hw:=lW.1 hw
    obtain⟨x,x1,x2,x3⟩:=vAa sh ha (dQ 0 t v rfl rfl) h1 hw.1
    obtain⟨y,y1,y2,y3⟩:=Yg sh ts l vs ds q n fe (fun j t' v' h1 h2=>dQ (j+1) t' v' h1 h2) h2 hw.2
    refine⟨rE _ _ x y,?_⟩
    have e:vE ((oX sh P (t::ts) (a::l)).flatMap AS.cells) (rE _ _ x y)=vE _ x++vE _ y:=Nq _ _ _ _
    have ht:(vE _ x++vE _ y).take (nq sh P t a).cells.length=vE _ x:=by
     rw[List.take_append_of_le_length (by rw[Hy];omega),List.take_of_length_le (by rw[Hy];omega)]
    have hd:(vE _ x++vE _ y).drop (nq sh P t a).cells.length=vE _ y:=by
     rw[List.drop_append_of_le_length (by rw[Hy];exact by simp),List.drop_of_length_le (by grind),List.nil_append]
    rw[e]
    have em:iq (oX sh P (t::ts) (a::l)) (vE _ x++vE _ y) n=((nq sh P t a).mk n (vE _ x)::(iq (oX sh P ts l) (vE _ y) n).1,(iq (oX sh P ts l) (vE _ y) n).2):=by
     show((nq sh P t a).mk n _::_,(nq sh P t a).boxes _++_)=_
     simp_all
    rw[em]
    exact⟨⟨x1 n,y1⟩,y2,Nr _ _ _ _ x3 y3⟩
  ·cases hl
theorem Yh {us}{gs:List (DataW H)}:∀{ts ds},ts.length=ds.length→wV (DataW.weightsEach P (ts++us) (ds++gs))→wV (DataW.weightsEach P ts ds)
 |[],[],_,_=>by rfl
 |t::ts,d::ds,hl,h=>lW.2 ⟨(lW.1 h).1,Yh (by simp_all) (lW.1 h).2⟩
theorem Yi:∀{ts vs ds ps},DataW.TrodAll enc P w 0 (fun _=>true) true ts vs ds ps→ts.length=ds.length
 |[],[],[],_,_=>rfl
 |_::_,_::_,_::_,_,⟨_,_,_,h,_⟩=>by rw[List.length_cons,List.length_cons,Yi h]
theorem lawArgs sh {base ts tys asp vs ds ps}(hl:Hz P ts=some tys)(has:oX sh P ts tys=asp)
  (dQ:∀(j:Nat) t v,ts[j]? =some t→vs[j]? =some v→Value.okWide P w .any base t v) (h:DataW.TrodAll enc P w 0 (fun _=>true) true ts vs ds ps) {us gs} (hw:wV (DataW.weightsEach P (ts++us) (ds++gs))):
  ∃x:AD asp,zI (zN (M0 w)) (iq asp (vE _ x) 0).1 vs∧(iq asp (vE _ x) 0).2=[]∧oW _ x:=by
 subst has
 exact Yg sh ts tys vs ds ps 0 hl dQ h (Yh (Yi h) hw)
theorem law_calls {E}(hE:dB E)(hS:fF E.sums)(hm:E.P.follows .mixedOrders=true){A k pre f fn}(hf:E.P.funcs[f]? =some fn)(hL:∀c,fn.body=some c→vR E.P A pre 0 fn.ntmps c)
  {as d unpack} (hup:∀d,unpack d=d.1) (aF:fY E A k pre 0 fn (lT as d).1 (lT as d).2 (jb (.c .bool) unpack)=some true) (hb:(iq as (vE _ d) 0).2=[]) {vs} (hv:zI (zN (M0 w)) (iq as (vE _ d) 0).1 vs.toList):
  Calls E.P f vs w fun e w'=>e=.returned (.bool true)∧Below w.heap.size w w':=by
 have hh:(M0 w).h=(lT as d).2:=by
  show ir []=ir (iq as (vE _ d) 0).2
  rw[hb]
 refine Calls.mono (M3 hE hS hm hf hL aF (M:=M0 w) (w:=w) hh rfl (yXc w) hv) fun e w' he=>?_
 cases e with
 |returned rv=>
  obtain⟨M',v,st,hK,_,hH,_,hg,_,hrv,o1,o2,o3,_⟩:=he
  refine⟨?_,o1,o2,o3,?_,fun b hb=>?_⟩
  ·unfold jb at hK
   split at hK
   ·rename_i r hr
    unfold Dg at hr
    split at hr
    ·rename_i cs ko
     split at hr
     ·rename_i aE u xv
      cases v with
      |c x=>
       cases ko
       have e1:aE=[x]:=by
        simp[RS.cells,RC.isFro,dC] at xv
        simp_all
       subst e1
       have mU:gn (qA st.h u) [.bool] [x]=some r:=hr
       cases x with
       |bool b=>
        have e2:r=(b,()):=by simp[gn,lU] at mU;grind
        have:rv=.bool b:=hrv
        grind
       |_=>simp[gn,lU] at mU
      |_=>cases ko
     ·cases hr
    ·cases hr
   ·cases hK
  ·have:=hg.size
   rw[hH] at this
   exact this
  ·have:=hg.same b hb
   rw[hH] at this
   exact this
 |_=>simp_all
end
inductive XC where
 |p (c:PC)|own (t:Ty)|mat|map
 |link (j:Nat)
abbrev XC.den:XC→Type
 |.p c=>c.den|.own t=>List t.den|.mat=>List (List Int)|.map=>List (Int×Bool)|.link _=>Unit
def XC.lnk:XC→Option Nat
 |.link j=>some j
 |_=>none
def RC.lnk:RC→Option Nat
 |.link j=>some j
 |_=>none
def nr:List (Option Nat)→List Nat→List zR→Bool
 |none::l,ids,_::cs=>nr l ids cs
 |some j::l,ids,.ptr id 0::cs=>(match ids[j]? with|some k=>Nat.beq id k|none=>false)&&nr l ids cs
 |some _::_,_,_=>false
 |_,_,_=>true
def ue:List (Option Nat)→List Nat→List zR→List zR
 |none::l,ids,c::cs=>c::ue l ids cs
 |some j::l,ids,c::cs=>(match ids[j]? with|some id=>.ptr id 0|none=>c)::ue l ids cs
 |_,_,cs=>cs
def Nu:List zR→Option Nat
 |[]=>none
 |.ptr id 0::_=>some id
 |_::l=>Nu l
def Dt (h:Hp):Nat→Nat→Option (List Nat)
 |0,_=>none
 |1,id=>some [id]
 |n+2,id=>match xQ h id with
  | some cells => (match Nu cells with
   |some id2=>(match Dt h (n+1) id2 with|some l=>some (id::l)|none=>none)
   |none=>none)
  |none=>none
def iu:Nat→Nat→List Nat
 |_,0=>[]
 |n,m+1=>n::iu (n+1) m
abbrev XL:List XC→Type
 |[]=>Unit
 |c::l=>c.den×XL l
inductive AX where
 |c (x:XC)|agg (l:List PC)|ptr (io:Bool) (l:List XC)|fn (f:Nat) (aZ:List (Bool×List XC))
 |chn (ls:List (List XC))
def AX.cells:AX→List XC
 |.c x=>[x]
 |.agg l=>l.map .p
 |.ptr _ l=>l
 |.fn _ aZ=>aZ.flatMap (·.2)
 |.chn ls=>ls.flatten
def AX.nb:AX→Nat
 |.ptr _ _=>1
 |.fn _ aZ=>aZ.length
 |.chn ls=>ls.length
 |_=>0
def AX.isChn:AX→Bool
 |.chn _=>true
 |_=>false
def xX (ls:List (List XC)):List (Bool×List XC):=ls.map fun l=>(true,l)
abbrev XD (l:List AX):Type:=XL (l.flatMap AX.cells)
def AX.looks:AX→Bool
 |.ptr _ _=>true
 |.fn _ _=>true
 |_=>false
def oY (l:List AX)(na:Nat):Bool:=l.zipIdx.all fun p=> !p.1.looks||Nat.blt p.2 na
def xY (h:Hp)(io:Bool)(id:Nat):Option (List zR):=match io,h id with
 |true,some (.box true cells)=>some cells
 |false,some (.box _ cells)=>some cells
 |false,some (.robox cells)=>some cells
 |_,_=>none
def fJ (h:Hp):List (Bool×List XC)→List Nat→Option (List zR×List (Bool×Nat))
 |[],[]=>some ([],[])
 |(io,l)::ls,id::ids=>match xY h io id,fJ h ls ids with
  |some cells,some (rest,bs)=>bif Nat.beq cells.length l.length then some (cells++rest,(io,id)::bs) else none
  |_,_=>none
 |_,_=>none
def AX.get (h:Hp):AX→zO→Option (List zR×List (Bool×Nat))
 |.c _,.c x=>some ([x],[])
 |.agg l,.agg xs=>bif Nat.beq xs.length l.length then some (xs,[]) else none
 |.ptr io l,.c (.ptr id 0)=>fJ h [(io,l)] [id]
 |.fn f aZ,.c (.fn g ids)=>bif Nat.beq f g then fJ h aZ ids else none
 |.chn ls,.c (.ptr id 0)=>match Dt h ls.length id with
  |some ids=>fJ h (xX ls) ids
  |none=>none
 |_,_=>none
def gp (h:Hp):List AX→List zO→Option (List zR×List (Bool×Nat))
 |[],[]=>some ([],[])
 |s::l,a::as=>match s.get h a,gp h l as with
  |some (cs,bs),some (aE,uf)=>some (cs++aE,bs++uf)
  |_,_=>none
 |_,_=>none
def Du (h:Hp):(x:XC)→zR→Option x.den
 |.p p,c=>oT h p c
 |.own t,.osl id none=>match h id with
  |some (.arr true s xs)=>eh s t xs
  |_=>none
 |.mat,.osl id none=>match h id with
  |some (.mat _ xs)=>some xs
  |_=>none
 |.map,.map id=>match h id with
  |some (.imap cg)=>some cg
  |_=>none
 |.link _,.ptr _ 0=>some ()
 |_,_=>none
def lX (h:Hp):(l:List XC)→List zR→Option (XL l)
 |[],[]=>some ()
 |x::l,c::cs=>match Du h x c,lX h l cs with
  |some d,some ds=>some (d,ds)
  |_,_=>none
 |_,_=>none
def wP:List XC→List zR→List Nat
 |.p _::l,_::cs=>wP l cs
 |.link _::l,_::cs=>wP l cs
 |_::l,.osl id _::cs=>id::wP l cs
 |_::l,.map id::cs=>id::wP l cs
 |_::l,_::cs=>wP l cs
 |_,_=>[]
def Dv:List XC→List zR→List Nat
 |.p _::l,c::cs=>yT c++Dv l cs
 |_::l,_::cs=>Dv l cs
 |_,_=>[]
def vU:Nat:=500
def eG:(l:List XC)→XL l→Nat→List zR×List Obj
 |[],_,_=>([],[])
 |.p p::l,d,n=>let r:=eG l d.2 n;(xR p d.1::r.1,r.2)
 |.own t::l,d,n=>let r:=eG l d.2 (n+1);(.osl n none::r.1,.arr true t d.1::r.2)
 |.mat::l,d,n=>let r:=eG l d.2 (n+1);(.osl n none::r.1,.mat 0 d.1::r.2)
 |.map::l,d,n=>let r:=eG l d.2 (n+1);(.map n::r.1,.imap d.1::r.2)
 |.link j::l,d,n=>let r:=eG l d.2 n;(.ptr j 0::r.1,r.2)
def Dw:List (Bool×List XC)→List zR→List Obj
 |[],_=>[]
 |(io,l)::ls,cs=>(bif io then .box true (cs.take l.length) else .robox (cs.take l.length))::Dw ls (cs.drop l.length)
def AX.mk (n:Nat)(cs:List zR):AX→zO
 |.c _=>match cs with|x::_=>.c x|[]=>.undef
 |.agg _=>.agg cs
 |.ptr _ _=>.c (.ptr n 0)
 |.fn f aZ=>.c (.fn f ((List.range aZ.length).map (n+·)))
 |.chn _=>.c (.ptr n 0)
def AX.boxes (cs:List zR):AX→List Obj
 |.ptr io l=>Dw [(io,l)] cs
 |.fn _ aZ=>Dw aZ cs
 |.chn ls=>Dw (xX ls) cs
 |_=>[]
def ug:List AX→List zR→Nat→List zO×List Obj
 |[],_,_=>([],[])
 |s::l,cs,n=>
  let ai:=cs.take s.cells.length
  let bs:=s.boxes ai
  let rest:=ug l (cs.drop s.cells.length) (n+bs.length)
  (s.mk n ai::rest.1,bs++rest.2)
def Dx (bs rows:List Obj):Hp:=fun n=>bif Nat.ble vU n then rows[n-vU]? else bs[n]?
def gq l (d:XD l):List zO×Hp:=
 let r:=eG (l.flatMap AX.cells) d vU
 let m:=ug l r.1 0
 (m.1,Dx m.2 r.2)
def Dy:List (Bool×List XC)→List Nat→Option (List Nat)
 |[],[]=>some []
 |(io,_)::ls,id::ids=>match Dy ls ids with
  |some l=>some (bif io then id::l else l)
  |none=>none
 |_,_=>none
def AX.io (b:Nat):AX→zO→Option (List Nat)
 |.c _,_=>some []
 |.agg _,_=>some []
 |.ptr io l,.c (.ptr id 0)=>Dy [(io,l)] [id]
 |.fn _ aZ,.c (.fn _ ids)=>Dy aZ ids
 |.chn ls,_=>some (iu b ls.length)
 |_,_=>none
def HA:List AX→(Nat→zO)→Nat→Nat→Option (List Nat)
 |[],_,_,_=>some []
 |s::l,t,n,b=>match s.io b (t n),HA l t (n+1) (b+s.nb) with
  |some a,some b=>some (a++b)
  |_,_=>none
def xZ (h:Hp):List (List RC)→List Nat→Option (List zR)
 |[],[]=>some []
 |o::os,n::ns=>match h n,xZ h os ns with
  |some (.box true cells),some rest=>bif Nat.beq cells.length o.length then some (cells++rest) else none
  |_,_=>none
 |_,_=>none
def Nv (h:Hp)(ns:Nat)(cs:List zR):Option (List Nat):=bif Nat.beq ns 0 then some [] else match Nu cs with
 |some id=>Dt h ns id
 |none=>none
def rF (st:St)(as:List AX)(rs:RS)(os:List (List RC))(ns:Nat)(v:zO):Option (RL (rs.cells++os.flatten)):=
 match HA as st.t 0 0 with
 |none=>none
 |some io=>match rs.get v with
  |none=>none
  |some cs=>match Nv st.h ns cs with
   |none=>none
   |some nw=>match xZ st.h os (io++nw) with
    |none=>none
    | some bs => bif oh (io ++ nw) then (match dC st.h ((rs.cells++os.flatten).map RC.isFro) (cs++bs) with
     |some (cs,u)=>bif oh (vH (rs.cells++os.flatten) cs)&&nr ((rs.cells++os.flatten).map RC.lnk) (io++nw) cs then gn (qA st.h u) (rs.cells++os.flatten) cs else none
     |none=>none) else none
def Dz (as:List AX)(rs:RS)(os:List (List RC))(ns:Nat){X:Type}(unpack:RL (rs.cells++os.flatten)→X)(v:zO)(st:St):Option X:=match rF st as rs os ns v with
 |some d=>some (unpack d)
 |none=>none
def HB (as:List AX)(rs:RS)(os:List (List RC))(ns:Nat)(rs2:RS)(os2:List (List RC))(ns2:Nat){X Y:Type}(up:RL (rs.cells++os.flatten)→X)(iw:RL (rs2.cells++os2.flatten)→Y)(v:zO)(st:St):Option (X⊕Y):=match rF st as rs os ns v with
 |some d=>some (.inl (up d))
 |none=>match rF st as rs2 os2 ns2 v with
  |some d=>some (.inr (iw d))
  |none=>none
def rG:List (List RC)→List zR→List (List zR)
 |[],_=>[]
 |o::os,cs=>cs.take o.length::rG os (cs.drop o.length)
def yW:List (Bool×Nat)→List Nat
 |[]=>[]
 |(true,id)::l=>id::yW l
 |(false,_)::l=>yW l
def HC:List (Bool×Nat)→List Nat
 |[]=>[]
 |(true,_)::l=>HC l
 |(false,id)::l=>id::HC l
def ya:List Nat→List (List zR)→yO
 |id::ids,cs::css=>(id,.box true cs)::ya ids css
 |_,_=>[]
def lY (ids:List Nat):yO:=ids.map fun id=>(id,.gone)
def yVe (nm:Nat)(rs:RS)(os:List (List RC))(ids:List Nat)(d:RL (rs.cells++os.flatten)):zO×yO:=
 let r:=kT nm (rs.cells++os.flatten) d
 let cs:=ue ((rs.cells++os.flatten).map RC.lnk) ids r.1
 (rs.mk (cs.take rs.cells.length),r.2++ya ids (rG os (cs.drop rs.cells.length)))
def Nw (a b:List Nat):Bool:=a.all fun x=> !b.any (Nat.beq x)
def rH (h:Hp):AX→zO→Option (zO×yO)
 |.c (.p p),.c x=>match dC h [p.isKept] [x] with
  |some ([x],u)=>some (.c x,u)
  |_=>none
 |.agg l,.agg xs=>match dC h (l.map PC.isKept) xs with
  |some (xs,u)=>some (.agg xs,u)
  |none=>none
 |_,a=>some (a,[])
def nu (h:Hp):List AX→List zO→Option (List zO×yO)
 |s::l,a::as=>match rH h s a,nu h l as with
  |some (a,u),some (as,us)=>some (a::as,u++us)
  |_,_=>none
 |_,as=>some (as,[])
def uh as (nm n:Nat)(args:List zO)(h:Hp):Option (yO×List Nat×List Nat×XD as):=
 match nu h as args with
 |none=>none
 |some (args,u)=>match gp (qA h u) as args with
  |none=>none
  |some (cs,bs)=>match lX (qA h u) (as.flatMap AX.cells) cs with
   |none=>none
   |some d=>
    let rows:=wP (as.flatMap AX.cells) cs
    let ai:=yW bs++rows
    bif rq h nm n&&Nat.ble n 100&&Nat.ble bs.length vU&&oh ai&&Nw ai (Dv (as.flatMap AX.cells) cs)&&Nw ai (HC bs)&&nr ((as.flatMap AX.cells).map XC.lnk) (bs.map (·.2)) cs then
     some (u,yW bs,rows,d)
    else none
def DA (u:yO)(io rows:List Nat)(rs:RS)(os:List (List RC))(ns nm:Nat)(d:RL (rs.cells++os.flatten)):zO×yO:=
 let r:=yVe nm rs os (io++iu (nm+(rs.cells++os.flatten).length) ns) d
 (r.1,u++(lY rows++r.2))
def nv as (rs:RS)(os:List (List RC))(ns:Nat){X}(S:XD as→Option X)(pack:X→RL (rs.cells++os.flatten))(nm:Nat)(args:List zO)(h:Hp):yG:=
 match uh as nm ((rs.cells++os.flatten).length+ns) args h with
 |none=>.stuck
 |some (u,io,rows,d)=>.call X (S d) fun r=>DA u io rows rs os ns nm (pack r)
def oZ as (rs:RS)(os:List (List RC))(ns:Nat)(rs2:RS)(os2:List (List RC))(ns2:Nat){X Y}(S:XD as→Option (X⊕Y))(pk:X→RL (rs.cells++os.flatten))(fg:Y→RL (rs2.cells++os2.flatten))(nm:Nat)(args:List zO)(h:Hp):yG:=
 match uh as nm (((rs.cells++os.flatten).length+ns)+((rs2.cells++os2.flatten).length+ns2)) args h with
 |none=>.stuck
 |some (u,io,rows,d)=>.call2 X Y (S d) (fun r=>DA u io rows rs os ns nm (pk r)) (fun r=>DA u io rows rs2 os2 ns2 nm (fg r))
def gP (M:zG)(ai:List Nat)(b:Nat):Prop:=∃id∈ai,∃C,M.κ id=some C∧b∈C.fp
structure ny (M:zG) (ai:List Nat) (Ml:zG):Prop where
 H:Ml.H=M.H
 F:Ml.F=fun b=>b<M.H.size∧¬gP M ai b
 G:Ml.G=M.G
def kr (M:zG)(ai:List Nat):Prop:=∀id∈ai,∃o,M.h id=some o∧o.owned=true
theorem gP.own {M ai}(ho:kr M ai){b}(h:gP M ai b):qF M b:=by
 obtain⟨id,ab,C,hC,hb⟩:=h
 obtain⟨o,h1,h2⟩:=ho id ab
 exact⟨id,o,C,h1,h2,hC,hb⟩
theorem o0 {M}(ok:Ok M){ai}(ho:kr M ai){b}(h:M.F b):b<M.H.size∧¬gP M ai b:=⟨ok.Flt b h,fun hh=>(ok.own b (hh.own ho)).1 h⟩
theorem Yj {M M'}(ok:Ok M){ai}(ho:kr M ai){id o}(hn:id∉ai)(hh:M'.h=qW M.h id o)(hκ:M'.κ=M.κ)(hH:M'.H=M.H)(gd:Ok M'){b}(h:M'.G b):b<M.H.size∧¬gP M ai b:=by
 have hf:=gd.GF b h
 refine⟨by have:=gd.Flt b hf;simp_all,fun hd=>?_⟩
 obtain⟨jd,hj,C,hC,hb⟩:=hd
 obtain⟨q,h1,h2⟩:=ho jd hj
 refine(gd.own b ⟨jd,q,C,?_,h2,?_,hb⟩).1 hf
 ·rw[hh,yE _ _ (by grind)];exact h1
 simp_all
theorem yYo {M}(ok:Ok M){ai}(ho:kr M ai){c v t xs}(hn:∀id∈yT c,id∉ai)(hv:zQ M c v)(h:fV M.h c=some ⟨t,xs⟩):
  zU M.H (fun b=>b<M.H.size∧¬gP M ai b) (.sl t) xs (fun _=>some v):=by
 unfold fV at h
 split at h
 ·rename_i sh s ys
  cases h
  cases sh with
  |true=>exact yK (fun b hb=>o0 ok ho (ok.GF b hb)) (by simp) _ _ _ _ (fun _ _=>rfl) hv
  |false=>exact yK (fun b hb=>o0 ok ho hb) (by simp) _ _ _ _ (fun _ _=>rfl) hv
 ·rename_i id r
  have lN:id∉ai:=hn id (by simp[yT])
  split at h
  ·rename_i own s ys ab
   cases h
   cases own with
   |false=>
    obtain⟨C,hC,hO⟩:=ok.obj _ _ ab
    exact yK (fun b hb=>o0 ok ho (ok.GF b hb)) (by simp) _ _ _ _ (by simp) (tv hC hO hv)
   |true=>
    obtain⟨M',h1,h2,h3,h4,h5⟩:=V3 ok ab
    obtain⟨C,hC,hO⟩:=h3.obj id _ (by rw[h2];exact yA _ _ _)
    have:=tv hC hO (hv.ext h4.ext)
    exact yK (fun b hb=>Yj ok ho lN h2 h5 h1 h3 hb) (by grind) _ _ _ _ (by simp) this
  ·rename_i ver ys ab
   cases r with
   |some p=>cases h
   |none=>
    cases h
    obtain⟨M',h1,h2,h3,h4,h5⟩:=V5 ok ab
    obtain⟨C,hC,hO⟩:=h3.obj id _ (by rw[h2];exact yA _ _ _)
    have:=tv (r:=none) hC hO (hv.ext h4.ext)
    exact yK (fun b hb=>Yj ok ho lN h2 h5 h1 h3 hb) (by grind) _ _ _ _ (by simp) this
  ·cases h
 ·rename_i id i ver
  have lN:id∉ai:=hn id (by simp[yT])
  split at h
  ·rename_i v' ys ab
   cases dm:Nat.beq v' ver with
   |false=>rw[dm] at h;cases h
   |true=>
    rw[dm] at h
    cases h
    have e:v'=ver:=by simpa using dm
    subst e
    obtain⟨C,hC,hO⟩:=ok.obj _ _ ab
    obtain⟨C',au,bP,_,aL⟩:=hv
    rw[hC] at au;cases au
    obtain⟨rb,rl,CY,qy⟩:=aL hO.1
    by_cases hi:i<ys.length
    ·obtain⟨B,lO,v2,k1,k2,k3,k4,k5,k6⟩:=xo hO hi
     rw[CY] at k3
     cases k3
     rw[show ys.getD i []=ys[i] by simp[List.getD,hi]]
     simp only[zU]
     cases rb with
     |none=>
      obtain⟨rfl,h0⟩:=qy
      grind
     |some R=>
      obtain⟨a,c,rfl,h1,h2,h3⟩:=qy
      refine⟨_,_,c,rfl,rfl,h1,?_⟩
      by_cases h0:ys[i].length=0
      ·simp_all
      ·have ha:a=0:=by omega
       subst ha
       have hR:R∈C.fp:=by
        simp only[zT.fp,List.mem_append,List.mem_filterMap]
        grind
       refine .inr ⟨R,0,rfl,⟨?_,fun hd=>?_⟩,fun j hj=>?_⟩
       ·have:=k6 R rfl 0 (by omega)
        unfold yD at this
        grind
       ·obtain⟨jd,hj,D,hD,hb⟩:=hd
        obtain⟨q,q1,q2⟩:=ho jd hj
        exact ok.disj jd id q _ D C R (by grind) q1 ab q2 rfl hD hC hb hR
       ·simp only[zU,Ty.size,Nat.zero_add,Nat.mul_one,Nat.add_zero]
        exact by grind
    ·have:C.rows[i]? =none:=List.getElem?_eq_none (by have:=hO.2.2.2.1;omega)
     simp_all
  ·cases h
 ·cases h
def TrX (M:zG)(ai:List Nat)(c c':zR):Prop:=∀v Ml,ny M ai Ml→zQ M c v→zQ Ml c' v
theorem yUl {M}(ok:Ok M){ai}(ho:kr M ai){p c d}(hn:∀id∈yT c,id∉ai)(h:oT M.h p c=some d):TrX M ai c (xR p d):=by
 intro v Ml lo hv
 unfold oT at h
 split at h
 ·rename_i k j n
  cases e:dv j k with
  |false=>simp_all
  |true=>rw[e] at h;cases h;rw[←od e];exact hv
 ·cases h;exact hv
 ·show zU Ml.H Ml.F _ _ _
  rw[lo.H,lo.F]
  unfold tV at h
  split at h
  ·cases h
   rw[show v=.slice none 0 0 from hv]
   exact Dh
  ·split at h
   ·rename_i s ys hr
    obtain⟨e,hx⟩:=gL h
    subst e
    subst hx
    exact yYo ok ho hn hv hr
   ·cases h
 ·obtain⟨e,hx⟩:=gL h
  subst e
  subst hx
  show zU Ml.H Ml.G _ _ _
  rw[lo.H,lo.G]
  exact hv
 ·cases h
  rw[show v=.slice none 0 0 from hv]
  exact Dh
 ·rename_i f g
  cases e:Nat.beq f g with
  |false=>simp_all
  |true=>
   have:f=g:=by simp_all
   subst this
   obtain⟨cv,rfl,hc⟩:=hv
   refine⟨cv,rfl,?_⟩
   generalize cv.toList=l at hc
   cases l with
   |nil=>trivial
   |cons _ _=>exact hc.elim
 ·exact hv
 ·exact hv
 ·cases h
def nz (M:zG)(ai:List Nat)(κ:Nat→Option zT)(c c':zR):Prop:=∀v Ml,ny M ai Ml→Ml.κ=κ→zQ M c v→zQ Ml c' v
structure yPa (M:zG) (id:Nat) (o:Obj) (C:zT):Prop where
 κ:M.κ id=some C
 rep:∀Ml:zG,Ml.H=M.H→Ml.G=M.G→yJ Ml o {C with ver:=0}
 own:o.owned=true
 was:∃q,M.h id=some q∧q.owned=true
theorem vCx {M Ml}(hH:Ml.H=M.H){cg C}(h:yJ M (.imap cg) C):yJ Ml (.imap cg) {C with ver:=0}:=by
 obtain⟨B,es,ck,h1,h2,h3,h4,h5⟩:=h
 exact⟨B,es,ck,h1,h2,by simp_all,h4,h5⟩
theorem Yk {j l ids c cs}(h:nr (some j::l) ids (c::cs)=true):∃id,c=.ptr id 0∧ids[j]? =some id∧nr l ids cs=true:=by
 cases c with
 |ptr id off=>
  cases off with
  |zero=>
   have h:((match ids[j]? with|some k=>Nat.beq id k|none=>false)&&nr l ids cs)=true:=h
   rw[Bool.and_eq_true] at h
   have h1:=h.1
   split at h1
   all_goals simp_all
  |succ _=>cases h
 |_=>cases h
theorem yc {M}(ok:Ok M){ai}(ho:kr M ai){κ}:∀{l cs d n ids},lX M.h l cs=some d→nr (l.map XC.lnk) ids cs=true→(∀id∈Dv l cs,id∉ai)→
  (wP l cs).length=(eG l d n).2.length∧(∀(i:Nat) id o,(wP l cs)[i]? =some id→(eG l d n).2[i]? =some o→∃C,yPa M id o C)∧
   ((∀i id C,(wP l cs)[i]? =some id→M.κ id=some C→κ (n+i)=some {C with ver:=0})→(∀j id,ids[j]? =some id→κ j=M.κ id)→zI (nz M ai κ) cs (eG l d n).1)
 |[],[],_,n,_,_,_,_=>⟨rfl,nofun,fun _ _=>trivial⟩
 |x::l,c::cs,d,n,ids,h,hl,hn=>by
  unfold lX at h
  split at h
  ·rename_i y ys h1 h2
   cases h
   cases x with
   |p p=>
    have kt:∀id∈yT c,id∉ai:=fun id ab=>hn id (List.mem_append_left _ ab)
    obtain⟨k1,k2,k3⟩:=yc ok ho (κ:=κ) (n:=n) (ids:=ids) h2 hl (fun id ab=>hn id (List.mem_append_right _ ab))
    exact⟨k1,k2,fun hκ hj=>⟨fun v Ml lo _ hv=>yUl ok ho kt h1 v Ml lo hv,k3 hκ hj⟩⟩
   |own t=>
    cases c with
    |osl id r=>
     cases r with
     |some _=>cases h1
     |none=>
      have h1:(match M.h id with|some (.arr true s xs)=>eh s t xs|_=>none)=some y:=h1
      split at h1
      ·rename_i s xs ab
       obtain⟨e,hx⟩:=gL h1
       subst e
       subst hx
       obtain⟨C,hC,hO⟩:=ok.obj id _ ab
       obtain⟨k1,k2,k3⟩:=yc ok ho (κ:=κ) (n:=n+1) (ids:=ids) h2 hl hn
       refine⟨by simp only[wP,eG,List.length_cons,k1],fun i jd o hi kb=>?_,fun hκ hj=>⟨fun v Ml lo hk hv=>?_,k3 (fun i jd D hi hD=>?_) hj⟩⟩
       ·cases i with
        |zero=>
         cases hi
         cases kb
         refine⟨C,hC,fun Ml e1 e2=>?_,rfl,_,ab,rfl⟩
         obtain⟨q1,q2,q3,q4⟩:=hO
         refine⟨q1,q2,q3,?_⟩
         rw[e1,e2]
         exact q4
        |succ i=>exact k2 i jd o hi kb
       ·obtain⟨D,hD,hS⟩:=hv
        rw[hC] at hD;cases hD
        refine⟨{C with ver:=0},by rw[hk];exact hκ 0 id C rfl hC,?_⟩
        rw[lo.H]
        exact hS
       ·have:=hκ (i+1) jd D hi hD
        rw[←this];congr 1;omega
      ·cases h1
    |_=>cases h1
   |mat=>
    cases c with
    |osl id r=>
     cases r with
     |some _=>cases h1
     |none=>
      have h1:(match M.h id with|some (.mat _ xs)=>some xs|_=>none)=some y:=h1
      split at h1
      ·rename_i ver xs ab
       cases h1
       obtain⟨C,hC,hO⟩:=ok.obj id _ ab
       obtain⟨k1,k2,k3⟩:=yc ok ho (κ:=κ) (n:=n+1) (ids:=ids) h2 hl hn
       refine⟨by simp only[wP,eG,List.length_cons,k1],fun i jd o hi kb=>?_,fun hκ hj=>⟨fun v Ml lo hk hv=>?_,k3 (fun i jd D hi hD=>?_) hj⟩⟩
       ·cases i with
        |zero=>
         cases hi
         cases kb
         refine⟨C,hC,fun Ml e1 e2=>?_,rfl,_,ab,rfl⟩
         obtain⟨q1,q2⟩:=hO
         refine⟨rfl,?_⟩
         rw[e1]
         exact q2
        |succ i=>exact k2 i jd o hi kb
       ·obtain⟨D,hD,hS⟩:=hv
        rw[hC] at hD;cases hD
        refine⟨{C with ver:=0},by rw[hk];exact hκ 0 id C rfl hC,?_⟩
        show wJ Ml.H {C with ver:=0} 0 C.len v
        rw[lo.H]
        exact hS
       ·have:=hκ (i+1) jd D hi hD
        rw[←this];congr 1;omega
      ·cases h1
    |_=>cases h1
   |map=>
    cases c with
    |map id=>
     have h1:(match M.h id with|some (.imap cg)=>some cg|_=>none)=some y:=h1
     split at h1
     ·rename_i cg ab
      cases h1
      obtain⟨C,hC,hO⟩:=ok.obj id _ ab
      obtain⟨k1,k2,k3⟩:=yc ok ho (κ:=κ) (n:=n+1) (ids:=ids) h2 hl hn
      refine⟨by simp only[wP,eG,List.length_cons,k1],fun i jd o hi kb=>?_,fun hκ hj=>⟨fun v Ml lo hk hv=>?_,k3 (fun i jd D hi hD=>?_) hj⟩⟩
      ·cases i with
       |zero=>
        cases hi
        cases kb
        exact⟨C,hC,fun Ml e1 e2=>vCx e1 hO,rfl,_,ab,rfl⟩
       |succ i=>exact k2 i jd o hi kb
      ·obtain⟨D,B,hD,hB,e⟩:=hv
       rw[hC] at hD;cases hD
       exact⟨{C with ver:=0},B,by rw[hk];exact hκ 0 id C rfl hC,hB,e⟩
      ·have:=hκ (i+1) jd D hi hD
       rw[←this];congr 1;omega
     ·cases h1
    |_=>cases h1
   |link j=>
    obtain⟨id,rfl,ab,fe⟩:=Yk hl
    obtain⟨k1,k2,k3⟩:=yc ok ho (κ:=κ) (n:=n) (ids:=ids) h2 fe hn
    refine⟨k1,k2,fun hκ hj=>⟨fun v Ml lo hk hv=>?_,k3 hκ hj⟩⟩
    obtain⟨C,B,hC,hB,e⟩:=hv
    exact⟨C,B,by rw[hk,hj j id ab];exact hC,hB,e⟩
  ·cases h
 |[],_::_,_,_,_,h,_,_=>by cases h
 |_::_,[],_,_,_,h,_,_=>by cases h
theorem DB {M Ml ai}(lo:ny M ai Ml):∀{cs aE vs},zI (nz M ai Ml.κ) cs aE→zI (zQ M) cs vs→zI (zQ Ml) aE vs
 |[],[],[],_,_=>trivial
 |_::_,_::_,_::_,h,k=>⟨h.1 _ _ lo rfl k.1,DB lo h.2 k.2⟩
def yd (ai:List Nat)(bs:List (Bool×Nat)):Prop:=∀b∈bs,(b.1=true→b.2∈ai)∧(b.1=false→b.2∉ai)
theorem yX5 {M}(ok:Ok M){ai}(ho:kr M ai){io id cells}(h:xY M.h io id=some cells)(hm:(io=true→id∈ai)∧(io=false→id∉ai)):
  ∃C B,M.κ id=some C∧C.blk=some B∧∀Ml bn,ny M ai Ml→zI (nz M ai Ml.κ) cells bn→yJ Ml (bif io then .box true bn else .robox bn) C:=by
 unfold xY at h
 split at h
 ·rename_i cs ab
  cases h
  obtain⟨C,hC,B,vals,e,h1,h2,h3,h4,h5⟩:=ok.obj id _ ab
  exact⟨C,B,hC,h1,fun Ml bn lo ht=>⟨B,vals,e,h1,h2,by rw[lo.H];exact h3,DB lo ht h4,by simp⟩⟩
 ·rename_i own cs ab
  cases h
  obtain⟨C,hC,B,vals,e,h1,h2,h3,h4,h5⟩:=ok.obj id _ ab
  refine⟨C,B,hC,h1,fun Ml bn lo ht=>⟨B,vals,e,h1,h2,by rw[lo.H];exact h3,DB lo ht h4,?_⟩⟩
  rw[lo.F]
  cases own with
  |false=>exact o0 ok ho (ok.GF B (h5 rfl))
  |true=>
   refine⟨by grind,fun hd=>?_⟩
   obtain⟨jd,hj,D,hD,hb⟩:=hd
   obtain⟨q,q1,q2⟩:=ho jd hj
   exact ok.disj jd id q _ D C B (by grind) q1 ab q2 rfl hD hC hb (by simp[zT.fp,h1])
 ·rename_i cs ab
  cases h
  obtain⟨C,hC,B,vals,e,h1,h2,h3,h4,h5⟩:=ok.obj id _ ab
  refine⟨C,B,hC,h1,fun Ml bn lo ht=>⟨B,vals,e,h1,h2,by rw[lo.H];exact h3,DB lo ht h4,?_⟩⟩
  rw[lo.F]
  exact o0 ok ho h5
 ·cases h
def Nx (M:zG)(ai:List Nat)(bs:List (Bool×Nat))(mk:List zR→List Obj)(cs:List zR):Prop:=∀(Ml:zG) (aE:List zR),ny M ai Ml→zI (nz M ai Ml.κ) cs aE→
 zI (fun(b:Bool×Nat) o=>∃C B,M.κ b.2=some C∧C.blk=some B∧yJ Ml o C∧o.owned=b.1) bs (mk aE)
theorem HD {M}(ok:Ok M){ai}(ho:kr M ai):∀{ls ids cs bs},fJ M.h ls ids=some (cs,bs)→yd ai bs→
  cs.length=(ls.flatMap (·.2)).length∧bs=(ls.map (·.1)).zip ids∧ids.length=ls.length∧Nx M ai bs (Dw ls) cs
 |[],[],cs,bs,h,_=>by cases h;exact⟨rfl,rfl,rfl,fun _ _ _ _=>trivial⟩
 |(io,l)::ls,id::ids,cs,bs,h,hf=>by
  unfold fJ at h
  split at h
  ·rename_i cells rest uf h1 h2
   obtain⟨hl,h⟩:=vN h
   cases h
   have hl:cells.length=l.length:=Nat.eq_of_beq_eq_true hl
   obtain⟨C,B,hC,hB,hO⟩:=yX5 ok ho h1 (hf _ (List.mem_cons_self ..))
   obtain⟨k1,k2,k3,k4⟩:=HD ok ho h2 fun b hb=>hf b (by grind)
   refine⟨by simp_all,by simp_all,by simp[k3],fun Ml aE lo ht=>?_⟩
   have kV:=zI.take l.length ht
   have kl:=zI.drop l.length ht
   rw[←hl,List.drop_left] at kl
   refine⟨⟨C,B,hC,hB,?_,?_⟩,?_⟩
   ·simp_all
   ·cases io<;>rfl
   ·rw[←hl];exact k4 Ml _ lo kl
  ·cases h
theorem DC {h}:∀{ls ids cs bs},fJ h ls ids=some (cs,bs)→bs.length=ls.length
 |[],[],_,_,e=>by cases e;rfl
 |(io,l)::ls,id::ids,cs,bs,e=>by
  unfold fJ at e
  split at e
  ·rename_i cells rest uf h1 h2
   obtain⟨_,e⟩:=vN e
   cases e
   simp[DC h2]
  ·cases e
theorem yXg {h}{s:AX}{a cs bs}(e:s.get h a=some (cs,bs)):bs.length=s.nb:=by
 unfold AX.get at e
 split at e
 ·cases e;rfl
 ·obtain⟨_,e⟩:=vN e
  cases e;rfl
 ·rw[DC e];rfl
 ·obtain⟨_,e⟩:=vN e
  rw[DC e];rfl
 ·split at e
  ·rw[DC e];simp[xX,AX.nb]
  ·cases e
 ·cases e
theorem Ny {h}:∀{n id ids},Dt h n id=some ids→ids.head? =some id∧ids.length=n
 |1,_,_,e=>by cases e;simp
 |n+2,id,ids,e=>by
  unfold Dt at e
  split at e
  ·split at e
   ·split at e
    ·rename_i l hl
     cases e
     exact⟨rfl,by simp[(Ny hl).2]⟩
    ·cases e
   ·cases e
  ·cases e
theorem yLo {M}(ok:Ok M){ai}(ho:kr M ai){s:AX}{a v cs bs}(hv:zN M a v)(h:s.get M.h a=some (cs,bs))(hf:yd ai bs):
  cs.length=s.cells.length∧Nx M ai bs (fun aE=>s.boxes aE) cs∧∀Ml aE n,ny M ai Ml→zI (nz M ai Ml.κ) cs aE→(∀i b,bs[i]? =some b→Ml.κ (n+i)=M.κ b.2)→zN Ml (s.mk n aE) v:=by
 unfold AX.get at h
 split at h
 ·cases h
  refine⟨rfl,fun Ml aE lo ht=>trivial,fun Ml aE n lo ht _=>?_⟩
  match aE,ht with
  |[c'],ht=>exact ht.1 v Ml lo rfl hv
 ·rename_i l xs
  obtain⟨hl,h'⟩:=vN h
  cases h'
  have hl:cs.length=l.length:=Nat.eq_of_beq_eq_true hl
  obtain⟨vs,rfl,hx⟩:=hv
  exact⟨by simp[AX.cells,hl],fun Ml aE lo ht=>trivial,fun Ml aE n lo ht _=>⟨vs,rfl,DB lo ht hx⟩⟩
 ·rename_i io l id
  obtain⟨k1,k2,k3,k4⟩:=HD ok ho h hf
  refine⟨by rw[k1];simp[AX.cells],k4,fun Ml aE n lo ht hκ=>?_⟩
  obtain⟨C,B,hC,hB,e⟩:=hv
  exact⟨C,B,by have:=hκ 0 (io,id) (by rw[k2];rfl);simp_all,hB,e⟩
 ·rename_i f aZ g ids
  obtain⟨hg,h'⟩:=vN h
  have Na:f=g:=Nat.eq_of_beq_eq_true hg
  subst Na
  obtain⟨k1,k2,k3,k4⟩:=HD ok ho h' hf
  refine⟨by rw[k1];rfl,k4,fun Ml aE n lo ht hκ=>?_⟩
  obtain⟨cv,rfl,hc⟩:=hv
  refine⟨cv,rfl,?_⟩
  have l2:=hc.length
  refine zI.of_get (by simp_all) fun i h1 h2=>?_
  have hi:i<ids.length:=by omega
  obtain⟨C,B,q1,q2,q3⟩:=hc.get i hi h2
  have hb:bs[i]? =some ((aZ.map (·.1))[i]'(by simp at h1⊢;omega),ids[i]):=by
   grind
  grind
 ·rename_i ls id
  split at h
  ·rename_i ids ij
   obtain⟨k1,k2,k3,k4⟩:=HD ok ho h hf
   refine⟨by rw[k1];simp[AX.cells,xX,List.flatMap_map],k4,fun Ml aE n lo ht hκ=>?_⟩
   obtain⟨C,B,hC,hB,e⟩:=hv
   have hb:bs[0]? =some (true,id):=by
    obtain⟨h1,h2⟩:=Ny ij
    rw[k2]
    cases ids with
    |nil=>cases h1
    |cons i ids=>
     cases h1
     cases ls with
     |nil=>cases k3
     |cons l ls=>rfl
   exact⟨C,B,by grind,hB,e⟩
  ·cases h
 ·cases h
theorem Yl {M}(ok:Ok M){ai}(ho:kr M ai):∀{l as vs cs bs},zI (zN M) as vs→gp M.h l as=some (cs,bs)→yd ai bs→
  cs.length=(l.flatMap AX.cells).length∧(∀n,Nx M ai bs (fun aE=>(ug l aE n).2) cs)∧
   ∀Ml aE n,ny M ai Ml→zI (nz M ai Ml.κ) cs aE→(∀i b,bs[i]? =some b→Ml.κ (n+i)=M.κ b.2)→zI (zN Ml) (ug l aE n).1 vs
 |[],[],[],cs,bs,_,h,_=>by cases h;exact⟨rfl,fun _ _ _ _ _=>trivial,fun _ _ _ _ _ _=>trivial⟩
 |s::l,a::as,v::vs,cs,bs,hv,h,hf=>by
  unfold gp at h
  split at h
  ·rename_i iY Ym Yn bs2 h1 h2
   cases h
   have hf1:yd ai Ym:=fun b hb=>hf b (by grind)
   have hf2:yd ai bs2:=fun b hb=>hf b (by grind)
   obtain⟨k1,k2,k3⟩:=yLo ok ho hv.1 h1 hf1
   obtain⟨k4,k5,k6⟩:=Yl ok ho hv.2 h2 hf2
   have cut:∀{κ:Nat→Option zT} {aE:List zR},zI (nz M ai κ) (iY++Yn) aE→zI (nz M ai κ) iY (aE.take s.cells.length)∧zI (nz M ai κ) Yn (aE.drop s.cells.length):=by
    intro κ aE ht
    have kV:=zI.take s.cells.length ht
    have kl:=zI.drop s.cells.length ht
    simp_all
   refine⟨by simp_all,fun n Ml aE lo ht=>?_,fun Ml aE n lo ht hκ=>?_⟩
   ·obtain⟨kV,kl⟩:=cut ht
    exact(k2 Ml _ lo kV).append (k5 _ Ml _ lo kl)
   ·obtain⟨kV,kl⟩:=cut ht
    have hlen:=(k2 Ml _ lo kV).length
    refine⟨k3 Ml _ n lo kV fun i b hb=>hκ i b ?_,k6 Ml _ _ lo kl fun i b hb=>?_⟩
    ·grind
    ·have:=hκ (Ym.length+i) b (by grind)
     grind
  ·cases h
def κX (M : zG) (bs : List (Bool × Nat)) (rows : List Nat) : Nat → Option zT := fun n => bif Nat.ble vU n then (match rows[n-vU]? with
  |some id=>(M.κ id).map fun C=>{C with ver:=0}
  |none=>none)
 else (match bs[n]? with
  |some b=>M.κ b.2
  |none=>none)
theorem ui:∀{bs} {i id:Nat},bs[i]? =some (true,id)→id∈yW bs
 |(true,a)::bs,0,id,h=>by cases h;exact List.mem_cons_self ..
 |(true,a)::bs,i+1,id,h=>List.mem_cons_of_mem _ (ui (bs:=bs) (i:=i) h)
 |(false,a)::bs,i+1,id,h=>ui (bs:=bs) (i:=i) h
theorem Nz:∀{bs} {i j id:Nat},(yW bs).Nodup→bs[i]? =some (true,id)→bs[j]? =some (true,id)→i=j
 |(true,a)::bs,0,0,id,_,_,_=>rfl
 |(true,a)::bs,0,j+1,id,hn,h,k=>by
  cases h
  exact absurd (ui (bs:=bs) (i:=j) k) (List.nodup_cons.1 hn).1
 |(true,a)::bs,i+1,0,id,hn,h,k=>by
  cases k
  exact absurd (ui (bs:=bs) (i:=i) h) (List.nodup_cons.1 hn).1
 |(true,a)::bs,i+1,j+1,id,hn,h,k=>by rw[Nz (bs:=bs) (List.nodup_cons.1 hn).2 h k]
 |(false,a)::bs,i+1,j+1,id,hn,h,k=>by rw[Nz (bs:=bs) hn h k]
theorem yOw {M}(ok:Ok M){l as vs cs bs}{d:XD l}(hv:zI (zN M) as vs)(hg:gp M.h l as=some (cs,bs))(hd:lX M.h (l.flatMap AX.cells) cs=some d)
  (cC:(yW bs++wP (l.flatMap AX.cells) cs).Nodup) (nh:∀id∈Dv (l.flatMap AX.cells) cs,id∉yW bs++wP (l.flatMap AX.cells) cs) (NA:∀id∈HC bs,id∉yW bs++wP (l.flatMap AX.cells) cs) (hlen:bs.length≤vU) (o6:nr ((l.flatMap AX.cells).map XC.lnk) (bs.map (·.2)) cs=true) (ho:kr M (yW bs++wP (l.flatMap AX.cells) cs)):
  ∃Ml:zG,ny M (yW bs++wP (l.flatMap AX.cells) cs) Ml∧Ml.h=(gq l d).2∧Ok Ml∧(∀b,qF Ml b→gP M (yW bs++wP (l.flatMap AX.cells) cs) b)∧zI (zN Ml) (gq l d).1 vs∧Ml.κ=κX M bs (wP (l.flatMap AX.cells) cs):=by
 generalize eH:yW bs++wP (l.flatMap AX.cells) cs=ai at*
 have rI:yd ai bs:=by
  intro b hb
  obtain⟨i,hi,rfl⟩:=List.getElem_of_mem hb
  have Cw:bs[i]? =some bs[i]:=List.getElem?_eq_getElem hi
  refine⟨fun e=>?_,fun e=>?_⟩
  ·rw[←eH]
   have:bs[i]? =some (true,bs[i].2):=by rw[Cw,←e]
   exact List.mem_append_left _ (ui this)
  ·apply NA
   clear hg hd cC nh NA hlen ho eH hv o6
   induction bs generalizing i with
   |nil=>exact absurd hi (Nat.not_lt_zero i)
   |cons c bs ih=>
    obtain⟨io,a⟩:=c
    cases i with
    |zero=>cases io<;>first|exact List.mem_cons_self .. |cases e
    |succ i=>cases io<;>first|exact List.mem_cons_of_mem _ (by grind)|exact ih i (by simpa using hi) (List.getElem_mem _) (List.getElem?_eq_getElem _) e
 let κ:=κX M bs (wP (l.flatMap AX.cells) cs)
 obtain⟨k1,k2,k3⟩:=yc ok ho (κ:=κ) (n:=vU) (ids:=bs.map (·.2)) hd o6 nh
 have ht : zI (nz M ai κ) cs (eG (l.flatMap AX.cells) d vU).1 := k3 (fun i id C hi hC=>by
  show κX M bs _ (vU+i)=_
  unfold κX
  rw[Nat.ble_eq_true_of_le (Nat.le_add_right _ _),show vU+i-vU=i by omega,hi]
  simp[hC]) fun j id hj=>by
  rw[List.getElem?_map] at hj
  obtain⟨b,hb,rfl⟩:=Option.map_eq_some_iff.1 hj
  have hi:j<bs.length:=by grind
  show κX M bs _ j=_
  unfold κX
  have:Nat.ble vU j=false:=by
   cases h:Nat.ble vU j with
   |false=>rfl
   |true=>have:=Nat.le_of_ble_eq_true h;omega
  rw[this,hb]
  rfl
 obtain⟨a1,a2,a3⟩:=Yl ok ho hv hg rI
 let Ml:zG:={κ:=κ,F:=fun b=>b<M.H.size∧¬gP M ai b,G:=M.G,h:=(gq l d).2,H:=M.H}
 have lo:ny M ai Ml:=⟨rfl,rfl,rfl⟩
 have uj:=a2 0 Ml _ lo ht
 have hκbox:∀i b,bs[i]? =some b→Ml.κ (0+i)=M.κ b.2:=fun i b hb=>by
  have hi:i<bs.length:=by grind
  show κX M bs _ (0+i)=_
  unfold κX
  have:Nat.ble vU (0+i)=false:=by
   cases h:Nat.ble vU (0+i) with
   |false=>rfl
   |true=>have:=Nat.le_of_ble_eq_true h;omega
  rw[this,Nat.zero_add,hb]
  rfl
 have ix:∀id o,Ml.h id=some o→∃jd C,Ml.κ id=some C∧yJ Ml o C∧(o.owned=true→jd∈ai∧∃D,M.κ jd=some D∧D.fp=C.fp)∧
   ((Nat.ble vU id=true∧(wP (l.flatMap AX.cells) cs)[id-vU]? =some jd)∨(Nat.ble vU id=false∧∃io,bs[id]? =some (io,jd)∧o.owned=io)):=by
  intro id o h
  have h:Dx (ug l (eG (l.flatMap AX.cells) d vU).1 0).2 (eG (l.flatMap AX.cells) d vU).2 id=some o:=h
  unfold Dx at h
  cases hb:Nat.ble vU id with
  |true=>
   rw[hb] at h
   have h:(eG (l.flatMap AX.cells) d vU).2[id-vU]? =some o:=h
   have hi:=(List.getElem?_eq_some_iff.1 h).1
   have hj:(wP (l.flatMap AX.cells) cs)[id-vU]? =some ((wP (l.flatMap AX.cells) cs)[id-vU]'(by omega)):=by simp
   obtain⟨C,hR⟩:=k2 _ _ _ hj h
   refine⟨_,{C with ver:=0},?_,hR.rep Ml rfl rfl,fun _=>⟨?_,C,hR.κ,rfl⟩,.inl ⟨rfl,hj⟩⟩
   ·show κX M bs _ id=_
    unfold κX
    rw[hb,hj]
    simp[hR.κ]
   ·rw[←eH]
    exact by simp
  |false=>
   rw[hb] at h
   have hi:=(List.getElem?_eq_some_iff.1 h).1
   have NB:id<bs.length:=by rw[uj.length];exact hi
   have hq:=uj.get id NB hi
   rw[List.getElem?_eq_getElem hi] at h
   cases h
   obtain⟨C,B,q1,q2,q3,q4⟩:=hq
   have Cw:bs[id]? =some bs[id]:=List.getElem?_eq_getElem NB
   refine⟨bs[id].2,C,?_,q3,fun e=>⟨(rI _ (List.getElem_mem NB)).1 (by rw[←q4];exact e),C,q1,rfl⟩,by grind⟩
   have:=hκbox id _ Cw
   rw[Nat.zero_add] at this
   rw[this];exact q1
 have aA:∀b,qF Ml b→gP M ai b:=fun b ⟨id,o,C,h1,h2,h3,h4⟩=>by
  obtain⟨jd,C',q1,_,q3,_⟩:=ix id o h1
  rw[h3] at q1
  cases q1
  obtain⟨p1,D,p2,p3⟩:=q3 h2
  exact⟨jd,p1,D,p2,by rw[p3];exact h4⟩
 refine⟨Ml,lo,rfl,⟨fun id o h=>?_,fun id h=>?_,fun i j oi oj Ci Cj b kL h1 h2 h3 h4 h5 h6 h7 h8=>?_,fun b hb=>⟨fun hf=>hf.2 (aA b hb),(ok.own b ((aA b hb).own ho)).2⟩,fun b hb=>o0 ok ho (ok.GF b hb),fun b hb=>hb.1⟩,aA,a3 Ml _ 0 lo ht hκbox,rfl⟩
 ·obtain⟨jd,C,q1,q2,_⟩:=ix id o h
  exact⟨C,q1,q2⟩
 ·have h:Dx (ug l (eG (l.flatMap AX.cells) d vU).1 0).2 (eG (l.flatMap AX.cells) d vU).2 id=none:=h
  unfold Dx at h
  show κX M bs _ id=none
  unfold κX
  cases hb:Nat.ble vU id with
  |true=>
   rw[hb] at h
   have h:(eG (l.flatMap AX.cells) d vU).2[id-vU]? =none:=h
   rw[List.getElem?_eq_none_iff,←k1] at h
   rw[List.getElem?_eq_none h]
   rfl
  |false=>
   rw[hb] at h
   have h:(ug l (eG (l.flatMap AX.cells) d vU).1 0).2[id]? =none:=h
   rw[List.getElem?_eq_none_iff,←uj.length] at h
   rw[List.getElem?_eq_none h]
   rfl
 ·obtain⟨ji,Ci',p1,_,p3,p4⟩:=ix i oi h1
  obtain⟨jj,Cj',q1,_,q3,q4⟩:=ix j oj h2
  rw[h5] at p1;cases p1
  rw[h6] at q1;cases q1
  obtain⟨p5,Di,p6,p7⟩:=p3 h3
  obtain⟨q5,Dj,q6,q7⟩:=q3 h4
  obtain⟨oi',r1,r2⟩:=ho ji p5
  obtain⟨oj',r3,r4⟩:=ho jj q5
  refine ok.disj ji jj oi' oj' Di Dj b (fun e=>?_) r1 r3 r2 r4 p6 q6 (by rw[p7];exact h7) (by rw[q7];exact h8)
  subst e
  rw[←eH] at cC
  obtain⟨n1,n2,n3⟩:=List.nodup_append.1 cC
  rcases p4 with⟨p8,p9⟩|⟨p8,io,p9,o9⟩<;>rcases q4 with⟨q8,q9⟩|⟨q8,io',q9,HE⟩
  ·have:=(List.getElem?_inj (by grind) n2).1 (p9.trans q9.symm)
   have e1:=Nat.le_of_ble_eq_true p8
   have e2:=Nat.le_of_ble_eq_true q8
   exact kL (by omega)
  ·rw[h4] at HE
   subst HE
   exact n3 _ (ui q9) _ (List.mem_of_getElem? p9) rfl
  ·rw[h3] at o9
   subst o9
   exact n3 _ (ui p9) _ (List.mem_of_getElem? q9) rfl
  ·rw[h3] at o9
   rw[h4] at HE
   subst o9
   subst HE
   exact kL (Nz n1 p9 q9)
theorem rJ {n}:∀{ids h},qA h (lY ids) n=if n∈ids then some .gone else h n
 |[],_=>by rfl
 |id::ids,h=>by
  show qA (qW h id .gone) (lY ids) n=_
  rw[rJ (ids:=ids)]
  by_cases e:n=id
  ·subst e;simp[yA]
  ·rw[yE _ _ e];simp[e]
def zG.overX (M L:zG)(ai:List Nat):zG:={κ:=M.κ,F:=fun b=>M.F b∨L.G b,G:=L.G,h:=qA M.h (lY ai),H:=L.H}
theorem zG.overX_ok {M Ml L ai}(ok:Ok M)(fc:Ok L)(lo:ny M ai Ml)(ho:kr M ai)(hand:∀b,qF Ml b→gP M ai b)(g:fG Ml L):
  Ok (M.overX L ai)∧yL M (M.overX L ai)∧(∀b,qF (M.overX L ai) b→qF M b∧¬gP M ai b):=by
 have cc:∀b,b<M.H.size→¬gP M ai b→L.H[b]? =M.H[b]? :=fun b hb hn=>by rw[g.same b (by rw[lo.F];simp_all),lo.H]
 have cM:M.H.size≤L.H.size:=by have:=g.size;rw[lo.H] at this;exact this
 have hG:∀b,L.G b→b<M.H.size→M.G b∨gP M ai b:=fun b hb hs=>by
  rcases g.Gb b hb (by rw[lo.H];exact hs) with h|h
  ·rw[lo.G] at h;simp_all
  simp_all
 have Yo:∀b,M.F b→L.H[b]? =M.H[b]? :=fun b h=>cc b (o0 ok ho h).1 (o0 ok ho h).2
 have x:yB M (M.overX L ai):=⟨fun id C h=>⟨C,h,C.le_refl⟩,fun b h=>.inl h,fun b h=>g.G b (by rw[lo.G];exact h),fun b h=>Yo b h,fun b h=>Yo b (ok.GF b h),fun b h=>by
  have:=g.bsz b (by rw[lo.H];exact h)
  rw[lo.H] at this
  exact this⟩
 have ix:∀id o,(M.overX L ai).h id=some o→o.owned=true→id∉ai∧M.h id=some o:=fun id o h fb=>by
  have h:qA M.h (lY ai) id=some o:=h
  rw[rJ] at h
  by_cases hm:id∈ai
  ·rw[if_pos hm] at h;cases h;cases fb
  simp_all
 have NC:∀id o C,id∉ai→M.h id=some o→o.owned=true→M.κ id=some C→∀b∈C.fp,¬gP M ai b:=fun id o C hm h fb hC b hb ⟨jd,hj,D,hD,Nf⟩=>by
  obtain⟨q,q1,q2⟩:=ho jd hj
  exact ok.disj id jd o q C D b (by grind) h q1 fb q2 hC hD hb Nf
 have aA:∀b,qF (M.overX L ai) b→qF M b∧¬gP M ai b:=fun b ⟨id,o,C,h1,h2,h3,h4⟩=>by
  obtain⟨k1,k2⟩:=ix id o h1 h2
  exact⟨⟨id,o,C,k2,h2,h3,h4⟩,NC id o C k1 k2 h2 h3 b h4⟩
 refine⟨⟨fun id o h=>?_,fun id h=>?_,fun i j oi oj Ci Cj b kL h1 h2 h3 h4 h5 h6 h7 h8=>?_,fun b h=>⟨fun hf=>?_,?_⟩,fun b h=>.inr h,fun b h=>?_⟩,⟨x,cM,fun b hb hn=>cc b hb fun hh=>hn (hh.own ho),by grind,fun b h hs=>?_,fun b h hs=>?_⟩,aA⟩
 ·have h:qA M.h (lY ai) id=some o:=h
  rw[rJ] at h
  by_cases hm:id∈ai
  ·rw[if_pos hm] at h
   cases h
   obtain⟨q,q1,q2⟩:=ho id hm
   obtain⟨C,hC,_⟩:=ok.obj id q q1
   exact⟨C,hC,trivial⟩
  ·rw[if_neg hm] at h
   obtain⟨C,hC,hO⟩:=ok.obj id o h
   exact⟨C,hC,hO.ext x fun fb b hb=>cc b (ok.own b ⟨id,o,C,h,fb,hC,hb⟩).2 (by grind)⟩
 ·have h:qA M.h (lY ai) id=none:=h
  rw[rJ] at h
  by_cases hm:id∈ai
  ·simp_all
  ·rw[if_neg hm] at h;exact ok.non id h
 ·exact ok.disj i j oi oj Ci Cj b kL (ix i oi h1 h3).2 (by grind) h3 h4 h5 h6 h7 h8
 ·obtain⟨k1,k2⟩:=aA b h
  have:=ok.own b k1
  rcases hf with hf|hf
  ·simp_all
  ·rcases hG b hf this.2 with h|h
   ·exact this.1 (ok.GF b h)
   simp_all
 ·have h1:=(ok.own b (aA b h).1).2
  show b<L.H.size
  omega
 ·show b<L.H.size
  rcases h with h|h
  ·have:=ok.Flt b h;omega
  ·exact fc.Flt b (fc.GF b h)
 ·rcases hG b h hs with h|h
  ·simp_all
  ·exact .inr (h.own ho)
 ·rcases h with h|h
  ·simp_all
  ·rcases hG b h hs with h|h
   ·exact .inl (ok.GF b h)
   ·exact .inr (h.own ho)
def zT.bare (C:zT):zT:={C with ver:=C.ver+1,rows:=[]}
def zG.revive (M:zG)(id:Nat)(C:zT)(cs:List zR):zG:={M with κ:=κset M.κ id C.bare,h:=qW M.h id (.box true cs)}
theorem zG.revive_ok {M}(ok:Ok M){id C B vals e cs}(hC:M.κ id=some C)(hB:C.blk=some B)(hH:M.H[B]? =some (.cells vals e (0,0)))(hc:zI (zQ M) cs vals.toList)
  (h1:¬qF M B) (h2:¬M.F B):Ok (M.revive id C cs)∧yB M (M.revive id C cs)∧(∀b,qF (M.revive id C cs) b→qF M b∨b=B):=by
 have hκ:(M.revive id C cs).κ id=some C.bare:=κset_same _ _ _
 have x:yB M (M.revive id C cs):=⟨fun jd D h=>by
  by_cases e':jd=id
  ·subst e'
   rw[hC] at h;cases h
   exact⟨_,hκ,rfl,rfl,rfl,Nat.le_succ _,fun h=>absurd h (by simp[zT.bare])⟩
  ·exact⟨D,by show κset M.κ id _ jd=_;rw[κset_ne _ _ e'];exact h,D.le_refl⟩,fun _ h=>h,fun _ h=>h,fun _ _=>rfl,fun _ _=>rfl,fun _ _=>rfl⟩
 have mN:C.bare.fp=[B]:=by simp[zT.fp,zT.bare,hB]
 have tL:(M.revive id C cs).h id=some (.box true cs):=yA _ _ _
 refine⟨Ok.build ok x (fun jd=>jd=id) (fun jd h=>yE _ _ h) (fun jd h=>κset_ne _ _ h) (fun _ _ _ _ _ _ _ _ _=>rfl) (fun jd o' D k1 k2 k3 k4 b bh=>(ok.own b ⟨jd,o',D,k2,k3,k4,bh⟩).1) (Nat.le_refl _)
  (fun jd o' e' h=>?_) (fun jd e' h=>?_) (fun jd o' D b e' k1 k2 k3 k4=>?_) ok.GF ok.Flt,x,fun b bh=>?_⟩
 ·subst e'
  rw[tL] at h
  cases h
  exact⟨_,hκ,B,vals,e,hB,rfl,hH,hc.mono fun _ _ h=>h.ext x,by simp⟩
 ·simp_all
 ·subst e'
  rw[hκ] at k3
  cases k3
  rw[mN,List.mem_singleton] at k4
  subst k4
  refine⟨fun j oj Cj hj q1 q2 q3 q4=>h1 ⟨j,oj,Cj,?_,q2,?_,q4⟩,h2,(Array.getElem?_eq_some_iff.1 hH).1⟩
  ·rw[←q1];exact(yE _ _ hj).symm
  ·rw[←q3];exact(κset_ne _ _ hj).symm
 ·obtain⟨jd,o',D,k1,k2,k3,k4⟩:=bh
  by_cases e':jd=id
  ·simp_all
  ·exact .inl ⟨jd,o',D,by rw[←k1];exact(yE _ _ e').symm,k2,by rw[←k3];exact(κset_ne _ _ e').symm,k4⟩
structure Yp (M:zG) (id:Nat) (cs:List zR) (B:Nat):Prop where
 at':∃C,M.κ id=some C∧C.blk=some B
 rep:∃vals e,M.H[B]? =some (.cells vals e (0,0))∧zI (zQ M) cs vals.toList
 own:¬qF M B
 F:¬M.F B
def kX (R:Nat→List zR→Nat→Prop):List Nat→List (List zR)→List Nat→Prop
 |[],[],[]=>True
 |a::l,b::m,c::n=>R a b c∧kX R l m n
 |_,_,_=>False
theorem kX.mono {R S}:∀{l m n},(∀a b c,c∈n→R a b c→S a b c)→kX R l m n→kX S l m n
 |[],[],[],_,_=>trivial
 |_::_,_::_,_::_,h,k=>⟨h _ _ _ (by simp) k.1,kX.mono (by grind) k.2⟩
theorem Yq:∀{ids css Bs M},Ok M→kX (Yp M) ids css Bs→Bs.Nodup→
  ∃M':zG,M'.H=M.H∧M'.G=M.G∧M'.F=M.F∧M'.h=qA M.h (ya ids css)∧Ok M'∧yB M M'∧(∀b,qF M' b→qF M b∨b∈Bs)
 |[],[],[],M,ok,_,_=>⟨M,rfl,rfl,rfl,rfl,ok,.refl M,by simp⟩
 |id::ids,cs::css,B::Bs,M,ok,h,hn=>by
  obtain⟨C,hC,hB⟩:=h.1.at'
  obtain⟨vals,e,hH,hc⟩:=h.1.rep
  obtain⟨k1,k2,k3⟩:=zG.revive_ok ok hC hB hH hc h.1.own h.1.F
  obtain⟨n1,n2⟩:=List.nodup_cons.1 hn
  obtain ⟨M', a1, a2, a3, a4, a5, a6, a7⟩ := Yq (M := M.revive id C cs) k1 (kX.mono (fun a b c hcB hb=>by
   refine⟨?_,?_,fun ho=>?_,hb.F⟩
   ·obtain⟨D,q1,q2⟩:=hb.at'
    obtain⟨D',q3,le⟩:=k2.κ _ _ q1
    exact⟨D',q3,le.blk.trans q2⟩
   ·obtain⟨vals,e,q1,q2⟩:=hb.rep
    exact⟨vals,e,q1,q2.mono fun _ _ h=>h.ext k2⟩
   ·rcases k3 _ ho with h|h
    ·exact hb.own h
    simp_all) h.2) n2
  exact⟨M',a1,a2,a3,a4,a5,yB.trans (M:=M) (M':=M.revive id C cs) (Nat.le_refl _) k2 a6,by grind⟩
theorem Yr:∀{ids css h h'},ids.length=css.length→(∀n,n∉ids→h n=h' n)→qA h (ya ids css)=qA h' (ya ids css)
 |[],[],h,h',_,e=>funext fun n=>e n (by simp)
 |id::ids,cs::css,h,h',hl,e=>Yr (ids:=ids) (css:=css) (by simp_all) fun n hn=>by
   by_cases k:n=id
   ·subst k;rw[yA,yA]
   ·rw[yE _ _ k,yE _ _ k];simp_all
theorem yNc {h0 s a a' v u M}(ok:Ok M)(hf:wI h0 M.h)(hv:zN M a v)(h:rH h0 s a=some (a',u)):
  ∃L:zG,L.H=M.H∧L.h=qA M.h u∧Ok L∧yL M L∧zN L a' v∧wI h0 L.h:=by
 unfold rH at h
 split at h
 ·rename_i p x
  split at h
  ·rename_i y u1 e
   cases h
   obtain⟨L,h1,h2,h3,h4,h5,h6⟩:=rz (cs:=[x]) (vs:=[v]) ok hf ⟨hv,trivial⟩ e
   exact⟨L,h1,h2,h3,h4,h5.1,h6⟩
  ·cases h
 ·split at h
  ·rename_i ys u1 e
   cases h
   obtain⟨vs,rfl,hx⟩:=hv
   obtain⟨L,h1,h2,h3,h4,h5,h6⟩:=rz ok hf hx e
   exact⟨L,h1,h2,h3,h4,⟨vs,rfl,h5⟩,h6⟩
  ·cases h
 ·cases h
  exact⟨M,rfl,rfl,ok,.refl M,hv,hf⟩
theorem Ys {h0}:∀{l as de vs u M},Ok M→wI h0 M.h→zI (zN M) as vs→nu h0 l as=some (de,u)→
  ∃L:zG,L.H=M.H∧L.h=qA M.h u∧Ok L∧yL M L∧zI (zN L) de vs∧wI h0 L.h
 |s::l,a::as,de,v::vs,u,M,ok,hf,hv,h=>by
  unfold nu at h
  split at h
  ·rename_i a1 u1 Ni mP e1 e2
   cases h
   obtain⟨M1,h1,h2,h3,h4,h5,h6⟩:=yNc ok hf hv.1 e1
   obtain⟨M2,k1,k2,k3,k4,k5,k6⟩:=Ys h3 h6 (rA.ext h4.ext hv.2) e2
   exact⟨M2,k1.trans h1,by rw[k2,h2,gK],k3,h4.trans k4,⟨h5.ext k4.ext,k5⟩,k6⟩
  ·cases h
 |[],as,de,vs,u,M,ok,hf,hv,h=>by
  cases as<;>cases h<;>exact⟨M,rfl,rfl,ok,.refl M,hv,hf⟩
 |s::l,[],de,vs,u,M,ok,hf,hv,h=>by cases h;exact⟨M,rfl,rfl,ok,.refl M,hv,hf⟩
def iy (M L:zG)(id jd:Nat):Prop:=∃C D B,M.κ id=some C∧C.blk=some B∧L.κ jd=some D∧D.blk=some B
theorem ND {M L}:∀{ls is js out} {us:List Value} {cs bs},fJ M.h ls is=some (cs,bs)→Dy ls js=some out→
  zI (fun id u=>∃C B,M.κ id=some C∧C.blk=some B∧u=.pointer (some ⟨B,0,none⟩)) is us→zI (fun id u=>∃C B,L.κ id=some C∧C.blk=some B∧u=.pointer (some ⟨B,0,none⟩)) js us→zI (iy M L) (yW bs) out
 |[],[],[],out,us,cs,bs,h,k,_,_=>by cases h;cases k;exact trivial
 |(io,l)::ls,i::is,j::js,out,u::us,cs,bs,h,k,p,q=>by
  unfold fJ at h
  split at h
  ·rename_i cells rest uf h1 h2
   obtain⟨_,h⟩:=vN h
   cases h
   unfold Dy at k
   split at k
   ·rename_i o ho
    cases k
    have ih:=ND h2 ho p.2 q.2
    cases io with
    |false=>exact ih
    |true=>
     obtain⟨C,B,k1,k2,k3⟩:=p.1
     obtain⟨D,B',k4,k5,k6⟩:=q.1
     rw[k3] at k6
     cases k6
     exact⟨⟨C,D,B,k1,k2,k4,k5⟩,ih⟩
   ·cases k
  ·cases h
theorem Yt {M L}:∀{bs n},(∀q∈bs,q.1=true)→(∀i q,bs[i]? =some q→iy M L q.2 (n+i))→zI (iy M L) (yW bs) (iu n bs.length)
 |[],n,_,_=>trivial
 |(true,id)::bs,n,h,k=>⟨k 0 _ rfl,Yt (by grind) fun i q hq=>by
   have:=k (i+1) q hq
   grind⟩
 |(false,id)::bs,n,h,k=>by simp_all
theorem Yu {h}:∀{ls ids cs bs},fJ h ls ids=some (cs,bs)→bs.map (·.1)=ls.map (·.1)
 |[],[],_,_,e=>by cases e;rfl
 |(io,l)::ls,id::ids,cs,bs,e=>by
  unfold fJ at e
  split at e
  ·rename_i cells rest uf h1 h2
   obtain⟨_,e⟩:=vN e
   cases e
   simp[Yu h2]
  ·cases e
theorem yN6 {M L}{s:AX}{a b v cs bs out}(h:s.get M.h a=some (cs,bs)){n}(k:s.io n b=some out)(p:zN M a v)(q:s.looks=true→zN L b v)(hk:s.isChn=true→∀i q,bs[i]? =some q→iy M L q.2 (n+i)):zI (iy M L) (yW bs) out:=by
 unfold AX.get at h
 split at h
 ·cases h;cases k;exact trivial
 ·obtain⟨_,h'⟩:=vN h
  cases h';cases k;exact trivial
 ·unfold AX.io at k
  split at k
  ·rename_i e;cases e
  ·rename_i e;cases e
  ·rename_i io' l' jd e
   cases e
   exact ND (us:=[v]) h k ⟨p,trivial⟩ ⟨q rfl,trivial⟩
  all_goals simp_all
 ·obtain⟨hg,h'⟩:=vN h
  unfold AX.io at k
  split at k
  ·simp_all
  ·simp_all
  ·simp_all
  ·rename_i f' Yv g' js e
   cases e
   obtain⟨cv,rfl,hc⟩:=p
   obtain⟨cv',e',hY⟩:=q rfl
   cases e'
   exact ND h' k hc hY
  all_goals simp_all
 ·rename_i ls id
  split at h
  ·cases k
   have h1:=DC h
   have h2:ls.length=bs.length:=by rw[h1];simp[xX]
   rw[h2]
   exact Yt (fun q hq=>by
    have:q.1∈bs.map (·.1):=by grind
    rw[Yu h] at this
    exact(by simpa[xX] using this:_∧_).2) (hk rfl)
  ·cases h
 ·cases h
theorem Yw {M L}:∀{l as vs t n cs bs out m},gp M.h l as=some (cs,bs)→HA l t n m=some out→zI (zN M) as vs→(∀i h s,l[i]? =some s→s.looks=true→zN L (t (n+i)) vs[i])→(l.any AX.isChn=true→∀i q,bs[i]? =some q→iy M L q.2 (m+i))→
  zI (iy M L) (yW bs) out
 |[],[],[],t,n,cs,bs,out,m,h,k,_,_,_=>by cases h;cases k;exact trivial
 |s::l,a::as,v::vs,t,n,cs,bs,out,m,h,k,p,q,hk=>by
  unfold gp at h
  split at h
  ·rename_i c1 b1 c2 b2 h1 h2
   cases h
   unfold HA at k
   split at k
   ·rename_i o1 o2 k1 k2
    cases k
    have e:∀b1 b2:List (Bool×Nat),yW (b1++b2)=yW b1++yW b2:=fun b1 b2=>by
     induction b1 with
     |nil=>rfl
     |cons x b1 ih=>obtain⟨io,y⟩:=x;cases io<;>simp[yW,ih]
    rw[e]
    have hnb:=yXg h1
    refine(yN6 h1 k1 p.1 (q 0 (by simp) s rfl) (by grind)).append (Yw h2 k2 p.2 (fun i hi s' hs hl=>?_) fun hc i q hq=>?_)
    rotate_left
    ·have:=hk (by simp_all) (b1.length+i) q (by grind)
     grind
    have:=q (i+1) (by simp_all) s' (by simp_all) hl
    grind
   ·cases k
  ·cases h
 |[],_::_,_,_,_,_,_,_,_,h,_,_,_,_=>by cases h
theorem Yx {L}(fc:Ok L):∀{os ids bs},xZ L.h os ids=some bs→bs.length=os.flatten.length∧ids.length=os.length∧
  ∃us:List Value,zI (zQ L) bs us∧∀{M cs},M.H=L.H→zI (zQ M) cs us→kX (fun id cs B=>(∃cells,L.h id=some (.box true cells))∧(∃C,L.κ id=some C∧C.blk=some B∧C.rows=[])∧∃vals e,M.H[B]? =some (.cells vals e (0,0))∧zI (zQ M) cs vals.toList) ids (rG os cs) (ids.map fun id=>((L.κ id).bind zT.blk).getD 0)
 |[],[],bs,h=>by cases h;exact⟨rfl,rfl,[],trivial,fun _ _=>trivial⟩
 |o::os,n::ns,bs,h=>by
  unfold xZ at h
  split at h
  ·rename_i cells rest h1 h2
   obtain⟨hl,h⟩:=vN h
   cases h
   obtain⟨C,hC,B,vals,e,q1,q2,q3,q4,_⟩:=fc.obj n _ h1
   obtain⟨k1,k2,us,k3,k4⟩:=Yx fc h2
   refine⟨by simp_all,by simp[k2],vals.toList++us,q4.append k3,fun{M cs} hH hc=>⟨⟨by grind,⟨C,hC,?_,q2⟩,vals,e,?_,?_⟩,?_⟩⟩
   ·simp_all
   ·simp_all
   ·have h1:=zI.take o.length hc
    have Ng:=q4.length
    simp_all
   ·have h1:=zI.drop o.length hc
    have Ng:=q4.length
    simp_all
  ·cases h
theorem vF0 {h0 r c d}(h:lU h0 r c=some d):∀id∈vH [r] [c],∀own cells,h0 id≠some (.box own cells):=by
  unfold lU at h
  split at h
  all_goals (try (intro id ab;simp[vH] at ab;done))
  all_goals first
    |(done)
    | (intro xL ab own cells hb
       have:=List.mem_singleton.1 ab
       simp_all)
    |(cases h)
theorem Yy {L}:∀{l cs d},gn L l cs=some d→∀id∈vH l cs,∀own cells,L id≠some (.box own cells)
 |r::l,c::cs,d,h,id,ab=>by
  unfold gn at h
  split at h
  ·rename_i x xs e1 e2
   rw[Hu] at ab
   rcases List.mem_append.1 ab with ab|ab
   ·exact vF0 e1 id ab
   ·exact Yy e2 id ab
  ·cases h
theorem Yz:∀a b,yW (a++b)=yW a++yW b
 |[],_=>rfl
 |(true,_)::a,b
 |(false,_)::a,b=>by simp[yW,Yz a b]
theorem DD {h}:∀{ls is cs bs},fJ h ls is=some (cs,bs)→∀id∈yW bs,∃o,h id=some o∧o.owned=true
 |[],[],_,_,e=>by cases e;nofun
 |(io,l)::ls,i::is,cs,bs,e=>by
  unfold fJ at e
  split at e
  ·rename_i cells rest uf h1 h2
   obtain⟨_,e⟩:=vN e
   cases e
   intro id ab
   cases io with
   |false=>exact DD h2 id ab
   |true=>
    rcases List.mem_cons.1 ab with rfl|ab
    ·unfold xY at h1
     split at h1
     ·rename_i c hc
      exact⟨_,hc,rfl⟩
     all_goals simp_all
    ·exact DD h2 id ab
  ·cases e
theorem vCt {h}{s:AX}{a cs bs}(e:s.get h a=some (cs,bs)):∀id∈yW bs,∃o,h id=some o∧o.owned=true:=by
 unfold AX.get at e
 split at e
 ·cases e;nofun
 ·obtain⟨_,e⟩:=vN e
  cases e;nofun
 ·exact DD e
 ·obtain⟨_,e⟩:=vN e
  exact DD e
 ·split at e
  ·exact DD e
  ·cases e
 ·cases e
theorem YA {h}:∀{l as cs bs},gp h l as=some (cs,bs)→l.length=as.length∧∀id∈yW bs,∃o,h id=some o∧o.owned=true
 |[],[],_,_,e=>by cases e;exact⟨rfl,nofun⟩
 |s::l,a::as,cs,bs,e=>by
  unfold gp at e
  split at e
  ·rename_i c1 b1 c2 b2 h1 h2
   cases e
   obtain⟨k1,k2⟩:=YA h2
   refine⟨by simp[k1],fun id ab=>?_⟩
   rw[Yz] at ab
   rcases List.mem_append.1 ab with ab|ab
   ·exact vCt h1 id ab
   simp_all
  ·cases e
theorem YB {h}:∀{l cs d},lX h l cs=some d→∀id∈wP l cs,∃o,h id=some o∧o.owned=true
 |[],[],_,_=>nofun
 |x::l,c::cs,d,e=>by
  unfold lX at e
  split at e
  ·rename_i y ys h1 h2
   have ih:=YB h2
   unfold Du at h1
   split at h1
   ·exact ih
   ·intro jd ab
    rcases List.mem_cons.1 ab with rfl|ab
    ·split at h1
     ·rename_i s xs hs
      exact⟨_,hs,rfl⟩
     ·cases h1
    ·simp_all
   ·intro jd ab
    rcases List.mem_cons.1 ab with rfl|ab
    ·split at h1
     ·rename_i s xs hs
      exact⟨_,hs,rfl⟩
     ·cases h1
    ·exact ih jd ab
   ·intro jd ab
    rcases List.mem_cons.1 ab with rfl|ab
    ·split at h1
     ·rename_i xs hs
      exact⟨_,hs,rfl⟩
     ·cases h1
    simp_all
   ·exact ih
   ·cases h1
  ·cases e
theorem YC {a b}(h:Nw a b=true):∀id∈b,id∉a:=fun id hb ha=>by
 have h:=List.all_eq_true.1 h id ha
 have:b.any (Nat.beq id)=true:=List.any_eq_true.2 ⟨id,hb,by simp⟩
 simp_all
theorem YD:∀os cs,(rG os cs).length=os.length
 |[],_=>rfl
 |_::os,cs=>by simp[rG,YD os]
theorem YE {M L}{P:zG→Nat→Prop}{R}:∀{ids js css Bs},zI (iy M L) ids js→kX R js css Bs→kX (fun id cs B=>∃jd,iy M L id jd∧R jd cs B) ids css Bs
 |[],[],[],[],_,_=>trivial
 |_::_,_::_,_::_,_::_,h,k=>⟨⟨_,h.1,k.1⟩,YE (P:=P) h.2 k.2⟩
theorem zG.gone_ok {M}(ok:Ok M){nm}(aG:M.h nm=none) C:
  Ok (M.add nm .gone C)∧yB M (M.add nm .gone C)∧(∀b,qF (M.add nm .gone C) b→qF M b):=by
 have x:yB M (M.add nm .gone C):=⟨fun id D h=>by
  have aV:id≠nm:=fun e=>by rw[e,ok.non nm aG] at h;cases h
  exact⟨D,by show κset M.κ nm _ id=_;rw[κset_ne _ _ aV];exact h,D.le_refl⟩,fun _ h=>h,fun _ h=>h,fun _ _=>rfl,fun _ _=>rfl,fun _ _=>rfl⟩
 have at':∀o,(M.add nm .gone C).h nm=some o→o=.gone:=fun o h=>by
  have e1:(M.add nm .gone C).h nm=some .gone:=yA _ _ _
  simp_all
 refine⟨Ok.build ok x (fun id=>id=nm) (fun id h=>yE _ _ h) (fun id h=>κset_ne _ _ h) (fun _ _ _ _ _ _ _ _ _=>rfl) (fun id o' D h1 h2 h3 h4 b bh=>(ok.own b ⟨id,o',D,h2,h3,h4,bh⟩).1) (Nat.le_refl _)
  (fun id o' e h=>?_) (fun id e h=>?_) (fun id o' D b e h1 h2 h3 h4=>?_) ok.GF ok.Flt,x,fun b bh=>?_⟩
 ·subst e
  rw[at' o' h]
  exact⟨_,κset_same _ _ _,trivial⟩
 ·have e1:(M.add id .gone C).h id=some .gone:=yA _ _ _
  simp_all
 ·subst e
  rw[at' o' h1] at h2;cases h2
 ·obtain⟨id,o',D,h1,h2,h3,h4⟩:=bh
  by_cases e:id=nm
  ·subst e
   rw[at' o' h1] at h2;cases h2
  ·exact⟨id,o',D,by rw[←h1];exact(yE _ _ e).symm,h2,by rw[←h3];exact(κset_ne _ _ e).symm,h4⟩
theorem YF:∀{n nm Bs M},Ok M→(∀i,i<n→M.h (nm+i)=none)→Bs.length=n→
  ∃M':zG,M'.H=M.H∧M'.G=M.G∧M'.F=M.F∧M'.h=qA M.h (lY (iu nm n))∧Ok M'∧yB M M'∧(∀b,qF M' b→qF M b)∧zI (fun id B=>∃C,M'.κ id=some C∧C.blk=some B) (iu nm n) Bs
 |0,nm,[],M,ok,_,_=>⟨M,rfl,rfl,rfl,rfl,ok,.refl M,by simp,trivial⟩
 |n+1,nm,B::Bs,M,ok,hf,hl=>by
  obtain⟨k1,k2,k3⟩:=zG.gone_ok ok (hf 0 (by omega)) ⟨some B,0,0,0,[]⟩
  obtain ⟨M', a1, a2, a3, a4, a5, a6, a7, a8⟩ := YF (n := n) (nm := nm + 1) (Bs := Bs) k1 (fun i hi=>by
   have:=hf (i+1) (by omega)
   rw[show nm+1+i=nm+(i+1) by omega,←this]
   exact yE _ _ (by omega)) (by simp_all)
  refine⟨M',a1,a2,a3,a4,a5,yB.trans (M:=M) (M':=M.add nm .gone ⟨some B,0,0,0,[]⟩) (Nat.le_refl _) k2 a6,by grind,?_,a8⟩
  obtain⟨C,h1,h2⟩:=a6.κ nm _ (κset_same _ _ _)
  exact⟨C,h1,h2.blk⟩
theorem NF {L M ids js}(hs:zI (iy M L) ids js):∀{l cs ds vs},nr l js cs=true→zI (zQ L) cs vs→zI (zQ M) ds vs→zI (zQ M) (ue l ids ds) vs
 |[],cs,ds,vs,_,_,hd=>by exact hd
 |none::l,[],[],[],_,_,_=>trivial
 |none::l,c::cs,d::ds,v::vs,h,hc,hd=>⟨hd.1,NF hs (l:=l) h hc.2 hd.2⟩
 |some j::l,c::cs,d::ds,v::vs,h,hc,hd=>by
  obtain⟨id,rfl,ab,h'⟩:=Yk h
  refine⟨?_,NF hs h' hc.2 hd.2⟩
  have hj:=(List.getElem?_eq_some_iff.1 ab).1
  have hi:j<ids.length:=by rw[hs.length];exact hj
  have:=hs.get j hi hj
  rw[(List.getElem?_eq_some_iff.1 ab).2] at this
  obtain⟨C,D,B,q1,q2,q3,q4⟩:=this
  obtain⟨D',B',p1,p2,p3⟩:=hc.1
  rw[q3] at p1;cases p1
  rw[q4] at p2;cases p2
  rw[List.getElem?_eq_getElem hi]
  exact⟨C,B,q1,q2,p3⟩
 |_,[],_::_,[],_,_,hd=>hd.elim
 |_,_::_,[],[],_,hc,_=>hc.elim
theorem vHf {h ns cs nw}(e:Nv h ns cs=some nw):nw.length=ns:=by
 unfold Nv at e
 cases h0:Nat.beq ns 0 with
 |true=>simp_all
 |false=>
  rw[h0] at e
  split at e
  ·exact(Ny e).2
  ·cases e
def HF (w:World)(na:Nat)(chn:Bool)(M:zG)(vs:Array Value)(rv:Value)(w':World)(v:zO)(st:St):Prop:=
 ∃M':zG,M'.h=st.h∧M'.H=w'.heap∧Ok M'∧fG M M'∧(chn=true→ik M M')∧zN M' v rv∧w'.os=w.os∧w'.tape=w.tape∧w'.output=w.output∧(∀t,t<na→zN M' (st.t t) (vs.getD t undef))
theorem YG {n}:∀{l nm d hh},(∀j,j<l.length→n≠nm+j)→qA hh (kT nm l d).2 n=hh n
 |[],_,_,_,_=>rfl
 |r::l,nm,d,hh,h=>by
  show qA hh ((nj nm r d.1).2++(kT (nm+1) l d.2).2) n=_
  rw[gK,YG fun j hj=>by have:=h (j+1) (by simp_all);omega,XT (by have:=h 0 (by simp);omega)]
theorem vFh {M}(ok:Ok M){io id cells}(h:xY M.h io id=some cells):∃C B,M.κ id=some C∧C.blk=some B:=by
 have h':xQ M.h id=some cells:=by
  unfold xY at h
  unfold xQ
  grind
 obtain⟨C,h1,B,_,_,h2,_⟩:=XQ ok h'
 simp_all
theorem HG {M}(ok:Ok M):∀{ls is cs bs},fJ M.h ls is=some (cs,bs)→∀q∈bs,∃C B,M.κ q.2=some C∧C.blk=some B
 |[],[],_,_,e=>by cases e;simp
 |(io,l)::ls,i::is,cs,bs,e=>by
  unfold fJ at e
  split at e
  ·rename_i cells rest uf h1 h2
   obtain⟨_,e⟩:=vN e
   cases e
   intro q hq
   rcases List.mem_cons.1 hq with rfl|hq
   ·exact vFh ok h1
   ·exact HG ok h2 q hq
  ·cases e
theorem YH {M}(ok:Ok M):∀{l as cs bs},gp M.h l as=some (cs,bs)→∀q∈bs,∃C B,M.κ q.2=some C∧C.blk=some B
 |[],[],_,_,e=>by cases e;simp
 |s::l,a::as,cs,bs,e=>by
  unfold gp at e
  split at e
  ·rename_i c1 b1 c2 b2 h1 h2
   cases e
   intro q hq
   rcases List.mem_append.1 hq with hq|hq
   ·unfold AX.get at h1
    split at h1
    ·simp_all
    ·grind
    ·exact HG ok h1 q hq
    ·obtain⟨_,h1⟩:=vN h1
     exact HG ok h1 q hq
    ·split at h1
     ·exact HG ok h1 q hq
     ·cases h1
    ·cases h1
   ·exact YH ok h2 q hq
  ·cases e
theorem YI {L}(ok:Ok L):∀{os ids bs},xZ L.h os ids=some bs→∀j∈ids,∃cells C B,L.h j=some (.box true cells)∧L.κ j=some C∧C.blk=some B
 |[],[],_,_=>by simp
 |o::os,n::ns,bs,h=>by
  unfold xZ at h
  split at h
  ·rename_i cells rest h1 h2
   intro j hj
   rcases List.mem_cons.1 hj with rfl|hj
   ·obtain⟨C,hC,B,vals,e,q1,_⟩:=ok.obj _ _ h1
    simp_all
   ·exact YI ok h2 j hj
  ·cases h
theorem YJ {L}(ok:Ok L):∀{js:List Nat},js.Nodup→(∀j∈js,∃cells C B,L.h j=some (.box true cells)∧L.κ j=some C∧C.blk=some B)→(js.map fun id=>((L.κ id).bind zT.blk).getD 0).Nodup
 |[],_,_=>by simp
 |a::js,hn,aU=>by
  obtain⟨n1,n2⟩:=List.nodup_cons.1 hn
  refine List.nodup_cons.2 ⟨fun ku=>?_,YJ ok n2 (by grind)⟩
  obtain⟨j,hj,lZ⟩:=List.mem_map.1 ku
  obtain⟨YK,C,B,q1,q2,q3⟩:=aU a (by simp)
  obtain⟨c2',D,B',q4,q5,q6⟩:=aU j (by grind)
  have lZ:((L.κ j).bind zT.blk).getD 0=((L.κ a).bind zT.blk).getD 0:=lZ
  rw[q2,q5] at lZ
  have lZ:(D.blk.getD 0)=(C.blk.getD 0):=lZ
  rw[q3,q6] at lZ
  subst lZ
  exact ok.disj a j _ _ C D B' (by grind) q1 q4 rfl rfl q2 q5 (by simp[zT.fp,q3]) (by simp[zT.fp,q6])
theorem YL {na as}(gu:oY as na=true){nm n args h u0 io rows d}(he:uh as nm n args h=some (u0,io,rows,d)) M w vs (hh:M.h=h)(hH:M.H=w.heap)(ok:Ok M)(hv:zI (zN M) args vs.toList):
  ∃Ml:zG,Ml.h=(gq as d).2∧Ml.H=w.heap∧Ok Ml∧zI (zN Ml) (gq as d).1 vs.toList∧
   ∀rv w' v0 st,HF w na (as.any AX.isChn) Ml vs rv w' v0 st→∀rs os ns dx,rF st as rs os ns v0=some dx→(rs.cells++os.flatten).length+ns≤n→
    ∃Mf,oM M w (DA u0 io rows rs os ns nm dx).2 Mf w'∧zN Mf (DA u0 io rows rs os ns nm dx).1 rv:=by
 unfold uh at he
 split at he
 ·cases he
 rename_i cY u tY
 split at he
 ·cases he
 rename_i cs bs cF
 split at he
 ·cases he
 rename_i d' hd
 dsimp only at he
 obtain⟨hc,he⟩:=kk he
 cases he
 simp only[Bool.and_eq_true] at hc
 obtain⟨⟨⟨⟨⟨⟨uk,ca⟩,ct⟩,dp⟩,iz⟩,HH⟩,HI⟩:=hc
 subst hh
 obtain⟨M1,a1,a2,a3,a4,a5,a6⟩:=Ys ok (wI.refl _) hv tY
 rw[←a2] at hd cF
 obtain⟨YM,rf⟩:=YA cF
 have aL:=YB hd
 have cR:kr M1 (yW bs++wP (as.flatMap AX.cells) cs):=fun id ab=>(List.mem_append.1 ab).elim (rf id) (aL id)
 have NG:=xH dp
 obtain⟨Ml,lo,b2,b3,b4,b5,b6⟩:=yOw a3 a5 cF hd NG (YC iz) (YC HH) (Nat.le_of_ble_eq_true ct) HI cR
 generalize eH:yW bs++wP (as.flatMap AX.cells) cs=ai at*
 refine⟨Ml,b2,by rw[lo.H,a1];exact hH,b3,b5,fun rv w' v0 st ⟨L0,c1,c2,c3,c4,ck,c5,c6,c7,c8,c9⟩ rs os ns dx hK hn=>?_⟩
 unfold rF at hK
 split at hK
 ·cases hK
 rename_i NH ij
 split at hK
 ·cases hK
 rename_i ccs ko
 split at hK
 ·cases hK
 rename_i nw hnw
 split at hK
 ·cases hK
 rename_i bcs pb
 obtain⟨DE,HJ⟩:=kk hK
 clear hK
 split at HJ
 case h_2=>cases HJ
 rename_i aE u1 ua
 obtain⟨cC,hK⟩:=kk HJ
 clear HJ
 rw[Bool.and_eq_true] at cC
 obtain⟨cC,DF⟩:=cC
 have NI:=vHf hnw
 obtain⟨hlen,us,d1,d2⟩:=XV ko c5
 rw[←c1] at ua hK pb
 obtain⟨js,qs⟩:∃js,js=NH++nw:=⟨_,rfl⟩
 rw[←qs] at pb DE DF
 obtain⟨k1,k2,HK,k3,k4⟩:=Yx c3 pb
 obtain⟨L,e1,e2,e3,e4,e5,e6⟩:=rz c3 (wI.refl _) (d1.append k3) ua
 rw[←e2] at hK
 have g:fG Ml L:=c4.trans e4.grow
 obtain⟨f1,f2,f3⟩:=zG.overX_ok a3 e3 lo cR b4 g
 have cc : zI (iy M1 L0) (yW bs) NH := Yw cF ij a5 (fun i hi s hs o6=>by
  have bj:i<vs.size:=by simpa using hi
  have aT:i<na:=by
   have:=List.all_eq_true.1 gu (s,i) (List.mk_mem_zipIdx_iff_getElem?.2 hs)
   simp only[o6,Bool.not_true,Bool.false_or] at this
   exact LL this
  have:=c9 i aT
  rw[Nat.zero_add]
  have e:vs.getD i undef=vs.toList[i]:=by simp[bj]
  rw[←e];exact this) fun jc i q hq=>by
   obtain⟨C,B,p1,p2⟩:=YH a3 cF q (List.mem_of_getElem? hq)
   have hi:i<bs.length:=(List.getElem?_eq_some_iff.1 hq).1
   have hκ:Ml.κ i=some C:=by
    rw[b6]
    unfold κX
    have:Nat.ble vU i=false:=by
     cases h:Nat.ble vU i with
     |false=>rfl
     |true=>have h1:=Nat.le_of_ble_eq_true h;have h2:=Nat.le_of_ble_eq_true ct;omega
    rw[this,hq]
    exact p1
   obtain⟨C',p3,p4⟩:=ck jc i C hκ
   rw[Nat.zero_add]
   exact⟨C,C',B,p1,p2,p3,p4.trans p2⟩
 have l0:∀i,i<n→(M1.overX L ai).h (nm+i)=none:=fun i hi=>by
  have h1:=Nc uk i hi
  have h2:M1.h (nm+i)=none:=by
   rw[a2]
   rcases a6 (nm+i) with h|⟨own,t,xs,h,_⟩|⟨ver,xs,h,_⟩
   ·rw[a2] at h;rw[h];exact h1
   ·rw[h1] at h;cases h
   ·rw[h1] at h;cases h
  show qA M1.h (lY ai) (nm+i)=none
  rw[rJ,if_neg,h2]
  intro ku
  obtain⟨o,ho,_⟩:=cR _ ku
  rw[h2] at ho;cases ho
 have lV:∀i,i<(rs.cells++os.flatten).length→(M1.overX L ai).h (nm+i)=none:=fun i hi=>l0 i (by omega)
 have pc:∀b,qF L b→b<M1.H.size→gP M1 ai b:=fun b hb aT=>b4 b (g.own b hb (by rw[lo.H];exact aT))
 have rK:∀b,qF L b→¬(M1.overX L ai).F b:=fun b hb h=>by
  rcases h with h|h
  ·exact(o0 a3 cR h).2 (pc b hb (a3.Flt b h))
  ·exact(e3.own b hb).1 (e3.GF b h)
 have rL:∀b,qF L b→¬qF (M1.overX L ai) b:=fun b hb h=>by
  obtain⟨q1,q2⟩:=f3 b h
  exact q2 (pc b hb (a3.own b q1).2)
 obtain ⟨Mc, g1, g2, g3, g4, g5, g6, g7, g8⟩ := Nd e3 f1 ⟨rfl, rfl⟩ lV hK (xH cC) (rC hK) (fun id ab C hC b hb=>by
  obtain⟨o,ho,fb⟩:=rC hK id ab
  have aA:qF L b:=⟨id,o,C,ho,fb,hC,hb⟩
  exact⟨rL b aA,rK b aA,(e3.own b aA).2⟩)
 obtain ⟨Mg, n1, n2, n3, n4, n5, n6, n7, n8⟩ := YF (n := ns) (nm := nm + (rs.cells ++ os.flatten).length) (Bs := nw.map fun id => ((L0.κ id).bind zT.blk).getD 0) g5 (fun i hi=>by
  rw[g4,YG (fun j hj=>by omega),Nat.add_assoc]
  exact l0 _ (by omega)) (by simp[NI])
 have l5:∀j∈js,∃cells C B,L0.h j=some (.box true cells)∧L0.κ j=some C∧C.blk=some B:=YI c3 pb
 have YN:yB M1 Mg:=(f2.ext.trans f2.size g6).trans (by rw[g1];exact f2.size) n6
 have CQ:zI (iy Mg L0) (yW bs) NH:=cc.mono fun id jd hq=>by
  obtain⟨C,D,B,q1,q2,q3,q4⟩:=hq
  obtain⟨C',p3,le⟩:=YN.κ id C q1
  exact⟨C',D,B,p3,le.blk.trans q2,q3,q4⟩
 have NJ:zI (iy Mg L0) (iu (nm+(rs.cells++os.flatten).length) ns) nw:=by
  have YO:=n8.length
  rw[List.length_map] at YO
  refine zI.of_get YO fun i h1 h2=>?_
  obtain⟨C,q1,q2⟩:=n8.get i h1 (by simpa using h2)
  obtain⟨cells,D,B,p1,p2,p3⟩:=l5 nw[i] (by rw[qs];exact List.mem_append_right _ (List.getElem_mem _))
  refine⟨C,D,B,q1,?_,p2,p3⟩
  rw[q2,List.getElem_map,p2]
  show some (D.blk.getD 0)=_
  rw[p3];rfl
 have iA:zI (iy Mg L0) (yW bs++iu (nm+(rs.cells++os.flatten).length) ns) js:=by
  rw[qs];exact CQ.append NJ
 have pg:zI (iy Mg L) (yW bs++iu (nm+(rs.cells++os.flatten).length) ns) js:=iA.mono fun id jd hq=>by
  obtain⟨C,D,B,q1,q2,q3,q4⟩:=hq
  obtain⟨D',p3,le⟩:=e4.ext.κ jd D q3
  exact⟨C,D',B,q1,q2,p3,le.blk.trans q4⟩
 have um:=NF pg DF e5 ((g8 _ e5).mono fun _ _ h=>h.ext n6)
 obtain⟨G,hG⟩:∃G,G=ue ((rs.cells++os.flatten).map RC.lnk) (yW bs++iu (nm+(rs.cells++os.flatten).length) ns) (kT nm (rs.cells++os.flatten) dx).1:=⟨_,rfl⟩
 rw[←hG] at um
 have xB:us.length=rs.cells.length:=by rw[←d1.length,hlen]
 have hgr:zI (zQ Mg) (G.take rs.cells.length) us:=by
  have:=zI.take rs.cells.length um
  rwa [show(us++HK).take rs.cells.length=us from by rw[←xB,List.take_left]] at this
 have hgb:zI (zQ Mg) (G.drop rs.cells.length) HK:=by
  have:=zI.drop rs.cells.length um
  rwa [show(us++HK).drop rs.cells.length=HK from by rw[←xB,List.drop_left]] at this
 have hHc:Mg.H=L0.H:=by rw[n1,g1];exact e1
 have DG:=YE (P:=fun _ _=>True) iA (k4 hHc hgb)
 have rM:∀jd B,(∃cells,L0.h jd=some (.box true cells))→(∃C,L0.κ jd=some C∧C.blk=some B)→∃cells C,L.h jd=some (.box true cells)∧L.κ jd=some C∧B∈C.fp:=fun jd B ⟨cells,q1⟩ ⟨C,q2,q3⟩=>by
  obtain⟨C',q4,le⟩:=e4.ext.κ jd C q2
  refine⟨cells,C',?_,q4,?_⟩
  ·rcases e6 jd with h|⟨own,t,xs,h,_⟩|⟨ver,xs,h,_⟩
   ·rw[h,q1]
   ·rw[q1] at h;cases h
   ·rw[q1] at h;cases h
  ·have:C'.blk=some B:=le.blk.trans q3
   simp[zT.fp,this]
 have DH:∀b,b∈(js.map fun id=>((L0.κ id).bind zT.blk).getD 0)→qF L b:=fun b hb=>by
  obtain⟨j,hj,rfl⟩:=List.mem_map.1 hb
  obtain⟨cells,C,B,q1,q2,q3⟩:=l5 j hj
  obtain⟨bn,D,p4,p5,p6⟩:=rM j B ⟨cells,q1⟩ ⟨C,q2,q3⟩
  have e:((L0.κ j).bind zT.blk).getD 0=B:=by rw[q2];show C.blk.getD 0=B;rw[q3];rfl
  rw[e]
  exact⟨j,_,D,p4,rfl,p5,p6⟩
 have uo : kX (Yp Mg) (yW bs ++ iu (nm + (rs.cells ++ os.flatten).length) ns) (rG os (G.drop rs.cells.length)) (js.map fun id => ((L0.κ id).bind zT.blk).getD 0) := kX.mono (fun id css B _ ⟨jd,q1,q2,⟨D0,q3,YP,_⟩,q4⟩=>by
  obtain⟨C,D1,B',p1,p2,p3,YQ⟩:=q1
  rw[q3] at p3;cases p3
  rw[YP] at YQ;cases YQ
  obtain⟨cells,D,p4,p5,p6⟩:=rM jd B q2 ⟨_,q3,YP⟩
  have aA:qF L B:=⟨jd,_,D,p4,rfl,p5,p6⟩
  refine⟨⟨C,p1,p2⟩,q4,fun ho=>?_,?_⟩
  ·rcases g7 B (n7 B ho) with h|⟨kd,DI,D',p7,p8⟩
   ·exact rL B aA h
   ·obtain⟨o,p9,o9⟩:=rC hK kd DI
    refine e3.disj jd kd _ o D D' B (fun e=>?_) p4 p9 rfl o9 p5 p7 p6 p8
    exact Yy hK kd DI true cells (by rw[←e];exact p4)
  ·rw[n3,g3];exact rK B aA) DG
 have hBs:(js.map fun id=>((L0.κ id).bind zT.blk).getD 0).Nodup:=YJ c3 (xH DE) l5
 obtain⟨Mf,r1,r2,r3,r4,r5,r6,r7⟩:=Yq n5 uo hBs
 have Nk:yL M1 Mf:=by
  have aA:∀b,qF Mf b→b<M1.H.size→qF M1 b:=fun b hb aT=>by
   rcases r7 b hb with hb|hb
   ·rcases g7 b (n7 b hb) with h|⟨id,ab,C,hC,xS⟩
    ·exact(f3 b h).1
    ·obtain⟨o,ho,fb⟩:=rC hK id ab
     exact(pc b ⟨id,o,C,ho,fb,hC,xS⟩ aT).own cR
   ·exact(pc b (DH b hb) aT).own cR
  have Hv:Mf.H=(M1.overX L ai).H:=r1.trans (n1.trans g1)
  refine⟨YN.trans ?_ r6,?_,fun b hb hn=>?_,aA,fun b hb aT=>?_,fun b hb aT=>?_⟩
  ·rw[n1,g1];exact f2.size
  ·rw[Hv];exact f2.size
  ·rw[Hv];exact f2.frame b hb hn
  ·rw[r2,n2,g2] at hb;exact f2.Gb b hb aT
  ·rw[r3,n3,g3] at hb;exact f2.Fb b hb aT
 have l6:(yW bs++iu (nm+(rs.cells++os.flatten).length) ns).length=(rG os (G.drop rs.cells.length)).length:=by
  rw[YD,iA.length,k2]
 refine⟨Mf,⟨c6,c7,c8,?_,?_,r5,a4.trans Nk⟩,?_⟩
 ·rw[r1,n1,g1];show L.H=_;rw[e1,c2]
 ·rw[r4,n4,g4]
  show _=qA M.h (u0++(lY (wP (as.flatMap AX.cells) cs)++((kT nm (rs.cells++os.flatten) dx).2++ya (yW bs++iu (nm+(rs.cells++os.flatten).length) ns) (rG os ((ue ((rs.cells++os.flatten).map RC.lnk) (yW bs++iu (nm+(rs.cells++os.flatten).length) ns) (kT nm (rs.cells++os.flatten) dx).1).drop rs.cells.length)))))
  rw[←hG,gK,gK,gK,←a2]
  refine Yr l6 fun m hm=>?_
  rw[List.mem_append,not_or] at hm
  rw[rJ,if_neg hm.2]
  refine tP ?_
  show qA M1.h (lY ai) m=_
  rw[rJ,rJ,←eH]
  simp[hm.1]
 ·show zN Mf (rs.mk ((ue ((rs.cells++os.flatten).map RC.lnk) (yW bs++iu (nm+(rs.cells++os.flatten).length) ns) (kT nm (rs.cells++os.flatten) dx).1).take rs.cells.length)) rv
  rw[←hG]
  exact d2 Mf _ (hgr.mono fun _ _ h=>h.ext r6)
theorem YR {P na f}(bI:∀vs w,(callFunc f vs).run P w=.ok (.enter f vs) w)
  {as rs os ns X} {S:XD as→Option X} {pack unpack} (df:∀d,pack (unpack d)=d) (gu:oY as na=true)
  (iB:∀d x,S d=some x→∀M w vs,M.h=(gq as d).2→M.H=w.heap→Ok M→zI (zN M) (gq as d).1 vs.toList→Calls P f vs w fun
   |.returned rv,w'=>∃(v:zO) (st:St),Dz as rs os ns unpack v st=some x∧HF w na (as.any AX.isChn) M vs rv w' v st
   |_,_=>False)
  {nm args h v u} (hy:qX (nv as rs os ns S pack nm args h) v u):oN P f args h v u:=by
 intro M w vs hh hH ok hv
 refine .inl ⟨bI vs w,?_⟩
 unfold nv at hy
 split at hy
 ·exact hy.elim
 rename_i u0 io rows d he
 obtain⟨x,hx,rfl,rfl⟩:=hy
 obtain⟨Ml,b1,b2,b3,b4,b5⟩:=YL gu he M w vs hh hH ok hv
 refine Calls.mono (iB d x hx Ml w vs b1 b2 b3 b4) fun e w' hl=>?_
 cases e with
 |panicked _=>omega
 |outgrown=>omega
 |returned rv=>
  obtain⟨v0,st,hK,hl⟩:=hl
  have hK:rF st as rs os ns v0=some (pack x):=by
   unfold Dz at hK
   grind
  grind
theorem vHu {P na f}(bI:∀vs w,(callFunc f vs).run P w=.ok (.enter f vs) w)
  {as rs rs2 os os2 ns ns2 X Y} {S:XD as→Option (X⊕Y)} {pk up fg iw}
  (df:∀d,pk (up d)=d) (kx:∀d,fg (iw d)=d) (gu:oY as na=true)
  (iB:∀d x,S d=some x→∀M w vs,M.h=(gq as d).2→M.H=w.heap→Ok M→zI (zN M) (gq as d).1 vs.toList→Calls P f vs w fun
   |.returned rv,w'=>∃(v:zO) (st:St),HB as rs os ns rs2 os2 ns2 up iw v st=some x∧HF w na (as.any AX.isChn) M vs rv w' v st
   |_,_=>False)
  {nm args h v u} (hy:qX (oZ as rs os ns rs2 os2 ns2 S pk fg nm args h) v u):oN P f args h v u:=by
 intro M w vs hh hH ok hv
 refine .inl ⟨bI vs w,?_⟩
 unfold oZ at hy
 split at hy
 ·exact hy.elim
 rename_i u0 io rows d he
 obtain⟨Ml,b1,b2,b3,b4,b5⟩:=YL gu he M w vs hh hH ok hv
 rcases hy with⟨x,hx,rfl,rfl⟩|⟨x,hx,rfl,rfl⟩<;>
 ·refine Calls.mono (iB d _ hx Ml w vs b1 b2 b3 b4) fun e w' hl=>?_
  cases e with
  |panicked _=>omega
  |outgrown=>omega
  |returned rv=>
   obtain⟨v0,st,hK,hl⟩:=hl
   unfold HB at hK
   grind
theorem YS {E}(hE:dB E)(hS:fF E.sums)(hm:E.P.follows .mixedOrders=true){A k pre na f fn}(hf:E.P.funcs[f]? =some fn)(hL:∀c,fn.body=some c→vR E.P A pre na fn.ntmps c){chn}(jc:(!chn||A.loops.isEmpty)=true)
  {R K} {x:R} {args h} (aF:fY E A k pre na fn args h K=some x) {M w vs} (h1:M.h=h) (h2:M.H=w.heap) (h3:Ok M) (h4:zI (zN M) args vs.toList):
  Calls E.P f vs w fun
   |.returned rv,w'=>∃(v:zO) (st:St),K v st=some x∧HF w na chn M vs rv w' v st
   |_,_=>False:=by
 refine Calls.mono (M3 hE hS hm hf hL aF h1 h2 h3 h4) fun e w' hl=>?_
 cases e with
 |panicked _=>omega
 |outgrown=>omega
 |returned rv=>
  obtain⟨M',v,st,a1,a2,a3,a4,a5,a6,a7,a8,a9,DJ,DK⟩:=hl
  refine⟨v,st,a1,M',a2,a3,a4,a5,fun hc=>a6 ?_,a7,a8,a9,DJ,DK⟩
  simp_all
theorem yY3 {E}(hE:dB E)(hS:fF E.sums)(hm:E.P.follows .mixedOrders=true){A k pre na f fn}(hf:E.P.funcs[f]? =some fn)(hL:∀c,fn.body=some c→vR E.P A pre na fn.ntmps c)(bI:∀vs w,(callFunc f vs).run E.P w=.ok (.enter f vs) w)
  {as rs os ns X} {S:XD as→Option X} {pack unpack} (df:∀d,pack (unpack d)=d) (gu:oY as na=true) (jc:(!as.any AX.isChn||A.loops.isEmpty)=true)
  (aF:∀d,fY E A k pre na fn (gq as d).1 (gq as d).2 (Dz as rs os ns unpack)=S d)
  {nm args h v u} (hy:qX (nv as rs os ns S pack nm args h) v u):oN E.P f args h v u:=
 YR bI df gu (fun d x hx M w vs h1 h2 h3 h4=>YS hE hS hm hf hL jc ((aF d).trans hx) h1 h2 h3 h4) hy
theorem yZo {E}(hE:dB E)(hS:fF E.sums)(hm:E.P.follows .mixedOrders=true){A k pre na f fn}(hf:E.P.funcs[f]? =some fn)(hL:∀c,fn.body=some c→vR E.P A pre na fn.ntmps c)(bI:∀vs w,(callFunc f vs).run E.P w=.ok (.enter f vs) w)
  {as rs rs2 os os2 ns ns2 X Y} {S:XD as→Option (X⊕Y)} {pk up fg iw}
  (df:∀d,pk (up d)=d) (kx:∀d,fg (iw d)=d) (gu:oY as na=true) (jc:(!as.any AX.isChn||A.loops.isEmpty)=true)
  (aF:∀d,fY E A k pre na fn (gq as d).1 (gq as d).2 (HB as rs os ns rs2 os2 ns2 up iw)=S d)
  {nm args h v u} (hy:qX (oZ as rs os ns rs2 os2 ns2 S pk fg nm args h) v u):oN E.P f args h v u:=
 vHu bI df kx gu (fun d x hx M w vs h1 h2 h3 h4=>YS hE hS hm hf hL jc ((aF d).trans hx) h1 h2 h3 h4) hy
section
variable {h h':Hp}
theorem yUf {x c}(hh:∀id∈yT c,h id=h' id):Du h x c=Du h' x c:=by
 unfold Du
 split
 ·exact X2 hh
 ·rename_i id;rw[hh id (by simp[yT])]
 ·rename_i id;rw[hh id (by simp[yT])]
 ·rename_i id;rw[hh id (by simp[yT])]
 ·rfl
 ·rfl
theorem YT:∀{l cs},(∀id∈cs.flatMap yT,h id=h' id)→lX h l cs=lX h' l cs
 |[],[],_
 |[],_::_,_
 |_::_,[],_=>rfl
 |p::l,c::cs,hh=>by
  simp  at hh
  unfold lX
  rw[yUf fun id hi=>hh id (.inl hi),YT (by grind)]
theorem yRl {ls}:fJ h ls []=fJ h' ls []:=by
 cases ls<;>rfl
theorem vC2 {s:AX}{a}(hb:vW a=false):s.get h a=s.get h' a:=by
 unfold AX.get
 cases s with
 |c p=>grind
 |agg l=>grind
 |ptr io l=>
  cases a with
  |c x=>cases x<;>first|rfl|(exact absurd hb (by simp[vW]))
  |_=>rfl
 |fn f aZ=>
  cases a with
  |c x=>cases x with
   |fn g ids=>
    cases ids with
    |nil=>dsimp only;rw[yRl]
    |cons _ _=>exact absurd hb (by nofun)
   |_=>rfl
  |_=>rfl
 |chn ls=>
  cases a with
  |c x=>cases x<;>first|rfl|(exact absurd hb (by nofun))
  |_=>rfl
theorem yT1 {s:AX}{a cs bs}(hb:vW a=false)(e:s.get h a=some (cs,bs)):∀id∈cs.flatMap yT,id∈yC a:=by
 unfold AX.get at e
 split at e
 ·cases e;intro id ab;simp  at ab;exact ab
 ·obtain⟨_,e⟩:=vN e
  cases e;exact fun id ab=>ab
 ·exact absurd hb (by nofun)
 ·rename_i f aZ g ids
  obtain⟨_,e⟩:=vN e
  cases ids with
  |nil=>cases aZ with
   |nil=>cases e;simp
   |cons _ _=>cases e
  |cons _ _=>exact absurd hb (by nofun)
 ·exact absurd hb (by nofun)
 ·cases e
theorem YU:∀{l as},as.any vW=false→gp h l as=gp h' l as
 |[],[],_
 |[],_::_,_
 |_::_,[],_=>rfl
 |s::l,a::as,hb=>by
  simp only[List.any_cons,Bool.or_eq_false_iff] at hb
  unfold gp
  rw[vC2 (h:=h) (h':=h') hb.1,YU hb.2]
theorem YV:∀{l as cs bs},as.any vW=false→gp h l as=some (cs,bs)→∀id∈cs.flatMap yT,id∈as.flatMap yC
 |[],[],cs,bs,_,e=>by cases e;simp
 |s::l,a::as,cs,bs,hb,e=>by
  simp only[List.any_cons,Bool.or_eq_false_iff] at hb
  unfold gp at e
  split at e
  ·rename_i c1 b1 c2 b2 e1 e2
   cases e
   intro id ab
   rw[List.flatMap_append,List.mem_append] at ab
   rw[List.flatMap_cons,List.mem_append]
   rcases ab with ab|ab
   ·exact .inl (yT1 hb.1 e1 id ab)
   ·exact .inr (YV hb.2 e2 id ab)
  ·cases e
theorem vB3 {s a}(hh:∀id∈yC a,h id=h' id):rH h s a=rH h' s a:=by
 unfold rH
 split
 ·rename_i p x
  have:=xU (h:=h) (h':=h') (l:=[p.isKept]) (cs:=[x]) (by rw[xT];exact hh)
  simp_all
 ·rename_i l xs
  have:=xU (h:=h) (h':=h') (l:=l.map PC.isKept) (cs:=xs) hh
  simp_all
 ·rfl
theorem yRq {s a a' u}(e:rH h s a=some (a',u)):(∀id∈yC a',id∈yC a)∧(vW a=false→vW a'=false):=by
 unfold rH at e
 split at e
 ·rename_i p x
  split at e
  ·rename_i y u1 e1
   cases e
   refine⟨fun id ab=>by have:=xV e1 id (by rw[xT];omega);rwa [xT] at this,fun hb=>?_⟩
   cases hk:p.isKept with
   |false=>rw[hk] at e1;cases e1;exact hb
   |true=>
    rw[hk] at e1
    unfold dC at e1
    split at e1
    ·rename_i c1 u2 iY mP e2 e3
     cases e1
     cases hy:vW (.c y) with
     |false=>rfl
     |true=>rw[(Nl e2).2 hy] at hb;cases hb
    ·cases e1
  ·cases e
 ·split at e
  ·rename_i ys u1 e1
   cases e
   exact⟨xV e1,fun _=>rfl⟩
  ·cases e
 simp_all
theorem YW:∀{l as},(∀id∈as.flatMap yC,h id=h' id)→nu h l as=nu h' l as
 |[],as,_=>by rfl
 |_::_,[],_=>rfl
 |s::l,a::as,hh=>by
  simp  at hh
  unfold nu
  rw[vB3 fun id hi=>hh id (.inl hi),YW (by grind)]
theorem YX:∀{l as de u},nu h l as=some (de,u)→(∀id∈de.flatMap yC,id∈as.flatMap yC)∧(as.any vW=false→de.any vW=false)
 |[],as,de,u,e=>by cases as<;>cases e<;>exact by simp
 |s::l,[],de,u,e=>by cases e;simp
 |s::l,a::as,de,u,e=>by
  unfold nu at e
  split at e
  ·rename_i a1 u1 Ni mP e1 e2
   obtain⟨k1,k2⟩:=yRq e1
   obtain⟨k3,k4⟩:=YX e2
   grind
  ·cases e
theorem YY {as nm n args}(h1:args.any vW=false→∀id,(id∈args.flatMap yC∨j8 nm id=true)→h id=h' id)(h2:args.any vW=true→h=h'):uh as nm n args h=uh as nm n args h':=by
 cases hb:args.any vW with
 |true=>rw[h2 hb]
 |false=>
  have hh:=h1 hb
  unfold uh
  rw[YW (h:=h) (h':=h') (by grind)]
  cases e:nu h' as args with
  |none=>rfl
  |some p=>
   obtain⟨cY,u⟩:=p
   obtain⟨k1,k2⟩:=YX e
   dsimp only
   rw[YU (h:=qA h u) (h':=qA h' u) (k2 hb)]
   cases e2:gp (qA h' u) as cY with
   |none=>rfl
   |some q=>
    obtain⟨cs,bs⟩:=q
    dsimp only
    rw[YT (h:=qA h u) (h':=qA h' u) fun id ab=>tP (hh id (.inl (k1 id (YV (k2 hb) e2 id ab))))]
    cases lX (qA h' u) (as.flatMap AX.cells) cs with
    |none=>rfl
    |some d=>
     cases hle:Nat.ble n 100 with
     |false=>simp
     |true=>
      have hle:=Nat.le_of_ble_eq_true hle
      rw [Nm (h := h) (h' := h') fun i hi => hh _ (.inr (by
       simp only[j8,Bool.and_eq_true]
       exact⟨by simp,by simp[Nat.blt_eq];omega⟩))]
end
theorem YZ {as rs os ns X}{S:Nat→XD as→Option X}{pack}:Dm fun k nm args h=>nv as rs os ns (S k) pack nm args h:=by
 intro k nm args h h' h1 h2
 show nv as rs os ns (S k) pack nm args h=nv as rs os ns (S k) pack nm args h'
 unfold nv
 rw[YY h1 h2]
theorem yQf {as rs rs2 os os2 ns ns2 X Y}{S:Nat→XD as→Option (X⊕Y)}{pk fg}:Dm fun k nm args h=>oZ as rs os ns rs2 os2 ns2 (S k) pk fg nm args h:=by
 intro k nm args h h' h1 h2
 show oZ as rs os ns rs2 os2 ns2 (S k) pk fg nm args h=oZ as rs os ns rs2 os2 ns2 (S k) pk fg nm args h'
 unfold oZ
 rw[YY h1 h2]
structure zB (P:Program) (r:Nat×kp):Prop where
 ok:XZ P r
 loc:Dm r.2
def ye (P:Program):List (Nat×kp)→Prop
 |[]=>True
 |r::l=>zB P r∧ye P l
theorem ye.all {P}:∀{l},ye P l→∀r∈l,zB P r
 |a::l,h,r,hr=>by
  rcases List.mem_cons.1 hr with rfl|hr
  ·exact h.1
  ·exact ye.all h.2 r hr
structure jE (E:Env):Prop where
 ok:dB E
 loc:fF E.sums
 ord:E.P.follows .mixedOrders=true
theorem NK {P l eqT}(he:CF P eqT)(hm:P.follows .mixedOrders=true)(h:ye P l):jE ⟨P,eqT,dD l⟩:=
 ⟨⟨he,X0 fun r hr=>(h.all r hr).ok⟩,X1 fun r hr=>(h.all r hr).loc,hm⟩
theorem kY {P l}(hm:P.follows .mixedOrders=true)(h:ye P l):jE ⟨P,fun _=>false,dD l⟩:=NK vEo hm h
theorem loops1 {P A pre na nt c L}(h:zZ P pre na nt (zV c 0) L)(hn:(kq c).length=1:=by kernel_rfl) (hl:qn A (zV c 0)=some L:=by kernel_rfl):vR P A pre na nt c:=
 rD hn (by grind)
theorem zF {P A pre na nt c}(hn:(kq c).length=0:=by kernel_rfl):vR P A pre na nt c:=vAl hn
def Y0 (E:Env)(A:qB)(na nt:Nat)(b:Code) ins outs {X Y:Type}(iS:qg outs→X)(c:Y→ot ins→Option X)(bf:Nat→Y→Y):Prop:=
 ∀k rec d,c (bf k rec) d=GJ (1000+eC) ins d fun st=>fW E A k 1000 na nt b st (VP 1000 ins outs iS (c rec))
abbrev vA9 (X:Type):=Nat→X→(R:Type)→(Ex→St→Option R)→Option R
theorem yU2 {E A na nt b ins outs X Y iS c bf}(hE:jE E)(hs:Y0 E A na nt b ins outs iS c bf)(f:Nat→Nat→Y)(elim:vA9 X)
  (hX:∀o R K,elim (1000+eC) (iS o) R K=xk (1000+eC) outs o K) (hL:vR E.P A 1000 na nt b) (h0:∀k d,c (f k 0) d=none:=by intros;rfl) (h1:∀k n,f k (n+1)=bf k (f k n):=by intros;rfl):
  zZ E.P 1000 na nt b ⟨ins,outs,X,fun k d=>c (f k k) d,elim⟩:=
 yLi hE.ok hE.loc hE.ord hL iS elim hX (fun k n d=>c (f k n) d) h0 (fun k n d=>by rw[h1];exact hs k (f k n) d)
def NL (E:Env)(A:qB)(na:Nat)(fn:Func) as (rs:RS){X}(up:RL rs.cells→X)(S:Nat→AD as→Option X):Prop:=
 ∀k d,fY E A k 1000 na fn (lT as d).1 (lT as d).2 (jb rs up)=S k d
def Y1 (E:Env)(A:qB)(na:Nat)(fn:Func) as (rs:RS)(os:List (List RC))(ns:Nat){X}(up:RL (rs.cells++os.flatten)→X)(S:Nat→XD as→Option X):Prop:=
 ∀k d,fY E A k 1000 na fn (gq as d).1 (gq as d).2 (Dz as rs os ns up)=S k d
def Y2 (E:Env)(A:qB)(na:Nat)(fn:Func) as (rs:RS)(os:List (List RC))(ns:Nat)(rs2:RS)(os2:List (List RC))(ns2:Nat){X Y}(up:RL (rs.cells++os.flatten)→X)(iw:RL (rs2.cells++os2.flatten)→Y)(S:Nat→XD as→Option (X⊕Y)):Prop:=
 ∀k d,fY E A k 1000 na fn (gq as d).1 (gq as d).2 (HB as rs os ns rs2 os2 ns2 up iw)=S k d
theorem yVq {E A na f fn as rs X S pack}{unpack:RL rs.cells→X}(hE:jE E)(aF:NL E A na fn as rs unpack S)(hL:vR E.P A 1000 na fn.ntmps (zX fn))
  (hf:E.P.funcs[f]? =some fn:=by kernel_rfl) (hb:fn.body.isNone=false:=by kernel_rfl) (hn:(fn.name== "runtime.NumGoroutine")=false:=by kernel_rfl) (df:∀d,pack (unpack d)=d:=by intro d;rfl):
  zB E.P (f,fun k nm args h=>kU as rs (S k) pack nm args h):=
 ⟨fun k _ _ _ _ _ hy=>yRj hE.ok hE.loc hE.ord hf (body_loops hL) (Dp hf hb hn) df (aF k) hy,X8⟩
theorem yTy {E A na f fn as rs os ns X}{S:Nat→XD as→Option X}{pack unpack}(hE:jE E)(aF:Y1 E A na fn as rs os ns unpack S)
  (hL:vR E.P A 1000 na fn.ntmps (zX fn)) (hf:E.P.funcs[f]? =some fn:=by kernel_rfl) (hb:fn.body.isNone=false:=by kernel_rfl) (hn:(fn.name== "runtime.NumGoroutine")=false:=by kernel_rfl) (gu:oY as na=true:=by kernel_rfl) (jc:(!as.any AX.isChn||A.loops.isEmpty)=true:=by kernel_rfl) (df:∀d,pack (unpack d)=d:=by intro d;rfl):
  zB E.P (f,fun k nm args h=>nv as rs os ns (S k) pack nm args h):=
 ⟨fun k _ _ _ _ _ hy=>yY3 hE.ok hE.loc hE.ord hf (body_loops hL) (Dp hf hb hn) df gu jc (aF k) hy,YZ⟩
theorem yO9 {E A na f fn as rs rs2 os os2 ns ns2 X Y}{S:Nat→XD as→Option (X⊕Y)}{pk up fg iw}(hE:jE E)
  (aF:Y2 E A na fn as rs os ns rs2 os2 ns2 up iw S)
  (hL:vR E.P A 1000 na fn.ntmps (zX fn)) (hf:E.P.funcs[f]? =some fn:=by kernel_rfl) (hb:fn.body.isNone=false:=by kernel_rfl) (hn:(fn.name== "runtime.NumGoroutine")=false:=by kernel_rfl) (gu:oY as na=true:=by kernel_rfl) (jc:(!as.any AX.isChn||A.loops.isEmpty)=true:=by kernel_rfl) (df:∀d,pk (up d)=d:=by intro d;rfl) (kx:∀d,fg (iw d)=d:=by intro d;rfl):
  zB E.P (f,fun k nm args h=>oZ as rs os ns rs2 os2 ns2 (S k) pk fg nm args h):=
 ⟨fun k _ _ _ _ _ hy=>yZo hE.ok hE.loc hE.ord hf (body_loops hL) (Dp hf hb hn) df kx gu jc (aF k) hy,yQf⟩
theorem yMp {E A na f fn sh t rs X}{S:Nat→List t.den→Option X}{pack unpack}(hE:jE E)(bW:∀k,fY E A k 1000 na fn [.c .nsl] (ir []) (jb rs unpack)=S k [])
  (aF:∀k xs,fY E A k 1000 na fn [.c (.nfl sh t xs)] (ir []) (jb rs unpack)=S k xs) (hL:vR E.P A 1000 na fn.ntmps (zX fn)) (hf:E.P.funcs[f]? =some fn:=by kernel_rfl) (hb:fn.body.isNone=false:=by kernel_rfl) (hn:(fn.name== "runtime.NumGoroutine")=false:=by kernel_rfl) (df:∀d,pack (unpack d)=d:=by intro d;rfl):
  zB E.P (f,fun k nm args h=>kU [.c (.dat sh t)] rs (fun d=>S k d.1) pack nm args h):=
 ⟨fun k _ _ _ _ _ hy=>vFz hE.ok hE.loc hE.ord hf (body_loops hL) (Dp hf hb hn) df (fun x hx=>(bW k).trans hx) (by grind) hy,X8⟩
def yf (k:Nat)(a b c:Int):Option (Int×Int):=
 bif decide (c=0) then some (Int.ofNat ((a.toNat+b.toNat+0)%18446744073709551616),Int.ofNat ((a.toNat+b.toNat+0)/18446744073709551616)) else none
def HL:kp:=fun k nm args h=>match args with
 |[.c (.int .u64 a),.c (.int .u64 b),.c (.int .u64 c)]=>.call (Int×Int) (yf k a b c) (fun r=>(.tup [(false,[.int .u64 r.1]),(false,[.int .u64 r.2])],[]))
 |_=>.stuck
theorem vHb {P} a b w:
  (add64Entry #[.int .u64 a,.int .u64 b,.int .u64 0]).run P w=.ok (.tuple #[.int .u64 (Int.ofNat ((a.toNat+b.toNat+0)%18446744073709551616)),.int .u64 (Int.ofNat ((a.toNat+b.toNat+0)/18446744073709551616))]) w:=rfl
theorem yNt {P f fn}(hf:P.funcs[f]? =some fn:=by kernel_rfl) (l7:(fn.name== "runtime.NumGoroutine")=false:=by kernel_rfl) (hb:fn.body.isNone=true:=by kernel_rfl)
  (hn:Extern.findNext fn=none:=by kernel_rfl) (he:Extern.find fn=some add64Entry:=by kernel_rfl):
  zB P (f,HL):=by
 refine⟨fun k nm args h v u hy=>?_,fun _ _ _ _ _ _ _=>rfl⟩
 intro M w vs hh hH ok hv
 refine .inr ?_
 replace hy:qX (HL k nm args h) v u:=hy
 unfold HL at hy
 split at hy
 ·rename_i a b c
  obtain⟨x,hx,rfl,rfl⟩:=hy
  match hl:vs.toList,hv with
  |[v1,v2,v3],hv=>
   obtain⟨h1,h2,h3,_⟩:=hv
   cases h1;cases h2;cases h3
   obtain rfl:vs=#[.int .u64 a,.int .u64 b,.int .u64 c]:=by grind
   obtain⟨hc,hx⟩:=vN hx
   cases hx
   have hc:c=0:=by simp_all
   subst hc
   refine⟨.tuple #[.int .u64 (Int.ofNat ((a.toNat+b.toNat+0)%18446744073709551616)),.int .u64 (Int.ofNat ((a.toNat+b.toNat+0)/18446744073709551616))],w,M,?_,⟨rfl,rfl,rfl,hH,rfl,ok,.refl M⟩,?_⟩
   ·rw[run_callFunc_extern hf l7 hb hn he,vHb a b w]
    rfl
   ·exact⟨#[.int .u64 (Int.ofNat ((a.toNat+b.toNat+0)%18446744073709551616)),.int .u64 (Int.ofNat ((a.toNat+b.toNat+0)/18446744073709551616))],rfl,rfl,rfl,trivial⟩
 ·exact hy.elim
end Go.Ab
