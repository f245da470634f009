/- part 2 -/
import Derived.Test.YtbejmoaalcabdaaGreatGiAbB
import Derived.ProofKit
import Derived.Below
import Derived.Carry
import Derived.Laws.Externs
set_option linter.unusedVariables false
set_option linter.unusedSimpArgs false
set_option linter.unusedSectionVars false
namespace Go.Ab
def Ex.toExit:Ex→Exit
 |.normal=>.normal
 |.ret=>.ret
 |.exit id=>.exit id
theorem yVo {P Q c}(I:Nat→Act→World→Prop)(round:∀n a w,I n a w→c.wp P (Exit.then (fun a' w'=>∃m,m<n∧I m a' w') Q) a w){n a w}(h₀:I n a w):(Code.loop c).wp P Q a w:=by
 intro b k cs
 have key:∀n a w,I n a w→∃e a' w',Q e a' w'∧Arrives P (lone (b.at a (.code c::.inLoop c::k)) cs w) b k cs e a' w':=by
  intro n
  induction n using Nat.strongRecOn with
  |_ n ih=>
   intro a w hI
   obtain⟨e,a₁,w₁,hq,jt⟩:=round n a w hI b (.inLoop c::k) cs
   cases e with
   |normal=>
    obtain⟨m,hm,hI₁⟩:=hq
    obtain⟨e₂,a₂,w₂,hq₂,harr₂⟩:=ih m hm a₁ w₁ hI₁
    exact⟨e₂,a₂,w₂,hq₂,.of_steps (Steps.trans jt (.one step_inLoop)) harr₂⟩
   |exit id=>exact⟨_,a₁,w₁,hq,.pass (x:=.inLoop c) rfl (by simp) jt⟩
   |goto l=>exact⟨_,a₁,w₁,hq,.pass (x:=.inLoop c) rfl (by simp) jt⟩
   |ret=>exact⟨_,a₁,w₁,hq,.pass (x:=.inLoop c) rfl (fun _ _=>.inl (by simp)) jt⟩
   |panic ch=>exact⟨_,a₁,w₁,hq,.pass (x:=.inLoop c) rfl (fun _ _=>.inl (by simp)) jt⟩
   |outgrown=>exact⟨_,a₁,w₁,hq,.pass (x:=.inLoop c) rfl (by simp) jt⟩
 obtain⟨e,a',w',hq,jt⟩:=key n a w h₀
 exact⟨e,a',w',hq,.of_steps (.one step_loop) jt⟩
def Lk (tmps:Array Value):ResultVar→Sem Value
 |.tmp t=>pure (tmps.getD t undef)
 |.cell c t=>do loadVar t (←asAddr (tmps.getD c undef))
def xW (base:Nat):(l:List (Ex×zE))→tS l→Ex×St
 |[],d=>(.normal,⟨fun _=>.undef,fun _=>none⟩)
 |[p],d=>(p.1,zN base p.2 d)
 |p::q::l,d=>match d with
  |.inl d=>(p.1,zN base p.2 d)
  |.inr d=>xW base (q::l) d
theorem yOe {R base K}{out:R}:∀{l d},BA base l d K=some out→K (xW base l d).1 (xW base l d).2=some out
 |[p],_,h
 |p::q::l,.inl d,h=>h
 |p::q::l,.inr d,h=>yOe (l:=q::l) h
def G3 (base:Nat):(l:List zE)→pB l→St
 |[],_=>⟨fun _=>.undef,fun _=>none⟩
 |[S],d=>zN base S d
 |S::T::l,d=>match d with
  |.inl d=>zN base S d
  |.inr d=>G3 base (T::l) d
theorem yDv {R base K}{out:R}:∀{l d},KF base l d K=some out→K (G3 base l d)=some out
 |[S],_,h
 |S::T::l,.inl d,h=>h
 |S::T::l,.inr d,h=>yDv (l:=T::l) h
def zT (P:Program)(pre na nt:Nat)(b:Code)(L:zU):Prop:=∀k d x,L.sum k d=some x→∀(a0:Nat→Value) (M0:zL) (w0:World) (a:Act) (w:World) (Q:Exit→Act→World→Prop),
 vQ false na nt a0 M0 w0 (G3 (pre+gA) L.ins d) a w→
 (∀(o:tS L.outs) a' w',(∀R K,L.elim (pre+gA) x R K=BA (pre+gA) L.outs o K)→vQ false na nt a0 M0 w0 (xW (pre+gA) L.outs o).2 a' w'→Q (xW (pre+gA) L.outs o).1.toExit a' w')→
 (Code.loop b).wp P Q a w
def wG (P:Program)(A:zW)(pre na nt:Nat):Code→Prop
 |.seq a b=>wG P A pre na nt a∧wG P A pre na nt b
 |.cond _ a b=>wG P A pre na nt a∧wG P A pre na nt b
 |.block _ b=>wG P A pre na nt b
 |.loop b=>(∀L,tX A b=some L→zT P pre na nt b L)∧(tX A b=none→wG P A pre na nt b)
 |_=>True
theorem yWx {A c b st}(h:st.ev c=.c (.bool b)):KG A c b st=st:=by
 unfold KG
 split
 ·rw[RP h]
 ·rfl
section
variable {nl:Bool} {E:Env} {A:zW} {k pre na nt:Nat} {a0:Nat→Value} {R:Type} {M0:zL} {w0:World} {out:R}
theorem R9 {a w st}(r:vQ false na nt a0 M0 w0 st a w):∀{l x},Bz pre l st=some x→vQ false na nt a0 M0 w0 (G3 (pre+gA) l x) a w
 |[S],x,h=>Lj r h
 |S::T::l,x,h=>by
  unfold Bz at h
  split at h
  ·rename_i d hd
   cases h
   exact Lj r hd
  ·split at h
   ·rename_i d hd
    cases h
    exact R9 r (l:=T::l) hd
   ·cases h
theorem yU2 (hE:fS E)(hS:iN E.sums)(hm:E.P.follows .mixedOrders=true)(GM:nl=true→A.loops=[]):∀c,wG E.P A pre na nt c→∀st K a w Q,jc E A k pre na nt c st K=some out→vQ nl na nt a0 M0 w0 st a w→
  (∀e bE a' w',vQ nl na nt a0 M0 w0 bE a' w'→K e bE=some out→Q e.toExit a' w')→c.wp E.P Q a w:=by
 intro c
 induction c with
 |skip=>exact fun _ st K a w Q h r hK=>wp_skip (hK .normal st a w r h)
 |region id ops draw=>
  intro _ st K a w Q h r hK
  cases draw with
  |true=>
   cases he:Gk ops with
   |false=>simp only[jc,he] at h;cases h
   |true=>
    simp only[jc,he] at h
    exact vH0 hE hS hm he h r fun bE a' w' r' h'=>hK .normal bE a' w' r' h'
  |false=>
   have:=yI5 hE (Q:=Q) _ _ _ _ a w (by grind) h r fun bE a' w' r' h'=>hK .normal bE a' w' r' h'
   refine wp_region ?_
   have e:(ops.toList.zipIdx.map fun p=>(p.2,p.1)).map (·.1)=List.range ops.size:=by
    rw[List.map_map]
    have e2:((fun x:Nat×Oper=>x.1)∘fun p:Oper×Nat=>(p.2,p.1))=Prod.snd:=rfl
    rw[e2,List.zipIdx_map_snd,←List.range_eq_range']
    simp
   simp_all
 |seq x y Sa Sb=>
  intro hL st K a w Q h r hK
  simp only[jc] at h
  refine wp_seq (Sa hL.1 st _ a w _ h r fun e bE a' w' r' h'=>?_)
  cases e with
  |normal=>exact Sb hL.2 bE K a' w' Q h' r' hK
  |ret=>exact hK .ret bE a' w' r' h'
  |exit id=>exact hK (.exit id) bE a' w' r' h'
 |cond c x y Sa Sb=>
  intro hL st K a w Q h r hK
  simp only[jc] at h
  split at h
  ·rename_i t ht
   obtain⟨M,_,_,_,_,hv⟩:=r.ex
   have hc:=yBv hv c
   rw[ht] at hc
   refine wp_cond (t:=t) hc ?_
   cases t with
   |true=>
    rw[yWx ht,cond_true] at h
    exact Sa hL.1 st K a w Q h r hK
   |false=>
    rw[yWx ht,cond_false] at h
    exact Sb hL.2 st K a w Q h r hK
  ·cases h
 |block id b ih=>
  intro hL st K a w Q h r hK
  simp only[jc] at h
  refine wp_block (ih hL st _ a w _ h r fun e bE a' w' r' h'=>?_)
  cases e with
  |normal=>exact hK .normal bE a' w' r' h'
  |ret=>exact hK .ret bE a' w' r' h'
  |exit i=>
   show if i=id then Q .normal a' w' else Q (.exit i) a' w'
   dsimp only at h'
   cases e:Nat.beq i id with
   |true=>
    rw[e] at h'
    rw[if_pos (by simpa using e)]
    exact hK .normal bE a' w' r' h'
   |false=>
    rw[e] at h'
    rw[if_neg (fun e'=>by simp_all)]
    exact hK (.exit i) bE a' w' r' h'
 |loop b ih=>
  intro hL st K a w Q h r hK
  simp only[jc] at h
  split at h
  ·rename_i hN
   refine yVo (fun n a w=>∃st,vQ nl na nt a0 M0 w0 st a w∧Qu (jc E A k pre na nt b) n st K=some out) (fun n a w ⟨st,r,hi⟩=>?_) ⟨st,r,h⟩
   cases n with
   |zero=>cases hi
   |succ n=>
    refine ih (hL.2 hN) st _ a w _ hi r fun e bE a' w' r' h'=>?_
    cases e with
    |normal=>exact⟨n,by simp,bE,r',h'⟩
    |ret=>exact hK .ret bE a' w' r' h'
    |exit id=>exact hK (.exit id) bE a' w' r' h'
  ·rename_i L hN
   split at h
   ·cases h
   ·rename_i d hd
    obtain⟨x,hx,h⟩:=Option.bind_eq_some_iff.1 h
    cases nl with
    |true=>
     unfold tX at hN
     grind
    |false=>exact hL.1 L hN k d x hx a0 M0 w0 a w Q (R9 r hd) fun o a' w' ho r'=>hK _ _ a' w' r' (yOe (by simp_all))
 |exit id=>exact fun _ st K a w Q h r hK=>wp_exit (hK (.exit id) st a w r h)
 |ret=>exact fun _ st K a w Q h r hK=>wp_ret (hK .ret st a w r h)
 |_=>nofun
theorem yYz {a b}(h:Qn a b=true):a=b:=by
 cases a<;>cases b<;>first|rfl|(cases h)|skip
 rw[Nat.eq_of_beq_eq_true h]
theorem yKf {a w st e}(r:vQ false na nt a0 M0 w0 st a w):∀{l x},Gm pre l e st=some x→(xW (pre+gA) l x).1=e∧vQ false na nt a0 M0 w0 (xW (pre+gA) l x).2 a w
 |[p],x,h=>by
  obtain⟨he,h⟩:=mF h
  exact⟨yYz he,Lj r h⟩
 |p::q::l,x,h=>by
  unfold Gm at h
  split at h
  ·rename_i d hd
   cases h
   obtain⟨he,hd⟩:=mF hd
   exact⟨yYz he,Lj r hd⟩
  ·split at h
   ·rename_i d hd
    cases h
    exact yKf r (l:=q::l) hd
   ·cases h
theorem vWr (hE:fS E)(hS:iN E.sums)(hm:E.P.follows .mixedOrders=true){b ins outs}(hL:wG E.P A pre na nt b){X} lJ elim (hX:∀o R K,elim (pre+gA) (lJ o) R K=BA (pre+gA) outs o K)
  (rec:Nat→Nat→pB ins→Option X) (h0:∀k d,rec k 0 d=none)
  (aM:∀k n d,rec k (n+1) d=KF (pre+gA) ins d fun st=>jc E A k pre na nt b st (yOg pre ins outs lJ (rec k n))):zT E.P pre na nt b ⟨ins,outs,X,fun k d=>rec k k d,elim⟩:=by
 intro k d x hx a0 M0 w0 a w Q r hQ
 refine yVo (fun n a w=>∃d,vQ false na nt a0 M0 w0 (G3 (pre+gA) ins d) a w∧rec k n d=some x) (fun n a w ⟨d,r,hi⟩=>?_) ⟨d,r,hx⟩
 cases n with
 |zero=>simp_all
 |succ n=>
  rw[aM k n d] at hi
  refine yU2 hE hS hm (by simp) b hL _ _ a w _ (yDv hi) r fun e bE a' w' r' h'=>?_
  have out:∀e,(match Gm pre outs e bE with|some o=>some (lJ o)|none=>none)=some x→Q e.toExit a' w':=fun e h'=>by
   split at h'
   ·rename_i o ho
    obtain⟨h1,h2⟩:=yKf (pre:=pre) r' ho
    grind
   ·cases h'
  cases e with
  |normal=>
   have h':(match Bz pre ins bE with|some d=>rec k n d|none=>none)=some x:=h'
   split at h'
   ·rename_i d' hd
    exact⟨n,by simp,d',R9 r' hd,h'⟩
   ·cases h'
  |ret=>exact out .ret h'
  |exit id=>exact out (.exit id) h'
theorem vQq fn tmps:results fn tmps=(do let vs←fn.results.mapM (Lk tmps);pure (if h:vs.size=1 then vs[0] else .tuple vs)):=rfl
theorem Sc (hE:fS E)(hS:iN E.sums)(hm:E.P.follows .mixedOrders=true){st}{a:Act}{w x v M}(hM:M.h=st.h)(hH:M.H=w.heap)(ok:Ok M)(ht:∀t,zV M (st.t t) (a.tmps.getD t undef))(h:tY E st x=some v):
  ∃rv,(Lk a.tmps x).run E.P w=.ok rv w∧zV M v rv:=by
 unfold tY at h
 split at h
 ·rename_i t
  cases h
  exact⟨_,rfl,ht t⟩
 ·rename_i c t
  split at h
  ·rename_i id off hc
   split at h
   ·split at h
    ·rename_i vs eG
     have hv:=ht c
     rw[hc] at hv
     obtain⟨C,B,hC,hB,e⟩:=hv
     obtain⟨C',aD,hO⟩:=ok.obj id _ (by rw[hM];omega)
     rw[hC] at aD;cases aD
     obtain⟨B',jk,aF⟩:=yVk hO
     rw[hB] at jk;cases jk
     obtain⟨rv2,mE,dj⟩:∃rv,(loadVar t ⟨B,0+off,none⟩).run E.P w=.ok rv w∧zV M v rv:=vCn ok hH aF eG h
     refine⟨rv2,?_,dj⟩
     simp  at mE
     unfold Lk
     dsimp only
     rw[e]
     simp[asAddr,mE]
    ·cases h
   ·cases h
  ·cases h
theorem vLn {M v p rv}(h:BB v=some p)(hv:zV M v rv):ua M p rv:=by
 unfold BB at h
 split at h
 ·cases h;exact hv
 ·cases h;exact hv
 ·cases h
theorem yIn {M}:∀{vs xs rs},zM (fun a b=>BB a=some b) vs xs→zM (zV M) vs rs→zM (ua M) xs rs
 |[],[],[],_,_=>trivial
 |_::_,_::_,_::_,h,k=>⟨vLn h.1 k.1,yIn h.2 k.2⟩
theorem yCx {st}:∀(l:List ResultVar) xs,l.mapM (fun r=>(tY E st r).bind BB)=some xs→∃vs,l.mapM (tY E st)=some vs∧vs.mapM BB=some xs
 |[],xs,h=>by simp_all
 |x::l,xs,h=>by
  simp only[List.mapM_cons,Option.bind_eq_bind,Option.bind_eq_some_iff] at h
  obtain⟨p,⟨v,h1,h2⟩,ps,h3,h4⟩:=h
  obtain⟨vs,k1,k2⟩:=yCx l ps h3
  simp_all
theorem vKi (hE:fS E)(hS:iN E.sums)(hm:E.P.follows .mixedOrders=true){fn st}{a:Act}{w v M}(hM:M.h=st.h)(hH:M.H=w.heap)(ok:Ok M)(ht:∀t,zV M (st.t t) (a.tmps.getD t undef))(h:KH E fn st=some v):
  ∃rv,(results fn a.tmps).run E.P w=.ok rv w∧zV M v rv:=by
 have one:=fun x v=>Sc hE hS hm (x:=x) (v:=v) hM hH ok ht
 have key:∀(l:List ResultVar) (vs:List zX),l.mapM (tY E st)=some vs→∃rs:List Value,(l.mapM (Lk a.tmps)).run E.P w=.ok rs w∧zM (zV M) vs rs:=by
  intro l
  induction l with
  |nil=>exact fun vs h=>by simp at h;subst h;exact⟨[],rfl,trivial⟩
  |cons x l ih=>
   intro vs h
   simp[Option.bind_eq_some_iff] at h
   obtain⟨v,h1,QT,h2,h3⟩:=h
   cases h3
   obtain⟨rv,k1,k2⟩:=one x v h1
   obtain⟨rs,k3,k4⟩:=ih QT h2
   refine⟨rv::rs,?_,k2,k4⟩
   simp_all
 have run:∀(vs:List zX),fn.results.toList.mapM (tY E st)=some vs→∃rs:List Value,(results fn a.tmps).run E.P w=.ok (if h:rs.length=1 then rs[0] else .tuple rs.toArray) w∧zM (zV M) vs rs:=fun vs h=>by
  obtain⟨rs,k1,k2⟩:=key _ vs h
  refine⟨rs,?_,k2⟩
  rw[vQq,Array.mapM_eq_mapM_toList]
  simp_all
 unfold KH at h
 split at h
 ·cases h
  obtain⟨rs,k1,k2⟩:=run [] (by simp_all)
  cases rs with
  |cons _ _=>exact k2.elim
  |nil=>exact⟨_,k1,#[],rfl,trivial⟩
 ·obtain⟨rs,k1,k2⟩:=run [v] (by simp_all)
  match rs,k2 with
  |[r],k2=>exact⟨_,k1,k2.1⟩
 ·split at h
  ·rename_i xs GS
   cases h
   obtain⟨vs,k1,k2⟩:=yCx _ _ GS
   obtain⟨rs,r1,r2⟩:=run vs k1
   have hlen:rs.length≠1:=fun e=>by
    have e1:=r2.length
    have e2:=(GR _ _ _ k1).length
    have h3:fn.results.toList.length=1:=by omega
    match hl:fn.results.toList,h3 with
    |[x],_=>simp_all
   rw[dif_neg hlen] at r1
   exact⟨_,r1,rs.toArray,rfl,yIn (GR _ _ _ k2) r2⟩
  ·cases h
theorem Sd (hE:fS E)(hS:iN E.sums)(hm:E.P.follows .mixedOrders=true){f fn}(hf:E.P.funcs[f]? =some fn)(hL:∀c,fn.body=some c→wG E.P A pre na fn.ntmps c){args h K}(aR:je E A k pre na fn args h K=some out){M w vs}(hh:M.h=h)(hH:M.H=w.heap)(ok:Ok M)
  (hv:zM (zV M) args vs.toList):Calls E.P f vs w fun
   |.returned rv,w'=>∃(M':zL) (v:zX) (st:St),K v st=some out∧M'.h=st.h∧M'.H=w'.heap∧Ok M'∧iO M M'∧(A.loops=[]→Lb M M')∧zV M' v rv∧w'.os=w.os∧w'.tape=w.tape∧w'.output=w.output∧
     (∀t,t<na→zV M' (st.t t) (vs.getD t undef))
   |_,_=>False:=by
 unfold je at aR
 cases hb:fn.body with
 |none=>simp_all
 |some c=>
  rw[hb] at aR
  dsimp only at aR
  cases hle:Nat.ble args.length fn.ntmps with
  |false=>simp_all
  |true=>
   rw[hle] at aR
   rw[cond_true] at aR
   have hl:=hv.length
   have hle:args.length≤fn.ntmps:=Nat.le_of_ble_eq_true hle
   have dN:vs.size≤fn.ntmps:=by simp at hl;omega
   have G4:∀t,zV M (KI args t) ((vs++Array.replicate (fn.ntmps-vs.size) undef).getD t undef):=fun t=>by
    unfold KI
    by_cases ht:t<args.length
    ·have Se:t<vs.size:=by simp at hl;omega
     have:=hv.get t ht (by simpa using Se)
     simp only[List.getD_eq_getElem?_getD,List.getElem?_eq_getElem ht,Option.getD_some]
     simp only[Array.getD_eq_getD_getElem?,Array.getElem?_append_left Se,Array.getElem?_eq_getElem Se,Option.getD_some]
     simpa using this
    ·simp only[List.getD_eq_getElem?_getD,List.getElem?_eq_none (Nat.not_lt.1 ht),Option.getD_none]
     show _=undef
     simp
     grind
   have r:vQ A.loops.isEmpty na fn.ntmps (fun t=>(vs++Array.replicate (fn.ntmps-vs.size) undef).getD t undef) M w {t:=KI args,h:=h} {tmps:=vs++Array.replicate (fn.ntmps-vs.size) undef,defers:=[]} w:=
    ⟨⟨M,hh,hH,ok,⟨.refl M,fun _ _ C h=>⟨C,h,rfl⟩⟩,G4⟩,rfl,by simp;omega,rfl,rfl,rfl,fun _ _=>rfl⟩
   refine calls_of_wp hf hb (yU2 hE hS hm (by simp) c (hL c hb) _ _ _ _ _ aR r fun e bE a' w' r' hK=>?_)
   obtain⟨M',q1,q2,q3,q4,q5⟩:=r'.ex
   have fin:∀v,KH E fn bE=some v→K v bE=some out→a'.defers=[]∧∃rv,(results fn a'.tmps).run E.P w'=.ok rv w'∧∃(M':zL) (v:zX) (st:St),K v st=some out∧M'.h=st.h∧M'.H=w'.heap∧Ok M'∧iO M M'∧(A.loops=[]→Lb M M')∧zV M' v rv∧w'.os=w.os∧w'.tape=w.tape∧w'.output=w.output∧
     (∀t,t<na→zV M' (st.t t) (vs.getD t undef)):=fun v ju hK=>by
    obtain⟨rv,k1,k2⟩:=vKi hE hS hm q1 q2 q3 q5 ju
    refine⟨r'.defers,rv,k1,M',v,bE,hK,q1,q2,q3,q4.g,fun h=>q4.k (by grind),k2,r'.os,r'.tape,r'.output,fun t ht=>?_⟩
    have:=q5 t
    rw[r'.keep t ht] at this
    have e:(vs++Array.replicate (fn.ntmps-vs.size) undef).getD t undef=vs.getD t undef:=by
     by_cases h1:t<vs.size
     ·simp[Array.getD_eq_getD_getElem?,Array.getElem?_append_left h1]
     ·simp
      grind
    simp_all
   cases e with
   |exit id=>cases hK
   |normal=>
    dsimp only at hK
    split at hK
    ·rename_i v ju
     exact fin v ju hK
    ·cases hK
   |ret=>
    dsimp only at hK
    split at hK
    ·rename_i v ju
     exact fin v ju hK
    ·cases hK
end
inductive PC where
 |int (k:IntKind)|bool|dat (sh:Bool) (t:Ty)|fn (f:Nat)
 |nil|nilp
abbrev PC.den:PC→Type
 |.int _=>Int|.bool=>Bool|.dat _ t=>List t.den|.fn _=>Unit|.nil=>Unit|.nilp=>Unit
abbrev PL:List PC→Type
 |[]=>Unit
 |p::l=>p.den×PL l
inductive AS where
 |c (p:PC)|agg (l:List PC)|ptr (l:List PC)|fn (f:Nat) (bp:List (List PC))
def AS.cells:AS→List PC
 |.c p=>[p]
 |.agg l=>l
 |.ptr l=>l
 |.fn _ bp=>bp.flatten
abbrev AD (l:List AS):Type:=PL (l.flatMap AS.cells)
def xX (h:Hp)(t:Ty):zZ→Option (List t.den)
 |.nsl=>some []
 |c=>match jb h c with
  |some ⟨s,xs⟩=>gw s t xs
  |none=>none
def so (h:Hp):(p:PC)→zZ→Option p.den
 |.int k,.int j n=>bif fO j k then some n else none
 |.bool,.bool b=>some b
 |.dat false t,c=>xX h t c
 |.dat true t,.fsl true s xs=>gw s t xs
 |.dat true t,.nsl=>some []
 |.fn f,.fn g []=>bif Nat.beq f g then some () else none
 |.nil,.nsl=>some ()
 |.nilp,.nilp=>some ()
 |_,_=>none
def xY (h:Hp):(l:List PC)→List zZ→Option (PL l)
 |[],[]=>some ()
 |p::l,c::cs=>match so h p c,xY h l cs with
  |some d,some ds=>some (d,ds)
  |_,_=>none
 |_,_=>none
def B6 (h:Hp)(id:Nat):Option (List zZ):=match h id with
 |some (.box _ cells)=>some cells
 |some (.robox cells)=>some cells
 |_=>none
def sr (h:Hp):List (List PC)→List Nat→Option (List zZ)
 |[],[]=>some []
 |l::ls,id::ids=>match B6 h id,sr h ls ids with
  |some cells,some rest=>bif Nat.beq cells.length l.length then some (cells++rest) else none
  |_,_=>none
 |_,_=>none
def AS.get (h:Hp):AS→zX→Option (List zZ)
 |.c _,.c x=>some [x]
 |.agg l,.agg xs=>bif Nat.beq xs.length l.length then some xs else none
 |.ptr l,.c (.ptr id 0)=>sr h [l] [id]
 |.fn f bp,.c (.fn g ids)=>bif Nat.beq f g then sr h bp ids else none
 |_,_=>none
def pS (h:Hp):List AS→List zX→Option (List zZ)
 |[],[]=>some []
 |s::l,a::as=>match s.get h a,pS h l as with
  |some cs,some rest=>some (cs++rest)
  |_,_=>none
 |_,_=>none
def xZ (h:Hp) l (as:List zX):Option (AD l):=match pS h l as with
 |some cs=>xY h (l.flatMap AS.cells) cs
 |none=>none
def B7:(p:PC)→p.den→zZ
 |.int k,n=>.int k n
 |.bool,b=>.bool b
 |.dat sh t,xs=>.fsl sh t xs
 |.fn f,_=>.fn f []
 |.nil,_=>.nsl
 |.nilp,_=>.nilp
def vS:(l:List PC)→PL l→List zZ
 |[],_=>[]
 |p::l,d=>B7 p d.1::vS l d.2
def Ll:List (List PC)→List zZ→List (List zZ)
 |[],_=>[]
 |l::ls,cs=>cs.take l.length::Ll ls (cs.drop l.length)
def AS.mk (n:Nat)(cs:List zZ):AS→zX
 |.c _=>match cs with|x::_=>.c x|[]=>.undef
 |.agg _=>.agg cs
 |.ptr _=>.c (.ptr n 0)
 |.fn f bp=>.c (.fn f ((List.range bp.length).map (n+·)))
def AS.boxes (cs:List zZ):AS→List (List zZ)
 |.ptr _=>[cs]
 |.fn _ bp=>Ll bp cs
 |_=>[]
def kT:List AS→List zZ→Nat→List zX×List (List zZ)
 |[],_,_=>([],[])
 |s::l,cs,n=>
  let aq:=cs.take s.cells.length
  let bs:=s.boxes aq
  let rest:=kT l (cs.drop s.cells.length) (n+bs.length)
  (s.mk n aq::rest.1,bs++rest.2)
def kU (bs:List (List zZ)):Hp:=fun n=>match bs[n]? with
 |some cells=>some (.robox cells)
 |none=>none
def ot l (d:AD l):List zX×Hp:=
 let r:=kT l (vS (l.flatMap AS.cells) d) 0
 (r.1,kU r.2)
inductive RC where
 |int (k:IntKind)|bool|fro (t:Ty)|own (t:Ty)|mat
 |jun
 |map
 |nilp|link (j:Nat)
abbrev RC.den:RC→Type
 |.int _=>Int|.bool=>Bool|.fro t=>List t.den|.own t=>List t.den|.mat=>List (List Int)|.jun=>Nat|.map=>List (Int×Bool)|.nilp=>Unit|.link _=>Unit
abbrev RL:List RC→Type
 |[]=>Unit
 |r::l=>r.den×RL l
inductive RS where
 |c (r:RC)|agg (l:List RC)|tup (l:List (Bool×List RC))
def RS.cells:RS→List RC
 |.c r=>[r]
 |.agg l=>l
 |.tup l=>l.flatMap (·.2)
def Sf:List (Bool×List RC)→List (Bool×List zZ)→Option (List zZ)
 |[],[]=>some []
 | (b, l) :: ls, (g, cs) :: rest => bif (bif b then g else !g && Nat.beq cs.length 1) && Nat.beq cs.length l.length then (match Sf ls rest with
   |some r=>some (cs++r)
   |none=>none) else none
 |_,_=>none
def RS.get:RS→zX→Option (List zZ)
 |.c _,.c x=>some [x]
 |.agg l,.agg xs=>bif Nat.beq xs.length l.length then some xs else none
 |.tup l,.tup xs=>Sf l xs
 |_,_=>none
def Sg:List (Bool×List RC)→List zZ→List (Bool×List zZ)
 |[],_=>[]
 |(b,l)::ls,cs=>(b,cs.take l.length)::Sg ls (cs.drop l.length)
def RS.mk (cs:List zZ):RS→zX
 |.c _=>match cs with|x::_=>.c x|[]=>.undef
 |.agg _=>.agg cs
 |.tup l=>.tup (Sg l cs)
def fT (h:Hp):List Bool→List zZ→Option (List zZ×vC)
 |true::l,c::cs=>match ng h c,fT h l cs with
  |some (c,u),some (cs,us)=>some (c::cs,u++us)
  |_,_=>none
 |false::l,c::cs=>match fT h l cs with
  |some (cs,us)=>some (c::cs,us)
  |none=>none
 |_,cs=>some (cs,[])
def RC.isFro:RC→Bool
 |.fro _=>true
 |_=>false
def PC.isKept:PC→Bool
 |.dat true _=>true
 |_=>false
def ou (h:Hp):(r:RC)→zZ→Option r.den
 |.int k,.int j n=>bif fO j k then some n else none
 |.bool,.bool b=>some b
 |.fro t,.fsl true s xs=>gw s t xs
 |.fro t,.nsl=>some []
 |.own t,.osl id none=>match h id with
  |some (.arr true s xs)=>gw s t xs
  |_=>none
 |.own t,.osl id (some (0,n))=>match h id with
  |some (.arr true s xs)=>gw s t (xs.take n)
  |_=>none
 |.own t,.nsl=>some []
 |.mat,.osl id none=>match h id with
  |some (.mat _ xs)=>some xs
  |some (.pmat _ xs n)=>bif Nat.beq xs.length n then some xs else none
  |_=>none
 |.mat,.nsl=>some []
 |.jun,.osl id none=>match h id with
  |some (.arr true (.sl (.int .i64)) xs)=>some xs.length
  |_=>none
 |.jun,.nsl=>some 0
 |.map,.map id=>match h id with
  |some (.imap cX)=>some cX
  |_=>none
 |.nilp,.nilp=>some ()
 |.link _,.ptr _ 0=>some ()
 |_,_=>none
def jv (h:Hp):(l:List RC)→List zZ→Option (RL l)
 |[],[]=>some ()
 |r::l,c::cs=>match ou h r c,jv h l cs with
  |some d,some ds=>some (d,ds)
  |_,_=>none
 |_,_=>none
def wC:List RC→List zZ→List Nat
 |.own _::l,.osl id _::cs=>id::wC l cs
 |.mat::l,.osl id _::cs=>id::wC l cs
 |.jun::l,.osl id _::cs=>id::wC l cs
 |.map::l,.map id::cs=>id::wC l cs
 |_::l,_::cs=>wC l cs
 |_,_=>[]
def G5 (h:Hp)(s:RS)(v:zX):Option (RL s.cells):=match s.get v with
 |some cs=>match fT h (s.cells.map RC.isFro) cs with
  |some (cs,u)=>bif rJ (wC s.cells cs) then jv (qL h u) s.cells cs else none
  |none=>none
 |none=>none
def lS (rs:RS){X:Type}(unpack:RL rs.cells→X)(v:zX)(st:St):Option X:=match G5 st.h rs v with
 |some d=>some (unpack d)
 |none=>none
def pT (nm:Nat):(r:RC)→r.den→zZ×vC
 |.int k,n=>(.int k n,[])
 |.bool,b=>(.bool b,[])
 |.fro t,xs=>(.fsl true t xs,[])
 |.own t,xs=>(.osl nm none,[(nm,.arr true t xs)])
 |.mat,xs=>(.osl nm none,[(nm,.mat 0 xs)])
 |.jun,n=>(.osl nm none,[(nm,.pmat 0 [] n)])
 |.map,cX=>(.map nm,[(nm,.imap cX)])
 |.nilp,_=>(.nilp,[])
 |.link _,_=>(.undef,[])
def nv (nm:Nat):(l:List RC)→RL l→List zZ×vC
 |[],_=>([],[])
 |r::l,d=>
  let x:=pT nm r d.1
  let y:=nv (nm+1) l d.2
  (x.1::y.1,x.2++y.2)
def yOi (nm:Nat)(s:RS)(d:RL s.cells):zX×vC:=
 let r:=nv nm s.cells d
 (s.mk r.1,r.2)
def uu (h:Hp):Nat→Nat→Bool
 |_,0=>true
 |nm,n+1=>(match h nm with|none=>true|some _=>false)&&uu h (nm+1) n
def uv (h:Hp):AS→zX→Option (zX×vC)
 |.c p,.c x=>match fT h [p.isKept] [x] with
  |some ([x],u)=>some (.c x,u)
  |_=>none
 |.agg l,.agg xs=>match fT h (l.map PC.isKept) xs with
  |some (xs,u)=>some (.agg xs,u)
  |none=>none
 |_,a=>some (a,[])
def pU (h:Hp):List AS→List zX→Option (List zX×vC)
 |s::l,a::as=>match uv h s a,pU h l as with
  |some (a,u),some (as,us)=>some (a::as,u++us)
  |_,_=>none
 |_,as=>some (as,[])
def nx as (rs:RS){X}(S:AD as→Option X)(pack:X→RL rs.cells)(nm:Nat)(args:List zX)(h:Hp):yR:=
 match pU h as args with
 |none=>.stuck
 |some (args,u)=>match xZ (qL h u) as args with
  |some d=>bif uu h nm rs.cells.length&&Nat.ble rs.cells.length 100 then .call X (S d) (fun r=>((yOi nm rs (pack r)).1,u++(yOi nm rs (pack r)).2)) else .stuck
  |none=>.stuck
structure Lo (M Ml:zL):Prop where
 H:Ml.H=M.H
 F:Ml.F=fun b=>b<M.H.size
 G:Ml.G=M.G
theorem Sh {M M':zL}(ok:Ok M')(hH:M'.H=M.H){t}{xs:List t.den}{v}(h:qE M'.H M'.G (.sl t) xs (fun _=>some v)):qE M.H (fun b=>b<M.H.size) (.sl t) xs (fun _=>some v):=by
 refine yY (fun b hb=>?_) (by grind) _ _ _ _ (by simp) h
 have:=ok.Flt b (ok.GF b hb)
 simp_all
theorem vLv {M}(ok:Ok M){c v t xs}(hv:zY M c v)(h:jb M.h c=some ⟨t,xs⟩):qE M.H (fun b=>b<M.H.size) (.sl t) xs (fun _=>some v):=by
 unfold jb at h
 split at h
 ·rename_i sh s ys
  cases h
  cases sh with
  |true=>exact yY (fun b hb=>ok.Flt b (ok.GF b hb)) (by simp) _ _ _ _ (fun _ _=>rfl) hv
  |false=>exact yY (fun b hb=>ok.Flt b hb) (by simp) _ _ _ _ (fun _ _=>rfl) hv
 ·rename_i id r
  split at h
  ·rename_i own s ys an
   cases h
   cases own with
   |false=>
    obtain⟨C,hC,hO⟩:=ok.obj _ _ an
    exact Sh ok rfl (xy hC hO hv)
   |true=>
    obtain⟨M',h1,h2,h3,h4⟩:=vCb ok an
    obtain⟨C,hC,hO⟩:=h3.obj id _ (by rw[h2];exact yM _ _ _)
    exact Sh h3 h1 (xy hC hO (hv.ext h4.ext))
  ·rename_i ver ys an
   cases r with
   |some p=>cases h
   |none=>
    cases h
    obtain⟨M',h1,h2,h3,h4⟩:=vCo ok an
    obtain⟨C,hC,hO⟩:=h3.obj id _ (by rw[h2];exact yM _ _ _)
    exact Sh h3 h1 (xy (r:=none) hC hO (hv.ext h4.ext))
  ·cases h
 ·rename_i id i ver
  split at h
  ·rename_i v' ys an
   cases fl:Nat.beq v' ver with
   |false=>simp_all
   |true=>
    rw[fl] at h
    cases h
    have e:v'=ver:=by simpa using fl
    subst e
    obtain⟨C,hC,hO⟩:=ok.obj _ _ an
    obtain⟨C',aD,cj,_,aW⟩:=hv
    rw[hC] at aD;cases aD
    obtain⟨rb,rl,sd,pO⟩:=aW hO.1
    by_cases hi:i<ys.length
    ·obtain⟨B,nY,v2,k1,k2,k3,k4,k5,k6⟩:=BE hO hi
     rw[sd] at k3
     cases k3
     rw[show ys.getD i []=ys[i] by simp_all]
     simp only[qE]
     cases rb with
     |none=>
      obtain⟨rfl,h0⟩:=pO
      grind
     |some R=>
      obtain⟨a,c,rfl,h1,h2,h3⟩:=pO
      refine⟨_,_,c,rfl,rfl,h1,?_⟩
      by_cases h0:ys[i].length=0
      ·simp_all
      ·have ha:a=0:=by omega
       subst ha
       refine .inr ⟨R,0,rfl,?_,fun j hj=>?_⟩
       ·have:=k6 R rfl 0 (by omega)
        unfold yN at this
        grind
       ·simp only[Ty.size]
        simp_all
    ·have:C.rows[i]? =none:=List.getElem?_eq_none (by have:=hO.2.2.2.1;omega)
     simp_all
  ·cases h
 ·cases h
theorem G6 {H F t}:qE H F (.sl t) ([]:List t.den) (fun _=>some (.slice none 0 0)):=⟨none,0,0,rfl,rfl,by simp,by simp⟩
theorem vM4 {M}(ok:Ok M){c v t xs}(hv:zY M c v)(h:xX M.h t c=some xs):qE M.H (fun b=>b<M.H.size) (.sl t) xs (fun _=>some v):=by
 unfold xX at h
 split at h
 ·cases h
  rw[show v=.slice none 0 0 from hv]
  exact G6
 ·split at h
  ·rename_i s ys hr
   obtain⟨e,hx⟩:=kt h
   subst e
   subst hx
   exact vLv ok hv hr
  ·cases h
def Tr (M:zL)(c c':zZ):Prop:=∀v Ml,Lo M Ml→zY M c v→zY Ml c' v
theorem vU7 {M}(ok:Ok M){p c d}(h:so M.h p c=some d):Tr M c (B7 p d):=by
 intro v Ml lo hv
 unfold so at h
 split at h
 ·rename_i k j n
  cases e:fO j k with
  |false=>simp_all
  |true=>rw[e] at h;cases h;rw[←rF e];exact hv
 ·cases h;exact hv
 ·have:=vM4 ok hv h
  show qE Ml.H Ml.F _ _ _
  rw[lo.H,lo.F]
  omega
 ·obtain⟨e,hx⟩:=kt h
  subst e
  subst hx
  show qE Ml.H Ml.G _ _ _
  rw[lo.H,lo.G]
  exact hv
 ·cases h
  rw[show v=.slice none 0 0 from hv]
  exact G6
 ·rename_i f g
  cases e:Nat.beq f g with
  |false=>simp_all
  |true=>
   have:f=g:=by simp_all
   subst this
   obtain⟨cv,rfl,hc⟩:=hv
   refine⟨cv,rfl,?_⟩
   generalize cv.toList=l at hc
   cases l with
   |nil=>trivial
   |cons _ _=>exact hc.elim
 ·exact hv
 ·exact hv
 ·cases h
theorem yKp {M}(ok:Ok M):∀{l cs d},xY M.h l cs=some d→zM (Tr M) cs (vS l d)
 |[],[],_,_=>trivial
 |p::l,c::cs,d,h=>by
  unfold xY at h
  split at h
  ·rename_i x xs h1 h2
   cases h
   exact⟨vU7 ok h1,yKp ok h2⟩
  ·cases h
theorem Si {M Ml}(lo:Lo M Ml):∀{cs aN vs},zM (Tr M) cs aN→zM (zY M) cs vs→zM (zY Ml) aN vs
 |[],[],[],_,_=>trivial
 |_::_,_::_,_::_,h,k=>⟨h.1 _ _ lo k.1,Si lo h.2 k.2⟩
def uw (M:zL)(C:qC)(cells:List zZ):Prop:=∃B vals e,C.blk=some B∧C.rows=[]∧M.H[B]? =some (.cells vals e (0,0))∧zM (zY M) cells vals.toList
theorem yC1 {M}(ok:Ok M){id cells}(h:B6 M.h id=some cells):∃C,M.κ id=some C∧uw M C cells:=by
 unfold B6 at h
 split at h
 ·rename_i own cs an
  cases h
  obtain⟨C,hC,B,vals,e,h1,h2,h3,h4,_⟩:=ok.obj id _ an
  exact⟨C,hC,B,vals,e,h1,h2,h3,h4⟩
 ·rename_i cs an
  cases h
  obtain⟨C,hC,B,vals,e,h1,h2,h3,h4,_⟩:=ok.obj id _ an
  exact⟨C,hC,B,vals,e,h1,h2,h3,h4⟩
 ·cases h
theorem uw.tr {M Ml}(lo:Lo M Ml){C cs aN}(h:uw M C cs)(ht:zM (Tr M) cs aN):uw Ml C aN:=by
 obtain⟨B,vals,e,h1,h2,h3,h4⟩:=h
 exact⟨B,vals,e,h1,h2,by rw[lo.H];exact h3,Si lo ht h4⟩
theorem Sj {M}(ok:Ok M):∀{ls ids cs aN},sr M.h ls ids=some cs→zM (Tr M) cs aN→cs.length=ls.flatten.length∧ids.length=ls.length∧
  ∃Cs:List qC,zM (fun id C=>M.κ id=some C) ids Cs∧∀Ml,Lo M Ml→zM (uw Ml) Cs (Ll ls aN)
 |[],[],cs,aN,h,ht=>by cases h;exact⟨rfl,rfl,[],trivial,fun _ _=>trivial⟩
 |l::ls,id::ids,cs,aN,h,ht=>by
  unfold sr at h
  split at h
  ·rename_i cells rest h1 h2
   obtain⟨hl,h⟩:cells.length=l.length∧cells++rest=cs:=by
    cases e:Nat.beq cells.length l.length with
    |false=>simp_all
    |true=>simp_all
   subst h
   have ny:=zM.take l.length ht
   have mG:=zM.drop l.length ht
   rw[←hl,List.take_left] at ny
   rw[←hl,List.drop_left] at mG
   obtain⟨C,hC,hB⟩:=yC1 ok h1
   obtain⟨k1,k2,Cs,k3,k4⟩:=Sj ok h2 mG
   refine⟨by simp_all,by simp[k2],C::Cs,⟨hC,k3⟩,fun Ml lo=>⟨?_,?_⟩⟩
   ·rw[←hl];exact hB.tr lo ny
   simp_all
  ·cases h
theorem vO8 {M}(ok:Ok M){s:AS}{a v cs aN n}(hv:zV M a v)(h:s.get M.h a=some cs)(ht:zM (Tr M) cs aN):
  ∃Cs:List qC,(∀Ml,Lo M Ml→zM (uw Ml) Cs (s.boxes aN))∧(∀Ml,Lo M Ml→(∀i C,Cs[i]? =some C→Ml.κ (n+i)=some C)→zV Ml (s.mk n aN) v):=by
 unfold AS.get at h
 split at h
 ·cases h
  match aN,ht with
  |[c'],ht=>exact⟨[],fun _ _=>trivial,fun Ml lo _=>ht.1 v Ml lo hv⟩
 ·rename_i l xs
  cases e:Nat.beq xs.length l.length with
  |false=>simp_all
  |true=>
   rw[e] at h
   cases h
   obtain⟨vs,rfl,hx⟩:=hv
   exact⟨[],fun _ _=>trivial,fun Ml lo _=>⟨vs,rfl,Si lo ht hx⟩⟩
 ·rename_i l id
  have:=Sj ok h ht
  obtain⟨k1,k2,Cs,k3,k4⟩:=this
  obtain⟨C,B,hC,hB,e⟩:=hv
  have hl:aN.length=l.length:=by rw[←ht.length,k1];simp
  match Cs,k3 with
  |[C'],k3=>
   have e':C'=C:=by
    have:M.κ id=some C':=k3.1
    simp_all
   subst e'
   refine⟨[C'],fun Ml lo=>?_,fun Ml lo hκ=>⟨C',B,hκ 0 C' rfl,hB,e⟩⟩
   have:=k4 Ml lo
   simp[Ll] at this
   rw[List.take_of_length_le (by omega)] at this
   exact this
 ·rename_i f bp g ids
  cases e:Nat.beq f g with
  |false=>simp_all
  |true=>
   rw[e] at h
   have Sk:f=g:=by simp_all
   subst Sk
   obtain⟨k1,k2,Cs,k3,k4⟩:=Sj ok h ht
   refine⟨Cs,k4,fun Ml lo hκ=>?_⟩
   obtain⟨cv,rfl,hc⟩:=hv
   refine⟨cv,rfl,?_⟩
   have l1:=k3.length
   have l2:=hc.length
   refine zM.of_get (by simp_all) fun i h1 h2=>?_
   simp
   have hi:i<ids.length:=by omega
   have bP:i<Cs.length:=by omega
   obtain⟨C,B,q1,q2,q3⟩:=hc.get i hi h2
   have q4:=k3.get i hi bP
   simp_all
 ·cases h
theorem Sl {h}:∀{ls ids cs},sr h ls ids=some cs→cs.length=ls.flatten.length
 |[],[],cs,e=>by cases e;rfl
 |l::ls,id::ids,cs,e=>by
  unfold sr at e
  split at e
  ·rename_i cells rest h1 h2
   cases el:Nat.beq cells.length l.length with
   |false=>simp_all
   |true=>
    rw[el] at e
    cases e
    have:cells.length=l.length:=by simp_all
    simp[this,Sl h2]
  ·cases e
theorem vOi {h}{s:AS}{a cs}(e:s.get h a=some cs):cs.length=s.cells.length:=by
 unfold AS.get at e
 split at e
 ·cases e;rfl
 ·rename_i l xs
  cases el:Nat.beq xs.length l.length with
  |false=>simp_all
  |true=>rw[el] at e;cases e;exact Nat.eq_of_beq_eq_true el
 ·rw[Sl e];simp[AS.cells]
 ·rename_i f bp g ids
  cases el:Nat.beq f g with
  |false=>simp_all
  |true=>rw[el] at e;exact Sl e
 ·cases e
theorem yUr {M}(ok:Ok M):∀{l as vs cs aN n},zM (zV M) as vs→pS M.h l as=some cs→zM (Tr M) cs aN→
  ∃Cs:List qC,(∀Ml,Lo M Ml→zM (uw Ml) Cs (kT l aN n).2)∧(∀Ml,Lo M Ml→(∀i C,Cs[i]? =some C→Ml.κ (n+i)=some C)→zM (zV Ml) (kT l aN n).1 vs)
 |[],[],[],cs,aN,n,_,_,_=>⟨[],fun _ _=>trivial,fun _ _ _=>trivial⟩
 |s::l,a::as,v::vs,cs,aN,n,hv,h,ht=>by
  unfold pS at h
  split at h
  ·rename_i lP rest h1 h2
   cases h
   have hl:=vOi h1
   have ny:=zM.take s.cells.length ht
   have mG:=zM.drop s.cells.length ht
   rw[←hl,List.take_left,hl] at ny
   rw[←hl,List.drop_left,hl] at mG
   obtain⟨C1,k1,k2⟩:=vO8 ok (n:=n) hv.1 h1 ny
   obtain⟨C2,k3,k4⟩:=yUr ok (n:=n+(s.boxes (aN.take s.cells.length)).length) hv.2 h2 mG
   refine⟨C1++C2,fun Ml lo=>(k1 Ml lo).append (k3 Ml lo),fun Ml lo hκ=>⟨k2 Ml lo fun i C hi=>hκ i C ?_,k4 Ml lo fun i C hi=>?_⟩⟩
   ·grind
   ·have hb:=(k1 Ml lo).length
    have:=hκ (C1.length+i) C (by grind)
    grind
  ·cases h
def zL.below (M:zL)(Cs:List qC)(bs:List (List zZ)):zL:={κ:=fun n=>Cs[n]?,F:=fun b=>b<M.H.size,G:=M.G,h:=kU bs,H:=M.H}
theorem zL.below_lo M Cs bs:Lo M (M.below Cs bs):=⟨rfl,rfl,rfl⟩
theorem zL.below_ok {M}(ok:Ok M){Cs bs}(h:zM (uw (M.below Cs bs)) Cs bs):Ok (M.below Cs bs)∧∀b,¬qP (M.below Cs bs) b:=by
 have hr:∀id o,(M.below Cs bs).h id=some o→∃cells,bs[id]? =some cells∧o=.robox cells:=fun id o e=>by
  have e:kU bs id=some o:=e
  unfold kU at e
  grind
 have G7:∀b,¬qP (M.below Cs bs) b:=fun b ⟨id,o,C,h1,h2,_,_⟩=>by
  obtain⟨cells,_,rfl⟩:=hr id o h1
  cases h2
 refine⟨⟨fun id o e=>?_,fun id e=>?_,fun i j oi oj Ci Cj b _ h1 _ h3 _ _ _ _ _=>?_,by grind,fun b hb=>ok.Flt b (ok.GF b hb),fun b hb=>hb⟩,G7⟩
 ·obtain⟨cells,hc,rfl⟩:=hr id o e
  have bd:id<bs.length:=by
   grind
  have jg:id<Cs.length:=by rw[h.length];omega
  obtain⟨B,vals,ev,q1,q2,q3,q4⟩:=h.get id jg bd
  rw[List.getElem?_eq_getElem bd] at hc
  cases hc
  refine⟨Cs[id],List.getElem?_eq_getElem jg,B,vals,ev,q1,q2,q3,q4,?_⟩
  exact(Array.getElem?_eq_some_iff.1 q3).1
 ·have e:kU bs id=none:=e
  unfold kU at e
  split at e
  ·cases e
  ·rename_i hc
   show Cs[id]? =none
   rw[List.getElem?_eq_none_iff] at hc⊢
   rw[h.length];exact hc
 ·obtain⟨cells,_,rfl⟩:=hr i oi h1
  cases h3
theorem vRe {M}(ok:Ok M){l as vs d}(hv:zM (zV M) as vs)(h:xZ M.h l as=some d):
  ∃Ml:zL,Lo M Ml∧Ml.h=(ot l d).2∧Ok Ml∧(∀b,¬qP Ml b)∧zM (zV Ml) (ot l d).1 vs:=by
 unfold xZ at h
 split at h
 ·rename_i cs hg
  obtain⟨Cs,h1,h2⟩:=yUr ok (n:=0) hv hg (yKp ok h)
  have lo:=M.below_lo Cs (kT l (vS (l.flatMap AS.cells) d) 0).2
  have:=zL.below_ok ok (h1 _ lo)
  exact⟨_,lo,rfl,this.1,this.2,h2 _ lo fun i C hi=>by rw[Nat.zero_add];exact hi⟩
 ·cases h
theorem ux {h0}:∀{l cs aN vs u M},Ok M→wT h0 M.h→zM (zY M) cs vs→fT h0 l cs=some (aN,u)→
  ∃L:zL,L.H=M.H∧L.h=qL M.h u∧Ok L∧yX M L∧zM (zY L) aN vs∧wT h0 L.h
 |[],cs,aN,vs,u,M,ok,hf,hc,h=>by
  cases cs<;>cases h<;>exact⟨M,rfl,rfl,ok,.refl M,hc,hf⟩
 |true::l,[],aN,vs,u,M,ok,hf,hc,h
 |false::l,[],aN,vs,u,M,ok,hf,hc,h=>by cases h;exact⟨M,rfl,rfl,ok,.refl M,hc,hf⟩
 |true::l,c::cs,aN,v::vs,u,M,ok,hf,hc,h=>by
  unfold fT at h
  split at h
  ·rename_i c1 u1 lP pF e1 e2
   cases h
   obtain⟨M1,h1,h2,h3,h4,h5,h6,_⟩:=Gr ok hf hc.1 e1
   obtain⟨M2,k1,k2,k3,k4,k5,k6⟩:=ux h3 h6 (hc.2.mono fun _ _ h=>h.ext h4.ext) e2
   exact⟨M2,k1.trans h1,by rw[k2,h2,kq],k3,h4.trans k4,⟨h5.ext k4.ext,k5⟩,k6⟩
  ·cases h
 |false::l,c::cs,aN,v::vs,u,M,ok,hf,hc,h=>by
  unfold fT at h
  split at h
  ·rename_i lP pF e2
   cases h
   obtain⟨M2,k1,k2,k3,k4,k5,k6⟩:=ux ok hf hc.2 e2
   exact⟨M2,k1,k2,k3,k4,⟨hc.1.ext k4.ext,k5⟩,k6⟩
  ·cases h
def zL.add (M:zL)(nm:Nat)(o:Obj)(C:qC):zL:={M with κ:=κset M.κ nm C,h:=yF M.h nm o}
theorem zL.add_ok {M}(ok:Ok M){nm}(aQ:M.h nm=none){o C}(hO:yV (M.add nm o C) o C)(hb:∀b∈C.fp,¬qP M b∧¬M.F b∧b<M.H.size):
  Ok (M.add nm o C)∧yL M (M.add nm o C)∧(∀b,qP (M.add nm o C) b→qP M b∨b∈C.fp):=by
 have x:yL M (M.add nm o C):=⟨fun id D h=>by
  have bm:id≠nm:=fun e=>by rw[e,ok.non nm aQ] at h;cases h
  exact⟨D,by show κset M.κ nm _ id=_;rw[κset_ne _ _ bm];exact h,D.le_refl⟩,fun _ h=>h,fun _ h=>h,fun _ _=>rfl,fun _ _=>rfl,fun _ _=>rfl⟩
 refine⟨Ok.build ok x (fun id=>id=nm) (fun id h=>yQ _ _ h) (fun id h=>κset_ne _ _ h) (fun _ _ _ _ _ _ _ _ _=>rfl) (fun id o' D h1 h2 h3 h4 b bz=>(ok.own b ⟨id,o',D,h2,h3,h4,bz⟩).1) (Nat.le_refl _)
  (fun id o' e h=>?_) (fun id e h=>?_) (fun id o' D b e h1 h2 h3 h4=>?_) ok.GF ok.Flt,x,fun b bz=>?_⟩
 ·subst e
  have e1:(M.add id o C).h id=some o:=yM _ _ _
  rw[e1] at h
  cases h
  exact⟨_,κset_same _ _ _,hO⟩
 ·have e1:(M.add id o C).h id=some o:=yM _ _ _
  simp_all
 ·subst e
  have e1:(M.add id o C).κ id=some C:=κset_same _ _ _
  rw[e1] at h3
  cases h3
  obtain⟨k1,k2,k3⟩:=hb b h4
  refine⟨fun j oj Cj hj q1 q2 q3 q4=>k1 ⟨j,oj,Cj,?_,q2,?_,q4⟩,k2,k3⟩
  ·rw[←q1];exact(yQ _ _ hj).symm
  ·rw[←q3];exact(κset_ne _ _ hj).symm
 ·obtain⟨id,o',D,h1,h2,h3,h4⟩:=bz
  by_cases e:id=nm
  ·have e1:(M.add id o C).κ id=some C:=κset_same _ _ _
   simp_all
  ·exact .inl ⟨id,o',D,by rw[←h1];exact(yQ _ _ e).symm,h2,by rw[←h3];exact(κset_ne _ _ e).symm,h4⟩
structure Up (L Mc:zL):Prop where
 H:Mc.H=L.H
 G:Mc.G=L.G
theorem yO4 {L Mc}(up:Up L Mc){t xs C}(h:yV L (.arr true t xs) C):yV Mc (.arr true t xs) C:=by
 obtain⟨h1,h2,h3,h4⟩:=h
 refine⟨h1,h2,h3,?_⟩
 rw[up.H,up.G]
 exact h4
theorem vXb {L Mc}(up:Up L Mc){ver xs C}(h:yV L (.mat ver xs) C):yV Mc (.mat 0 xs) {C with ver:=0}:=by
 obtain⟨h1,h2⟩:=h
 refine⟨rfl,?_⟩
 rw[up.H]
 exact h2
theorem Sm {L Mc}(up:Up L Mc){ver n xs C}(h:yV L (.pmat ver xs n) C)(hn:xs.length=n):yV Mc (.mat 0 xs) {C with ver:=0}:=by
 obtain⟨h1,h2,h3,h4,h5,_,h6⟩:=h
 refine⟨rfl,by rw[hn];exact h2,h3,h4,h5,?_⟩
 rw[up.H]
 subst hn
 simp_all
theorem vFo {L Mc}(up:Up L Mc){xs:List (List Int)}{C}(h:yV L (.arr true (.sl (.int .i64)) xs) C):yV Mc (.pmat 0 [] xs.length) {C with ver:=0}:=by
 obtain⟨h1,h2,h3,h4⟩:=h
 have hr:=h3 rfl
 refine⟨rfl,h1,h2,by simp_all,?_,by simp,?_⟩
 ·simp[qC.fp]
  grind
 ·cases hB:C.blk with
  |none=>simp_all
  |some B=>
   rw[hB] at h4
   obtain⟨vals,e,h5,_,h7,_⟩:=h4
   refine⟨vals,e,by rw[up.H];exact h5,by simpa[Ty.size] using h7,by simp⟩
theorem vT3 {L Mc}(gZ:Ok L)(ok:Ok Mc)(up:Up L Mc){nm}(aQ:Mc.h nm=none){r c d}(h:ou L.h r c=some d)
  (hb:∀id∈wC [r] [c],∀C,L.κ id=some C→∀b∈C.fp,¬qP Mc b∧¬Mc.F b∧b<Mc.H.size):
  ∃eC:zL,eC.H=Mc.H∧eC.G=Mc.G∧eC.F=Mc.F∧eC.h=qL Mc.h (pT nm r d).2∧Ok eC∧yL Mc eC∧
   (∀b,qP eC b→qP Mc b∨∃id∈wC [r] [c],∃C,L.κ id=some C∧b∈C.fp)∧∀v,zY L c v→zY eC (pT nm r d).1 v:=by
 have same : (pT nm r d).2 = [] → (∀ v, zY L c v → zY Mc (pT nm r d).1 v) → _ := fun e hv => (⟨Mc,rfl,rfl,rfl,by rw[e];rfl,ok,.refl Mc,by grind,hv⟩:
  ∃eC:zL,eC.H=Mc.H∧eC.G=Mc.G∧eC.F=Mc.F∧eC.h=qL Mc.h (pT nm r d).2∧Ok eC∧yL Mc eC∧
   (∀b,qP eC b→qP Mc b∨∃id∈wC [r] [c],∃C,L.κ id=some C∧b∈C.fp)∧∀v,zY L c v→zY eC (pT nm r d).1 v)
 unfold ou at h
 split at h
 ·rename_i k j n
  cases e:fO j k with
  |false=>rw[e] at h;cases h
  |true=>
   rw[e] at h
   cases h
   exact same rfl fun v hv=>by rw[←rF e];exact hv
 ·cases h
  exact same rfl fun v hv=>hv
 ·obtain⟨e,hx⟩:=kt h
  subst e
  subst hx
  refine same rfl fun v hv=>?_
  show qE Mc.H Mc.G _ _ _
  rw[up.H,up.G]
  exact hv
 ·cases h
  refine same rfl fun v hv=>?_
  rw[show v=.slice none 0 0 from hv]
  exact G6
 ·rename_i t id
  split at h
  ·rename_i s xs an
   obtain⟨e,hx⟩:=kt h
   subst e
   subst hx
   obtain⟨C,hC,hO⟩:=gZ.obj id _ an
   obtain⟨k1,k2,k3⟩:=zL.add_ok ok aQ (o:=.arr true s xs) (C:=C) (yO4 (Mc:=Mc.add nm (.arr true s xs) C) ⟨up.H,up.G⟩ hO) (hb id (by simp[wC]) C hC)
   refine⟨Mc.add nm (.arr true s xs) C,rfl,rfl,rfl,rfl,k1,k2,fun b bz=>(k3 b bz).imp (fun h=>h) fun h=>⟨id,by simp[wC],C,hC,h⟩,fun v hv=>?_⟩
   obtain⟨C',aD,hS⟩:=hv
   rw[hC] at aD;cases aD
   refine⟨C,κset_same _ _ _,?_⟩
   show wU Mc.H C 0 C.len v
   rw[up.H];exact hS
  ·cases h
 ·rename_i t id n
  split at h
  ·rename_i s xs an
   obtain⟨e,hx⟩:=kt h
   subst e
   subst hx
   obtain⟨C,hC,hO⟩:=gZ.obj id _ an
   let C':qC:={C with len:=(xs.take n).length}
   have rR:yV (Mc.add nm (.arr true s (xs.take n)) C') (.arr true s (xs.take n)) C':=by
    obtain⟨q1,q2,q3,q4⟩:=yO4 (Mc:=Mc.add nm (.arr true s (xs.take n)) C') ⟨up.H,up.G⟩ hO
    refine⟨rfl,q2,q3,?_⟩
    show match C.blk with
     |none=>_
     |some B=>_
    cases hB:C.blk with
    |none=>rw[hB] at q4;show xs.take n=[];rw[q4];simp
    |some B=>
     rw[hB] at q4
     obtain⟨vals,e,r1,r2,r3,r4⟩:=q4
     have hle:(xs.take n).length≤xs.length:=by rw[List.length_take];omega
     have:=Nat.mul_le_mul_right s.size hle
     refine⟨vals,e,r1,r2,by omega,fun i hi=>?_⟩
     rw[List.getElem_take]
     exact r4 i (by omega)
   obtain⟨k1,k2,k3⟩:=zL.add_ok ok aQ (o:=.arr true s (xs.take n)) (C:=C') rR (hb id (by simp[wC]) C hC)
   refine⟨Mc.add nm (.arr true s (xs.take n)) C',rfl,rfl,rfl,rfl,k1,k2,fun b bz=>(k3 b bz).imp (fun h=>h) fun h=>⟨id,by simp[wC],C,hC,h⟩,fun v hv=>?_⟩
   obtain⟨C1,gX,h1,hS,_⟩:=hv
   rw[hC] at gX;cases gX
   have hl:(xs.take n).length=n:=by rw[List.length_take,←hO.1];omega
   refine⟨C',κset_same _ _ _,?_⟩
   show wU Mc.H C' 0 (xs.take n).length v
   rw[hl,up.H]
   exact hS
  ·cases h
 ·rename_i t
  cases h
  obtain⟨k1,k2,k3⟩:=Mc.nilObj_ok ok aQ t false
  refine⟨Mc.nilObj nm (jq t false) (kS t false),rfl,rfl,rfl,rfl,k1,k2,by grind,fun v hv=>?_⟩
  rw[show v=.slice none 0 0 from hv]
  exact⟨_,κset_same _ _ _,none,0,rfl,rfl,rfl,rfl⟩
 ·rename_i id
  split at h
  ·rename_i ver xs an
   cases h
   obtain⟨C,hC,hO⟩:=gZ.obj id _ an
   obtain⟨k1,k2,k3⟩:=zL.add_ok ok aQ (o:=.mat 0 d) (C:={C with ver:=0}) (vXb (Mc:=Mc.add nm (.mat 0 d) {C with ver:=0}) ⟨up.H,up.G⟩ hO) (hb id (by simp[wC]) C hC)
   refine⟨Mc.add nm (.mat 0 d) {C with ver:=0},rfl,rfl,rfl,rfl,k1,k2,fun b bz=>(k3 b bz).imp (fun h=>h) fun h=>⟨id,by simp[wC],C,hC,h⟩,fun v hv=>?_⟩
   obtain⟨C',aD,hS⟩:=hv
   rw[hC] at aD;cases aD
   refine⟨_,κset_same _ _ _,?_⟩
   show wU Mc.H C 0 C.len v
   rw[up.H];exact hS
  ·rename_i ver xs n an
   obtain⟨hc,h⟩:Nat.beq xs.length n=true∧some xs=some d:=by
    cases e:Nat.beq xs.length n with
    |true=>rw[e] at h;exact⟨rfl,h⟩
    |false=>rw[e] at h;cases h
   cases h
   obtain⟨C,hC,hO⟩:=gZ.obj id _ an
   obtain⟨k1,k2,k3⟩:=zL.add_ok ok aQ (o:=.mat 0 d) (C:={C with ver:=0}) (Sm (Mc:=Mc.add nm (.mat 0 d) {C with ver:=0}) ⟨up.H,up.G⟩ hO (Nat.eq_of_beq_eq_true hc)) (hb id (by simp[wC]) C hC)
   refine⟨Mc.add nm (.mat 0 d) {C with ver:=0},rfl,rfl,rfl,rfl,k1,k2,fun b bz=>(k3 b bz).imp (fun h=>h) fun h=>⟨id,by simp[wC],C,hC,h⟩,fun v hv=>?_⟩
   obtain⟨C',aD,hS⟩:=hv
   rw[hC] at aD;cases aD
   refine⟨_,κset_same _ _ _,?_⟩
   show wU Mc.H C 0 C.len v
   rw[up.H];exact hS
  ·cases h
 ·cases h
  obtain⟨k1,k2,k3⟩:=Mc.nilObj_ok ok aQ (.int .i64) true
  refine⟨Mc.nilObj nm (jq (.int .i64) true) (kS (.int .i64) true),rfl,rfl,rfl,rfl,k1,k2,by grind,fun v hv=>?_⟩
  rw[show v=.slice none 0 0 from hv]
  exact⟨_,κset_same _ _ _,none,0,rfl,rfl,rfl,rfl⟩
 ·rename_i id
  split at h
  ·rename_i xs an
   cases h
   obtain⟨C,hC,hO⟩:=gZ.obj id _ an
   obtain⟨k1,k2,k3⟩:=zL.add_ok ok aQ (o:=.pmat 0 [] xs.length) (C:={C with ver:=0}) (vFo (Mc:=Mc.add nm (.pmat 0 [] xs.length) {C with ver:=0}) ⟨up.H,up.G⟩ hO) (hb id (by simp[wC]) C hC)
   refine⟨Mc.add nm (.pmat 0 [] xs.length) {C with ver:=0},rfl,rfl,rfl,rfl,k1,k2,fun b bz=>(k3 b bz).imp (fun h=>h) fun h=>⟨id,by simp[wC],C,hC,h⟩,fun v hv=>?_⟩
   obtain⟨C',aD,hS⟩:=hv
   rw[hC] at aD;cases aD
   refine⟨_,κset_same _ _ _,?_⟩
   show wU Mc.H C 0 C.len v
   rw[up.H];exact hS
  ·cases h
 ·cases h
  obtain⟨k1,k2,k3⟩:=zL.add_ok ok aQ (o:=.pmat 0 [] 0) (C:=⟨none,0,1,0,[]⟩) ⟨rfl,rfl,rfl,rfl,by simp[qC.fp],Nat.le_refl _,rfl⟩ (nofun)
  refine⟨Mc.add nm (.pmat 0 [] 0) ⟨none,0,1,0,[]⟩,rfl,rfl,rfl,rfl,k1,k2,fun b bz=>(k3 b bz).imp (fun h=>h) nofun,fun v hv=>?_⟩
  rw[show v=.slice none 0 0 from hv]
  exact⟨_,κset_same _ _ _,none,0,rfl,rfl,rfl,rfl⟩
 ·rename_i id
  split at h
  ·rename_i cX an
   cases h
   obtain⟨C,hC,hO⟩:=gZ.obj id _ an
   have rR:yV (Mc.add nm (.imap d) C) (.imap d) C:=by
    obtain⟨B,es,ck,h1,h2,h3,h4,h5⟩:=hO
    refine⟨B,es,ck,h1,h2,?_,h4,h5⟩
    show Mc.H[B]? =_
    rw[up.H];exact h3
   obtain⟨k1,k2,k3⟩:=zL.add_ok ok aQ (o:=.imap d) (C:=C) rR (hb id (by simp[wC]) C hC)
   refine⟨Mc.add nm (.imap d) C,rfl,rfl,rfl,rfl,k1,k2,fun b bz=>(k3 b bz).imp (fun h=>h) fun h=>⟨id,by simp[wC],C,hC,h⟩,fun v hv=>?_⟩
   obtain⟨C',B,aD,hB,e⟩:=hv
   rw[hC] at aD;cases aD
   exact⟨C,B,κset_same _ _ _,hB,e⟩
  ·cases h
 ·exact same rfl fun v hv=>hv
 ·exact same rfl fun v hv=>hv.one
 ·cases h
theorem Lm r c l cs:wC (r::l) (c::cs)=wC [r] [c]++wC l cs:=by
 cases r<;>cases c<;>rfl
theorem yY8 {nm r d n}(h:n≠nm) hh:qL hh (pT nm r d).2 n=hh n:=by
 cases r<;>first|rfl|exact yQ _ _ h
theorem Sn {h}:∀{n nm},uu h nm n=true→∀i,i<n→h (nm+i)=none
 |n+1,nm,e,i,hi=>by
  unfold uu at e
  rw[Bool.and_eq_true] at e
  cases i with
  |zero=>
   grind
  |succ i=>rw[←Sn e.2 i (by omega)];grind
theorem So {L:zL}(gZ:Ok L):∀{l:List RC} {cs:List zZ} {d:RL l} {nm:Nat} {Mc:zL},Ok Mc→Up L Mc→(∀i,i<l.length→Mc.h (nm+i)=none)→jv L.h l cs=some d→(wC l cs).Nodup→
  (∀id∈wC l cs,∃o,L.h id=some o∧o.owned=true)→
  (∀id∈wC l cs,∀C,L.κ id=some C→∀b∈C.fp,¬qP Mc b∧¬Mc.F b∧b<Mc.H.size)→
  ∃eC:zL,eC.H=Mc.H∧eC.G=Mc.G∧eC.F=Mc.F∧eC.h=qL Mc.h (nv nm l d).2∧Ok eC∧yL Mc eC∧
   (∀b,qP eC b→qP Mc b∨∃id∈wC l cs,∃C,L.κ id=some C∧b∈C.fp)∧∀vs,zM (zY L) cs vs→zM (zY eC) (nv nm l d).1 vs
 |[],[],d,nm,Mc,ok,up,_,_,_,_,_=>⟨Mc,rfl,rfl,rfl,rfl,ok,.refl Mc,fun b h=>.inl h,fun vs h=>by
  cases vs with
  |nil=>trivial
  |cons _ _=>exact h.elim⟩
 |r::l,c::cs,d,nm,Mc,ok,up,hf,h,dA,aK,hb=>by
  unfold jv at h
  split at h
  ·rename_i x xs e1 e2
   cases h
   rw[Lm] at dA aK hb
   obtain⟨nd1,nd2,nd3⟩:=List.nodup_append.1 dA
   obtain⟨M1,a1,a2,a3,a4,a5,a6,a7,a8⟩:=vT3 gZ ok up (by have:=hf 0 (by simp);simpa using this) e1 (by grind)
   have up1:Up L M1:=⟨a1.trans up.H,a2.trans up.G⟩
   obtain ⟨M2, b1, b2, b3, b4, b5, b6, b7, b8⟩ := So gZ (nm := nm + 1) a5 up1 (fun i hi=>by
     rw[a4,yY8 (by omega)]
     have:=hf (i+1) (by simp;omega)
     grind) e2 nd2 (fun id an => aK id (by grind)) (fun id an C hC b B8=>by
     obtain⟨q1,q2,q3⟩:=hb id (List.mem_append_right _ an) C hC b B8
     refine⟨fun ho=>?_,by simp_all,by simp_all⟩
     rcases a7 b ho with ho|⟨jd,cY,D,hD,Sp⟩
     ·exact q1 ho
     ·have bm:id≠jd:=by grind
      obtain⟨o1,p1,p2⟩:=aK id (by grind)
      obtain⟨o2,p3,p4⟩:=aK jd (List.mem_append_left _ cY)
      exact gZ.disj id jd o1 o2 C D b bm p1 p3 p2 p4 hC hD B8 Sp)
   refine⟨M2,b1.trans a1,b2.trans a2,b3.trans a3,?_,b5,a6.trans (by simp_all) b6,fun b bz=>?_,fun vs dz=>?_⟩
   ·show M2.h=qL Mc.h ((pT nm r x).2++(nv (nm+1) l xs).2)
    rw[kq,←a4];exact b4
   ·rw[Lm]
    grind
   ·cases vs with
    |nil=>exact dz.elim
    |cons v vs=>exact⟨(a8 v dz.1).ext b6,b8 vs dz.2⟩
  ·cases h
 |[],_::_,_,_,_,_,_,_,h,_,_,_=>by cases h
 |_::_,[],_,_,_,_,_,_,h,_,_,_=>by cases h
theorem wD {α:Type}{c x}{y:α}(h:(bif c then x else none)=some y):c=true∧x=some y:=by
 grind
theorem yXb {M}:∀{l xs cs vs},Sf l xs=some cs→zM (ua M) xs vs→
  cs.length=(l.flatMap (·.2)).length∧∃us:List Value,zM (zY M) cs us∧∀M' aN,zM (zY M') aN us→zM (ua M') (Sg l aN) vs
 |[],[],cs,[],h,_=>by cases h;exact⟨rfl,[],trivial,fun _ _ _=>trivial⟩
 |(b,l)::ls,(g,lP)::rest,cs,v::vs,h,hv=>by
  obtain⟨hc,h⟩:=wD h
  split at h
  ·rename_i r hr
   cases h
   rw[Bool.and_eq_true] at hc
   have hl:lP.length=l.length:=by simp_all
   obtain⟨k1,us,k2,k3⟩:=yXb hr hv.2
   refine⟨by simp_all,?_⟩
   cases b with
   |true=>
    have hg:g=true:=hc.1
    subst hg
    obtain⟨ws,rfl,hw⟩:=hv.1
    refine⟨ws.toList++us,hw.append k2,fun M' aN h'=>⟨?_,?_⟩⟩
    ·have h1:=zM.take l.length h'
     have Sq:=hw.length
     rw[show(ws.toList++us).take l.length=ws.toList from by simp_all] at h1
     exact⟨ws,rfl,h1⟩
    ·have h1:=zM.drop l.length h'
     have Sq:=hw.length
     simp_all
   |false=>
    have hg:=hc.1
    simp  at hg
    obtain⟨Ln,hg2⟩:=hg
    subst Ln
    have rU:lP.length=1:=by simp_all
    match lP,rU with
    |[c],_=>
     have mD:zY M c v:=hv.1
     refine⟨v::us,⟨mD,k2⟩,fun M' aN h'=>?_⟩
     match aN,h' with
     |c'::Sr,h'=>
      have e:l.length=1:=by omega
      refine⟨?_,?_⟩
      ·rw[e]
       exact h'.1
      ·rw[e]
       exact k3 M' Sr h'.2
  ·cases h
 |[],[],_,_::_,_,hv=>hv.elim
theorem yI8 {M}{s:RS}{v cs rv}(h:s.get v=some cs)(hv:zV M v rv):
  cs.length=s.cells.length∧∃us:List Value,zM (zY M) cs us∧∀M' aN,zM (zY M') aN us→zV M' (s.mk aN) rv:=by
 unfold RS.get at h
 split at h
 ·cases h
  refine⟨rfl,[rv],⟨hv,trivial⟩,fun M' aN h'=>?_⟩
  match aN,h' with
  |[c'],h'=>exact h'.1
 ·obtain⟨hl,h⟩:=wD h
  cases h
  obtain⟨vs,rfl,hx⟩:=hv
  exact⟨Nat.eq_of_beq_eq_true hl,vs.toList,hx,fun M' aN h'=>⟨vs,rfl,h'⟩⟩
 ·obtain⟨vs,rfl,hx⟩:=hv
  obtain⟨k1,us,k2,k3⟩:=yXb h hx
  exact⟨k1,us,k2,fun M' aN h'=>⟨vs,rfl,by grind⟩⟩
 ·cases h
theorem vNd {h0 s a a' v u M}(ok:Ok M)(hf:wT h0 M.h)(hv:zV M a v)(h:uv h0 s a=some (a',u)):
  ∃L:zL,L.H=M.H∧L.h=qL M.h u∧Ok L∧yX M L∧zV L a' v∧wT h0 L.h:=by
 unfold uv at h
 split at h
 ·rename_i p x
  split at h
  ·rename_i y u1 e
   cases h
   obtain⟨L,h1,h2,h3,h4,h5,h6⟩:=ux (cs:=[x]) (vs:=[v]) ok hf ⟨hv,trivial⟩ e
   exact⟨L,h1,h2,h3,h4,h5.1,h6⟩
  ·cases h
 ·split at h
  ·rename_i ys u1 e
   cases h
   obtain⟨vs,rfl,hx⟩:=hv
   obtain⟨L,h1,h2,h3,h4,h5,h6⟩:=ux ok hf hx e
   exact⟨L,h1,h2,h3,h4,⟨vs,rfl,h5⟩,h6⟩
  ·cases h
 ·cases h
  exact⟨M,rfl,rfl,ok,.refl M,hv,hf⟩
theorem uy.ext {M M'}(x:yL M M'):∀{as vs},zM (zV M) as vs→zM (zV M') as vs:=fun h=>h.mono fun _ _ h=>h.ext x
theorem yJ0 {h0}:∀{l as eJ vs u M},Ok M→wT h0 M.h→zM (zV M) as vs→pU h0 l as=some (eJ,u)→
  ∃L:zL,L.H=M.H∧L.h=qL M.h u∧Ok L∧yX M L∧zM (zV L) eJ vs∧wT h0 L.h
 |s::l,a::as,eJ,v::vs,u,M,ok,hf,hv,h=>by
  unfold pU at h
  split at h
  ·rename_i a1 u1 Ss pF e1 e2
   cases h
   obtain⟨M1,h1,h2,h3,h4,h5,h6⟩:=vNd ok hf hv.1 e1
   obtain⟨M2,k1,k2,k3,k4,k5,k6⟩:=yJ0 h3 h6 (uy.ext h4.ext hv.2) e2
   exact⟨M2,k1.trans h1,by rw[k2,h2,kq],k3,h4.trans k4,⟨h5.ext k4.ext,k5⟩,k6⟩
  ·cases h
 |[],as,eJ,vs,u,M,ok,hf,hv,h=>by
  cases as<;>cases h<;>exact⟨M,rfl,rfl,ok,.refl M,hv,hf⟩
 |s::l,[],eJ,vs,u,M,ok,hf,hv,h=>by cases h;exact⟨M,rfl,rfl,ok,.refl M,hv,hf⟩
def zL.over (M L:zL):zL:={κ:=M.κ,F:=fun b=>M.F b∨L.G b,G:=L.G,h:=M.h,H:=L.H}
theorem zL.over_ok {M Ml L}(ok:Ok M)(gZ:Ok L)(lo:Lo M Ml)(G7:∀b,¬qP Ml b)(g:iO Ml L):Ok (M.over L)∧yX M (M.over L):=by
 have bd:∀b,Ml.F b↔b<M.H.size:=fun b=>by rw[lo.F]
 have bW:∀b,b<M.H.size→L.H[b]? =M.H[b]? :=fun b hb=>by rw[g.same b (by grind),lo.H]
 have dN:M.H.size≤L.H.size:=by grind
 have hG:∀b,L.G b→b<M.H.size→M.G b:=fun b hb hs=>by
  rcases g.Gb b hb (by rw[lo.H];exact hs) with h|h
  ·rw[lo.G] at h;exact h
  simp_all
 have jg:∀b,M.F b→b<M.H.size:=ok.Flt
 have x:yL M (M.over L):=⟨fun id C h=>⟨C,h,C.le_refl⟩,fun b h=>.inl h,fun b h=>g.G b (by rw[lo.G];exact h),fun b h=>bW b (by grind),fun b h=>bW b (ok.Flt b (ok.GF b h)),fun b h=>BC (bW b h)⟩
 have aK:∀b,qP (M.over L) b→qP M b:=fun b h=>h
 refine⟨⟨fun id o h=>?_,fun id h=>ok.non id h,ok.disj,fun b h=>⟨fun hf=>?_,?_⟩,fun b h=>.inr h,fun b h=>?_⟩,⟨x,dN,fun b hb _=>bW b hb,by grind,fun b h hs=>.inl (hG b h hs),fun b h hs=>?_⟩⟩
 ·obtain⟨C,hC,hO⟩:=ok.obj id o h
  exact⟨C,hC,hO.ext x fun ho b hb=>bW b (ok.own b ⟨id,o,C,h,ho,hC,hb⟩).2⟩
 ·have:=ok.own b (aK b h)
  rcases hf with hf|hf
  ·simp_all
  ·exact this.1 (ok.GF b (by grind))
 ·have h1:=(ok.own b (aK b h)).2
  show b<L.H.size
  omega
 ·show b<L.H.size
  rcases h with h|h
  ·grind
  ·exact gZ.Flt b (gZ.GF b h)
 ·rcases h with h|h
  ·simp_all
  ·exact .inl (ok.GF b (hG b h hs))
theorem vHk {h0 r c d}(h:ou h0 r c=some d):∀id∈wC [r] [c],∃o,h0 id=some o∧o.owned=true:=by
 unfold ou at h
 split at h
 all_goals (try (intro id an;simp[wC] at an;done))
 ·intro B2 an
  have:=List.mem_singleton.1 an
  subst this
  split at h
  ·exact⟨_,by assumption,rfl⟩
  ·cases h
 ·intro B2 an
  have:=List.mem_singleton.1 an
  subst this
  split at h
  ·exact⟨_,by omega,rfl⟩
  ·cases h
 ·rename_i id
  intro B2 an
  have:=List.mem_singleton.1 an
  subst this
  split at h
  ·exact⟨_,by assumption,rfl⟩
  ·exact⟨_,by omega,rfl⟩
  ·cases h
 ·intro B2 an
  have:=List.mem_singleton.1 an
  subst this
  split at h
  ·exact⟨_,by assumption,rfl⟩
  ·cases h
 ·intro B2 an
  have:=List.mem_singleton.1 an
  subst this
  split at h
  ·exact⟨_,by assumption,rfl⟩
  ·cases h
 ·cases h
theorem uz {L:zL}:∀{l cs d},jv L.h l cs=some d→∀id∈wC l cs,∃o,L.h id=some o∧o.owned=true
 |r::l,c::cs,d,h,id,an=>by
  unfold jv at h
  split at h
  ·rename_i x xs e1 e2
   rw[Lm] at an
   rcases List.mem_append.1 an with an|an
   ·exact vHk e1 id an
   ·exact uz e2 id an
  ·cases h
theorem yXc {E}(hE:fS E)(hS:iN E.sums)(hm:E.P.follows .mixedOrders=true){A k pre na f fn}(hf:E.P.funcs[f]? =some fn)(hL:∀c,fn.body=some c→wG E.P A pre na fn.ntmps c)(bX:∀vs w,(callFunc f vs).run E.P w=.ok (.enter f vs) w)
  {as rs X S pack} {unpack:RL rs.cells→X} (eQ:∀d,pack (unpack d)=d) (aR:∀d x,S d=some x→∀Ml vs,zM (zV Ml) (ot as d).1 vs→∃eE,zM (zV Ml) eE vs∧je E A k pre na fn eE (ot as d).2 (lS rs unpack)=some x)
  {nm args h v u} (hy:yH (nx as rs S pack nm args h) v u):sf E.P f args h v u:=by
 intro M w vs hh hH ok hv
 refine .inl ⟨bX vs w,?_⟩
 unfold nx at hy
 split at hy
 ·exact hy.elim
 rename_i eE u0 ya
 split at hy
 case h_2=>exact hy.elim
 rename_i d hd
 obtain⟨hc,hy⟩:=xK hy
 rw[Bool.and_eq_true] at hc
 obtain⟨x,hx,rfl,rfl⟩:=hy
 subst hh
 obtain⟨M1,a1,a2,a3,a4,a5,a6⟩:=yJ0 ok (wT.refl _) hv ya
 rw[←a2] at hd
 obtain⟨Ml,lo,b2,b3,b4,b5⟩:=vRe a3 a5 hd
 obtain⟨abD,yc,Su⟩:=aR d x hx Ml _ b5
 refine Calls.mono (Sd hE hS hm hf hL Su b2 (by rw[lo.H,a1];exact hH) b3 yc) fun e w' he=>?_
 cases e with
 |panicked _=>omega
 |outgrown=>omega
 |returned rv=>
  obtain⟨L0,v0,st,hK,c1,c2,c3,c4,_,c5,c6,c7,c8,_⟩:=he
  have hK:G5 st.h rs v0=some (pack x):=by
   unfold lS at hK
   grind
  unfold G5 at hK
  split at hK
  case h_2=>cases hK
  rename_i cs mH
  split at hK
  case h_2=>cases hK
  rename_i aN u1 yd
  obtain⟨dA,hK⟩:=wD hK
  obtain⟨hlen,us,d1,d2⟩:=yI8 mH c5
  rw[←c1] at yd hK
  obtain⟨L,e1,e2,e3,e4,e5,e6⟩:=ux c3 (wT.refl _) d1 yd
  rw[←e2] at hK
  have g:iO Ml L:=c4.trans e4.grow
  obtain⟨f1,f2⟩:=zL.over_ok a3 e3 lo b4 g
  have ow:∀i,i<rs.cells.length→(M1.over L).h (nm+i)=none:=fun i hi=>by
   have h1:=Sn hc.1 i hi
   show M1.h (nm+i)=none
   rcases a6 (nm+i) with h|⟨own,t,xs,h,_⟩|⟨ver,xs,h,_⟩
   all_goals simp_all
  obtain ⟨Mc, g1, g2, g3, g4, g5, g6, g7, g8⟩ := So e3 f1 ⟨rfl, rfl⟩ ow hK (BV dA) (uz hK) (fun id an C hC b hb=>by
   obtain⟨o,ho,gY⟩:=uz hK id an
   have aK:qP L b:=⟨id,o,C,ho,gY,hC,hb⟩
   have kp:¬b<M1.H.size:=fun bd=>b4 b (g.own b aK (by rw[lo.H];omega))
   refine⟨fun h=>kp (a3.own b h).2,fun h=>?_,(e3.own b aK).2⟩
   rcases h with h|h
   ·exact kp (a3.Flt b h)
   ·exact(e3.own b aK).1 (e3.GF b h))
  have Sv:yX M1 Mc:=by
   have aK:∀b,qP Mc b→b<M1.H.size→qP M1 b:=fun b hb bd=>by
    rcases g7 b hb with h|⟨id,an,C,hC,B8⟩
    ·exact h
    ·obtain⟨o,ho,gY⟩:=uz hK id an
     exact absurd (g.own b ⟨id,o,C,ho,gY,hC,B8⟩ (by rw[lo.H];omega)) (b4 b)
   refine⟨f2.ext.trans f2.size g6,?_,fun b hb hn=>?_,aK,fun b hb bd=>?_,fun b hb bd=>?_⟩
   ·rw[g1];exact f2.size
   ·rw[g1];exact f2.frame b hb hn
   ·rw[g2] at hb;exact f2.Gb b hb bd
   ·rw[g3] at hb;exact f2.Fb b hb bd
  refine⟨Mc,⟨c6,c7,c8,?_,?_,g5,a4.trans Sv⟩,?_⟩
  ·rw[g1];show L.H=_;rw[e1,c2]
  ·rw[kq,←a2];exact g4
  ·exact d2 Mc _ (g8 us e5)
theorem vDj {E}(hE:fS E)(hS:iN E.sums)(hm:E.P.follows .mixedOrders=true){A k pre na f fn}(hf:E.P.funcs[f]? =some fn)(hL:∀c,fn.body=some c→wG E.P A pre na fn.ntmps c)(bX:∀vs w,(callFunc f vs).run E.P w=.ok (.enter f vs) w)
  {as rs X S} {pack:X→RL rs.cells} {unpack} (eQ:∀d,pack (unpack d)=d) (aR:∀d,je E A k pre na fn (ot as d).1 (ot as d).2 (lS rs unpack)=S d)
  {nm args h v u} (hy:yH (nx as rs S pack nm args h) v u):sf E.P f args h v u:=
 yXc hE hS hm hf hL bX eQ (fun d x hx _ _ hv=>⟨_,hv,(aR d).trans hx⟩) hy
theorem vF6 {E}(hE:fS E)(hS:iN E.sums)(hm:E.P.follows .mixedOrders=true){A k pre na f fn}(hf:E.P.funcs[f]? =some fn)(hL:∀c,fn.body=some c→wG E.P A pre na fn.ntmps c)(bX:∀vs w,(callFunc f vs).run E.P w=.ok (.enter f vs) w)
  {sh t rs X} {S:List t.den→Option X} {pack unpack} (eQ:∀d,pack (unpack d)=d) (cI:∀x,S []=some x→je E A k pre na fn [.c .nsl] (kU []) (lS rs unpack)=some x)
  (aR:∀xs x,S xs=some x→je E A k pre na fn [.c (.nfl sh t xs)] (kU []) (lS rs unpack)=some x)
  {nm args h v u} (hy:yH (nx [.c (.dat sh t)] rs (fun d=>S d.1) pack nm args h) v u):sf E.P f args h v u:=
 yXc hE hS hm hf hL bX eQ (fun d x hx Ml vs hv=>by
  obtain⟨xs,_⟩:=d
  match vs,hv with
  |[v],hv=>
   have mD:qE Ml.H (bif sh then Ml.G else Ml.F) (.sl t) xs (fun _=>some v):=hv.1
   have n9:=mD
   simp[qE] at mD
   obtain⟨A',n,c,rfl,hn,hc,h⟩:=mD
   cases A' with
   |some a=>exact⟨[.c (.nfl sh t xs)],⟨⟨by simp,n9⟩,trivial⟩,aR xs x hx⟩
   |none=>
    rcases h with⟨rfl,h0⟩|⟨B,o,e,_⟩
    ·have h0:=h0 rfl
     subst h0
     subst hn
     exact⟨[.c .nsl],⟨rfl,trivial⟩,cI x hx⟩
    ·cases e) hy
def yR.orElse:yR→yR→yR
 |.alts [],b=>b
 |a,_=>a
abbrev mI:=Nat→Nat→List zX→Hp→yR
def jV:List (Nat×mI)→Kt
 |[],_,_,_,_,_=>.stuck
 |(g,e)::l,k,nm,f,args,h=>bif Nat.beq g f then(e k nm args h).orElse (jV l k nm f args h) else jV l k nm f args h
def ySd (P:Program)(r:Nat×mI):Prop:=∀k nm args h v u,yH (r.2 k nm args h) v u→sf P r.1 args h v u
def G8 (e:mI):Prop:=∀k nm (args:List zX) h h',(args.any wI=false→∀id,(id∈args.flatMap yP∨mu nm id=true)→h id=h' id)→(args.any wI=true→h=h')→e k nm args h=e k nm args h'
theorem Sw {a b v u}(h:yH (a.orElse b) v u):yH a v u∨yH b v u:=by
 unfold yR.orElse at h
 grind
theorem yZk {P}:∀{l},(∀r∈l,ySd P r)→yG2 P (jV l)
 |[],_=>nofun
 |(g,e)::l,hl=>fun k nm f args h v u hy=>by
  have ih:=yZk (l:=l) fun r hr=>hl r (by grind)
  unfold jV at hy
  cases hg:Nat.beq g f with
  |false=>rw[hg] at hy;exact ih k nm f args h v u hy
  |true=>
   rw[hg] at hy
   have:g=f:=by simp_all
   subst this
   rcases Sw hy with hy|hy
   ·exact hl (g,e) (by simp) k nm args h v u hy
   ·exact ih k nm g args h v u hy
theorem yJr:∀{l},(∀r∈l,G8 r.2)→iN (jV l)
 |[],_=>fun k nm f args h h' _ _=>rfl
 |(g,e)::l,hl=>fun k nm f args h h' h1 h2=>by
  have ih:=yJr (l:=l) (by grind) k nm f args h h' h1 h2
  unfold jV
  have he:e k nm args h=e k nm args h':=hl (g,e) (by simp) k nm args h h' h1 h2
  rw[ih,he]
section
variable {h h':Hp}
theorem vOv {t c}(hh:∀id∈vG c,h id=h' id):xX h t c=xX h' t c:=by
 have e:=La hh
 unfold xX
 grind
theorem yXk {p c}(hh:∀id∈vG c,h id=h' id):so h p c=so h' p c:=by
 have e:=fun t=>vOv (t:=t) hh
 unfold so
 grind
theorem yNe:∀{l cs},(∀id∈cs.flatMap vG,h id=h' id)→xY h l cs=xY h' l cs
 |[],[],_
 |[],_::_,_
 |_::_,[],_=>rfl
 |p::l,c::cs,hh=>by
  simp  at hh
  unfold xY
  rw[yXk fun id hi=>hh id (.inl hi),yNe (by grind)]
theorem vIk {ls}:sr h ls []=sr h' ls []:=by
 cases ls<;>rfl
theorem Sx {s:AS}{a}(hb:wI a=false):s.get h a=s.get h' a:=by
 unfold AS.get
 cases s with
 |c p=>grind
 |agg l=>grind
 |ptr l=>
  cases a with
  |c x=>cases x<;>first|rfl|(exact absurd hb (by nofun))
  |_=>rfl
 |fn f bp=>
  cases a with
  |c x=>cases x with
   |fn g ids=>
    cases ids with
    |nil=>dsimp only;rw[vIk]
    |cons _ _=>exact absurd hb (by nofun)
   |_=>rfl
  |_=>rfl
theorem vYg {s:AS}{a cs}(hb:wI a=false)(e:s.get h a=some cs):∀id∈cs.flatMap vG,id∈yP a:=by
 unfold AS.get at e
 split at e
 ·cases e;intro id an;simp  at an;exact an
 ·obtain⟨_,e⟩:=wD e
  cases e;exact fun id an=>an
 ·exact absurd hb (by nofun)
 ·rename_i f bp g ids
  obtain⟨_,e⟩:=wD e
  cases ids with
  |nil=>cases bp with
   |nil=>cases e;simp
   |cons _ _=>cases e
  |cons _ _=>exact absurd hb (by nofun)
 ·cases e
theorem yBf:∀{l as},as.any wI=false→pS h l as=pS h' l as
 |[],[],_
 |[],_::_,_
 |_::_,[],_=>rfl
 |s::l,a::as,hb=>by
  simp only[List.any_cons,Bool.or_eq_false_iff] at hb
  unfold pS
  rw[Sx (h:=h) (h':=h') hb.1,yBf hb.2]
theorem vBj:∀{l as cs},as.any wI=false→pS h l as=some cs→∀id∈cs.flatMap vG,id∈as.flatMap yP
 |[],[],cs,_,e=>by cases e;simp
 |s::l,a::as,cs,hb,e=>by
  simp only[List.any_cons,Bool.or_eq_false_iff] at hb
  unfold pS at e
  split at e
  ·rename_i c1 rest e1 e2
   cases e
   intro id an
   rw[List.flatMap_append,List.mem_append] at an
   rw[List.flatMap_cons,List.mem_append]
   rcases an with an|an
   ·exact .inl (vYg hb.1 e1 id an)
   ·exact .inr (vBj hb.2 e2 id an)
  ·cases e
theorem vYj {l as}(hb:as.any wI=false)(hh:∀id∈as.flatMap yP,h id=h' id):xZ h l as=xZ h' l as:=by
 unfold xZ
 rw[yBf (h:=h) (h':=h') hb]
 cases e:pS h' l as with
 |none=>rfl
 |some cs=>exact yNe fun id an=>hh id (vBj hb e id an)
theorem B9 {x}:[x].flatMap vG=yP (.c x):=by simp[yP]
theorem Sy {c c' u}(e:ng h c=some (c',u)):(∀id∈vG c',id∈vG c)∧(wI (.c c')=true→wI (.c c)=true):=by
 cases c with
 |osl id r=>
  unfold ng at e
  dsimp only at e
  split at e
  ·cases e;exact⟨nofun,nofun⟩
  ·cases r with
   |none=>cases e;exact⟨nofun,nofun⟩
   |some _=>cases e
  ·cases e
 |mrow _ _ _=>cases e
 |_=>cases e;simp
theorem Ca:∀{l cs},(∀id∈cs.flatMap vG,h id=h' id)→fT h l cs=fT h' l cs
 |[],cs,_=>by rfl
 |true::l,[],_
 |false::l,[],_=>rfl
 |true::l,c::cs,hh=>by
  simp  at hh
  unfold fT
  rw[yU7 fun id hi=>hh id (.inl hi),Ca (by grind)]
 |false::l,c::cs,hh=>by
  unfold fT
  rw[Ca (by grind)]
theorem Cb:∀{l cs aN u},fT h l cs=some (aN,u)→∀id∈aN.flatMap vG,id∈cs.flatMap vG
 |[],cs,aN,u,e=>by cases cs<;>cases e<;>exact by simp
 |true::l,[],aN,u,e
 |false::l,[],aN,u,e=>by cases e;simp
 |true::l,c::cs,aN,u,e=>by
  unfold fT at e
  split at e
  ·rename_i c1 u1 lP pF e1 e2
   cases e
   intro id an
   rw[List.flatMap_cons,List.mem_append] at an⊢
   exact an.imp ((Sy e1).1 id) (Cb e2 id)
  ·cases e
 |false::l,c::cs,aN,u,e=>by
  unfold fT at e
  split at e
  ·rename_i lP pF e2
   cases e
   intro id an
   rw[List.flatMap_cons,List.mem_append] at an⊢
   exact an.imp (by simp) (Cb e2 id)
  ·cases e
theorem Sz {s a}(hh:∀id∈yP a,h id=h' id):uv h s a=uv h' s a:=by
 unfold uv
 cases s with
 |c p=>cases a with
  |c x=>
   have:=Ca (h:=h) (h':=h') (l:=[p.isKept]) (cs:=[x]) (by rw[B9];exact hh)
   simp_all
  |_=>rfl
 |agg l=>cases a with
  |agg xs=>
   have:=Ca (h:=h) (h':=h') (l:=l.map PC.isKept) (cs:=xs) hh
   simp_all
  |_=>rfl
 |_=>rfl
theorem vK5 {s a a' u}(e:uv h s a=some (a',u)):(∀id∈yP a',id∈yP a)∧(wI a=false→wI a'=false):=by
 unfold uv at e
 split at e
 ·rename_i p x
  split at e
  ·rename_i y u1 e1
   cases e
   refine⟨fun id an=>by have:=Cb e1 id (by rw[B9];omega);rwa [B9] at this,fun hb=>?_⟩
   cases hk:p.isKept with
   |false=>rw[hk] at e1;cases e1;exact hb
   |true=>
    rw[hk] at e1
    unfold fT at e1
    split at e1
    ·rename_i c1 u2 lP pF e2 e3
     cases e1
     cases hy:wI (.c y) with
     |false=>rfl
     |true=>rw[(Sy e2).2 hy] at hb;cases hb
    ·cases e1
  ·cases e
 ·split at e
  ·rename_i ys u1 e1
   cases e
   exact⟨Cb e1,fun _=>rfl⟩
  ·cases e
 simp_all
theorem qZ7:∀{l as},(∀id∈as.flatMap yP,h id=h' id)→pU h l as=pU h' l as
 |[],as,_=>by rfl
 |_::_,[],_=>rfl
 |s::l,a::as,hh=>by
  simp  at hh
  unfold pU
  rw[Sz fun id hi=>hh id (.inl hi),qZ7 (by grind)]
theorem yI1:∀{l as eJ u},pU h l as=some (eJ,u)→(∀id∈eJ.flatMap yP,id∈as.flatMap yP)∧(as.any wI=false→eJ.any wI=false)
 |[],as,eJ,u,e=>by cases as<;>cases e<;>exact by simp
 |s::l,[],eJ,u,e=>by cases e;simp
 |s::l,a::as,eJ,u,e=>by
  unfold pU at e
  split at e
  ·rename_i a1 u1 Ss pF e1 e2
   obtain⟨k1,k2⟩:=vK5 e1
   obtain⟨k3,k4⟩:=yI1 e2
   grind
  ·cases e
theorem SA:∀{n nm},(∀i,i<n→h (nm+i)=h' (nm+i))→uu h nm n=uu h' nm n
 |0,_,_=>rfl
 |n+1,nm,hh=>by
  unfold uu
  have:=hh 0 (by omega)
  rw[Nat.add_zero] at this
  rw[this,SA (by grind)]
end
theorem yJu {as rs X}{S:Nat→AD as→Option X}{pack}:G8 fun k nm args h=>nx as rs (S k) pack nm args h:=by
 intro k nm args h h' h1 h2
 cases hb:args.any wI with
 |true=>rw[h2 hb]
 |false=>
  have hh:=h1 hb
  show nx as rs (S k) pack nm args h=nx as rs (S k) pack nm args h'
  unfold nx
  rw[qZ7 (h:=h) (h':=h') (by grind)]
  cases e:pU h' as args with
  |none=>rfl
  |some p=>
   obtain⟨eE,u⟩:=p
   obtain⟨k1,k2⟩:=yI1 e
   dsimp only
   rw[vYj (h:=qL h u) (h':=qL h' u) (k2 hb) fun id an=>xR (by grind)]
   cases xZ (qL h' u) as eE with
   |none=>rfl
   |some d=>
    cases hle:Nat.ble rs.cells.length 100 with
    |false=>simp
    |true=>
     have hle:=Nat.le_of_ble_eq_true hle
     rw [SA (h := h) (h' := h') fun i hi => hh _ (.inr (by
      simp only[mu,Bool.and_eq_true]
      exact⟨by simp,by simp[Nat.blt_eq];omega⟩))]
def mJ:Code→List Code
 |.seq a b=>mJ a++mJ b
 |.cond _ a b=>mJ a++mJ b
 |.block _ b=>mJ b
 |.loop b=>[b]
 |_=>[]
def zQ (c:Code)(i:Nat):Code:=match(mJ c)[i]? with
 |some b=>b
 |none=>.skip
def zS (fn:Func):Code:=match fn.body with
 |some c=>c
 |none=>.skip
def yE2 (P:Program)(A:zW)(pre na nt:Nat)(b:Code):Prop:=(∃L,tX A b=some L∧zT P pre na nt b L)∨(tX A b=none∧wG P A pre na nt b)
theorem vIp {P A pre na nt}:∀c,(∀b∈mJ c,yE2 P A pre na nt b)→wG P A pre na nt c:=by
 intro c
 induction c with
 |seq a b BR BS=>exact fun h=>⟨BR fun x hx=>h x (List.mem_append_left _ hx),BS fun x hx=>h x (List.mem_append_right _ hx)⟩
 |cond t a b BR BS=>exact fun h=>⟨BR fun x hx=>h x (List.mem_append_left _ hx),BS fun x hx=>h x (List.mem_append_right _ hx)⟩
 |block id b ih=>exact fun h=>ih h
 |loop b ih=>
  intro h
  rcases h b (List.mem_cons_self ..) with⟨L,h1,h2⟩|⟨h1,h2⟩
  ·refine⟨by grind,by grind⟩
  ·refine⟨fun L' h3=>?_,fun _=>h2⟩
   simp_all
 |_=>exact fun _=>trivial
theorem Cc {P A pre na nt c n}(hn:(mJ c).length=n)(h:∀i,i<n→yE2 P A pre na nt (zQ c i)):wG P A pre na nt c:=
 vIp c fun b hb=>by
  obtain⟨i,hi,rfl⟩:=List.getElem_of_mem hb
  have e:zQ c i=(mJ c)[i]:=by
   unfold zQ
   grind
  grind
theorem loopsOK_of {P A pre na nt c n}(hn:(mJ c).length=n)(h:∀i,i<n→∃L,tX A (zQ c i)=some L∧zT P pre na nt (zQ c i) L):wG P A pre na nt c:=
 Cc hn fun i hi=>.inl (h i hi)
theorem SB {P A pre na nt c}(hn:(mJ c).length=0):wG P A pre na nt c:=loopsOK_of hn (by simp)
theorem body_loops {P A pre na fn}(h:wG P A pre na fn.ntmps (zS fn)):∀c,fn.body=some c→wG P A pre na fn.ntmps c:=fun c hc=>by
 unfold zS at h
 simp_all
theorem G9 {P f fn}(hf:P.funcs[f]? =some fn)(hb:fn.body.isNone=false)(hn:(fn.name== "runtime.NumGoroutine")=false):∀vs w,(callFunc f vs).run P w=.ok (.enter f vs) w:=fun vs w=>by
 have h1:(program).run P w=.ok P w:=rfl
 unfold callFunc
 simp only[Sem.run_bind,h1,Result.andThen_ok,hf,hn,hb,Bool.false_eq_true,if_false,Sem.run_pure]
abbrev zA (x:Int):Int:=IntKind.wrap .i64 x
abbrev yJ (k:IntKind)(x y:Int):Int:=rI (fun _ a b=>a&&&b) k x y
abbrev wK (k:IntKind)(x y:Int):Int:=rI (fun _ a b=>a|||b) k x y
abbrev shl (k:IntKind)(x y:Int):Int:=k.wrap (x*2^(min y.toNat k.bits))
abbrev shr (k:IntKind)(x y:Int):Int:=x.fdiv (2^(min y.toNat k.bits))
abbrev zO (n b:Nat):Bool:=Nat.ble (n*b) 140737488355328&&Nat.ble n 140737488355328
abbrev pV (l c:Int)(b:Nat):Bool:=decide (0≤l)&&decide (l≤c)&&decide (c*(b:Int)≤140737488355328)&&decide (c≤140737488355328)
abbrev wN (lt:Bool)(x y:Int):Int:=bif lt then(bif decide (y<x) then y else x) else(bif decide (y>x) then y else x)
abbrev SC (xs:List (List Int))(n:Nat):Option (List (List Int)):=
 lS (.c .mat) (fun d=>d.1) (.c (.osl 0 none)) ⟨fun _=>.undef,fun _=>some (.pmat 0 xs n)⟩
theorem vU0 xs n:SC xs n=bif Nat.beq xs.length n then some xs else none:=by
 unfold SC lS G5 RS.get RS.cells
 dsimp only[List.map,RC.isFro,fT,wC,rJ,qL]
 cases h:Nat.beq xs.length n<;>simp[jv,ou,h]
theorem Lp {l:List Nat}{p:Nat→Bool}(hl:∀t∈l,p t=true)(t:Nat)(h:l.any (Nat.beq t)=true):p t=true:=by
 simp_all
theorem SD {P}:Gx P (fun _=>false):=nofun
open Go.ChangeShapes Go.WideShapes Go.ChangeAt Go.RowKit
def Ha (f:TypeId→Option Ty):Nat→List (Nat×TypeId)→Option Ty
 |_,[]=>none
 |off,[x]=>bif Nat.beq x.1 off then f x.2 else none
 | off, x :: y :: l => bif Nat.beq x.1 off then (match f x.2 with
  |some a=>(match Ha f (off+a.size) (y::l) with|some b=>some (.pair a b)|none=>none)
  |none=>none) else none
def pW (P:Program):TypeDesc→List (Nat×TypeId)
 |.struct fs=>fs.toList.map fun f=>(f.offset,f.type)
 |.array n e=>(List.range n).map fun i=>(i*P.cellsOf e,e)
 |_=>[]
def nz (P:Program):Nat→TypeId→Option Ty
 |0,_=>none
 |d+1,t=>match P.underlying t with
  |some (.int k)=>bif Nat.beq (P.cellsOf t) 1 then some (.int k) else none
  |some .bool=>bif Nat.beq (P.cellsOf t) 1 then some .bool else none
  |some (.slice e)=>bif Nat.beq (P.cellsOf t) 1&&Nat.ble 1 (P.bytesOf e) then(match nz P d e with|some a=>some (.sl a)|none=>none) else none
  |some x=>match Ha (nz P d) 0 (pW P x) with
   |some a=>bif Nat.beq (P.cellsOf t) a.size then some a else none
   |none=>none
  |none=>none
def Wf:(t:Ty)→t.den→Prop
 |.int k,n=>(Lit.int k n).wf=true
 |.bool,_=>True
 |.sl t,xs=>xs.length≤reachBytes∧∀i (h:i<xs.length),Wf t xs[i]
 |.pair a b,p=>Wf a p.1∧Wf b p.2
theorem SE {P}:∀{d t ty},nz P d t=some ty→P.cellsOf t=ty.size
 |d+1,t,ty,h=>by
  unfold nz at h
  split at h
  ·obtain⟨h1,h2⟩:=wD h;cases h2;exact Nat.eq_of_beq_eq_true h1
  ·obtain⟨h1,h2⟩:=wD h;cases h2;exact Nat.eq_of_beq_eq_true h1
  ·obtain⟨h1,h2⟩:=wD h
   rw[Bool.and_eq_true] at h1
   split at h2
   ·cases h2;exact Nat.eq_of_beq_eq_true h1.1
   ·cases h2
  ·split at h
   ·obtain⟨h1,h2⟩:=wD h;simp_all
   ·cases h
  ·cases h
section
variable {H:Type} {enc:TypeId×Value→H} {P:Program} {w:World}
abbrev Hb (w:World):Nat→Prop:=fun b=>b<w.heap.size
theorem vWt {a n cs}(h:w.cells? 0 a n=some cs):cs.length=n∧∀i,i<n→∃v,cs[i]? =some v∧w.cell? (a.add i)=some v:=by
 have hl:=mapM_some_length h
 have hg:=mapM_some_get h
 simp at hl
 refine⟨hl,fun i hi=>?_⟩
 have:=hg i i (by simp[hi])
 simp_all
theorem yFt {a v}(h:w.cell? a=some v):a.spot=none∧a.block<w.heap.size∧yN w.heap a.block a.off=some v:=by
 unfold World.cell? at h
 cases hb:w.heap[a.block]? with
 |none=>simp_all
 |some o=>
  rw[hb] at h
  cases o with
  |cells c e z=>
   dsimp only at h
   split at h
   ·cases h
   ·refine⟨by simp_all,?_,?_⟩
    ·grind
    ·unfold yN;simp_all
  |_=>cases h
theorem yGw {α:Type}{p:Nat→α→Prop}:∀n,(∀i,i<n→∃x,p i x)→∃xs:List α,xs.length=n∧∀i h,p i xs[i]
 |0,_=>by simp
 |n+1,h=>by
  obtain⟨xs,h1,h2⟩:=yGw n fun i hi=>h i (by omega)
  obtain⟨x,hx⟩:=h n (by omega)
  refine⟨xs++[x],by simp[h1],fun i hi=>?_⟩
  grind
def eS (l:List Nat):Prop:=l.all (· ≤reachBytes)=true
theorem oz {l m}:eS (l++m)↔eS l∧eS m:=by simp[eS]
theorem yCl {P e}{d:DataW H}:∀{l},eS (DataW.weightsAll P e l)→d∈l→eS (d.weights P e)
 |a::l,h,hd=>by
  have h:=oz.1 h
  rcases List.mem_cons.1 hd with rfl|hd
  ·exact h.1
  ·exact yCl h.2 hd
theorem yD9 {P e}:∀{ts} {ds:List (DataW H)},(∀t∈ts,t=e)→eS (DataW.weightsAll P e ds)→eS (DataW.weightsEach P ts ds)
 |t::ts,d::ds,ht,h=>by
  have h:=oz.1 h
  rw[ht t (by simp)]
  exact oz.2 ⟨h.1,yD9 (by grind) h.2⟩
 |[],_,_,_=>by simp[DataW.weightsEach,eS]
 |_::_,[],_,_=>by rfl
def Lq (P:Program)(w:World)(ty:Ty)(cs:List Value):Prop:=∃x:ty.den,cs.length=ty.size∧qE w.heap (Hb w) ty x (fun j=>cs[j]?)∧Wf ty x
theorem yI0 {d fuel}(ih:∀t ty cs x,nz P d t=some ty→DataW.trod enc P w 0 (fun _=>true) true fuel t cs=some x→eS (x.1.weights P t)→Lq P w ty cs):
  ∀l off ty (cs:List Value) out,Ha (nz P d) off l=some ty→off+ty.size≤cs.length→
   (l.mapM fun p=>DataW.trod enc P w 0 (fun _=>true) true fuel p.2 ((cs.drop p.1).take (P.cellsOf p.2)))=some out→eS (DataW.weightsEach P (l.map (·.2)) (out.map (·.1)))→Lq P w ty ((cs.drop off).take ty.size)
 |[x],off,ty,cs,out,h,hc,hm,hw=>by
  obtain⟨h1,h2⟩:=wD h
  have ho:x.1=off:=by simpa using h1
  simp only[List.mapM_cons,List.mapM_nil,Option.pure_def,Option.bind_eq_bind,Option.bind_eq_some_iff] at hm
  obtain⟨y,hy,_,e,e'⟩:=hm
  cases e;cases e'
  rw[ho,SE h2] at hy
  exact ih _ _ _ _ h2 hy (oz.1 hw).1
 |x::y::l,off,ty,cs,out,h,hc,hm,hw=>by
  obtain⟨h1,h2⟩:=wD h
  have ho:x.1=off:=by simpa using h1
  split at h2
  ·rename_i a ha
   split at h2
   ·rename_i b hb
    cases h2
    simp only[Ty.size] at hc⊢
    rw[List.mapM_cons] at hm
    simp only[Option.pure_def,Option.bind_eq_bind,Option.bind_eq_some_iff] at hm
    obtain⟨z,hz,zs,hzs,e⟩:=hm
    cases e
    rw[ho,SE ha] at hz
    have hw:=oz.1 hw
    obtain⟨p,p1,p2,p3⟩:=ih _ _ _ _ ha hz hw.1
    obtain⟨q,q1,q2,q3⟩:=yI0 ih (y::l) (off+a.size) b cs zs hb (by omega) hzs hw.2
    refine⟨(p,q),by simp only[List.length_take,List.length_drop,Ty.size];omega,⟨?_,?_⟩,p3,q3⟩
    ·refine yY (fun _ h=>h) (by simp) a p _ _ (fun j hj=>?_) p2
     simp only[List.getElem?_take,List.getElem?_drop]
     rw[if_pos (by omega),if_pos hj]
    grind
   ·cases h2
  ·cases h2
theorem SF:∀d t ty fuel cs x,nz P d t=some ty→DataW.trod enc P w 0 (fun _=>true) true fuel t cs=some x→eS (x.1.weights P t)→Lq P w ty cs
 |0,_,_,_,_,_,h,_,_=>by cases h
 |d+1,t,ty,0,cs,x,_,h,_=>by simp[DataW.trod] at h
 |d+1,t,ty,fuel+1,cs,x,hl,h,hw=>by
  unfold nz at hl
  split at hl
  ·rename_i k hu
   obtain⟨_,hl⟩:=wD hl
   cases hl
   obtain⟨n,rfl,_,uA⟩:=DataW.trod_int hu h
   exact⟨n,rfl,rfl,uA⟩
  ·rename_i hu
   obtain⟨_,hl⟩:=wD hl
   cases hl
   obtain⟨b,rfl,_⟩:=DataW.trod_bool hu h
   exact⟨b,rfl,rfl,trivial⟩
  ·rename_i e hu
   obtain⟨gC,hl⟩:=wD hl
   rw[Bool.and_eq_true] at gC
   have gC:=Nat.le_of_ble_eq_true gC.2
   split at hl
   ·rename_i a ha
    cases hl
    rcases DataW.trod_slice hu h with⟨rfl,_⟩|⟨ad,len,cap,elems,rest,n,hn,rfl,rfl,_,QV,hm,hel,hg,_,_⟩
    ·refine⟨([]:List a.den),rfl,?_,?_⟩
     ·simp only[qE]
      exact⟨none,0,0,rfl,rfl,Nat.le_refl _,.inl ⟨trivial,fun _=>rfl⟩⟩
     ·simp only[Wf]
      exact by simp
    ·unfold DataW.weights at hw
     rw[hu] at hw
     have hw:eS ([((elems.map (·.1)).length+(rest.map (·.1)).length)*P.bytesOf e]++(DataW.weightsAll P e (elems.map (·.1))++DataW.weightsAll P e (rest.map (·.1)))):=hw
     obtain⟨pX,hw⟩:=oz.1 hw
     have hw2:=(oz.1 hw).1
     have hlen:len≤reachBytes:=by
      simp only[eS,List.all_cons,List.all_nil,Bool.and_true,decide_eq_true_eq,List.length_map] at pX
      have:=Nat.mul_le_mul_left (elems.length+rest.length) gC
      omega
     have key:∀i,i<len→∃x:a.den,(qE w.heap (Hb w) a x (fun j=>yN w.heap ad.block (ad.off+i*a.size+j))∧(i=0→ad.spot=none)∧ad.block<w.heap.size)∧Wf a x:=by
      intro i hi
      have h1:=hg i hi
      have RZ:i<elems.length:=by omega
      rw[List.getElem?_eq_getElem RZ,Option.bind_eq_some_iff] at h1
      obtain⟨cs,mH,htr⟩:=h1
      rw[SE ha] at mH
      obtain⟨y,y1,y2,y3⟩:=SF d e a n cs _ ha htr (yCl hw2 (by grind))
      obtain⟨c1,c2⟩:=vWt mH
      have ye:∀j,((ad.add (i*a.size)).add j).block=ad.block∧((ad.add (i*a.size)).add j).off=ad.off+i*a.size+j:=by
       intro j
       unfold Addr.add
       constructor
       ·split<;>split<;>rfl
       ·split<;>split<;>simp_all
      have at0:(i=0→ad.spot=none)∧ad.block<w.heap.size:=by
       obtain⟨v,_,hv⟩:=c2 0 a.size_pos
       have h1:=yFt hv
       refine⟨fun h0=>?_,by have:=h1.2.1;rwa [(ye 0).1] at this⟩
       have h2:=h1.1
       subst h0
       simpa[Addr.add] using h2
      refine⟨y,⟨yY (fun _ h=>h) (fun _ _=>rfl) a y _ _ (fun j hj=>?_) y2,at0⟩,y3⟩
      obtain⟨v,v1,v2⟩:=c2 j hj
      rw[v1]
      have h1:=(yFt v2).2.2
      rwa [(ye j).1,(ye j).2] at h1
     obtain⟨xs,x1,x2⟩:=yGw len key
     refine⟨xs,rfl,?_,?_⟩
     ·simp only[qE]
      refine⟨some ad,len,cap,rfl,x1.symm,QV,?_⟩
      by_cases h0:xs=[]
      ·exact by grind
      ·refine .inr ⟨ad.block,ad.off,?_,?_,fun i hi=>(x2 i hi).1.1⟩
       ·have:=(x2 0 (List.length_pos_iff.2 h0)).1.2.1 rfl
        cases ad
        simp at this
        rw[this]
       ·exact by grind
     ·simp only[Wf]
      exact by grind
   ·cases hl
  ·rename_i y n1 n2 n3 hu
   split at hl
   ·rename_i a ha
    obtain⟨dN,hl⟩:=wD hl
    cases hl
    have dN:P.cellsOf t=ty.size:=by simpa using dN
    have fin:∀out,cs.length=P.cellsOf t→((pW P y).mapM fun p=>DataW.trod enc P w 0 (fun _=>true) true fuel p.2 ((cs.drop p.1).take (P.cellsOf p.2)))=some out→eS (DataW.weightsEach P ((pW P y).map (·.2)) (out.map (·.1)))→Lq P w ty cs:=by
     intro out hlen jn hw
     have:=yI0 (fun t' ty' aN x' h1 h2 h3=>SF d t' ty' fuel aN x' h1 h2 h3) (pW P y) 0 ty cs out ha (by omega) jn hw
     rwa [List.drop_zero,List.take_of_length_le (by omega)] at this
    unfold DataW.trod at h
    rw[hu] at h
    cases y with
    |struct fs=>
     dsimp only at h
     split at h
     ·rename_i hlen
      rw[Option.map_eq_some_iff] at h
      obtain⟨out,ho,rfl⟩:=h
      unfold DataW.weights at hw
      rw[hu] at hw
      refine fin out hlen ?_ (by rw[pW,List.map_map];exact hw)
      simp only[pW,List.mapM_map]
      exact ho
     ·cases h
    |array n e=>
     dsimp only at h
     split at h
     ·rename_i hlen
      rw[Option.map_eq_some_iff] at h
      obtain⟨out,ho,rfl⟩:=h
      unfold DataW.weights at hw
      rw[hu] at hw
      refine fin out hlen ?_ (yD9 (fun t ht=>by simp[pW] at ht;exact ht.2.symm) hw)
      simp only[pW,List.mapM_map]
      exact ho
     ·cases h
    |_=>simp[pW,Ha] at ha
   ·cases hl
  ·cases hl
end
open Go.ChangeShapes Go.WideShapes Go.ChangeAt Go.RowKit
def ss (sh:Bool):Ty→List PC
 |.int k=>[.int k]
 |.bool=>[.bool]
 |.sl t=>[.dat sh t]
 |.pair a b=>ss sh a++ss sh b
def uB:(l m:List PC)→PL l→PL m→PL (l++m)
 |[],_,_,e=>e
 |_::l,m,d,e=>(d.1,uB l m d.2 e)
theorem SG:∀l m d e,vS (l++m) (uB l m d e)=vS l d++vS m e
 |[],_,_,_=>rfl
 |p::l,m,d,e=>by
  show B7 p d.1::vS (l++m) (uB l m d.2 e)=B7 p d.1::(vS l d.2++vS m e)
  rw[SG l m d.2 e]
def pY sh:(t:Ty)→t.den→PL (ss sh t)
 |.int _,n=>(n,())
 |.bool,b=>(b,())
 |.sl _,xs=>(xs,())
 |.pair a b,p=>uB _ _ (pY sh a p.1) (pY sh b p.2)
def WfP:(p:PC)→p.den→Prop
 |.int k,n=>(Lit.int k n).wf=true
 |.bool,_=>True
 |.dat _ t,xs=>Wf (.sl t) xs
 |.fn _,_=>True
 |.nil,_=>True
 |.nilp,_=>True
def su:(l:List PC)→PL l→Prop
 |[],_=>True
 |p::l,d=>WfP p d.1∧su l d.2
theorem SH:∀l m d e,su l d→su m e→su (l++m) (uB l m d e)
 |[],_,_,_,_,h=>h
 |_::l,m,d,e,h,h'=>⟨h.1,SH l m d.2 e h.2 h'⟩
theorem SI sh:∀t x,Wf t x→su (ss sh t) (pY sh t x)
 |.int _,_,h
 |.bool,_,h
 |.sl _,_,h=>⟨h,trivial⟩
 |.pair a b,p,h=>SH _ _ _ _ (SI sh a p.1 h.1) (SI sh b p.2 h.2)
theorem Lr:∀l d,(vS l d).length=l.length
 |[],_=>rfl
 |p::l,d=>by
  show(vS l d.2).length+1=l.length+1
  rw[Lr l d.2]
def M0 (w:World):zL:=⟨fun _=>none,Hb w,Hb w,kU [],w.heap⟩
theorem vKu w:Ok (M0 w) where
 obj:=nofun
 non:=fun _ _=>rfl
 disj:=fun i j oi oj Ci Cj b _ h=>by cases h
 own:=nofun
 GF:=fun _ h=>h
 Flt:=fun _ h=>h
theorem SJ sh {w}:∀t x cs,cs.length=t.size→qE w.heap (Hb w) t x (fun j=>cs[j]?)→zM (zY (M0 w)) (vS (ss sh t) (pY sh t x)) cs
 |.int k,n,cs,hl,h=>by
  match cs,hl with
  |[c],_=>
   have e:c=.int k n:=by simpa[qE] using h
   exact⟨e,trivial⟩
 |.bool,b,cs,hl,h=>by
  match cs,hl with
  |[c],_=>
   have e:c=.bool b:=by simpa[qE] using h
   exact⟨e,trivial⟩
 |.sl t,xs,cs,hl,h=>by
  match cs,hl with
  |[c],_=>
   refine⟨?_,trivial⟩
   have h':=yY (F':=(bif sh then(M0 w).G else(M0 w).F)) (fun b h=>by cases sh<;>exact h) (fun b _=>rfl) (.sl t) xs (fun j=>[c][j]?) (fun _=>some c) (by grind) h
   exact h'
 |.pair a b,p,cs,hl,h=>by
  have dG:cs.length=a.size+b.size:=hl
  have h1:=SJ sh a p.1 (cs.take a.size) (by grind) (yY (fun _ h=>h) (by simp) a p.1 _ _ (by grind) h.1)
  have h2:=SJ sh b p.2 (cs.drop a.size) (by grind) (yY (by simp) (fun _ _=>rfl) b p.2 _ _ (by grind) h.2)
  show zM _ (vS (ss sh a++ss sh b) (uB _ _ (pY sh a p.1) (pY sh b p.2))) cs
  rw[SG]
  have:=zM.append h1 h2
  simp_all
def pZ (sh : Bool) (P : Program) (t : TypeId) (ty : Ty) : AS := bif jL P t == some true then .agg (ss sh ty) else (match ty with
 |.int k=>.c (.int k)|.bool=>.c .bool|.sl t=>.c (.dat sh t)|.pair a b=>.agg (ss sh (.pair a b)))
def Ls (P:Program):List TypeId→Option (List Ty)
 |[]=>some []
 |t::ts=>match nz P 8 t,Ls P ts with
  |some a,some l=>some (a::l)
  |_,_=>none
def sv (sh:Bool)(P:Program):List TypeId→List Ty→List AS
 |t::ts,a::l=>pZ sh P t a::sv sh P ts l
 |_,_=>[]
theorem vUr {P t ty}(h:nz P 8 t=some ty)(ha:(jL P t==some true)=false):(∃k,P.underlying t=some (.int k)∧ty=.int k)∨(P.underlying t=some .bool∧ty=.bool)∨∃e a,P.underlying t=some (.slice e)∧ty=.sl a:=by
 unfold nz at h
 split at h
 ·grind
 ·grind
 ·grind
 ·rename_i x _ _ _ hu
  split at h
  ·rename_i a hx
   unfold jL at ha
   rw[hu] at ha
   cases x<;>first|(simp[pW,Ha] at hx;done)|(cases ha)
  ·cases h
 ·cases h
section
variable {H:Type} {enc:TypeId×Value→H} {P:Program} {w:World}
theorem vDw sh {t ty v d ps base}(hl:nz P 8 t=some ty)(fj:Value.okWide P w .any base t v)(h:DataW.Trod enc P w 0 (fun _=>true) true t v d ps)(hw:eS (d.weights P t)):
  ∃x:PL (pZ sh P t ty).cells,(∀n,zV (M0 w) ((pZ sh P t ty).mk n (vS _ x)) v)∧(pZ sh P t ty).boxes (vS _ x)=[]∧su _ x:=by
 obtain⟨fuel,hf⟩:=h
 obtain⟨x,x1,x2,x3⟩:=SF 8 t ty fuel _ _ hl hf hw
 have dj:=SJ sh ty x _ x1 x2
 have Cd:=SI sh ty x x3
 unfold pZ
 cases ha:(jL P t==some true) with
 |true=>
  refine⟨pY sh ty x,fun n=>?_,rfl,Cd⟩
  have nk:jL P t=some true:=by simp_all
  have hv:∃cs,v=.agg cs:=by
   unfold jL at nk
   unfold Value.okWide at fj
   grind
  obtain⟨cs,rfl⟩:=hv
  exact⟨cs,rfl,dj⟩
 |false=>
  rcases vUr hl ha with⟨k,hu,rfl⟩|⟨hu,rfl⟩|⟨e,a,hu,rfl⟩
  ·have hv:∃n,v=.int k n:=by
    simp[Value.okWide,Cell.okWide] at fj
    cases v<;>simp_all[Cell.ok]
   obtain⟨n0,rfl⟩:=hv
   exact⟨pY sh _ x,fun n=>dj.1,rfl,Cd⟩
  ·have hv:∃b,v=.bool b:=by
    simp[Value.okWide,Cell.okWide] at fj
    cases v<;>simp_all[Cell.ok]
   obtain⟨b,rfl⟩:=hv
   exact⟨pY sh _ x,fun n=>dj.1,rfl,Cd⟩
  ·obtain⟨ad,len,cap,rfl⟩:=okWide_slice hu fj
   exact⟨pY sh _ x,fun n=>dj.1,rfl,Cd⟩
theorem yH9 sh {base}:∀ts tys vs ds ps n,Ls P ts=some tys→(∀(j:Nat) t v,ts[j]? =some t→vs[j]? =some v→Value.okWide P w .any base t v)→
  DataW.TrodAll enc P w 0 (fun _=>true) true ts vs ds ps→eS (DataW.weightsEach P ts ds)→∃x:AD (sv sh P ts tys),zM (zV (M0 w)) (kT (sv sh P ts tys) (vS _ x) n).1 vs∧(kT (sv sh P ts tys) (vS _ x) n).2=[]∧su _ x
 |[],tys,vs,ds,ps,n,hl,fj,h,_=>by
  match vs,ds,h with
  |[],[],_=>exact⟨(),trivial,rfl,trivial⟩
 |t::ts,tys,vs,ds,ps,n,hl,fj,h,hw=>by
  unfold Ls at hl
  split at hl
  ·rename_i a l ha dG
   cases hl
   match vs,ds,h with
   |v::vs,d::ds,h=>
    obtain⟨p,q,h1,h2,_⟩:=h
    have hw:=oz.1 hw
    obtain⟨x,x1,x2,x3⟩:=vDw sh ha (fj 0 t v rfl rfl) h1 hw.1
    obtain⟨y,y1,y2,y3⟩:=yH9 sh ts l vs ds q n dG (fun j t' v' h1 h2=>fj (j+1) t' v' h1 h2) h2 hw.2
    refine⟨uB _ _ x y,?_⟩
    have e:vS ((sv sh P (t::ts) (a::l)).flatMap AS.cells) (uB _ _ x y)=vS _ x++vS _ y:=SG _ _ _ _
    have ht:(vS _ x++vS _ y).take (pZ sh P t a).cells.length=vS _ x:=by
     rw[List.take_append_of_le_length (by rw[Lr];omega),List.take_of_length_le (by rw[Lr];omega)]
    have hd:(vS _ x++vS _ y).drop (pZ sh P t a).cells.length=vS _ y:=by
     rw[List.drop_append_of_le_length (by rw[Lr];exact by simp),List.drop_of_length_le (by grind),List.nil_append]
    rw[e]
    have em:kT (sv sh P (t::ts) (a::l)) (vS _ x++vS _ y) n=((pZ sh P t a).mk n (vS _ x)::(kT (sv sh P ts l) (vS _ y) n).1,(kT (sv sh P ts l) (vS _ y) n).2):=by
     show((pZ sh P t a).mk n _::_,(pZ sh P t a).boxes _++_)=_
     simp_all
    rw[em]
    exact⟨⟨x1 n,y1⟩,y2,SH _ _ _ _ x3 y3⟩
  ·cases hl
theorem yPi {us}{gs:List (DataW H)}:∀{ts ds},ts.length=ds.length→eS (DataW.weightsEach P (ts++us) (ds++gs))→eS (DataW.weightsEach P ts ds)
 |[],[],_,_=>by rfl
 |t::ts,d::ds,hl,h=>oz.2 ⟨(oz.1 h).1,yPi (by simp_all) (oz.1 h).2⟩
theorem yKh:∀{ts vs ds ps},DataW.TrodAll enc P w 0 (fun _=>true) true ts vs ds ps→ts.length=ds.length
 |[],[],[],_,_=>rfl
 |_::_,_::_,_::_,_,⟨_,_,_,h,_⟩=>by rw[List.length_cons,List.length_cons,yKh h]
theorem lawArgs sh {base ts tys asp vs ds ps}(hl:Ls P ts=some tys)(has:sv sh P ts tys=asp)
  (fj:∀(j:Nat) t v,ts[j]? =some t→vs[j]? =some v→Value.okWide P w .any base t v) (h:DataW.TrodAll enc P w 0 (fun _=>true) true ts vs ds ps) {us gs} (hw:eS (DataW.weightsEach P (ts++us) (ds++gs))):
  ∃x:AD asp,zM (zV (M0 w)) (kT asp (vS _ x) 0).1 vs∧(kT asp (vS _ x) 0).2=[]∧su _ x:=by
 subst has
 exact yH9 sh ts tys vs ds ps 0 hl fj h (yPi (yKh h) hw)
theorem law_calls {E}(hE:fS E)(hS:iN E.sums)(hm:E.P.follows .mixedOrders=true){A k pre f fn}(hf:E.P.funcs[f]? =some fn)(hL:∀c,fn.body=some c→wG E.P A pre 0 fn.ntmps c)
  {as d unpack} (hup:∀d,unpack d=d.1) (aR:je E A k pre 0 fn (ot as d).1 (ot as d).2 (lS (.c .bool) unpack)=some true) (hb:(kT as (vS _ d) 0).2=[]) {vs} (hv:zM (zV (M0 w)) (kT as (vS _ d) 0).1 vs.toList):
  Calls E.P f vs w fun e w'=>e=.returned (.bool true)∧Below w.heap.size w w':=by
 have hh:(M0 w).h=(ot as d).2:=by
  show kU []=kU (kT as (vS _ d) 0).2
  rw[hb]
 refine Calls.mono (Sd hE hS hm hf hL aR (M:=M0 w) (w:=w) hh rfl (vKu w) hv) fun e w' he=>?_
 cases e with
 |returned rv=>
  obtain⟨M',v,st,hK,_,hH,_,hg,_,hrv,o1,o2,o3,_⟩:=he
  refine⟨?_,o1,o2,o3,?_,fun b hb=>?_⟩
  ·unfold lS at hK
   split at hK
   ·rename_i r hr
    unfold G5 at hr
    split at hr
    ·rename_i cs mH
     split at hr
     ·rename_i aN u BJ
      cases v with
      |c x=>
       cases mH
       have e1:aN=[x]:=by
        simp[RS.cells,RC.isFro,fT] at BJ
        simp_all
       subst e1
       have pJ:jv (qL st.h u) [.bool] [x]=some r:=hr
       cases x with
       |bool b=>
        have e2:r=(b,()):=by simp[jv,ou] at pJ;grind
        have:rv=.bool b:=hrv
        grind
       |_=>simp[jv,ou] at pJ
      |_=>cases mH
     ·cases hr
    ·cases hr
   ·cases hK
  ·have:=hg.size
   rw[hH] at this
   exact this
  ·have:=hg.same b hb
   rw[hH] at this
   exact this
 |_=>simp_all
end
inductive XC where
 |p (c:PC)|own (t:Ty)|mat|map
 |link (j:Nat)
abbrev XC.den:XC→Type
 |.p c=>c.den|.own t=>List t.den|.mat=>List (List Int)|.map=>List (Int×Bool)|.link _=>Unit
def XC.lnk:XC→Option Nat
 |.link j=>some j
 |_=>none
def RC.lnk:RC→Option Nat
 |.link j=>some j
 |_=>none
def qa:List (Option Nat)→List Nat→List zZ→Bool
 |none::l,ids,_::cs=>qa l ids cs
 |some j::l,ids,.ptr id 0::cs=>(match ids[j]? with|some k=>Nat.beq id k|none=>false)&&qa l ids cs
 |some _::_,_,_=>false
 |_,_,_=>true
def yf:List (Option Nat)→List Nat→List zZ→List zZ
 |none::l,ids,c::cs=>c::yf l ids cs
 |some j::l,ids,c::cs=>(match ids[j]? with|some id=>.ptr id 0|none=>c)::yf l ids cs
 |_,_,cs=>cs
def SK:List zZ→Option Nat
 |[]=>none
 |.ptr id 0::_=>some id
 |_::l=>SK l
def Hc (h:Hp):Nat→Nat→Option (List Nat)
 |0,_=>none
 |1,id=>some [id]
 |n+2,id=>match B6 h id with
  | some cells => (match SK cells with
   |some id2=>(match Hc h (n+1) id2 with|some l=>some (id::l)|none=>none)
   |none=>none)
  |none=>none
def kV:Nat→Nat→List Nat
 |_,0=>[]
 |n,m+1=>n::kV (n+1) m
abbrev XL:List XC→Type
 |[]=>Unit
 |c::l=>c.den×XL l
inductive AX where
 |c (x:XC)|agg (l:List PC)|ptr (io:Bool) (l:List XC)|fn (f:Nat) (bp:List (Bool×List XC))
 |chn (ls:List (List XC))
def AX.cells:AX→List XC
 |.c x=>[x]
 |.agg l=>l.map .p
 |.ptr _ l=>l
 |.fn _ bp=>bp.flatMap (·.2)
 |.chn ls=>ls.flatten
def AX.nb:AX→Nat
 |.ptr _ _=>1
 |.fn _ bp=>bp.length
 |.chn ls=>ls.length
 |_=>0
def AX.isChn:AX→Bool
 |.chn _=>true
 |_=>false
def Ce (ls:List (List XC)):List (Bool×List XC):=ls.map fun l=>(true,l)
abbrev XD (l:List AX):Type:=XL (l.flatMap AX.cells)
def AX.looks:AX→Bool
 |.ptr _ _=>true
 |.fn _ _=>true
 |_=>false
def sw (l:List AX)(na:Nat):Bool:=l.zipIdx.all fun p=> !p.1.looks||Nat.blt p.2 na
def Cf (h:Hp)(io:Bool)(id:Nat):Option (List zZ):=match io,h id with
 |true,some (.box true cells)=>some cells
 |false,some (.box _ cells)=>some cells
 |false,some (.robox cells)=>some cells
 |_,_=>none
def iP (h:Hp):List (Bool×List XC)→List Nat→Option (List zZ×List (Bool×Nat))
 |[],[]=>some ([],[])
 |(io,l)::ls,id::ids=>match Cf h io id,iP h ls ids with
  |some cells,some (rest,bs)=>bif Nat.beq cells.length l.length then some (cells++rest,(io,id)::bs) else none
  |_,_=>none
 |_,_=>none
def AX.get (h:Hp):AX→zX→Option (List zZ×List (Bool×Nat))
 |.c _,.c x=>some ([x],[])
 |.agg l,.agg xs=>bif Nat.beq xs.length l.length then some (xs,[]) else none
 |.ptr io l,.c (.ptr id 0)=>iP h [(io,l)] [id]
 |.fn f bp,.c (.fn g ids)=>bif Nat.beq f g then iP h bp ids else none
 |.chn ls,.c (.ptr id 0)=>match Hc h ls.length id with
  |some ids=>iP h (Ce ls) ids
  |none=>none
 |_,_=>none
def jw (h:Hp):List AX→List zX→Option (List zZ×List (Bool×Nat))
 |[],[]=>some ([],[])
 |s::l,a::as=>match s.get h a,jw h l as with
  |some (cs,bs),some (aN,yg)=>some (cs++aN,bs++yg)
  |_,_=>none
 |_,_=>none
def Hd (h:Hp):(x:XC)→zZ→Option x.den
 |.p p,c=>so h p c
 |.own t,.osl id none=>match h id with
  |some (.arr true s xs)=>gw s t xs
  |_=>none
 |.mat,.osl id none=>match h id with
  |some (.mat _ xs)=>some xs
  |_=>none
 |.map,.map id=>match h id with
  |some (.imap cX)=>some cX
  |_=>none
 |.link _,.ptr _ 0=>some ()
 |_,_=>none
def oA (h:Hp):(l:List XC)→List zZ→Option (XL l)
 |[],[]=>some ()
 |x::l,c::cs=>match Hd h x c,oA h l cs with
  |some d,some ds=>some (d,ds)
  |_,_=>none
 |_,_=>none
def jD:List XC→List zZ→List Nat
 |.p _::l,_::cs=>jD l cs
 |.link _::l,_::cs=>jD l cs
 |_::l,.osl id _::cs=>id::jD l cs
 |_::l,.map id::cs=>id::jD l cs
 |_::l,_::cs=>jD l cs
 |_,_=>[]
def He:List XC→List zZ→List Nat
 |.p _::l,c::cs=>vG c++He l cs
 |_::l,_::cs=>He l cs
 |_,_=>[]
def wJ:Nat:=500
def gD:(l:List XC)→XL l→Nat→List zZ×List Obj
 |[],_,_=>([],[])
 |.p p::l,d,n=>let r:=gD l d.2 n;(B7 p d.1::r.1,r.2)
 |.own t::l,d,n=>let r:=gD l d.2 (n+1);(.osl n none::r.1,.arr true t d.1::r.2)
 |.mat::l,d,n=>let r:=gD l d.2 (n+1);(.osl n none::r.1,.mat 0 d.1::r.2)
 |.map::l,d,n=>let r:=gD l d.2 (n+1);(.map n::r.1,.imap d.1::r.2)
 |.link j::l,d,n=>let r:=gD l d.2 n;(.ptr j 0::r.1,r.2)
def Hf:List (Bool×List XC)→List zZ→List Obj
 |[],_=>[]
 |(io,l)::ls,cs=>(bif io then .box true (cs.take l.length) else .robox (cs.take l.length))::Hf ls (cs.drop l.length)
def AX.mk (n:Nat)(cs:List zZ):AX→zX
 |.c _=>match cs with|x::_=>.c x|[]=>.undef
 |.agg _=>.agg cs
 |.ptr _ _=>.c (.ptr n 0)
 |.fn f bp=>.c (.fn f ((List.range bp.length).map (n+·)))
 |.chn _=>.c (.ptr n 0)
def AX.boxes (cs:List zZ):AX→List Obj
 |.ptr io l=>Hf [(io,l)] cs
 |.fn _ bp=>Hf bp cs
 |.chn ls=>Hf (Ce ls) cs
 |_=>[]
def yh:List AX→List zZ→Nat→List zX×List Obj
 |[],_,_=>([],[])
 |s::l,cs,n=>
  let aq:=cs.take s.cells.length
  let bs:=s.boxes aq
  let rest:=yh l (cs.drop s.cells.length) (n+bs.length)
  (s.mk n aq::rest.1,bs++rest.2)
def Hg (bs rows:List Obj):Hp:=fun n=>bif Nat.ble wJ n then rows[n-wJ]? else bs[n]?
def jx l (d:XD l):List zX×Hp:=
 let r:=gD (l.flatMap AX.cells) d wJ
 let m:=yh l r.1 0
 (m.1,Hg m.2 r.2)
def Hh:List (Bool×List XC)→List Nat→Option (List Nat)
 |[],[]=>some []
 |(io,_)::ls,id::ids=>match Hh ls ids with
  |some l=>some (bif io then id::l else l)
  |none=>none
 |_,_=>none
def AX.io (b:Nat):AX→zX→Option (List Nat)
 |.c _,_=>some []
 |.agg _,_=>some []
 |.ptr io l,.c (.ptr id 0)=>Hh [(io,l)] [id]
 |.fn _ bp,.c (.fn _ ids)=>Hh bp ids
 |.chn ls,_=>some (kV b ls.length)
 |_,_=>none
def Lt:List AX→(Nat→zX)→Nat→Nat→Option (List Nat)
 |[],_,_,_=>some []
 |s::l,t,n,b=>match s.io b (t n),Lt l t (n+1) (b+s.nb) with
  |some a,some b=>some (a++b)
  |_,_=>none
def Cg (h:Hp):List (List RC)→List Nat→Option (List zZ)
 |[],[]=>some []
 |o::os,n::ns=>match h n,Cg h os ns with
  |some (.box true cells),some rest=>bif Nat.beq cells.length o.length then some (cells++rest) else none
  |_,_=>none
 |_,_=>none
def SM (h:Hp)(ns:Nat)(cs:List zZ):Option (List Nat):=bif Nat.beq ns 0 then some [] else match SK cs with
 |some id=>Hc h ns id
 |none=>none
def uC (st:St)(as:List AX)(rs:RS)(os:List (List RC))(ns:Nat)(v:zX):Option (RL (rs.cells++os.flatten)):=
 match Lt as st.t 0 0 with
 |none=>none
 |some io=>match rs.get v with
  |none=>none
  |some cs=>match SM st.h ns cs with
   |none=>none
   |some nw=>match Cg st.h os (io++nw) with
    |none=>none
    | some bs => bif rJ (io ++ nw) then (match fT st.h ((rs.cells++os.flatten).map RC.isFro) (cs++bs) with
     |some (cs,u)=>bif rJ (wC (rs.cells++os.flatten) cs)&&qa ((rs.cells++os.flatten).map RC.lnk) (io++nw) cs then jv (qL st.h u) (rs.cells++os.flatten) cs else none
     |none=>none) else none
def Hi (as:List AX)(rs:RS)(os:List (List RC))(ns:Nat){X:Type}(unpack:RL (rs.cells++os.flatten)→X)(v:zX)(st:St):Option X:=match uC st as rs os ns v with
 |some d=>some (unpack d)
 |none=>none
def Lu (as:List AX)(rs:RS)(os:List (List RC))(ns:Nat)(rs2:RS)(os2:List (List RC))(ns2:Nat){X Y:Type}(up:RL (rs.cells++os.flatten)→X)(kW:RL (rs2.cells++os2.flatten)→Y)(v:zX)(st:St):Option (X⊕Y):=match uC st as rs os ns v with
 |some d=>some (.inl (up d))
 |none=>match uC st as rs2 os2 ns2 v with
  |some d=>some (.inr (kW d))
  |none=>none
def uD:List (List RC)→List zZ→List (List zZ)
 |[],_=>[]
 |o::os,cs=>cs.take o.length::uD os (cs.drop o.length)
def vK:List (Bool×Nat)→List Nat
 |[]=>[]
 |(true,id)::l=>id::vK l
 |(false,_)::l=>vK l
def Lv:List (Bool×Nat)→List Nat
 |[]=>[]
 |(true,_)::l=>Lv l
 |(false,id)::l=>id::Lv l
def Ch:List Nat→List (List zZ)→vC
 |id::ids,cs::css=>(id,.box true cs)::Ch ids css
 |_,_=>[]
def oB (ids:List Nat):vC:=ids.map fun id=>(id,.gone)
def vVq (nm:Nat)(rs:RS)(os:List (List RC))(ids:List Nat)(d:RL (rs.cells++os.flatten)):zX×vC:=
 let r:=nv nm (rs.cells++os.flatten) d
 let cs:=yf ((rs.cells++os.flatten).map RC.lnk) ids r.1
 (rs.mk (cs.take rs.cells.length),r.2++Ch ids (uD os (cs.drop rs.cells.length)))
def SN (a b:List Nat):Bool:=a.all fun x=> !b.any (Nat.beq x)
def uE (h:Hp):AX→zX→Option (zX×vC)
 |.c (.p p),.c x=>match fT h [p.isKept] [x] with
  |some ([x],u)=>some (.c x,u)
  |_=>none
 |.agg l,.agg xs=>match fT h (l.map PC.isKept) xs with
  |some (xs,u)=>some (.agg xs,u)
  |none=>none
 |_,a=>some (a,[])
def qb (h:Hp):List AX→List zX→Option (List zX×vC)
 |s::l,a::as=>match uE h s a,qb h l as with
  |some (a,u),some (as,us)=>some (a::as,u++us)
  |_,_=>none
 |_,as=>some (as,[])
def yi as (nm n:Nat)(args:List zX)(h:Hp):Option (vC×List Nat×List Nat×XD as):=
 match qb h as args with
 |none=>none
 |some (args,u)=>match jw (qL h u) as args with
  |none=>none
  |some (cs,bs)=>match oA (qL h u) (as.flatMap AX.cells) cs with
   |none=>none
   |some d=>
    let rows:=jD (as.flatMap AX.cells) cs
    let aq:=vK bs++rows
    bif uu h nm n&&Nat.ble n 100&&Nat.ble bs.length wJ&&rJ aq&&SN aq (He (as.flatMap AX.cells) cs)&&SN aq (Lv bs)&&qa ((as.flatMap AX.cells).map XC.lnk) (bs.map (·.2)) cs then
     some (u,vK bs,rows,d)
    else none
def Hj (u:vC)(io rows:List Nat)(rs:RS)(os:List (List RC))(ns nm:Nat)(d:RL (rs.cells++os.flatten)):zX×vC:=
 let r:=vVq nm rs os (io++kV (nm+(rs.cells++os.flatten).length) ns) d
 (r.1,u++(oB rows++r.2))
def qc as (rs:RS)(os:List (List RC))(ns:Nat){X}(S:XD as→Option X)(pack:X→RL (rs.cells++os.flatten))(nm:Nat)(args:List zX)(h:Hp):yR:=
 match yi as nm ((rs.cells++os.flatten).length+ns) args h with
 |none=>.stuck
 |some (u,io,rows,d)=>.call X (S d) fun r=>Hj u io rows rs os ns nm (pack r)
def sA as (rs:RS)(os:List (List RC))(ns:Nat)(rs2:RS)(os2:List (List RC))(ns2:Nat){X Y}(S:XD as→Option (X⊕Y))(pk:X→RL (rs.cells++os.flatten))(g9:Y→RL (rs2.cells++os2.flatten))(nm:Nat)(args:List zX)(h:Hp):yR:=
 match yi as nm (((rs.cells++os.flatten).length+ns)+((rs2.cells++os2.flatten).length+ns2)) args h with
 |none=>.stuck
 |some (u,io,rows,d)=>.call2 X Y (S d) (fun r=>Hj u io rows rs os ns nm (pk r)) (fun r=>Hj u io rows rs2 os2 ns2 nm (g9 r))
def kx (M:zL)(aq:List Nat)(b:Nat):Prop:=∃id∈aq,∃C,M.κ id=some C∧b∈C.fp
structure qd (M:zL) (aq:List Nat) (Ml:zL):Prop where
 H:Ml.H=M.H
 F:Ml.F=fun b=>b<M.H.size∧¬kx M aq b
 G:Ml.G=M.G
def mK (M:zL)(aq:List Nat):Prop:=∀id∈aq,∃o,M.h id=some o∧o.owned=true
theorem kx.own {M aq}(ho:mK M aq){b}(h:kx M aq b):qP M b:=by
 obtain⟨id,an,C,hC,hb⟩:=h
 obtain⟨o,h1,h2⟩:=ho id an
 exact⟨id,o,C,h1,h2,hC,hb⟩
theorem sB {M}(ok:Ok M){aq}(ho:mK M aq){b}(h:M.F b):b<M.H.size∧¬kx M aq b:=⟨ok.Flt b h,fun hh=>(ok.own b (hh.own ho)).1 h⟩
theorem yYq {M M'}(ok:Ok M){aq}(ho:mK M aq){id o}(hn:id∉aq)(hh:M'.h=yF M.h id o)(hκ:M'.κ=M.κ)(hH:M'.H=M.H)(jl:Ok M'){b}(h:M'.G b):b<M.H.size∧¬kx M aq b:=by
 have hf:=jl.GF b h
 refine⟨by have:=jl.Flt b hf;simp_all,fun hd=>?_⟩
 obtain⟨jd,hj,C,hC,hb⟩:=hd
 obtain⟨q,h1,h2⟩:=ho jd hj
 refine(jl.own b ⟨jd,q,C,?_,h2,?_,hb⟩).1 hf
 ·rw[hh,yQ _ _ (by grind)];exact h1
 simp_all
theorem vX3 {M}(ok:Ok M){aq}(ho:mK M aq){c v t xs}(hn:∀id∈vG c,id∉aq)(hv:zY M c v)(h:jb M.h c=some ⟨t,xs⟩):
  qE M.H (fun b=>b<M.H.size∧¬kx M aq b) (.sl t) xs (fun _=>some v):=by
 unfold jb at h
 split at h
 ·rename_i sh s ys
  cases h
  cases sh with
  |true=>exact yY (fun b hb=>sB ok ho (ok.GF b hb)) (by simp) _ _ _ _ (fun _ _=>rfl) hv
  |false=>exact yY (fun b hb=>sB ok ho hb) (by simp) _ _ _ _ (fun _ _=>rfl) hv
 ·rename_i id r
  have nX:id∉aq:=hn id (by simp[vG])
  split at h
  ·rename_i own s ys an
   cases h
   cases own with
   |false=>
    obtain⟨C,hC,hO⟩:=ok.obj _ _ an
    exact yY (fun b hb=>sB ok ho (ok.GF b hb)) (by simp) _ _ _ _ (by simp) (xy hC hO hv)
   |true=>
    obtain⟨M',h1,h2,h3,h4,h5⟩:=yQ4 ok an
    obtain⟨C,hC,hO⟩:=h3.obj id _ (by rw[h2];exact yM _ _ _)
    have:=xy hC hO (hv.ext h4.ext)
    exact yY (fun b hb=>yYq ok ho nX h2 h5 h1 h3 hb) (by grind) _ _ _ _ (by simp) this
  ·rename_i ver ys an
   cases r with
   |some p=>cases h
   |none=>
    cases h
    obtain⟨M',h1,h2,h3,h4,h5⟩:=yEv ok an
    obtain⟨C,hC,hO⟩:=h3.obj id _ (by rw[h2];exact yM _ _ _)
    have:=xy (r:=none) hC hO (hv.ext h4.ext)
    exact yY (fun b hb=>yYq ok ho nX h2 h5 h1 h3 hb) (by grind) _ _ _ _ (by simp) this
  ·cases h
 ·rename_i id i ver
  have nX:id∉aq:=hn id (by simp[vG])
  split at h
  ·rename_i v' ys an
   cases fl:Nat.beq v' ver with
   |false=>rw[fl] at h;cases h
   |true=>
    rw[fl] at h
    cases h
    have e:v'=ver:=by simpa using fl
    subst e
    obtain⟨C,hC,hO⟩:=ok.obj _ _ an
    obtain⟨C',aD,cj,_,aW⟩:=hv
    rw[hC] at aD;cases aD
    obtain⟨rb,rl,sd,pO⟩:=aW hO.1
    by_cases hi:i<ys.length
    ·obtain⟨B,nY,v2,k1,k2,k3,k4,k5,k6⟩:=BE hO hi
     rw[sd] at k3
     cases k3
     rw[show ys.getD i []=ys[i] by simp[List.getD,hi]]
     simp only[qE]
     cases rb with
     |none=>
      obtain⟨rfl,h0⟩:=pO
      grind
     |some R=>
      obtain⟨a,c,rfl,h1,h2,h3⟩:=pO
      refine⟨_,_,c,rfl,rfl,h1,?_⟩
      by_cases h0:ys[i].length=0
      ·simp_all
      ·have ha:a=0:=by omega
       subst ha
       have hR:R∈C.fp:=by
        simp only[qC.fp,List.mem_append,List.mem_filterMap]
        grind
       refine .inr ⟨R,0,rfl,⟨?_,fun hd=>?_⟩,fun j hj=>?_⟩
       ·have:=k6 R rfl 0 (by omega)
        unfold yN at this
        grind
       ·obtain⟨jd,hj,D,hD,hb⟩:=hd
        obtain⟨q,q1,q2⟩:=ho jd hj
        exact ok.disj jd id q _ D C R (by grind) q1 an q2 rfl hD hC hb hR
       ·simp only[qE,Ty.size,Nat.zero_add,Nat.mul_one,Nat.add_zero]
        exact by grind
    ·have:C.rows[i]? =none:=List.getElem?_eq_none (by have:=hO.2.2.2.1;omega)
     simp_all
  ·cases h
 ·cases h
def TrX (M:zL)(aq:List Nat)(c c':zZ):Prop:=∀v Ml,qd M aq Ml→zY M c v→zY Ml c' v
theorem SO {M}(ok:Ok M){aq}(ho:mK M aq){p c d}(hn:∀id∈vG c,id∉aq)(h:so M.h p c=some d):TrX M aq c (B7 p d):=by
 intro v Ml lo hv
 unfold so at h
 split at h
 ·rename_i k j n
  cases e:fO j k with
  |false=>simp_all
  |true=>rw[e] at h;cases h;rw[←rF e];exact hv
 ·cases h;exact hv
 ·show qE Ml.H Ml.F _ _ _
  rw[lo.H,lo.F]
  unfold xX at h
  split at h
  ·cases h
   rw[show v=.slice none 0 0 from hv]
   exact G6
  ·split at h
   ·rename_i s ys hr
    obtain⟨e,hx⟩:=kt h
    subst e
    subst hx
    exact vX3 ok ho hn hv hr
   ·cases h
 ·obtain⟨e,hx⟩:=kt h
  subst e
  subst hx
  show qE Ml.H Ml.G _ _ _
  rw[lo.H,lo.G]
  exact hv
 ·cases h
  rw[show v=.slice none 0 0 from hv]
  exact G6
 ·rename_i f g
  cases e:Nat.beq f g with
  |false=>simp_all
  |true=>
   have:f=g:=by simp_all
   subst this
   obtain⟨cv,rfl,hc⟩:=hv
   refine⟨cv,rfl,?_⟩
   generalize cv.toList=l at hc
   cases l with
   |nil=>trivial
   |cons _ _=>exact hc.elim
 ·exact hv
 ·exact hv
 ·cases h
def qe (M:zL)(aq:List Nat)(κ:Nat→Option qC)(c c':zZ):Prop:=∀v Ml,qd M aq Ml→Ml.κ=κ→zY M c v→zY Ml c' v
structure vK8 (M:zL) (id:Nat) (o:Obj) (C:qC):Prop where
 κ:M.κ id=some C
 rep:∀Ml:zL,Ml.H=M.H→Ml.G=M.G→yV Ml o {C with ver:=0}
 own:o.owned=true
 was:∃q,M.h id=some q∧q.owned=true
theorem vR3 {M Ml}(hH:Ml.H=M.H){cX C}(h:yV M (.imap cX) C):yV Ml (.imap cX) {C with ver:=0}:=by
 obtain⟨B,es,ck,h1,h2,h3,h4,h5⟩:=h
 exact⟨B,es,ck,h1,h2,by simp_all,h4,h5⟩
theorem yOz {j l ids c cs}(h:qa (some j::l) ids (c::cs)=true):∃id,c=.ptr id 0∧ids[j]? =some id∧qa l ids cs=true:=by
 cases c with
 |ptr id off=>
  cases off with
  |zero=>
   have h:((match ids[j]? with|some k=>Nat.beq id k|none=>false)&&qa l ids cs)=true:=h
   rw[Bool.and_eq_true] at h
   have h1:=h.1
   split at h1
   all_goals simp_all
  |succ _=>cases h
 |_=>cases h
theorem Ck {M}(ok:Ok M){aq}(ho:mK M aq){κ}:∀{l cs d n ids},oA M.h l cs=some d→qa (l.map XC.lnk) ids cs=true→(∀id∈He l cs,id∉aq)→
  (jD l cs).length=(gD l d n).2.length∧(∀(i:Nat) id o,(jD l cs)[i]? =some id→(gD l d n).2[i]? =some o→∃C,vK8 M id o C)∧
   ((∀i id C,(jD l cs)[i]? =some id→M.κ id=some C→κ (n+i)=some {C with ver:=0})→(∀j id,ids[j]? =some id→κ j=M.κ id)→zM (qe M aq κ) cs (gD l d n).1)
 |[],[],_,n,_,_,_,_=>⟨rfl,nofun,fun _ _=>trivial⟩
 |x::l,c::cs,d,n,ids,h,hl,hn=>by
  unfold oA at h
  split at h
  ·rename_i y ys h1 h2
   cases h
   cases x with
   |p p=>
    have nA:∀id∈vG c,id∉aq:=fun id an=>hn id (List.mem_append_left _ an)
    obtain⟨k1,k2,k3⟩:=Ck ok ho (κ:=κ) (n:=n) (ids:=ids) h2 hl (fun id an=>hn id (List.mem_append_right _ an))
    exact⟨k1,k2,fun hκ hj=>⟨fun v Ml lo _ hv=>SO ok ho nA h1 v Ml lo hv,k3 hκ hj⟩⟩
   |own t=>
    cases c with
    |osl id r=>
     cases r with
     |some _=>cases h1
     |none=>
      have h1:(match M.h id with|some (.arr true s xs)=>gw s t xs|_=>none)=some y:=h1
      split at h1
      ·rename_i s xs an
       obtain⟨e,hx⟩:=kt h1
       subst e
       subst hx
       obtain⟨C,hC,hO⟩:=ok.obj id _ an
       obtain⟨k1,k2,k3⟩:=Ck ok ho (κ:=κ) (n:=n+1) (ids:=ids) h2 hl hn
       refine⟨by simp only[jD,gD,List.length_cons,k1],fun i jd o hi kK=>?_,fun hκ hj=>⟨fun v Ml lo hk hv=>?_,k3 (fun i jd D hi hD=>?_) hj⟩⟩
       ·cases i with
        |zero=>
         cases hi
         cases kK
         refine⟨C,hC,fun Ml e1 e2=>?_,rfl,_,an,rfl⟩
         obtain⟨q1,q2,q3,q4⟩:=hO
         refine⟨q1,q2,q3,?_⟩
         rw[e1,e2]
         exact q4
        |succ i=>exact k2 i jd o hi kK
       ·obtain⟨D,hD,hS⟩:=hv
        rw[hC] at hD;cases hD
        refine⟨{C with ver:=0},by rw[hk];exact hκ 0 id C rfl hC,?_⟩
        rw[lo.H]
        exact hS
       ·have:=hκ (i+1) jd D hi hD
        rw[←this];congr 1;omega
      ·cases h1
    |_=>cases h1
   |mat=>
    cases c with
    |osl id r=>
     cases r with
     |some _=>cases h1
     |none=>
      have h1:(match M.h id with|some (.mat _ xs)=>some xs|_=>none)=some y:=h1
      split at h1
      ·rename_i ver xs an
       cases h1
       obtain⟨C,hC,hO⟩:=ok.obj id _ an
       obtain⟨k1,k2,k3⟩:=Ck ok ho (κ:=κ) (n:=n+1) (ids:=ids) h2 hl hn
       refine⟨by simp only[jD,gD,List.length_cons,k1],fun i jd o hi kK=>?_,fun hκ hj=>⟨fun v Ml lo hk hv=>?_,k3 (fun i jd D hi hD=>?_) hj⟩⟩
       ·cases i with
        |zero=>
         cases hi
         cases kK
         refine⟨C,hC,fun Ml e1 e2=>?_,rfl,_,an,rfl⟩
         obtain⟨q1,q2⟩:=hO
         refine⟨rfl,?_⟩
         rw[e1]
         exact q2
        |succ i=>exact k2 i jd o hi kK
       ·obtain⟨D,hD,hS⟩:=hv
        rw[hC] at hD;cases hD
        refine⟨{C with ver:=0},by rw[hk];exact hκ 0 id C rfl hC,?_⟩
        show wU Ml.H {C with ver:=0} 0 C.len v
        rw[lo.H]
        exact hS
       ·have:=hκ (i+1) jd D hi hD
        rw[←this];congr 1;omega
      ·cases h1
    |_=>cases h1
   |map=>
    cases c with
    |map id=>
     have h1:(match M.h id with|some (.imap cX)=>some cX|_=>none)=some y:=h1
     split at h1
     ·rename_i cX an
      cases h1
      obtain⟨C,hC,hO⟩:=ok.obj id _ an
      obtain⟨k1,k2,k3⟩:=Ck ok ho (κ:=κ) (n:=n+1) (ids:=ids) h2 hl hn
      refine⟨by simp only[jD,gD,List.length_cons,k1],fun i jd o hi kK=>?_,fun hκ hj=>⟨fun v Ml lo hk hv=>?_,k3 (fun i jd D hi hD=>?_) hj⟩⟩
      ·cases i with
       |zero=>
        cases hi
        cases kK
        exact⟨C,hC,fun Ml e1 e2=>vR3 e1 hO,rfl,_,an,rfl⟩
       |succ i=>exact k2 i jd o hi kK
      ·obtain⟨D,B,hD,hB,e⟩:=hv
       rw[hC] at hD;cases hD
       exact⟨{C with ver:=0},B,by rw[hk];exact hκ 0 id C rfl hC,hB,e⟩
      ·have:=hκ (i+1) jd D hi hD
       rw[←this];congr 1;omega
     ·cases h1
    |_=>cases h1
   |link j=>
    obtain⟨id,rfl,an,dG⟩:=yOz hl
    obtain⟨k1,k2,k3⟩:=Ck ok ho (κ:=κ) (n:=n) (ids:=ids) h2 dG hn
    refine⟨k1,k2,fun hκ hj=>⟨fun v Ml lo hk hv=>?_,k3 hκ hj⟩⟩
    obtain⟨C,B,hC,hB,e⟩:=hv
    exact⟨C,B,by rw[hk,hj j id an];exact hC,hB,e⟩
  ·cases h
 |[],_::_,_,_,_,h,_,_=>by cases h
 |_::_,[],_,_,_,h,_,_=>by cases h
theorem Hk {M Ml aq}(lo:qd M aq Ml):∀{cs aN vs},zM (qe M aq Ml.κ) cs aN→zM (zY M) cs vs→zM (zY Ml) aN vs
 |[],[],[],_,_=>trivial
 |_::_,_::_,_::_,h,k=>⟨h.1 _ _ lo rfl k.1,Hk lo h.2 k.2⟩
def Cl (aq:List Nat)(bs:List (Bool×Nat)):Prop:=∀b∈bs,(b.1=true→b.2∈aq)∧(b.1=false→b.2∉aq)
theorem SP {M}(ok:Ok M){aq}(ho:mK M aq){io id cells}(h:Cf M.h io id=some cells)(hm:(io=true→id∈aq)∧(io=false→id∉aq)):
  ∃C B,M.κ id=some C∧C.blk=some B∧∀Ml bC,qd M aq Ml→zM (qe M aq Ml.κ) cells bC→yV Ml (bif io then .box true bC else .robox bC) C:=by
 unfold Cf at h
 split at h
 ·rename_i cs an
  cases h
  obtain⟨C,hC,B,vals,e,h1,h2,h3,h4,h5⟩:=ok.obj id _ an
  exact⟨C,B,hC,h1,fun Ml bC lo ht=>⟨B,vals,e,h1,h2,by rw[lo.H];exact h3,Hk lo ht h4,by simp⟩⟩
 ·rename_i own cs an
  cases h
  obtain⟨C,hC,B,vals,e,h1,h2,h3,h4,h5⟩:=ok.obj id _ an
  refine⟨C,B,hC,h1,fun Ml bC lo ht=>⟨B,vals,e,h1,h2,by rw[lo.H];exact h3,Hk lo ht h4,?_⟩⟩
  rw[lo.F]
  cases own with
  |false=>exact sB ok ho (ok.GF B (h5 rfl))
  |true=>
   refine⟨by grind,fun hd=>?_⟩
   obtain⟨jd,hj,D,hD,hb⟩:=hd
   obtain⟨q,q1,q2⟩:=ho jd hj
   exact ok.disj jd id q _ D C B (by grind) q1 an q2 rfl hD hC hb (by simp[qC.fp,h1])
 ·rename_i cs an
  cases h
  obtain⟨C,hC,B,vals,e,h1,h2,h3,h4,h5⟩:=ok.obj id _ an
  refine⟨C,B,hC,h1,fun Ml bC lo ht=>⟨B,vals,e,h1,h2,by rw[lo.H];exact h3,Hk lo ht h4,?_⟩⟩
  rw[lo.F]
  exact sB ok ho h5
 ·cases h
def SQ (M:zL)(aq:List Nat)(bs:List (Bool×Nat))(mk:List zZ→List Obj)(cs:List zZ):Prop:=∀(Ml:zL) (aN:List zZ),qd M aq Ml→zM (qe M aq Ml.κ) cs aN→
 zM (fun(b:Bool×Nat) o=>∃C B,M.κ b.2=some C∧C.blk=some B∧yV Ml o C∧o.owned=b.1) bs (mk aN)
theorem Lw {M}(ok:Ok M){aq}(ho:mK M aq):∀{ls ids cs bs},iP M.h ls ids=some (cs,bs)→Cl aq bs→
  cs.length=(ls.flatMap (·.2)).length∧bs=(ls.map (·.1)).zip ids∧ids.length=ls.length∧SQ M aq bs (Hf ls) cs
 |[],[],cs,bs,h,_=>by cases h;exact⟨rfl,rfl,rfl,fun _ _ _ _=>trivial⟩
 |(io,l)::ls,id::ids,cs,bs,h,hf=>by
  unfold iP at h
  split at h
  ·rename_i cells rest yg h1 h2
   obtain⟨hl,h⟩:=wD h
   cases h
   have hl:cells.length=l.length:=Nat.eq_of_beq_eq_true hl
   obtain⟨C,B,hC,hB,hO⟩:=SP ok ho h1 (hf _ (List.mem_cons_self ..))
   obtain⟨k1,k2,k3,k4⟩:=Lw ok ho h2 fun b hb=>hf b (by grind)
   refine⟨by simp_all,by simp_all,by simp[k3],fun Ml aN lo ht=>?_⟩
   have ny:=zM.take l.length ht
   have mG:=zM.drop l.length ht
   rw[←hl,List.drop_left] at mG
   refine⟨⟨C,B,hC,hB,?_,?_⟩,?_⟩
   ·simp_all
   ·cases io<;>rfl
   ·rw[←hl];exact k4 Ml _ lo mG
  ·cases h
theorem Hl {h}:∀{ls ids cs bs},iP h ls ids=some (cs,bs)→bs.length=ls.length
 |[],[],_,_,e=>by cases e;rfl
 |(io,l)::ls,id::ids,cs,bs,e=>by
  unfold iP at e
  split at e
  ·rename_i cells rest yg h1 h2
   obtain⟨_,e⟩:=wD e
   cases e
   simp[Hl h2]
  ·cases e
theorem vIq {h}{s:AX}{a cs bs}(e:s.get h a=some (cs,bs)):bs.length=s.nb:=by
 unfold AX.get at e
 split at e
 ·cases e;rfl
 ·obtain⟨_,e⟩:=wD e
  cases e;rfl
 ·rw[Hl e];rfl
 ·obtain⟨_,e⟩:=wD e
  rw[Hl e];rfl
 ·split at e
  ·rw[Hl e];simp[Ce,AX.nb]
  ·cases e
 ·cases e
theorem SR {h}:∀{n id ids},Hc h n id=some ids→ids.head? =some id∧ids.length=n
 |1,_,_,e=>by cases e;simp
 |n+2,id,ids,e=>by
  unfold Hc at e
  split at e
  ·split at e
   ·split at e
    ·rename_i l hl
     cases e
     exact⟨rfl,by simp[(SR hl).2]⟩
    ·cases e
   ·cases e
  ·cases e
theorem SS {M}(ok:Ok M){aq}(ho:mK M aq){s:AX}{a v cs bs}(hv:zV M a v)(h:s.get M.h a=some (cs,bs))(hf:Cl aq bs):
  cs.length=s.cells.length∧SQ M aq bs (fun aN=>s.boxes aN) cs∧∀Ml aN n,qd M aq Ml→zM (qe M aq Ml.κ) cs aN→(∀i b,bs[i]? =some b→Ml.κ (n+i)=M.κ b.2)→zV Ml (s.mk n aN) v:=by
 unfold AX.get at h
 split at h
 ·cases h
  refine⟨rfl,fun Ml aN lo ht=>trivial,fun Ml aN n lo ht _=>?_⟩
  match aN,ht with
  |[c'],ht=>exact ht.1 v Ml lo rfl hv
 ·rename_i l xs
  obtain⟨hl,h'⟩:=wD h
  cases h'
  have hl:cs.length=l.length:=Nat.eq_of_beq_eq_true hl
  obtain⟨vs,rfl,hx⟩:=hv
  exact⟨by simp[AX.cells,hl],fun Ml aN lo ht=>trivial,fun Ml aN n lo ht _=>⟨vs,rfl,Hk lo ht hx⟩⟩
 ·rename_i io l id
  obtain⟨k1,k2,k3,k4⟩:=Lw ok ho h hf
  refine⟨by rw[k1];simp[AX.cells],k4,fun Ml aN n lo ht hκ=>?_⟩
  obtain⟨C,B,hC,hB,e⟩:=hv
  exact⟨C,B,by have:=hκ 0 (io,id) (by rw[k2];rfl);simp_all,hB,e⟩
 ·rename_i f bp g ids
  obtain⟨hg,h'⟩:=wD h
  have Sk:f=g:=Nat.eq_of_beq_eq_true hg
  subst Sk
  obtain⟨k1,k2,k3,k4⟩:=Lw ok ho h' hf
  refine⟨by rw[k1];rfl,k4,fun Ml aN n lo ht hκ=>?_⟩
  obtain⟨cv,rfl,hc⟩:=hv
  refine⟨cv,rfl,?_⟩
  have l2:=hc.length
  refine zM.of_get (by simp_all) fun i h1 h2=>?_
  have hi:i<ids.length:=by omega
  obtain⟨C,B,q1,q2,q3⟩:=hc.get i hi h2
  have hb:bs[i]? =some ((bp.map (·.1))[i]'(by simp at h1⊢;omega),ids[i]):=by
   grind
  grind
 ·rename_i ls id
  split at h
  ·rename_i ids kR
   obtain⟨k1,k2,k3,k4⟩:=Lw ok ho h hf
   refine⟨by rw[k1];simp[AX.cells,Ce,List.flatMap_map],k4,fun Ml aN n lo ht hκ=>?_⟩
   obtain⟨C,B,hC,hB,e⟩:=hv
   have hb:bs[0]? =some (true,id):=by
    obtain⟨h1,h2⟩:=SR kR
    rw[k2]
    cases ids with
    |nil=>cases h1
    |cons i ids=>
     cases h1
     cases ls with
     |nil=>cases k3
     |cons l ls=>rfl
   exact⟨C,B,by grind,hB,e⟩
  ·cases h
 ·cases h
theorem yNi {M}(ok:Ok M){aq}(ho:mK M aq):∀{l as vs cs bs},zM (zV M) as vs→jw M.h l as=some (cs,bs)→Cl aq bs→
  cs.length=(l.flatMap AX.cells).length∧(∀n,SQ M aq bs (fun aN=>(yh l aN n).2) cs)∧
   ∀Ml aN n,qd M aq Ml→zM (qe M aq Ml.κ) cs aN→(∀i b,bs[i]? =some b→Ml.κ (n+i)=M.κ b.2)→zM (zV Ml) (yh l aN n).1 vs
 |[],[],[],cs,bs,_,h,_=>by cases h;exact⟨rfl,fun _ _ _ _ _=>trivial,fun _ _ _ _ _ _=>trivial⟩
 |s::l,a::as,v::vs,cs,bs,hv,h,hf=>by
  unfold jw at h
  split at h
  ·rename_i lP bs1 cs2 bs2 h1 h2
   cases h
   have hf1:Cl aq bs1:=fun b hb=>hf b (by grind)
   have hf2:Cl aq bs2:=fun b hb=>hf b (by grind)
   obtain⟨k1,k2,k3⟩:=SS ok ho hv.1 h1 hf1
   obtain⟨k4,k5,k6⟩:=yNi ok ho hv.2 h2 hf2
   have cut:∀{κ:Nat→Option qC} {aN:List zZ},zM (qe M aq κ) (lP++cs2) aN→zM (qe M aq κ) lP (aN.take s.cells.length)∧zM (qe M aq κ) cs2 (aN.drop s.cells.length):=by
    intro κ aN ht
    have ny:=zM.take s.cells.length ht
    have mG:=zM.drop s.cells.length ht
    simp_all
   refine⟨by simp_all,fun n Ml aN lo ht=>?_,fun Ml aN n lo ht hκ=>?_⟩
   ·obtain⟨ny,mG⟩:=cut ht
    exact(k2 Ml _ lo ny).append (k5 _ Ml _ lo mG)
   ·obtain⟨ny,mG⟩:=cut ht
    have hlen:=(k2 Ml _ lo ny).length
    refine⟨k3 Ml _ n lo ny fun i b hb=>hκ i b ?_,k6 Ml _ _ lo mG fun i b hb=>?_⟩
    ·grind
    ·have:=hκ (bs1.length+i) b (by grind)
     grind
  ·cases h
def κX (M : zL) (bs : List (Bool × Nat)) (rows : List Nat) : Nat → Option qC := fun n => bif Nat.ble wJ n then (match rows[n-wJ]? with
  |some id=>(M.κ id).map fun C=>{C with ver:=0}
  |none=>none)
 else (match bs[n]? with
  |some b=>M.κ b.2
  |none=>none)
theorem yj:∀{bs} {i id:Nat},bs[i]? =some (true,id)→id∈vK bs
 |(true,a)::bs,0,id,h=>by cases h;exact List.mem_cons_self ..
 |(true,a)::bs,i+1,id,h=>List.mem_cons_of_mem _ (yj (bs:=bs) (i:=i) h)
 |(false,a)::bs,i+1,id,h=>yj (bs:=bs) (i:=i) h
theorem SU:∀{bs} {i j id:Nat},(vK bs).Nodup→bs[i]? =some (true,id)→bs[j]? =some (true,id)→i=j
 |(true,a)::bs,0,0,id,_,_,_=>rfl
 |(true,a)::bs,0,j+1,id,hn,h,k=>by
  cases h
  exact absurd (yj (bs:=bs) (i:=j) k) (List.nodup_cons.1 hn).1
 |(true,a)::bs,i+1,0,id,hn,h,k=>by
  cases k
  exact absurd (yj (bs:=bs) (i:=i) h) (List.nodup_cons.1 hn).1
 |(true,a)::bs,i+1,j+1,id,hn,h,k=>by rw[SU (bs:=bs) (List.nodup_cons.1 hn).2 h k]
 |(false,a)::bs,i+1,j+1,id,hn,h,k=>by rw[SU (bs:=bs) hn h k]
theorem vF1 {M}(ok:Ok M){l as vs cs bs}{d:XD l}(hv:zM (zV M) as vs)(hg:jw M.h l as=some (cs,bs))(hd:oA M.h (l.flatMap AX.cells) cs=some d)
  (dA:(vK bs++jD (l.flatMap AX.cells) cs).Nodup) (pR:∀id∈He (l.flatMap AX.cells) cs,id∉vK bs++jD (l.flatMap AX.cells) cs) (uF:∀id∈Lv bs,id∉vK bs++jD (l.flatMap AX.cells) cs) (hlen:bs.length≤wJ) (sC:qa ((l.flatMap AX.cells).map XC.lnk) (bs.map (·.2)) cs=true) (ho:mK M (vK bs++jD (l.flatMap AX.cells) cs)):
  ∃Ml:zL,qd M (vK bs++jD (l.flatMap AX.cells) cs) Ml∧Ml.h=(jx l d).2∧Ok Ml∧(∀b,qP Ml b→kx M (vK bs++jD (l.flatMap AX.cells) cs) b)∧zM (zV Ml) (jx l d).1 vs∧Ml.κ=κX M bs (jD (l.flatMap AX.cells) cs):=by
 generalize gE:vK bs++jD (l.flatMap AX.cells) cs=aq at*
 have uG:Cl aq bs:=by
  intro b hb
  obtain⟨i,hi,rfl⟩:=List.getElem_of_mem hb
  have Gn:bs[i]? =some bs[i]:=List.getElem?_eq_getElem hi
  refine⟨fun e=>?_,fun e=>?_⟩
  ·rw[←gE]
   have:bs[i]? =some (true,bs[i].2):=by rw[Gn,←e]
   exact List.mem_append_left _ (yj this)
  ·apply uF
   clear hg hd dA pR uF hlen ho gE hv sC
   induction bs generalizing i with
   |nil=>exact absurd hi (Nat.not_lt_zero i)
   |cons c bs ih=>
    obtain⟨io,a⟩:=c
    cases i with
    |zero=>cases io<;>first|exact List.mem_cons_self .. |cases e
    |succ i=>cases io<;>first|exact List.mem_cons_of_mem _ (by grind)|exact ih i (by simpa using hi) (List.getElem_mem _) (List.getElem?_eq_getElem _) e
 let κ:=κX M bs (jD (l.flatMap AX.cells) cs)
 obtain⟨k1,k2,k3⟩:=Ck ok ho (κ:=κ) (n:=wJ) (ids:=bs.map (·.2)) hd sC pR
 have ht : zM (qe M aq κ) cs (gD (l.flatMap AX.cells) d wJ).1 := k3 (fun i id C hi hC=>by
  show κX M bs _ (wJ+i)=_
  unfold κX
  rw[Nat.ble_eq_true_of_le (Nat.le_add_right _ _),show wJ+i-wJ=i by omega,hi]
  simp[hC]) fun j id hj=>by
  rw[List.getElem?_map] at hj
  obtain⟨b,hb,rfl⟩:=Option.map_eq_some_iff.1 hj
  have hi:j<bs.length:=by grind
  show κX M bs _ j=_
  unfold κX
  have:Nat.ble wJ j=false:=by
   cases h:Nat.ble wJ j with
   |false=>rfl
   |true=>have:=Nat.le_of_ble_eq_true h;omega
  rw[this,hb]
  rfl
 obtain⟨a1,a2,a3⟩:=yNi ok ho hv hg uG
 let Ml:zL:={κ:=κ,F:=fun b=>b<M.H.size∧¬kx M aq b,G:=M.G,h:=(jx l d).2,H:=M.H}
 have lo:qd M aq Ml:=⟨rfl,rfl,rfl⟩
 have yk:=a2 0 Ml _ lo ht
 have hκbox:∀i b,bs[i]? =some b→Ml.κ (0+i)=M.κ b.2:=fun i b hb=>by
  have hi:i<bs.length:=by grind
  show κX M bs _ (0+i)=_
  unfold κX
  have:Nat.ble wJ (0+i)=false:=by
   cases h:Nat.ble wJ (0+i) with
   |false=>rfl
   |true=>have:=Nat.le_of_ble_eq_true h;omega
  rw[this,Nat.zero_add,hb]
  rfl
 have kX:∀id o,Ml.h id=some o→∃jd C,Ml.κ id=some C∧yV Ml o C∧(o.owned=true→jd∈aq∧∃D,M.κ jd=some D∧D.fp=C.fp)∧
   ((Nat.ble wJ id=true∧(jD (l.flatMap AX.cells) cs)[id-wJ]? =some jd)∨(Nat.ble wJ id=false∧∃io,bs[id]? =some (io,jd)∧o.owned=io)):=by
  intro id o h
  have h:Hg (yh l (gD (l.flatMap AX.cells) d wJ).1 0).2 (gD (l.flatMap AX.cells) d wJ).2 id=some o:=h
  unfold Hg at h
  cases hb:Nat.ble wJ id with
  |true=>
   rw[hb] at h
   have h:(gD (l.flatMap AX.cells) d wJ).2[id-wJ]? =some o:=h
   have hi:=(List.getElem?_eq_some_iff.1 h).1
   have hj:(jD (l.flatMap AX.cells) cs)[id-wJ]? =some ((jD (l.flatMap AX.cells) cs)[id-wJ]'(by omega)):=by simp
   obtain⟨C,hR⟩:=k2 _ _ _ hj h
   refine⟨_,{C with ver:=0},?_,hR.rep Ml rfl rfl,fun _=>⟨?_,C,hR.κ,rfl⟩,.inl ⟨rfl,hj⟩⟩
   ·show κX M bs _ id=_
    unfold κX
    rw[hb,hj]
    simp[hR.κ]
   ·rw[←gE]
    exact by simp
  |false=>
   rw[hb] at h
   have hi:=(List.getElem?_eq_some_iff.1 h).1
   have SW:id<bs.length:=by rw[yk.length];exact hi
   have hq:=yk.get id SW hi
   rw[List.getElem?_eq_getElem hi] at h
   cases h
   obtain⟨C,B,q1,q2,q3,q4⟩:=hq
   have Gn:bs[id]? =some bs[id]:=List.getElem?_eq_getElem SW
   refine⟨bs[id].2,C,?_,q3,fun e=>⟨(uG _ (List.getElem_mem SW)).1 (by rw[←q4];exact e),C,q1,rfl⟩,by grind⟩
   have:=hκbox id _ Gn
   rw[Nat.zero_add] at this
   rw[this];exact q1
 have aK:∀b,qP Ml b→kx M aq b:=fun b ⟨id,o,C,h1,h2,h3,h4⟩=>by
  obtain⟨jd,C',q1,_,q3,_⟩:=kX id o h1
  rw[h3] at q1
  cases q1
  obtain⟨p1,D,p2,p3⟩:=q3 h2
  exact⟨jd,p1,D,p2,by rw[p3];exact h4⟩
 refine⟨Ml,lo,rfl,⟨fun id o h=>?_,fun id h=>?_,fun i j oi oj Ci Cj b mw h1 h2 h3 h4 h5 h6 h7 h8=>?_,fun b hb=>⟨fun hf=>hf.2 (aK b hb),(ok.own b ((aK b hb).own ho)).2⟩,fun b hb=>sB ok ho (ok.GF b hb),fun b hb=>hb.1⟩,aK,a3 Ml _ 0 lo ht hκbox,rfl⟩
 ·obtain⟨jd,C,q1,q2,_⟩:=kX id o h
  exact⟨C,q1,q2⟩
 ·have h:Hg (yh l (gD (l.flatMap AX.cells) d wJ).1 0).2 (gD (l.flatMap AX.cells) d wJ).2 id=none:=h
  unfold Hg at h
  show κX M bs _ id=none
  unfold κX
  cases hb:Nat.ble wJ id with
  |true=>
   rw[hb] at h
   have h:(gD (l.flatMap AX.cells) d wJ).2[id-wJ]? =none:=h
   rw[List.getElem?_eq_none_iff,←k1] at h
   rw[List.getElem?_eq_none h]
   rfl
  |false=>
   rw[hb] at h
   have h:(yh l (gD (l.flatMap AX.cells) d wJ).1 0).2[id]? =none:=h
   rw[List.getElem?_eq_none_iff,←yk.length] at h
   rw[List.getElem?_eq_none h]
   rfl
 ·obtain⟨ji,Ci',p1,_,p3,p4⟩:=kX i oi h1
  obtain⟨jj,Cj',q1,_,q3,q4⟩:=kX j oj h2
  rw[h5] at p1;cases p1
  rw[h6] at q1;cases q1
  obtain⟨p5,Di,p6,p7⟩:=p3 h3
  obtain⟨q5,Dj,q6,q7⟩:=q3 h4
  obtain⟨oi',r1,r2⟩:=ho ji p5
  obtain⟨oj',r3,r4⟩:=ho jj q5
  refine ok.disj ji jj oi' oj' Di Dj b (fun e=>?_) r1 r3 r2 r4 p6 q6 (by rw[p7];exact h7) (by rw[q7];exact h8)
  subst e
  rw[←gE] at dA
  obtain⟨n1,n2,n3⟩:=List.nodup_append.1 dA
  rcases p4 with⟨p8,p9⟩|⟨p8,io,p9,sD⟩<;>rcases q4 with⟨q8,q9⟩|⟨q8,io',q9,Lx⟩
  ·have:=(List.getElem?_inj (by grind) n2).1 (p9.trans q9.symm)
   have e1:=Nat.le_of_ble_eq_true p8
   have e2:=Nat.le_of_ble_eq_true q8
   exact mw (by omega)
  ·rw[h4] at Lx
   subst Lx
   exact n3 _ (yj q9) _ (List.mem_of_getElem? p9) rfl
  ·rw[h3] at sD
   subst sD
   exact n3 _ (yj p9) _ (List.mem_of_getElem? q9) rfl
  ·rw[h3] at sD
   rw[h4] at Lx
   subst sD
   subst Lx
   exact mw (SU n1 p9 q9)
theorem uH {n}:∀{ids h},qL h (oB ids) n=if n∈ids then some .gone else h n
 |[],_=>by rfl
 |id::ids,h=>by
  show qL (yF h id .gone) (oB ids) n=_
  rw[uH (ids:=ids)]
  by_cases e:n=id
  ·subst e;simp[yM]
  ·rw[yQ _ _ e];simp[e]
def zL.overX (M L:zL)(aq:List Nat):zL:={κ:=M.κ,F:=fun b=>M.F b∨L.G b,G:=L.G,h:=qL M.h (oB aq),H:=L.H}
theorem zL.overX_ok {M Ml L aq}(ok:Ok M)(gZ:Ok L)(lo:qd M aq Ml)(ho:mK M aq)(hand:∀b,qP Ml b→kx M aq b)(g:iO Ml L):
  Ok (M.overX L aq)∧yX M (M.overX L aq)∧(∀b,qP (M.overX L aq) b→qP M b∧¬kx M aq b):=by
 have bW:∀b,b<M.H.size→¬kx M aq b→L.H[b]? =M.H[b]? :=fun b hb hn=>by rw[g.same b (by rw[lo.F];simp_all),lo.H]
 have dN:M.H.size≤L.H.size:=by have:=g.size;rw[lo.H] at this;exact this
 have hG:∀b,L.G b→b<M.H.size→M.G b∨kx M aq b:=fun b hb hs=>by
  rcases g.Gb b hb (by rw[lo.H];exact hs) with h|h
  ·rw[lo.G] at h;simp_all
  simp_all
 have hsF:∀b,M.F b→L.H[b]? =M.H[b]? :=fun b h=>bW b (sB ok ho h).1 (sB ok ho h).2
 have x:yL M (M.overX L aq):=⟨fun id C h=>⟨C,h,C.le_refl⟩,fun b h=>.inl h,fun b h=>g.G b (by rw[lo.G];exact h),fun b h=>hsF b h,fun b h=>hsF b (ok.GF b h),fun b h=>by
  have:=g.bsz b (by rw[lo.H];exact h)
  rw[lo.H] at this
  exact this⟩
 have kX:∀id o,(M.overX L aq).h id=some o→o.owned=true→id∉aq∧M.h id=some o:=fun id o h gY=>by
  have h:qL M.h (oB aq) id=some o:=h
  rw[uH] at h
  by_cases hm:id∈aq
  ·rw[if_pos hm] at h;cases h;cases gY
  simp_all
 have SX:∀id o C,id∉aq→M.h id=some o→o.owned=true→M.κ id=some C→∀b∈C.fp,¬kx M aq b:=fun id o C hm h gY hC b hb ⟨jd,hj,D,hD,Sp⟩=>by
  obtain⟨q,q1,q2⟩:=ho jd hj
  exact ok.disj id jd o q C D b (by grind) h q1 gY q2 hC hD hb Sp
 have aK:∀b,qP (M.overX L aq) b→qP M b∧¬kx M aq b:=fun b ⟨id,o,C,h1,h2,h3,h4⟩=>by
  obtain⟨k1,k2⟩:=kX id o h1 h2
  exact⟨⟨id,o,C,k2,h2,h3,h4⟩,SX id o C k1 k2 h2 h3 b h4⟩
 refine⟨⟨fun id o h=>?_,fun id h=>?_,fun i j oi oj Ci Cj b mw h1 h2 h3 h4 h5 h6 h7 h8=>?_,fun b h=>⟨fun hf=>?_,?_⟩,fun b h=>.inr h,fun b h=>?_⟩,⟨x,dN,fun b hb hn=>bW b hb fun hh=>hn (hh.own ho),by grind,fun b h hs=>?_,fun b h hs=>?_⟩,aK⟩
 ·have h:qL M.h (oB aq) id=some o:=h
  rw[uH] at h
  by_cases hm:id∈aq
  ·rw[if_pos hm] at h
   cases h
   obtain⟨q,q1,q2⟩:=ho id hm
   obtain⟨C,hC,_⟩:=ok.obj id q q1
   exact⟨C,hC,trivial⟩
  ·rw[if_neg hm] at h
   obtain⟨C,hC,hO⟩:=ok.obj id o h
   exact⟨C,hC,hO.ext x fun gY b hb=>bW b (ok.own b ⟨id,o,C,h,gY,hC,hb⟩).2 (by grind)⟩
 ·have h:qL M.h (oB aq) id=none:=h
  rw[uH] at h
  by_cases hm:id∈aq
  ·simp_all
  ·rw[if_neg hm] at h;exact ok.non id h
 ·exact ok.disj i j oi oj Ci Cj b mw (kX i oi h1 h3).2 (by grind) h3 h4 h5 h6 h7 h8
 ·obtain⟨k1,k2⟩:=aK b h
  have:=ok.own b k1
  rcases hf with hf|hf
  ·simp_all
  ·rcases hG b hf this.2 with h|h
   ·exact this.1 (ok.GF b h)
   simp_all
 ·have h1:=(ok.own b (aK b h).1).2
  show b<L.H.size
  omega
 ·show b<L.H.size
  rcases h with h|h
  ·have:=ok.Flt b h;omega
  ·exact gZ.Flt b (gZ.GF b h)
 ·rcases hG b h hs with h|h
  ·simp_all
  ·exact .inr (h.own ho)
 ·rcases h with h|h
  ·simp_all
  ·rcases hG b h hs with h|h
   ·exact .inl (ok.GF b h)
   ·exact .inr (h.own ho)
def qC.bare (C:qC):qC:={C with ver:=C.ver+1,rows:=[]}
def zL.revive (M:zL)(id:Nat)(C:qC)(cs:List zZ):zL:={M with κ:=κset M.κ id C.bare,h:=yF M.h id (.box true cs)}
theorem zL.revive_ok {M}(ok:Ok M){id C B vals e cs}(hC:M.κ id=some C)(hB:C.blk=some B)(hH:M.H[B]? =some (.cells vals e (0,0)))(hc:zM (zY M) cs vals.toList)
  (h1:¬qP M B) (h2:¬M.F B):Ok (M.revive id C cs)∧yL M (M.revive id C cs)∧(∀b,qP (M.revive id C cs) b→qP M b∨b=B):=by
 have hκ:(M.revive id C cs).κ id=some C.bare:=κset_same _ _ _
 have x:yL M (M.revive id C cs):=⟨fun jd D h=>by
  by_cases e':jd=id
  ·subst e'
   rw[hC] at h;cases h
   exact⟨_,hκ,rfl,rfl,rfl,Nat.le_succ _,fun h=>absurd h (by simp[qC.bare])⟩
  ·exact⟨D,by show κset M.κ id _ jd=_;rw[κset_ne _ _ e'];exact h,D.le_refl⟩,fun _ h=>h,fun _ h=>h,fun _ _=>rfl,fun _ _=>rfl,fun _ _=>rfl⟩
 have pE:C.bare.fp=[B]:=by simp[qC.fp,qC.bare,hB]
 have xN:(M.revive id C cs).h id=some (.box true cs):=yM _ _ _
 refine⟨Ok.build ok x (fun jd=>jd=id) (fun jd h=>yQ _ _ h) (fun jd h=>κset_ne _ _ h) (fun _ _ _ _ _ _ _ _ _=>rfl) (fun jd o' D k1 k2 k3 k4 b bz=>(ok.own b ⟨jd,o',D,k2,k3,k4,bz⟩).1) (Nat.le_refl _)
  (fun jd o' e' h=>?_) (fun jd e' h=>?_) (fun jd o' D b e' k1 k2 k3 k4=>?_) ok.GF ok.Flt,x,fun b bz=>?_⟩
 ·subst e'
  rw[xN] at h
  cases h
  exact⟨_,hκ,B,vals,e,hB,rfl,hH,hc.mono fun _ _ h=>h.ext x,by simp⟩
 ·simp_all
 ·subst e'
  rw[hκ] at k3
  cases k3
  rw[pE,List.mem_singleton] at k4
  subst k4
  refine⟨fun j oj Cj hj q1 q2 q3 q4=>h1 ⟨j,oj,Cj,?_,q2,?_,q4⟩,h2,(Array.getElem?_eq_some_iff.1 hH).1⟩
  ·rw[←q1];exact(yQ _ _ hj).symm
  ·rw[←q3];exact(κset_ne _ _ hj).symm
 ·obtain⟨jd,o',D,k1,k2,k3,k4⟩:=bz
  by_cases e':jd=id
  ·simp_all
  ·exact .inl ⟨jd,o',D,by rw[←k1];exact(yQ _ _ e').symm,k2,by rw[←k3];exact(κset_ne _ _ e').symm,k4⟩
structure yHq (M:zL) (id:Nat) (cs:List zZ) (B:Nat):Prop where
 at':∃C,M.κ id=some C∧C.blk=some B
 rep:∃vals e,M.H[B]? =some (.cells vals e (0,0))∧zM (zY M) cs vals.toList
 own:¬qP M B
 F:¬M.F B
def nB (R:Nat→List zZ→Nat→Prop):List Nat→List (List zZ)→List Nat→Prop
 |[],[],[]=>True
 |a::l,b::m,c::n=>R a b c∧nB R l m n
 |_,_,_=>False
theorem nB.mono {R S}:∀{l m n},(∀a b c,c∈n→R a b c→S a b c)→nB R l m n→nB S l m n
 |[],[],[],_,_=>trivial
 |_::_,_::_,_::_,h,k=>⟨h _ _ _ (by simp) k.1,nB.mono (by grind) k.2⟩
theorem vC3:∀{ids css Bs M},Ok M→nB (yHq M) ids css Bs→Bs.Nodup→
  ∃M':zL,M'.H=M.H∧M'.G=M.G∧M'.F=M.F∧M'.h=qL M.h (Ch ids css)∧Ok M'∧yL M M'∧(∀b,qP M' b→qP M b∨b∈Bs)
 |[],[],[],M,ok,_,_=>⟨M,rfl,rfl,rfl,rfl,ok,.refl M,by simp⟩
 |id::ids,cs::css,B::Bs,M,ok,h,hn=>by
  obtain⟨C,hC,hB⟩:=h.1.at'
  obtain⟨vals,e,hH,hc⟩:=h.1.rep
  obtain⟨k1,k2,k3⟩:=zL.revive_ok ok hC hB hH hc h.1.own h.1.F
  obtain⟨n1,n2⟩:=List.nodup_cons.1 hn
  obtain ⟨M', a1, a2, a3, a4, a5, a6, a7⟩ := vC3 (M := M.revive id C cs) k1 (nB.mono (fun a b c hcB hb=>by
   refine⟨?_,?_,fun ho=>?_,hb.F⟩
   ·obtain⟨D,q1,q2⟩:=hb.at'
    obtain⟨D',q3,le⟩:=k2.κ _ _ q1
    exact⟨D',q3,le.blk.trans q2⟩
   ·obtain⟨vals,e,q1,q2⟩:=hb.rep
    exact⟨vals,e,q1,q2.mono fun _ _ h=>h.ext k2⟩
   ·rcases k3 _ ho with h|h
    ·exact hb.own h
    simp_all) h.2) n2
  exact⟨M',a1,a2,a3,a4,a5,yL.trans (M:=M) (M':=M.revive id C cs) (Nat.le_refl _) k2 a6,by grind⟩
theorem yKm:∀{ids css h h'},ids.length=css.length→(∀n,n∉ids→h n=h' n)→qL h (Ch ids css)=qL h' (Ch ids css)
 |[],[],h,h',_,e=>funext fun n=>e n (by simp)
 |id::ids,cs::css,h,h',hl,e=>yKm (ids:=ids) (css:=css) (by simp_all) fun n hn=>by
   by_cases k:n=id
   ·subst k;rw[yM,yM]
   ·rw[yQ _ _ k,yQ _ _ k];simp_all
theorem vWv {h0 s a a' v u M}(ok:Ok M)(hf:wT h0 M.h)(hv:zV M a v)(h:uE h0 s a=some (a',u)):
  ∃L:zL,L.H=M.H∧L.h=qL M.h u∧Ok L∧yX M L∧zV L a' v∧wT h0 L.h:=by
 unfold uE at h
 split at h
 ·rename_i p x
  split at h
  ·rename_i y u1 e
   cases h
   obtain⟨L,h1,h2,h3,h4,h5,h6⟩:=ux (cs:=[x]) (vs:=[v]) ok hf ⟨hv,trivial⟩ e
   exact⟨L,h1,h2,h3,h4,h5.1,h6⟩
  ·cases h
 ·split at h
  ·rename_i ys u1 e
   cases h
   obtain⟨vs,rfl,hx⟩:=hv
   obtain⟨L,h1,h2,h3,h4,h5,h6⟩:=ux ok hf hx e
   exact⟨L,h1,h2,h3,h4,⟨vs,rfl,h5⟩,h6⟩
  ·cases h
 ·cases h
  exact⟨M,rfl,rfl,ok,.refl M,hv,hf⟩
theorem yY5 {h0}:∀{l as eJ vs u M},Ok M→wT h0 M.h→zM (zV M) as vs→qb h0 l as=some (eJ,u)→
  ∃L:zL,L.H=M.H∧L.h=qL M.h u∧Ok L∧yX M L∧zM (zV L) eJ vs∧wT h0 L.h
 |s::l,a::as,eJ,v::vs,u,M,ok,hf,hv,h=>by
  unfold qb at h
  split at h
  ·rename_i a1 u1 Ss pF e1 e2
   cases h
   obtain⟨M1,h1,h2,h3,h4,h5,h6⟩:=vWv ok hf hv.1 e1
   obtain⟨M2,k1,k2,k3,k4,k5,k6⟩:=yY5 h3 h6 (uy.ext h4.ext hv.2) e2
   exact⟨M2,k1.trans h1,by rw[k2,h2,kq],k3,h4.trans k4,⟨h5.ext k4.ext,k5⟩,k6⟩
  ·cases h
 |[],as,eJ,vs,u,M,ok,hf,hv,h=>by
  cases as<;>cases h<;>exact⟨M,rfl,rfl,ok,.refl M,hv,hf⟩
 |s::l,[],eJ,vs,u,M,ok,hf,hv,h=>by cases h;exact⟨M,rfl,rfl,ok,.refl M,hv,hf⟩
def kY (M L:zL)(id jd:Nat):Prop:=∃C D B,M.κ id=some C∧C.blk=some B∧L.κ jd=some D∧D.blk=some B
theorem SY {M L}:∀{ls is js out} {us:List Value} {cs bs},iP M.h ls is=some (cs,bs)→Hh ls js=some out→
  zM (fun id u=>∃C B,M.κ id=some C∧C.blk=some B∧u=.pointer (some ⟨B,0,none⟩)) is us→zM (fun id u=>∃C B,L.κ id=some C∧C.blk=some B∧u=.pointer (some ⟨B,0,none⟩)) js us→zM (kY M L) (vK bs) out
 |[],[],[],out,us,cs,bs,h,k,_,_=>by cases h;cases k;exact trivial
 |(io,l)::ls,i::is,j::js,out,u::us,cs,bs,h,k,p,q=>by
  unfold iP at h
  split at h
  ·rename_i cells rest yg h1 h2
   obtain⟨_,h⟩:=wD h
   cases h
   unfold Hh at k
   split at k
   ·rename_i o ho
    cases k
    have ih:=SY h2 ho p.2 q.2
    cases io with
    |false=>exact ih
    |true=>
     obtain⟨C,B,k1,k2,k3⟩:=p.1
     obtain⟨D,B',k4,k5,k6⟩:=q.1
     rw[k3] at k6
     cases k6
     exact⟨⟨C,D,B,k1,k2,k4,k5⟩,ih⟩
   ·cases k
  ·cases h
theorem yD4 {M L}:∀{bs n},(∀q∈bs,q.1=true)→(∀i q,bs[i]? =some q→kY M L q.2 (n+i))→zM (kY M L) (vK bs) (kV n bs.length)
 |[],n,_,_=>trivial
 |(true,id)::bs,n,h,k=>⟨k 0 _ rfl,yD4 (by grind) fun i q hq=>by
   have:=k (i+1) q hq
   grind⟩
 |(false,id)::bs,n,h,k=>by simp_all
theorem yDr {h}:∀{ls ids cs bs},iP h ls ids=some (cs,bs)→bs.map (·.1)=ls.map (·.1)
 |[],[],_,_,e=>by cases e;rfl
 |(io,l)::ls,id::ids,cs,bs,e=>by
  unfold iP at e
  split at e
  ·rename_i cells rest yg h1 h2
   obtain⟨_,e⟩:=wD e
   cases e
   simp[yDr h2]
  ·cases e
theorem vXj {M L}{s:AX}{a b v cs bs out}(h:s.get M.h a=some (cs,bs)){n}(k:s.io n b=some out)(p:zV M a v)(q:s.looks=true→zV L b v)(hk:s.isChn=true→∀i q,bs[i]? =some q→kY M L q.2 (n+i)):zM (kY M L) (vK bs) out:=by
 unfold AX.get at h
 split at h
 ·cases h;cases k;exact trivial
 ·obtain⟨_,h'⟩:=wD h
  cases h';cases k;exact trivial
 ·unfold AX.io at k
  split at k
  ·rename_i e;cases e
  ·rename_i e;cases e
  ·rename_i io' l' jd e
   cases e
   exact SY (us:=[v]) h k ⟨p,trivial⟩ ⟨q rfl,trivial⟩
  all_goals simp_all
 ·obtain⟨hg,h'⟩:=wD h
  unfold AX.io at k
  split at k
  ·simp_all
  ·simp_all
  ·simp_all
  ·rename_i f' abE g' js e
   cases e
   obtain⟨cv,rfl,hc⟩:=p
   obtain⟨cv',e',kM⟩:=q rfl
   cases e'
   exact SY h' k hc kM
  all_goals simp_all
 ·rename_i ls id
  split at h
  ·cases k
   have h1:=Hl h
   have h2:ls.length=bs.length:=by rw[h1];simp[Ce]
   rw[h2]
   exact yD4 (fun q hq=>by
    have:q.1∈bs.map (·.1):=by grind
    rw[yDr h] at this
    exact(by simpa[Ce] using this:_∧_).2) (hk rfl)
  ·cases h
 ·cases h
theorem yI2 {M L}:∀{l as vs t n cs bs out m},jw M.h l as=some (cs,bs)→Lt l t n m=some out→zM (zV M) as vs→(∀i h s,l[i]? =some s→s.looks=true→zV L (t (n+i)) vs[i])→(l.any AX.isChn=true→∀i q,bs[i]? =some q→kY M L q.2 (m+i))→
  zM (kY M L) (vK bs) out
 |[],[],[],t,n,cs,bs,out,m,h,k,_,_,_=>by cases h;cases k;exact trivial
 |s::l,a::as,v::vs,t,n,cs,bs,out,m,h,k,p,q,hk=>by
  unfold jw at h
  split at h
  ·rename_i c1 b1 c2 b2 h1 h2
   cases h
   unfold Lt at k
   split at k
   ·rename_i o1 o2 k1 k2
    cases k
    have e:∀b1 b2:List (Bool×Nat),vK (b1++b2)=vK b1++vK b2:=fun b1 b2=>by
     induction b1 with
     |nil=>rfl
     |cons x b1 ih=>obtain⟨io,y⟩:=x;cases io<;>simp[vK,ih]
    rw[e]
    have hnb:=vIq h1
    refine(vXj h1 k1 p.1 (q 0 (by simp) s rfl) (by grind)).append (yI2 h2 k2 p.2 (fun i hi s' hs hl=>?_) fun hc i q hq=>?_)
    rotate_left
    ·have:=hk (by simp_all) (b1.length+i) q (by grind)
     grind
    have:=q (i+1) (by simp_all) s' (by simp_all) hl
    grind
   ·cases k
  ·cases h
 |[],_::_,_,_,_,_,_,_,_,h,_,_,_,_=>by cases h
theorem yEf {L}(gZ:Ok L):∀{os ids bs},Cg L.h os ids=some bs→bs.length=os.flatten.length∧ids.length=os.length∧
  ∃us:List Value,zM (zY L) bs us∧∀{M cs},M.H=L.H→zM (zY M) cs us→nB (fun id cs B=>(∃cells,L.h id=some (.box true cells))∧(∃C,L.κ id=some C∧C.blk=some B∧C.rows=[])∧∃vals e,M.H[B]? =some (.cells vals e (0,0))∧zM (zY M) cs vals.toList) ids (uD os cs) (ids.map fun id=>((L.κ id).bind qC.blk).getD 0)
 |[],[],bs,h=>by cases h;exact⟨rfl,rfl,[],trivial,fun _ _=>trivial⟩
 |o::os,n::ns,bs,h=>by
  unfold Cg at h
  split at h
  ·rename_i cells rest h1 h2
   obtain⟨hl,h⟩:=wD h
   cases h
   obtain⟨C,hC,B,vals,e,q1,q2,q3,q4,_⟩:=gZ.obj n _ h1
   obtain⟨k1,k2,us,k3,k4⟩:=yEf gZ h2
   refine⟨by simp_all,by simp[k2],vals.toList++us,q4.append k3,fun{M cs} hH hc=>⟨⟨by grind,⟨C,hC,?_,q2⟩,vals,e,?_,?_⟩,?_⟩⟩
   ·simp_all
   ·simp_all
   ·have h1:=zM.take o.length hc
    have Sq:=q4.length
    simp_all
   ·have h1:=zM.drop o.length hc
    have Sq:=q4.length
    simp_all
  ·cases h
theorem vFm {h0 r c d}(h:ou h0 r c=some d):∀id∈wC [r] [c],∀own cells,h0 id≠some (.box own cells):=by
  unfold ou at h
  split at h
  all_goals (try (intro id an;simp[wC] at an;done))
  all_goals first
    |(done)
    | (intro B2 an own cells hb
       have:=List.mem_singleton.1 an
       simp_all)
    |(cases h)
theorem yFe {L}:∀{l cs d},jv L l cs=some d→∀id∈wC l cs,∀own cells,L id≠some (.box own cells)
 |r::l,c::cs,d,h,id,an=>by
  unfold jv at h
  split at h
  ·rename_i x xs e1 e2
   rw[Lm] at an
   rcases List.mem_append.1 an with an|an
   ·exact vFm e1 id an
   ·exact yFe e2 id an
  ·cases h
theorem yTi:∀a b,vK (a++b)=vK a++vK b
 |[],_=>rfl
 |(true,_)::a,b
 |(false,_)::a,b=>by simp[vK,yTi a b]
theorem Hm {h}:∀{ls is cs bs},iP h ls is=some (cs,bs)→∀id∈vK bs,∃o,h id=some o∧o.owned=true
 |[],[],_,_,e=>by cases e;nofun
 |(io,l)::ls,i::is,cs,bs,e=>by
  unfold iP at e
  split at e
  ·rename_i cells rest yg h1 h2
   obtain⟨_,e⟩:=wD e
   cases e
   intro id an
   cases io with
   |false=>exact Hm h2 id an
   |true=>
    rcases List.mem_cons.1 an with rfl|an
    ·unfold Cf at h1
     split at h1
     ·rename_i c hc
      exact⟨_,hc,rfl⟩
     all_goals simp_all
    ·exact Hm h2 id an
  ·cases e
theorem vFs {h}{s:AX}{a cs bs}(e:s.get h a=some (cs,bs)):∀id∈vK bs,∃o,h id=some o∧o.owned=true:=by
 unfold AX.get at e
 split at e
 ·cases e;nofun
 ·obtain⟨_,e⟩:=wD e
  cases e;nofun
 ·exact Hm e
 ·obtain⟨_,e⟩:=wD e
  exact Hm e
 ·split at e
  ·exact Hm e
  ·cases e
 ·cases e
theorem vC5 {h}:∀{l as cs bs},jw h l as=some (cs,bs)→l.length=as.length∧∀id∈vK bs,∃o,h id=some o∧o.owned=true
 |[],[],_,_,e=>by cases e;exact⟨rfl,nofun⟩
 |s::l,a::as,cs,bs,e=>by
  unfold jw at e
  split at e
  ·rename_i c1 b1 c2 b2 h1 h2
   cases e
   obtain⟨k1,k2⟩:=vC5 h2
   refine⟨by simp[k1],fun id an=>?_⟩
   rw[yTi] at an
   rcases List.mem_append.1 an with an|an
   ·exact vFs h1 id an
   simp_all
  ·cases e
theorem yUl {h}:∀{l cs d},oA h l cs=some d→∀id∈jD l cs,∃o,h id=some o∧o.owned=true
 |[],[],_,_=>nofun
 |x::l,c::cs,d,e=>by
  unfold oA at e
  split at e
  ·rename_i y ys h1 h2
   have ih:=yUl h2
   unfold Hd at h1
   split at h1
   ·exact ih
   ·intro jd an
    rcases List.mem_cons.1 an with rfl|an
    ·split at h1
     ·rename_i s xs hs
      exact⟨_,hs,rfl⟩
     ·cases h1
    ·simp_all
   ·intro jd an
    rcases List.mem_cons.1 an with rfl|an
    ·split at h1
     ·rename_i s xs hs
      exact⟨_,hs,rfl⟩
     ·cases h1
    ·exact ih jd an
   ·intro jd an
    rcases List.mem_cons.1 an with rfl|an
    ·split at h1
     ·rename_i xs hs
      exact⟨_,hs,rfl⟩
     ·cases h1
    simp_all
   ·exact ih
   ·cases h1
  ·cases e
theorem yAk {a b}(h:SN a b=true):∀id∈b,id∉a:=fun id hb ha=>by
 have h:=List.all_eq_true.1 h id ha
 have:b.any (Nat.beq id)=true:=List.any_eq_true.2 ⟨id,hb,by simp⟩
 simp_all
theorem yWf:∀os cs,(uD os cs).length=os.length
 |[],_=>rfl
 |_::os,cs=>by simp[uD,yWf os]
theorem yXx {M L}{P:zL→Nat→Prop}{R}:∀{ids js css Bs},zM (kY M L) ids js→nB R js css Bs→nB (fun id cs B=>∃jd,kY M L id jd∧R jd cs B) ids css Bs
 |[],[],[],[],_,_=>trivial
 |_::_,_::_,_::_,_::_,h,k=>⟨⟨_,h.1,k.1⟩,yXx (P:=P) h.2 k.2⟩
theorem zL.gone_ok {M}(ok:Ok M){nm}(aQ:M.h nm=none) C:
  Ok (M.add nm .gone C)∧yL M (M.add nm .gone C)∧(∀b,qP (M.add nm .gone C) b→qP M b):=by
 have x:yL M (M.add nm .gone C):=⟨fun id D h=>by
  have bm:id≠nm:=fun e=>by rw[e,ok.non nm aQ] at h;cases h
  exact⟨D,by show κset M.κ nm _ id=_;rw[κset_ne _ _ bm];exact h,D.le_refl⟩,fun _ h=>h,fun _ h=>h,fun _ _=>rfl,fun _ _=>rfl,fun _ _=>rfl⟩
 have at':∀o,(M.add nm .gone C).h nm=some o→o=.gone:=fun o h=>by
  have e1:(M.add nm .gone C).h nm=some .gone:=yM _ _ _
  simp_all
 refine⟨Ok.build ok x (fun id=>id=nm) (fun id h=>yQ _ _ h) (fun id h=>κset_ne _ _ h) (fun _ _ _ _ _ _ _ _ _=>rfl) (fun id o' D h1 h2 h3 h4 b bz=>(ok.own b ⟨id,o',D,h2,h3,h4,bz⟩).1) (Nat.le_refl _)
  (fun id o' e h=>?_) (fun id e h=>?_) (fun id o' D b e h1 h2 h3 h4=>?_) ok.GF ok.Flt,x,fun b bz=>?_⟩
 ·subst e
  rw[at' o' h]
  exact⟨_,κset_same _ _ _,trivial⟩
 ·have e1:(M.add id .gone C).h id=some .gone:=yM _ _ _
  simp_all
 ·subst e
  rw[at' o' h1] at h2;cases h2
 ·obtain⟨id,o',D,h1,h2,h3,h4⟩:=bz
  by_cases e:id=nm
  ·subst e
   rw[at' o' h1] at h2;cases h2
  ·exact⟨id,o',D,by rw[←h1];exact(yQ _ _ e).symm,h2,by rw[←h3];exact(κset_ne _ _ e).symm,h4⟩
theorem ySq:∀{n nm Bs M},Ok M→(∀i,i<n→M.h (nm+i)=none)→Bs.length=n→
  ∃M':zL,M'.H=M.H∧M'.G=M.G∧M'.F=M.F∧M'.h=qL M.h (oB (kV nm n))∧Ok M'∧yL M M'∧(∀b,qP M' b→qP M b)∧zM (fun id B=>∃C,M'.κ id=some C∧C.blk=some B) (kV nm n) Bs
 |0,nm,[],M,ok,_,_=>⟨M,rfl,rfl,rfl,rfl,ok,.refl M,by simp,trivial⟩
 |n+1,nm,B::Bs,M,ok,hf,hl=>by
  obtain⟨k1,k2,k3⟩:=zL.gone_ok ok (hf 0 (by omega)) ⟨some B,0,0,0,[]⟩
  obtain ⟨M', a1, a2, a3, a4, a5, a6, a7, a8⟩ := ySq (n := n) (nm := nm + 1) (Bs := Bs) k1 (fun i hi=>by
   have:=hf (i+1) (by omega)
   rw[show nm+1+i=nm+(i+1) by omega,←this]
   exact yQ _ _ (by omega)) (by simp_all)
  refine⟨M',a1,a2,a3,a4,a5,yL.trans (M:=M) (M':=M.add nm .gone ⟨some B,0,0,0,[]⟩) (Nat.le_refl _) k2 a6,by grind,?_,a8⟩
  obtain⟨C,h1,h2⟩:=a6.κ nm _ (κset_same _ _ _)
  exact⟨C,h1,h2.blk⟩
theorem SZ {L M ids js}(hs:zM (kY M L) ids js):∀{l cs ds vs},qa l js cs=true→zM (zY L) cs vs→zM (zY M) ds vs→zM (zY M) (yf l ids ds) vs
 |[],cs,ds,vs,_,_,hd=>by exact hd
 |none::l,[],[],[],_,_,_=>trivial
 |none::l,c::cs,d::ds,v::vs,h,hc,hd=>⟨hd.1,SZ hs (l:=l) h hc.2 hd.2⟩
 |some j::l,c::cs,d::ds,v::vs,h,hc,hd=>by
  obtain⟨id,rfl,an,h'⟩:=yOz h
  refine⟨?_,SZ hs h' hc.2 hd.2⟩
  have hj:=(List.getElem?_eq_some_iff.1 an).1
  have hi:j<ids.length:=by rw[hs.length];exact hj
  have:=hs.get j hi hj
  rw[(List.getElem?_eq_some_iff.1 an).2] at this
  obtain⟨C,D,B,q1,q2,q3,q4⟩:=this
  obtain⟨D',B',p1,p2,p3⟩:=hc.1
  rw[q3] at p1;cases p1
  rw[q4] at p2;cases p2
  rw[List.getElem?_eq_getElem hi]
  exact⟨C,B,q1,q2,p3⟩
 |_,[],_::_,[],_,_,hd=>hd.elim
 |_,_::_,[],[],_,hc,_=>hc.elim
theorem vLx {h ns cs nw}(e:SM h ns cs=some nw):nw.length=ns:=by
 unfold SM at e
 cases h0:Nat.beq ns 0 with
 |true=>simp_all
 |false=>
  rw[h0] at e
  split at e
  ·exact(SR e).2
  ·cases e
def Ly (w:World)(na:Nat)(chn:Bool)(M:zL)(vs:Array Value)(rv:Value)(w':World)(v:zX)(st:St):Prop:=
 ∃M':zL,M'.h=st.h∧M'.H=w'.heap∧Ok M'∧iO M M'∧(chn=true→Lb M M')∧zV M' v rv∧w'.os=w.os∧w'.tape=w.tape∧w'.output=w.output∧(∀t,t<na→zV M' (st.t t) (vs.getD t undef))
theorem vBe {n}:∀{l nm d hh},(∀j,j<l.length→n≠nm+j)→qL hh (nv nm l d).2 n=hh n
 |[],_,_,_,_=>rfl
 |r::l,nm,d,hh,h=>by
  show qL hh ((pT nm r d.1).2++(nv (nm+1) l d.2).2) n=_
  rw[kq,vBe fun j hj=>by have:=h (j+1) (by simp_all);omega,yY8 (by have:=h 0 (by simp);omega)]
theorem vS7 {M}(ok:Ok M){io id cells}(h:Cf M.h io id=some cells):∃C B,M.κ id=some C∧C.blk=some B:=by
 have h':B6 M.h id=some cells:=by
  unfold Cf at h
  unfold B6
  grind
 obtain⟨C,h1,B,_,_,h2,_⟩:=yC1 ok h'
 simp_all
theorem LA {M}(ok:Ok M):∀{ls is cs bs},iP M.h ls is=some (cs,bs)→∀q∈bs,∃C B,M.κ q.2=some C∧C.blk=some B
 |[],[],_,_,e=>by cases e;simp
 |(io,l)::ls,i::is,cs,bs,e=>by
  unfold iP at e
  split at e
  ·rename_i cells rest yg h1 h2
   obtain⟨_,e⟩:=wD e
   cases e
   intro q hq
   rcases List.mem_cons.1 hq with rfl|hq
   ·exact vS7 ok h1
   ·exact LA ok h2 q hq
  ·cases e
theorem ySv {M}(ok:Ok M):∀{l as cs bs},jw M.h l as=some (cs,bs)→∀q∈bs,∃C B,M.κ q.2=some C∧C.blk=some B
 |[],[],_,_,e=>by cases e;simp
 |s::l,a::as,cs,bs,e=>by
  unfold jw at e
  split at e
  ·rename_i c1 b1 c2 b2 h1 h2
   cases e
   intro q hq
   rcases List.mem_append.1 hq with hq|hq
   ·unfold AX.get at h1
    split at h1
    ·simp_all
    ·grind
    ·exact LA ok h1 q hq
    ·obtain⟨_,h1⟩:=wD h1
     exact LA ok h1 q hq
    ·split at h1
     ·exact LA ok h1 q hq
     ·cases h1
    ·cases h1
   ·exact ySv ok h2 q hq
  ·cases e
theorem yA6 {L}(ok:Ok L):∀{os ids bs},Cg L.h os ids=some bs→∀j∈ids,∃cells C B,L.h j=some (.box true cells)∧L.κ j=some C∧C.blk=some B
 |[],[],_,_=>by simp
 |o::os,n::ns,bs,h=>by
  unfold Cg at h
  split at h
  ·rename_i cells rest h1 h2
   intro j hj
   rcases List.mem_cons.1 hj with rfl|hj
   ·obtain⟨C,hC,B,vals,e,q1,_⟩:=ok.obj _ _ h1
    simp_all
   ·exact yA6 ok h2 j hj
  ·cases h
theorem vAf {L}(ok:Ok L):∀{js:List Nat},js.Nodup→(∀j∈js,∃cells C B,L.h j=some (.box true cells)∧L.κ j=some C∧C.blk=some B)→(js.map fun id=>((L.κ id).bind qC.blk).getD 0).Nodup
 |[],_,_=>by simp
 |a::js,hn,bg=>by
  obtain⟨n1,n2⟩:=List.nodup_cons.1 hn
  refine List.nodup_cons.2 ⟨fun uI=>?_,vAf ok n2 (by grind)⟩
  obtain⟨j,hj,yl⟩:=List.mem_map.1 uI
  obtain⟨c1',C,B,q1,q2,q3⟩:=bg a (by simp)
  obtain⟨c2',D,B',q4,q5,q6⟩:=bg j (by grind)
  have yl:((L.κ j).bind qC.blk).getD 0=((L.κ a).bind qC.blk).getD 0:=yl
  rw[q2,q5] at yl
  have yl:(D.blk.getD 0)=(C.blk.getD 0):=yl
  rw[q3,q6] at yl
  subst yl
  exact ok.disj a j _ _ C D B' (by grind) q1 q4 rfl rfl q2 q5 (by simp[qC.fp,q3]) (by simp[qC.fp,q6])
theorem yLz {na as}(jy:sw as na=true){nm n args h u0 io rows d}(he:yi as nm n args h=some (u0,io,rows,d)) M w vs (hh:M.h=h)(hH:M.H=w.heap)(ok:Ok M)(hv:zM (zV M) args vs.toList):
  ∃Ml:zL,Ml.h=(jx as d).2∧Ml.H=w.heap∧Ok Ml∧zM (zV Ml) (jx as d).1 vs.toList∧
   ∀rv w' v0 st,Ly w na (as.any AX.isChn) Ml vs rv w' v0 st→∀rs os ns dx,uC st as rs os ns v0=some dx→(rs.cells++os.flatten).length+ns≤n→
    ∃Mf,se M w (Hj u0 io rows rs os ns nm dx).2 Mf w'∧zV Mf (Hj u0 io rows rs os ns nm dx).1 rv:=by
 unfold yi at he
 split at he
 ·cases he
 rename_i eE u ya
 split at he
 ·cases he
 rename_i cs bs dD
 split at he
 ·cases he
 rename_i d' hd
 dsimp only at he
 obtain⟨hc,he⟩:=mF he
 cases he
 simp only[Bool.and_eq_true] at hc
 obtain⟨⟨⟨⟨⟨⟨oC,cN⟩,cL⟩,dP⟩,hY⟩,Cm⟩,Cn⟩:=hc
 subst hh
 obtain⟨M1,a1,a2,a3,a4,a5,a6⟩:=yY5 ok (wT.refl _) hv ya
 rw[←a2] at hd dD
 obtain⟨abF,um⟩:=vC5 dD
 have aW:=yUl hd
 have dU:mK M1 (vK bs++jD (as.flatMap AX.cells) cs):=fun id an=>(List.mem_append.1 an).elim (um id) (aW id)
 have S0:=BV dP
 obtain⟨Ml,lo,b2,b3,b4,b5,b6⟩:=vF1 a3 a5 dD hd S0 (yAk hY) (yAk Cm) (Nat.le_of_ble_eq_true cL) Cn dU
 generalize gE:vK bs++jD (as.flatMap AX.cells) cs=aq at*
 refine⟨Ml,b2,by rw[lo.H,a1];exact hH,b3,b5,fun rv w' v0 st ⟨L0,c1,c2,c3,c4,ck,c5,c6,c7,c8,c9⟩ rs os ns dx hK hn=>?_⟩
 unfold uC at hK
 split at hK
 ·cases hK
 rename_i S1 kR
 split at hK
 ·cases hK
 rename_i ccs mH
 split at hK
 ·cases hK
 rename_i nw hnw
 split at hK
 ·cases hK
 rename_i bcs sE
 obtain⟨Hn,LB⟩:=mF hK
 clear hK
 split at LB
 case h_2=>cases LB
 rename_i aN u1 yd
 obtain⟨dA,hK⟩:=mF LB
 clear LB
 rw[Bool.and_eq_true] at dA
 obtain⟨dA,Ho⟩:=dA
 have S2:=vLx hnw
 obtain⟨hlen,us,d1,d2⟩:=yI8 mH c5
 rw[←c1] at yd hK sE
 obtain⟨js,uc⟩:∃js,js=S1++nw:=⟨_,rfl⟩
 rw[←uc] at sE Hn Ho
 obtain⟨k1,k2,LC,k3,k4⟩:=yEf c3 sE
 obtain⟨L,e1,e2,e3,e4,e5,e6⟩:=ux c3 (wT.refl _) (d1.append k3) yd
 rw[←e2] at hK
 have g:iO Ml L:=c4.trans e4.grow
 obtain⟨f1,f2,f3⟩:=zL.overX_ok a3 e3 lo dU b4 g
 have bW : zM (kY M1 L0) (vK bs) S1 := yI2 dD kR a5 (fun i hi s hs sC=>by
  have bP:i<vs.size:=by simpa using hi
  have bd:i<na:=by
   have:=List.all_eq_true.1 jy (s,i) (List.mk_mem_zipIdx_iff_getElem?.2 hs)
   simp only[sC,Bool.not_true,Bool.false_or] at this
   exact QJ this
  have:=c9 i bd
  rw[Nat.zero_add]
  have e:vs.getD i undef=vs.toList[i]:=by simp[bP]
  rw[←e];exact this) fun lT i q hq=>by
   obtain⟨C,B,p1,p2⟩:=ySv a3 dD q (List.mem_of_getElem? hq)
   have hi:i<bs.length:=(List.getElem?_eq_some_iff.1 hq).1
   have hκ:Ml.κ i=some C:=by
    rw[b6]
    unfold κX
    have:Nat.ble wJ i=false:=by
     cases h:Nat.ble wJ i with
     |false=>rfl
     |true=>have h1:=Nat.le_of_ble_eq_true h;have h2:=Nat.le_of_ble_eq_true cL;omega
    rw[this,hq]
    exact p1
   obtain⟨C',p3,p4⟩:=ck lT i C hκ
   rw[Nat.zero_add]
   exact⟨C,C',B,p1,p2,p3,p4.trans p2⟩
 have oD:∀i,i<n→(M1.overX L aq).h (nm+i)=none:=fun i hi=>by
  have h1:=Sn oC i hi
  have h2:M1.h (nm+i)=none:=by
   rw[a2]
   rcases a6 (nm+i) with h|⟨own,t,xs,h,_⟩|⟨ver,xs,h,_⟩
   ·rw[a2] at h;rw[h];exact h1
   ·rw[h1] at h;cases h
   ·rw[h1] at h;cases h
  show qL M1.h (oB aq) (nm+i)=none
  rw[uH,if_neg,h2]
  intro uI
  obtain⟨o,ho,_⟩:=dU _ uI
  rw[h2] at ho;cases ho
 have ow:∀i,i<(rs.cells++os.flatten).length→(M1.overX L aq).h (nm+i)=none:=fun i hi=>oD i (by omega)
 have sF:∀b,qP L b→b<M1.H.size→kx M1 aq b:=fun b hb bd=>b4 b (g.own b hb (by rw[lo.H];exact bd))
 have uJ:∀b,qP L b→¬(M1.overX L aq).F b:=fun b hb h=>by
  rcases h with h|h
  ·exact(sB a3 dU h).2 (sF b hb (a3.Flt b h))
  ·exact(e3.own b hb).1 (e3.GF b h)
 have uK:∀b,qP L b→¬qP (M1.overX L aq) b:=fun b hb h=>by
  obtain⟨q1,q2⟩:=f3 b h
  exact q2 (sF b hb (a3.own b q1).2)
 obtain ⟨Mc, g1, g2, g3, g4, g5, g6, g7, g8⟩ := So e3 f1 ⟨rfl, rfl⟩ ow hK (BV dA) (uz hK) (fun id an C hC b hb=>by
  obtain⟨o,ho,gY⟩:=uz hK id an
  have aK:qP L b:=⟨id,o,C,ho,gY,hC,hb⟩
  exact⟨uK b aK,uJ b aK,(e3.own b aK).2⟩)
 obtain ⟨Mg, n1, n2, n3, n4, n5, n6, n7, n8⟩ := ySq (n := ns) (nm := nm + (rs.cells ++ os.flatten).length) (Bs := nw.map fun id => ((L0.κ id).bind qC.blk).getD 0) g5 (fun i hi=>by
  rw[g4,vBe (fun j hj=>by omega),Nat.add_assoc]
  exact oD _ (by omega)) (by simp[S2])
 have oE:∀j∈js,∃cells C B,L0.h j=some (.box true cells)∧L0.κ j=some C∧C.blk=some B:=yA6 c3 sE
 have LD:yL M1 Mg:=(f2.ext.trans f2.size g6).trans (by rw[g1];exact f2.size) n6
 have BZ:zM (kY Mg L0) (vK bs) S1:=bW.mono fun id jd hq=>by
  obtain⟨C,D,B,q1,q2,q3,q4⟩:=hq
  obtain⟨C',p3,le⟩:=LD.κ id C q1
  exact⟨C',D,B,p3,le.blk.trans q2,q3,q4⟩
 have Co:zM (kY Mg L0) (kV (nm+(rs.cells++os.flatten).length) ns) nw:=by
  have hl8:=n8.length
  rw[List.length_map] at hl8
  refine zM.of_get hl8 fun i h1 h2=>?_
  obtain⟨C,q1,q2⟩:=n8.get i h1 (by simpa using h2)
  obtain⟨cells,D,B,p1,p2,p3⟩:=oE nw[i] (by rw[uc];exact List.mem_append_right _ (List.getElem_mem _))
  refine⟨C,D,B,q1,?_,p2,p3⟩
  rw[q2,List.getElem_map,p2]
  show some (D.blk.getD 0)=_
  rw[p3];rfl
 have kZ:zM (kY Mg L0) (vK bs++kV (nm+(rs.cells++os.flatten).length) ns) js:=by
  rw[uc];exact BZ.append Co
 have sG:zM (kY Mg L) (vK bs++kV (nm+(rs.cells++os.flatten).length) ns) js:=kZ.mono fun id jd hq=>by
  obtain⟨C,D,B,q1,q2,q3,q4⟩:=hq
  obtain⟨D',p3,le⟩:=e4.ext.κ jd D q3
  exact⟨C,D',B,q1,q2,p3,le.blk.trans q4⟩
 have ym:=SZ sG Ho e5 ((g8 _ e5).mono fun _ _ h=>h.ext n6)
 obtain⟨G,hG⟩:∃G,G=yf ((rs.cells++os.flatten).map RC.lnk) (vK bs++kV (nm+(rs.cells++os.flatten).length) ns) (nv nm (rs.cells++os.flatten) dx).1:=⟨_,rfl⟩
 rw[←hG] at ym
 have BM:us.length=rs.cells.length:=by rw[←d1.length,hlen]
 have hgr:zM (zY Mg) (G.take rs.cells.length) us:=by
  have:=zM.take rs.cells.length ym
  rwa [show(us++LC).take rs.cells.length=us from by rw[←BM,List.take_left]] at this
 have hgb:zM (zY Mg) (G.drop rs.cells.length) LC:=by
  have:=zM.drop rs.cells.length ym
  rwa [show(us++LC).drop rs.cells.length=LC from by rw[←BM,List.drop_left]] at this
 have hHc:Mg.H=L0.H:=by rw[n1,g1];exact e1
 have Hq:=yXx (P:=fun _ _=>True) kZ (k4 hHc hgb)
 have uL:∀jd B,(∃cells,L0.h jd=some (.box true cells))→(∃C,L0.κ jd=some C∧C.blk=some B)→∃cells C,L.h jd=some (.box true cells)∧L.κ jd=some C∧B∈C.fp:=fun jd B ⟨cells,q1⟩ ⟨C,q2,q3⟩=>by
  obtain⟨C',q4,le⟩:=e4.ext.κ jd C q2
  refine⟨cells,C',?_,q4,?_⟩
  ·rcases e6 jd with h|⟨own,t,xs,h,_⟩|⟨ver,xs,h,_⟩
   ·rw[h,q1]
   ·rw[q1] at h;cases h
   ·rw[q1] at h;cases h
  ·have:C'.blk=some B:=le.blk.trans q3
   simp[qC.fp,this]
 have Hr:∀b,b∈(js.map fun id=>((L0.κ id).bind qC.blk).getD 0)→qP L b:=fun b hb=>by
  obtain⟨j,hj,rfl⟩:=List.mem_map.1 hb
  obtain⟨cells,C,B,q1,q2,q3⟩:=oE j hj
  obtain⟨bC,D,p4,p5,p6⟩:=uL j B ⟨cells,q1⟩ ⟨C,q2,q3⟩
  have e:((L0.κ j).bind qC.blk).getD 0=B:=by rw[q2];show C.blk.getD 0=B;rw[q3];rfl
  rw[e]
  exact⟨j,_,D,p4,rfl,p5,p6⟩
 have yn : nB (yHq Mg) (vK bs ++ kV (nm + (rs.cells ++ os.flatten).length) ns) (uD os (G.drop rs.cells.length)) (js.map fun id => ((L0.κ id).bind qC.blk).getD 0) := nB.mono (fun id css B _ ⟨jd,q1,q2,⟨D0,q3,q3b,_⟩,q4⟩=>by
  obtain⟨C,D1,B',p1,p2,p3,p3b⟩:=q1
  rw[q3] at p3;cases p3
  rw[q3b] at p3b;cases p3b
  obtain⟨cells,D,p4,p5,p6⟩:=uL jd B q2 ⟨_,q3,q3b⟩
  have aK:qP L B:=⟨jd,_,D,p4,rfl,p5,p6⟩
  refine⟨⟨C,p1,p2⟩,q4,fun ho=>?_,?_⟩
  ·rcases g7 B (n7 B ho) with h|⟨kd,LF,D',p7,p8⟩
   ·exact uK B aK h
   ·obtain⟨o,p9,sD⟩:=uz hK kd LF
    refine e3.disj jd kd _ o D D' B (fun e=>?_) p4 p9 rfl sD p5 p7 p6 p8
    exact yFe hK kd LF true cells (by rw[←e];exact p4)
  ·rw[n3,g3];exact uJ B aK) Hq
 have hBs:(js.map fun id=>((L0.κ id).bind qC.blk).getD 0).Nodup:=vAf c3 (BV Hn) oE
 obtain⟨Mf,r1,r2,r3,r4,r5,r6,r7⟩:=vC3 n5 yn hBs
 have Sv:yX M1 Mf:=by
  have aK:∀b,qP Mf b→b<M1.H.size→qP M1 b:=fun b hb bd=>by
   rcases r7 b hb with hb|hb
   ·rcases g7 b (n7 b hb) with h|⟨id,an,C,hC,B8⟩
    ·exact(f3 b h).1
    ·obtain⟨o,ho,gY⟩:=uz hK id an
     exact(sF b ⟨id,o,C,ho,gY,hC,B8⟩ bd).own dU
   ·exact(sF b (Hr b hb) bd).own dU
  have Ln:Mf.H=(M1.overX L aq).H:=r1.trans (n1.trans g1)
  refine⟨LD.trans ?_ r6,?_,fun b hb hn=>?_,aK,fun b hb bd=>?_,fun b hb bd=>?_⟩
  ·rw[n1,g1];exact f2.size
  ·rw[Ln];exact f2.size
  ·rw[Ln];exact f2.frame b hb hn
  ·rw[r2,n2,g2] at hb;exact f2.Gb b hb bd
  ·rw[r3,n3,g3] at hb;exact f2.Fb b hb bd
 have oF:(vK bs++kV (nm+(rs.cells++os.flatten).length) ns).length=(uD os (G.drop rs.cells.length)).length:=by
  rw[yWf,kZ.length,k2]
 refine⟨Mf,⟨c6,c7,c8,?_,?_,r5,a4.trans Sv⟩,?_⟩
 ·rw[r1,n1,g1];show L.H=_;rw[e1,c2]
 ·rw[r4,n4,g4]
  show _=qL M.h (u0++(oB (jD (as.flatMap AX.cells) cs)++((nv nm (rs.cells++os.flatten) dx).2++Ch (vK bs++kV (nm+(rs.cells++os.flatten).length) ns) (uD os ((yf ((rs.cells++os.flatten).map RC.lnk) (vK bs++kV (nm+(rs.cells++os.flatten).length) ns) (nv nm (rs.cells++os.flatten) dx).1).drop rs.cells.length)))))
  rw[←hG,kq,kq,kq,←a2]
  refine yKm oF fun m hm=>?_
  rw[List.mem_append,not_or] at hm
  rw[uH,if_neg hm.2]
  refine xR ?_
  show qL M1.h (oB aq) m=_
  rw[uH,uH,←gE]
  simp[hm.1]
 ·show zV Mf (rs.mk ((yf ((rs.cells++os.flatten).map RC.lnk) (vK bs++kV (nm+(rs.cells++os.flatten).length) ns) (nv nm (rs.cells++os.flatten) dx).1).take rs.cells.length)) rv
  rw[←hG]
  exact d2 Mf _ (hgr.mono fun _ _ h=>h.ext r6)
theorem yAe {P na f}(bX:∀vs w,(callFunc f vs).run P w=.ok (.enter f vs) w)
  {as rs os ns X} {S:XD as→Option X} {pack unpack} (eQ:∀d,pack (unpack d)=d) (jy:sw as na=true)
  (la:∀d x,S d=some x→∀M w vs,M.h=(jx as d).2→M.H=w.heap→Ok M→zM (zV M) (jx as d).1 vs.toList→Calls P f vs w fun
   |.returned rv,w'=>∃(v:zX) (st:St),Hi as rs os ns unpack v st=some x∧Ly w na (as.any AX.isChn) M vs rv w' v st
   |_,_=>False)
  {nm args h v u} (hy:yH (qc as rs os ns S pack nm args h) v u):sf P f args h v u:=by
 intro M w vs hh hH ok hv
 refine .inl ⟨bX vs w,?_⟩
 unfold qc at hy
 split at hy
 ·exact hy.elim
 rename_i u0 io rows d he
 obtain⟨x,hx,rfl,rfl⟩:=hy
 obtain⟨Ml,b1,b2,b3,b4,b5⟩:=yLz jy he M w vs hh hH ok hv
 refine Calls.mono (la d x hx Ml w vs b1 b2 b3 b4) fun e w' hl=>?_
 cases e with
 |panicked _=>omega
 |outgrown=>omega
 |returned rv=>
  obtain⟨v0,st,hK,hl⟩:=hl
  have hK:uC st as rs os ns v0=some (pack x):=by
   unfold Hi at hK
   grind
  grind
theorem vNa {P na f}(bX:∀vs w,(callFunc f vs).run P w=.ok (.enter f vs) w)
  {as rs rs2 os os2 ns ns2 X Y} {S:XD as→Option (X⊕Y)} {pk up g9 kW}
  (eQ:∀d,pk (up d)=d) (mL:∀d,g9 (kW d)=d) (jy:sw as na=true)
  (la:∀d x,S d=some x→∀M w vs,M.h=(jx as d).2→M.H=w.heap→Ok M→zM (zV M) (jx as d).1 vs.toList→Calls P f vs w fun
   |.returned rv,w'=>∃(v:zX) (st:St),Lu as rs os ns rs2 os2 ns2 up kW v st=some x∧Ly w na (as.any AX.isChn) M vs rv w' v st
   |_,_=>False)
  {nm args h v u} (hy:yH (sA as rs os ns rs2 os2 ns2 S pk g9 nm args h) v u):sf P f args h v u:=by
 intro M w vs hh hH ok hv
 refine .inl ⟨bX vs w,?_⟩
 unfold sA at hy
 split at hy
 ·exact hy.elim
 rename_i u0 io rows d he
 obtain⟨Ml,b1,b2,b3,b4,b5⟩:=yLz jy he M w vs hh hH ok hv
 rcases hy with⟨x,hx,rfl,rfl⟩|⟨x,hx,rfl,rfl⟩<;>
 ·refine Calls.mono (la d _ hx Ml w vs b1 b2 b3 b4) fun e w' hl=>?_
  cases e with
  |panicked _=>omega
  |outgrown=>omega
  |returned rv=>
   obtain⟨v0,st,hK,hl⟩:=hl
   unfold Lu at hK
   grind
theorem yQo {E}(hE:fS E)(hS:iN E.sums)(hm:E.P.follows .mixedOrders=true){A k pre na f fn}(hf:E.P.funcs[f]? =some fn)(hL:∀c,fn.body=some c→wG E.P A pre na fn.ntmps c){chn}(lT:(!chn||A.loops.isEmpty)=true)
  {R K} {x:R} {args h} (aR:je E A k pre na fn args h K=some x) {M w vs} (h1:M.h=h) (h2:M.H=w.heap) (h3:Ok M) (h4:zM (zV M) args vs.toList):
  Calls E.P f vs w fun
   |.returned rv,w'=>∃(v:zX) (st:St),K v st=some x∧Ly w na chn M vs rv w' v st
   |_,_=>False:=by
 refine Calls.mono (Sd hE hS hm hf hL aR h1 h2 h3 h4) fun e w' hl=>?_
 cases e with
 |panicked _=>omega
 |outgrown=>omega
 |returned rv=>
  obtain⟨M',v,st,a1,a2,a3,a4,a5,a6,a7,a8,a9,Hs,Ht⟩:=hl
  refine⟨v,st,a1,M',a2,a3,a4,a5,fun hc=>a6 ?_,a7,a8,a9,Hs,Ht⟩
  simp_all
theorem vEh {E}(hE:fS E)(hS:iN E.sums)(hm:E.P.follows .mixedOrders=true){A k pre na f fn}(hf:E.P.funcs[f]? =some fn)(hL:∀c,fn.body=some c→wG E.P A pre na fn.ntmps c)(bX:∀vs w,(callFunc f vs).run E.P w=.ok (.enter f vs) w)
  {as rs os ns X} {S:XD as→Option X} {pack unpack} (eQ:∀d,pack (unpack d)=d) (jy:sw as na=true) (lT:(!as.any AX.isChn||A.loops.isEmpty)=true)
  (aR:∀d,je E A k pre na fn (jx as d).1 (jx as d).2 (Hi as rs os ns unpack)=S d)
  {nm args h v u} (hy:yH (qc as rs os ns S pack nm args h) v u):sf E.P f args h v u:=
 yAe bX eQ jy (fun d x hx M w vs h1 h2 h3 h4=>yQo hE hS hm hf hL lT ((aR d).trans hx) h1 h2 h3 h4) hy
theorem S3 {E}(hE:fS E)(hS:iN E.sums)(hm:E.P.follows .mixedOrders=true){A k pre na f fn}(hf:E.P.funcs[f]? =some fn)(hL:∀c,fn.body=some c→wG E.P A pre na fn.ntmps c)(bX:∀vs w,(callFunc f vs).run E.P w=.ok (.enter f vs) w)
  {as rs rs2 os os2 ns ns2 X Y} {S:XD as→Option (X⊕Y)} {pk up g9 kW}
  (eQ:∀d,pk (up d)=d) (mL:∀d,g9 (kW d)=d) (jy:sw as na=true) (lT:(!as.any AX.isChn||A.loops.isEmpty)=true)
  (aR:∀d,je E A k pre na fn (jx as d).1 (jx as d).2 (Lu as rs os ns rs2 os2 ns2 up kW)=S d)
  {nm args h v u} (hy:yH (sA as rs os ns rs2 os2 ns2 S pk g9 nm args h) v u):sf E.P f args h v u:=
 vNa bX eQ mL jy (fun d x hx M w vs h1 h2 h3 h4=>yQo hE hS hm hf hL lT ((aR d).trans hx) h1 h2 h3 h4) hy
section
variable {h h':Hp}
theorem vRq {x c}(hh:∀id∈vG c,h id=h' id):Hd h x c=Hd h' x c:=by
 unfold Hd
 split
 ·exact yXk hh
 ·rename_i id;rw[hh id (by simp[vG])]
 ·rename_i id;rw[hh id (by simp[vG])]
 ·rename_i id;rw[hh id (by simp[vG])]
 ·rfl
 ·rfl
theorem yGq:∀{l cs},(∀id∈cs.flatMap vG,h id=h' id)→oA h l cs=oA h' l cs
 |[],[],_
 |[],_::_,_
 |_::_,[],_=>rfl
 |p::l,c::cs,hh=>by
  simp  at hh
  unfold oA
  rw[vRq fun id hi=>hh id (.inl hi),yGq (by grind)]
theorem vG2 {ls}:iP h ls []=iP h' ls []:=by
 cases ls<;>rfl
theorem vU2 {s:AX}{a}(hb:wI a=false):s.get h a=s.get h' a:=by
 unfold AX.get
 cases s with
 |c p=>grind
 |agg l=>grind
 |ptr io l=>
  cases a with
  |c x=>cases x<;>first|rfl|(exact absurd hb (by simp[wI]))
  |_=>rfl
 |fn f bp=>
  cases a with
  |c x=>cases x with
   |fn g ids=>
    cases ids with
    |nil=>dsimp only;rw[vG2]
    |cons _ _=>exact absurd hb (by nofun)
   |_=>rfl
  |_=>rfl
 |chn ls=>
  cases a with
  |c x=>cases x<;>first|rfl|(exact absurd hb (by nofun))
  |_=>rfl
theorem vI5 {s:AX}{a cs bs}(hb:wI a=false)(e:s.get h a=some (cs,bs)):∀id∈cs.flatMap vG,id∈yP a:=by
 unfold AX.get at e
 split at e
 ·cases e;intro id an;simp  at an;exact an
 ·obtain⟨_,e⟩:=wD e
  cases e;exact fun id an=>an
 ·exact absurd hb (by nofun)
 ·rename_i f bp g ids
  obtain⟨_,e⟩:=wD e
  cases ids with
  |nil=>cases bp with
   |nil=>cases e;simp
   |cons _ _=>cases e
  |cons _ _=>exact absurd hb (by nofun)
 ·exact absurd hb (by nofun)
 ·cases e
theorem qZw:∀{l as},as.any wI=false→jw h l as=jw h' l as
 |[],[],_
 |[],_::_,_
 |_::_,[],_=>rfl
 |s::l,a::as,hb=>by
  simp only[List.any_cons,Bool.or_eq_false_iff] at hb
  unfold jw
  rw[vU2 (h:=h) (h':=h') hb.1,qZw hb.2]
theorem yMt:∀{l as cs bs},as.any wI=false→jw h l as=some (cs,bs)→∀id∈cs.flatMap vG,id∈as.flatMap yP
 |[],[],cs,bs,_,e=>by cases e;simp
 |s::l,a::as,cs,bs,hb,e=>by
  simp only[List.any_cons,Bool.or_eq_false_iff] at hb
  unfold jw at e
  split at e
  ·rename_i c1 b1 c2 b2 e1 e2
   cases e
   intro id an
   rw[List.flatMap_append,List.mem_append] at an
   rw[List.flatMap_cons,List.mem_append]
   rcases an with an|an
   ·exact .inl (vI5 hb.1 e1 id an)
   ·exact .inr (yMt hb.2 e2 id an)
  ·cases e
theorem vHu {s a}(hh:∀id∈yP a,h id=h' id):uE h s a=uE h' s a:=by
 unfold uE
 split
 ·rename_i p x
  have:=Ca (h:=h) (h':=h') (l:=[p.isKept]) (cs:=[x]) (by rw[B9];exact hh)
  simp_all
 ·rename_i l xs
  have:=Ca (h:=h) (h':=h') (l:=l.map PC.isKept) (cs:=xs) hh
  simp_all
 ·rfl
theorem vFf {s a a' u}(e:uE h s a=some (a',u)):(∀id∈yP a',id∈yP a)∧(wI a=false→wI a'=false):=by
 unfold uE at e
 split at e
 ·rename_i p x
  split at e
  ·rename_i y u1 e1
   cases e
   refine⟨fun id an=>by have:=Cb e1 id (by rw[B9];omega);rwa [B9] at this,fun hb=>?_⟩
   cases hk:p.isKept with
   |false=>rw[hk] at e1;cases e1;exact hb
   |true=>
    rw[hk] at e1
    unfold fT at e1
    split at e1
    ·rename_i c1 u2 lP pF e2 e3
     cases e1
     cases hy:wI (.c y) with
     |false=>rfl
     |true=>rw[(Sy e2).2 hy] at hb;cases hb
    ·cases e1
  ·cases e
 ·split at e
  ·rename_i ys u1 e1
   cases e
   exact⟨Cb e1,fun _=>rfl⟩
  ·cases e
 simp_all
theorem yF9:∀{l as},(∀id∈as.flatMap yP,h id=h' id)→qb h l as=qb h' l as
 |[],as,_=>by rfl
 |_::_,[],_=>rfl
 |s::l,a::as,hh=>by
  simp  at hh
  unfold qb
  rw[vHu fun id hi=>hh id (.inl hi),yF9 (by grind)]
theorem yNk:∀{l as eJ u},qb h l as=some (eJ,u)→(∀id∈eJ.flatMap yP,id∈as.flatMap yP)∧(as.any wI=false→eJ.any wI=false)
 |[],as,eJ,u,e=>by cases as<;>cases e<;>exact by simp
 |s::l,[],eJ,u,e=>by cases e;simp
 |s::l,a::as,eJ,u,e=>by
  unfold qb at e
  split at e
  ·rename_i a1 u1 Ss pF e1 e2
   obtain⟨k1,k2⟩:=vFf e1
   obtain⟨k3,k4⟩:=yNk e2
   grind
  ·cases e
theorem vBu {as nm n args}(h1:args.any wI=false→∀id,(id∈args.flatMap yP∨mu nm id=true)→h id=h' id)(h2:args.any wI=true→h=h'):yi as nm n args h=yi as nm n args h':=by
 cases hb:args.any wI with
 |true=>rw[h2 hb]
 |false=>
  have hh:=h1 hb
  unfold yi
  rw[yF9 (h:=h) (h':=h') (by grind)]
  cases e:qb h' as args with
  |none=>rfl
  |some p=>
   obtain⟨eE,u⟩:=p
   obtain⟨k1,k2⟩:=yNk e
   dsimp only
   rw[qZw (h:=qL h u) (h':=qL h' u) (k2 hb)]
   cases e2:jw (qL h' u) as eE with
   |none=>rfl
   |some q=>
    obtain⟨cs,bs⟩:=q
    dsimp only
    rw[yGq (h:=qL h u) (h':=qL h' u) fun id an=>xR (hh id (.inl (k1 id (yMt (k2 hb) e2 id an))))]
    cases oA (qL h' u) (as.flatMap AX.cells) cs with
    |none=>rfl
    |some d=>
     cases hle:Nat.ble n 100 with
     |false=>simp
     |true=>
      have hle:=Nat.le_of_ble_eq_true hle
      rw [SA (h := h) (h' := h') fun i hi => hh _ (.inr (by
       simp only[mu,Bool.and_eq_true]
       exact⟨by simp,by simp[Nat.blt_eq];omega⟩))]
end
theorem yVe {as rs os ns X}{S:Nat→XD as→Option X}{pack}:G8 fun k nm args h=>qc as rs os ns (S k) pack nm args h:=by
 intro k nm args h h' h1 h2
 show qc as rs os ns (S k) pack nm args h=qc as rs os ns (S k) pack nm args h'
 unfold qc
 rw[vBu h1 h2]
theorem vU3 {as rs rs2 os os2 ns ns2 X Y}{S:Nat→XD as→Option (X⊕Y)}{pk g9}:G8 fun k nm args h=>sA as rs os ns rs2 os2 ns2 (S k) pk g9 nm args h:=by
 intro k nm args h h' h1 h2
 show sA as rs os ns rs2 os2 ns2 (S k) pk g9 nm args h=sA as rs os ns rs2 os2 ns2 (S k) pk g9 nm args h'
 unfold sA
 rw[vBu h1 h2]
structure zD (P:Program) (r:Nat×mI):Prop where
 ok:ySd P r
 loc:G8 r.2
def Cp (P:Program):List (Nat×mI)→Prop
 |[]=>True
 |r::l=>zD P r∧Cp P l
theorem Cp.all {P}:∀{l},Cp P l→∀r∈l,zD P r
 |a::l,h,r,hr=>by
  rcases List.mem_cons.1 hr with rfl|hr
  ·exact h.1
  ·exact Cp.all h.2 r hr
structure wZ (E:Env):Prop where
 ok:fS E
 loc:iN E.sums
 ord:E.P.follows .mixedOrders=true
theorem Hu {P l eqT}(he:Gx P eqT)(hm:P.follows .mixedOrders=true)(h:Cp P l):wZ ⟨P,eqT,jV l⟩:=
 ⟨⟨he,yZk fun r hr=>(h.all r hr).ok⟩,yJr fun r hr=>(h.all r hr).loc,hm⟩
theorem mM {P l}(hm:P.follows .mixedOrders=true)(h:Cp P l):wZ ⟨P,fun _=>false,jV l⟩:=Hu SD hm h
theorem qB {P A pre na nt c L}(h:zT P pre na nt (zQ c 0) L)(hn:(mJ c).length=1:=by kernel_rfl) (hl:tX A (zQ c 0)=some L:=by kernel_rfl):wG P A pre na nt c:=
 loopsOK_of hn (by grind)
theorem zG {P A pre na nt c}(hn:(mJ c).length=0:=by kernel_rfl):wG P A pre na nt c:=SB hn
def yUx (E:Env)(A:zW)(na nt:Nat)(b:Code) ins outs {X Y:Type}(lJ:tS outs→X)(c:Y→pB ins→Option X)(bf:Nat→Y→Y):Prop:=
 ∀k rec d,c (bf k rec) d=KF (1000+gA) ins d fun st=>jc E A k 1000 na nt b st (yOg 1000 ins outs lJ (c rec))
abbrev vKk (X:Type):=Nat→X→(R:Type)→(Ex→St→Option R)→Option R
theorem S4 {E A na nt b ins outs X Y lJ c bf}(hE:wZ E)(hs:yUx E A na nt b ins outs lJ c bf)(f:Nat→Nat→Y)(elim:vKk X)
  (hX:∀o R K,elim (1000+gA) (lJ o) R K=BA (1000+gA) outs o K) (hL:wG E.P A 1000 na nt b) (h0:∀k d,c (f k 0) d=none:=by intros;rfl) (h1:∀k n,f k (n+1)=bf k (f k n):=by intros;rfl):
  zT E.P 1000 na nt b ⟨ins,outs,X,fun k d=>c (f k k) d,elim⟩:=
 vWr hE.ok hE.loc hE.ord hL lJ elim hX (fun k n d=>c (f k n) d) h0 (fun k n d=>by rw[h1];exact hs k (f k n) d)
def S5 (E:Env)(A:zW)(na:Nat)(fn:Func) as (rs:RS){X}(up:RL rs.cells→X)(S:Nat→AD as→Option X):Prop:=
 ∀k d,je E A k 1000 na fn (ot as d).1 (ot as d).2 (lS rs up)=S k d
def yJz (E:Env)(A:zW)(na:Nat)(fn:Func) as (rs:RS)(os:List (List RC))(ns:Nat){X}(up:RL (rs.cells++os.flatten)→X)(S:Nat→XD as→Option X):Prop:=
 ∀k d,je E A k 1000 na fn (jx as d).1 (jx as d).2 (Hi as rs os ns up)=S k d
def vAw (E:Env)(A:zW)(na:Nat)(fn:Func) as (rs:RS)(os:List (List RC))(ns:Nat)(rs2:RS)(os2:List (List RC))(ns2:Nat){X Y}(up:RL (rs.cells++os.flatten)→X)(kW:RL (rs2.cells++os2.flatten)→Y)(S:Nat→XD as→Option (X⊕Y)):Prop:=
 ∀k d,je E A k 1000 na fn (jx as d).1 (jx as d).2 (Lu as rs os ns rs2 os2 ns2 up kW)=S k d
theorem vVl {E A na f fn as rs X S pack}{unpack:RL rs.cells→X}(hE:wZ E)(aR:S5 E A na fn as rs unpack S)(hL:wG E.P A 1000 na fn.ntmps (zS fn))
  (hf:E.P.funcs[f]? =some fn:=by kernel_rfl) (hb:fn.body.isNone=false:=by kernel_rfl) (hn:(fn.name== "runtime.NumGoroutine")=false:=by kernel_rfl) (eQ:∀d,pack (unpack d)=d:=by intro d;rfl):
  zD E.P (f,fun k nm args h=>nx as rs (S k) pack nm args h):=
 ⟨fun k _ _ _ _ _ hy=>vDj hE.ok hE.loc hE.ord hf (body_loops hL) (G9 hf hb hn) eQ (aR k) hy,yJu⟩
theorem vD7 {E A na f fn as rs os ns X}{S:Nat→XD as→Option X}{pack unpack}(hE:wZ E)(aR:yJz E A na fn as rs os ns unpack S)
  (hL:wG E.P A 1000 na fn.ntmps (zS fn)) (hf:E.P.funcs[f]? =some fn:=by kernel_rfl) (hb:fn.body.isNone=false:=by kernel_rfl) (hn:(fn.name== "runtime.NumGoroutine")=false:=by kernel_rfl) (jy:sw as na=true:=by kernel_rfl) (lT:(!as.any AX.isChn||A.loops.isEmpty)=true:=by kernel_rfl) (eQ:∀d,pack (unpack d)=d:=by intro d;rfl):
  zD E.P (f,fun k nm args h=>qc as rs os ns (S k) pack nm args h):=
 ⟨fun k _ _ _ _ _ hy=>vEh hE.ok hE.loc hE.ord hf (body_loops hL) (G9 hf hb hn) eQ jy lT (aR k) hy,yVe⟩
theorem vKe {E A na f fn as rs rs2 os os2 ns ns2 X Y}{S:Nat→XD as→Option (X⊕Y)}{pk up g9 kW}(hE:wZ E)
  (aR:vAw E A na fn as rs os ns rs2 os2 ns2 up kW S)
  (hL:wG E.P A 1000 na fn.ntmps (zS fn)) (hf:E.P.funcs[f]? =some fn:=by kernel_rfl) (hb:fn.body.isNone=false:=by kernel_rfl) (hn:(fn.name== "runtime.NumGoroutine")=false:=by kernel_rfl) (jy:sw as na=true:=by kernel_rfl) (lT:(!as.any AX.isChn||A.loops.isEmpty)=true:=by kernel_rfl) (eQ:∀d,pk (up d)=d:=by intro d;rfl) (mL:∀d,g9 (kW d)=d:=by intro d;rfl):
  zD E.P (f,fun k nm args h=>sA as rs os ns rs2 os2 ns2 (S k) pk g9 nm args h):=
 ⟨fun k _ _ _ _ _ hy=>S3 hE.ok hE.loc hE.ord hf (body_loops hL) (G9 hf hb hn) eQ mL jy lT (aR k) hy,vU3⟩
theorem vT7 {E A na f fn sh t rs X}{S:Nat→List t.den→Option X}{pack unpack}(hE:wZ E)(cI:∀k,je E A k 1000 na fn [.c .nsl] (kU []) (lS rs unpack)=S k [])
  (aR:∀k xs,je E A k 1000 na fn [.c (.nfl sh t xs)] (kU []) (lS rs unpack)=S k xs) (hL:wG E.P A 1000 na fn.ntmps (zS fn)) (hf:E.P.funcs[f]? =some fn:=by kernel_rfl) (hb:fn.body.isNone=false:=by kernel_rfl) (hn:(fn.name== "runtime.NumGoroutine")=false:=by kernel_rfl) (eQ:∀d,pack (unpack d)=d:=by intro d;rfl):
  zD E.P (f,fun k nm args h=>nx [.c (.dat sh t)] rs (fun d=>S k d.1) pack nm args h):=
 ⟨fun k _ _ _ _ _ hy=>vF6 hE.ok hE.loc hE.ord hf (body_loops hL) (G9 hf hb hn) eQ (fun x hx=>(cI k).trans hx) (by grind) hy,yJu⟩
def Cq (k:Nat)(a b c:Int):Option (Int×Int):=
 bif decide (c=0) then some (Int.ofNat ((a.toNat+b.toNat+0)%18446744073709551616),Int.ofNat ((a.toNat+b.toNat+0)/18446744073709551616)) else none
def LG:mI:=fun k nm args h=>match args with
 |[.c (.int .u64 a),.c (.int .u64 b),.c (.int .u64 c)]=>.call (Int×Int) (Cq k a b c) (fun r=>(.tup [(false,[.int .u64 r.1]),(false,[.int .u64 r.2])],[]))
 |_=>.stuck
theorem vI1 {P} a b w:
  (add64Entry #[.int .u64 a,.int .u64 b,.int .u64 0]).run P w=.ok (.tuple #[.int .u64 (Int.ofNat ((a.toNat+b.toNat+0)%18446744073709551616)),.int .u64 (Int.ofNat ((a.toNat+b.toNat+0)/18446744073709551616))]) w:=rfl
theorem vMk {P f fn}(hf:P.funcs[f]? =some fn:=by kernel_rfl) (oG:(fn.name== "runtime.NumGoroutine")=false:=by kernel_rfl) (hb:fn.body.isNone=true:=by kernel_rfl)
  (hn:Extern.findNext fn=none:=by kernel_rfl) (he:Extern.find fn=some add64Entry:=by kernel_rfl):
  zD P (f,LG):=by
 refine⟨fun k nm args h v u hy=>?_,fun _ _ _ _ _ _ _=>rfl⟩
 intro M w vs hh hH ok hv
 refine .inr ?_
 replace hy:yH (LG k nm args h) v u:=hy
 unfold LG at hy
 split at hy
 ·rename_i a b c
  obtain⟨x,hx,rfl,rfl⟩:=hy
  match hl:vs.toList,hv with
  |[v1,v2,v3],hv=>
   obtain⟨h1,h2,h3,_⟩:=hv
   cases h1;cases h2;cases h3
   obtain rfl:vs=#[.int .u64 a,.int .u64 b,.int .u64 c]:=by grind
   obtain⟨hc,hx⟩:=wD hx
   cases hx
   have hc:c=0:=by simp_all
   subst hc
   refine⟨.tuple #[.int .u64 (Int.ofNat ((a.toNat+b.toNat+0)%18446744073709551616)),.int .u64 (Int.ofNat ((a.toNat+b.toNat+0)/18446744073709551616))],w,M,?_,⟨rfl,rfl,rfl,hH,rfl,ok,.refl M⟩,?_⟩
   ·rw[run_callFunc_extern hf oG hb hn he,vI1 a b w]
    rfl
   ·exact⟨#[.int .u64 (Int.ofNat ((a.toNat+b.toNat+0)%18446744073709551616)),.int .u64 (Int.ofNat ((a.toNat+b.toNat+0)/18446744073709551616))],rfl,rfl,rfl,trivial⟩
 ·exact hy.elim
end Go.Ab
