/- part 2 -/
import Derived.Test.YtbejmoaalcabdaaGreatGiAbB
import Derived.ProofKit
import Derived.Below
import Derived.Carry
import Derived.Laws.Externs
set_option linter.unusedVariables false
set_option linter.unusedSimpArgs false
set_option linter.unusedSectionVars false
namespace Go.Ab
def Ex.toExit:Ex→Exit
 |.normal=>.normal
 |.ret=>.ret
 |.exit id=>.exit id
theorem yAg {P Q c}(I:Nat→Act→World→Prop)(round:∀n a w,I n a w→c.wp P (Exit.then (fun a' w'=>∃m,m<n∧I m a' w') Q) a w){n a w}(h₀:I n a w):(Code.loop c).wp P Q a w:=by
 intro b k cs
 have key:∀n a w,I n a w→∃e a' w',Q e a' w'∧Arrives P (lone (b.at a (.code c::.inLoop c::k)) cs w) b k cs e a' w':=by
  intro n
  induction n using Nat.strongRecOn with
  |_ n ih=>
   intro a w hI
   obtain⟨e,a₁,w₁,hq,jn⟩:=round n a w hI b (.inLoop c::k) cs
   cases e with
   |normal=>
    obtain⟨m,hm,hI₁⟩:=hq
    obtain⟨e₂,a₂,w₂,hq₂,harr₂⟩:=ih m hm a₁ w₁ hI₁
    exact⟨e₂,a₂,w₂,hq₂,.of_steps (Steps.trans jn (.one step_inLoop)) harr₂⟩
   |exit id=>exact⟨_,a₁,w₁,hq,.pass (x:=.inLoop c) rfl (by simp) jn⟩
   |goto l=>exact⟨_,a₁,w₁,hq,.pass (x:=.inLoop c) rfl (by simp) jn⟩
   |ret=>exact⟨_,a₁,w₁,hq,.pass (x:=.inLoop c) rfl (fun _ _=>.inl (by simp)) jn⟩
   |panic ch=>exact⟨_,a₁,w₁,hq,.pass (x:=.inLoop c) rfl (fun _ _=>.inl (by simp)) jn⟩
   |outgrown=>exact⟨_,a₁,w₁,hq,.pass (x:=.inLoop c) rfl (by simp) jn⟩
 obtain⟨e,a',w',hq,jn⟩:=key n a w h₀
 exact⟨e,a',w',hq,.of_steps (.one step_loop) jn⟩
def K6 (tmps:Array Value):ResultVar→Sem Value
 |.tmp t=>pure (tmps.getD t undef)
 |.cell c t=>do loadVar t (←asAddr (tmps.getD c undef))
def xP (base:Nat):(l:List (Ex×zF))→tN l→Ex×St
 |[],d=>(.normal,⟨fun _=>.undef,fun _=>none⟩)
 |[p],d=>(p.1,zN base p.2 d)
 |p::q::l,d=>match d with
  |.inl d=>(p.1,zN base p.2 d)
  |.inr d=>xP base (q::l) d
theorem vBk {R base K}{out:R}:∀{l d},Bp base l d K=some out→K (xP base l d).1 (xP base l d).2=some out
 |[p],_,h
 |p::q::l,.inl d,h=>h
 |p::q::l,.inr d,h=>vBk (l:=q::l) h
def GW (base:Nat):(l:List zF)→pw l→St
 |[],_=>⟨fun _=>.undef,fun _=>none⟩
 |[S],d=>zN base S d
 |S::T::l,d=>match d with
  |.inl d=>zN base S d
  |.inr d=>GW base (T::l) d
theorem yG0 {R base K}{out:R}:∀{l d},Ks base l d K=some out→K (GW base l d)=some out
 |[S],_,h
 |S::T::l,.inl d,h=>h
 |S::T::l,.inr d,h=>yG0 (l:=T::l) h
def zU (P:Program)(pre na nt:Nat)(b:Code)(L:zV):Prop:=∀k d x,L.sum k d=some x→∀(a0:Nat→Value) (M0:zL) (w0:World) (a:Act) (w:World) (Q:Exit→Act→World→Prop),
 vO false na nt a0 M0 w0 (GW (pre+gw) L.ins d) a w→
 (∀(o:tN L.outs) a' w',(∀R K,L.elim (pre+gw) x R K=Bp (pre+gw) L.outs o K)→vO false na nt a0 M0 w0 (xP (pre+gw) L.outs o).2 a' w'→Q (xP (pre+gw) L.outs o).1.toExit a' w')→
 (Code.loop b).wp P Q a w
def wE (P:Program)(A:zZ)(pre na nt:Nat):Code→Prop
 |.seq a b=>wE P A pre na nt a∧wE P A pre na nt b
 |.cond _ a b=>wE P A pre na nt a∧wE P A pre na nt b
 |.block _ b=>wE P A pre na nt b
 |.loop b=>(∀L,tS A b=some L→zU P pre na nt b L)∧(tS A b=none→wE P A pre na nt b)
 |_=>True
theorem yAp {A c b st}(h:st.ev c=.c (.bool b)):Kt A c b st=st:=by
 unfold Kt
 split
 ·rw[RA h]
 ·rfl
section
variable {nl:Bool} {E:Env} {A:zZ} {k pre na nt:Nat} {a0:Nat→Value} {R:Type} {M0:zL} {w0:World} {out:R}
theorem RW {a w st}(r:vO false na nt a0 M0 w0 st a w):∀{l x},Bo pre l st=some x→vO false na nt a0 M0 w0 (GW (pre+gw) l x) a w
 |[S],x,h=>K5 r h
 |S::T::l,x,h=>by
  unfold Bo at h
  split at h
  ·rename_i d hd
   cases h
   exact K5 r hd
  ·split at h
   ·rename_i d hd
    cases h
    exact RW r (l:=T::l) hd
   ·cases h
theorem yI3 (hE:fJ E)(hS:iJ E.sums)(hm:E.P.follows .mixedOrders=true)(BP:nl=true→A.loops=[]):∀c,wE E.P A pre na nt c→∀st K a w Q,iZ E A k pre na nt c st K=some out→vO nl na nt a0 M0 w0 st a w→
  (∀e bE a' w',vO nl na nt a0 M0 w0 bE a' w'→K e bE=some out→Q e.toExit a' w')→c.wp E.P Q a w:=by
 intro c
 induction c with
 |skip=>exact fun _ st K a w Q h r hK=>wp_skip (hK .normal st a w r h)
 |region id ops draw=>
  intro _ st K a w Q h r hK
  cases draw with
  |true=>
   cases he:Gd ops with
   |false=>simp only[iZ,he] at h;cases h
   |true=>
    simp only[iZ,he] at h
    exact RP hE hS hm he h r fun bE a' w' r' h'=>hK .normal bE a' w' r' h'
  |false=>
   have:=yHc hE (Q:=Q) _ _ _ _ a w (by grind) h r fun bE a' w' r' h'=>hK .normal bE a' w' r' h'
   refine wp_region ?_
   have e:(ops.toList.zipIdx.map fun p=>(p.2,p.1)).map (·.1)=List.range ops.size:=by
    rw[List.map_map]
    have e2:((fun x:Nat×Oper=>x.1)∘fun p:Oper×Nat=>(p.2,p.1))=Prod.snd:=rfl
    rw[e2,List.zipIdx_map_snd,←List.range_eq_range']
    simp
   simp_all
 |seq x y RX RY=>
  intro hL st K a w Q h r hK
  simp only[iZ] at h
  refine wp_seq (RX hL.1 st _ a w _ h r fun e bE a' w' r' h'=>?_)
  cases e with
  |normal=>exact RY hL.2 bE K a' w' Q h' r' hK
  |ret=>exact hK .ret bE a' w' r' h'
  |exit id=>exact hK (.exit id) bE a' w' r' h'
 |cond c x y RX RY=>
  intro hL st K a w Q h r hK
  simp only[iZ] at h
  split at h
  ·rename_i t ht
   obtain⟨M,_,_,_,_,hv⟩:=r.ex
   have hc:=yVx hv c
   rw[ht] at hc
   refine wp_cond (t:=t) hc ?_
   cases t with
   |true=>
    rw[yAp ht,cond_true] at h
    exact RX hL.1 st K a w Q h r hK
   |false=>
    rw[yAp ht,cond_false] at h
    exact RY hL.2 st K a w Q h r hK
  ·cases h
 |block id b ih=>
  intro hL st K a w Q h r hK
  simp only[iZ] at h
  refine wp_block (ih hL st _ a w _ h r fun e bE a' w' r' h'=>?_)
  cases e with
  |normal=>exact hK .normal bE a' w' r' h'
  |ret=>exact hK .ret bE a' w' r' h'
  |exit i=>
   show if i=id then Q .normal a' w' else Q (.exit i) a' w'
   dsimp only at h'
   cases e:Nat.beq i id with
   |true=>
    rw[e] at h'
    rw[if_pos (by simpa using e)]
    exact hK .normal bE a' w' r' h'
   |false=>
    rw[e] at h'
    rw[if_neg (fun e'=>by simp_all)]
    exact hK (.exit i) bE a' w' r' h'
 |loop b ih=>
  intro hL st K a w Q h r hK
  simp only[iZ] at h
  split at h
  ·rename_i hN
   refine yAg (fun n a w=>∃st,vO nl na nt a0 M0 w0 st a w∧Qj (iZ E A k pre na nt b) n st K=some out) (fun n a w ⟨st,r,hi⟩=>?_) ⟨st,r,h⟩
   cases n with
   |zero=>cases hi
   |succ n=>
    refine ih (hL.2 hN) st _ a w _ hi r fun e bE a' w' r' h'=>?_
    cases e with
    |normal=>exact⟨n,by simp,bE,r',h'⟩
    |ret=>exact hK .ret bE a' w' r' h'
    |exit id=>exact hK (.exit id) bE a' w' r' h'
  ·rename_i L hN
   split at h
   ·cases h
   ·rename_i d hd
    obtain⟨x,hx,h⟩:=Option.bind_eq_some_iff.1 h
    cases nl with
    |true=>
     unfold tS at hN
     grind
    |false=>exact hL.1 L hN k d x hx a0 M0 w0 a w Q (RW r hd) fun o a' w' ho r'=>hK _ _ a' w' r' (vBk (by simp_all))
 |exit id=>exact fun _ st K a w Q h r hK=>wp_exit (hK (.exit id) st a w r h)
 |ret=>exact fun _ st K a w Q h r hK=>wp_ret (hK .ret st a w r h)
 |_=>nofun
theorem yR0 {a b}(h:Qc a b=true):a=b:=by
 cases a<;>cases b<;>first|rfl|(cases h)|skip
 rw[Nat.eq_of_beq_eq_true h]
theorem yHu {a w st e}(r:vO false na nt a0 M0 w0 st a w):∀{l x},Gf pre l e st=some x→(xP (pre+gw) l x).1=e∧vO false na nt a0 M0 w0 (xP (pre+gw) l x).2 a w
 |[p],x,h=>by
  obtain⟨he,h⟩:=mw h
  exact⟨yR0 he,K5 r h⟩
 |p::q::l,x,h=>by
  unfold Gf at h
  split at h
  ·rename_i d hd
   cases h
   obtain⟨he,hd⟩:=mw hd
   exact⟨yR0 he,K5 r hd⟩
  ·split at h
   ·rename_i d hd
    cases h
    exact yHu r (l:=q::l) hd
   ·cases h
theorem vYe (hE:fJ E)(hS:iJ E.sums)(hm:E.P.follows .mixedOrders=true){b ins outs}(hL:wE E.P A pre na nt b){X} lB elim (hX:∀o R K,elim (pre+gw) (lB o) R K=Bp (pre+gw) outs o K)
  (rec:Nat→Nat→pw ins→Option X) (h0:∀k d,rec k 0 d=none)
  (aM:∀k n d,rec k (n+1) d=Ks (pre+gw) ins d fun st=>iZ E A k pre na nt b st (qZq pre ins outs lB (rec k n))):zU E.P pre na nt b ⟨ins,outs,X,fun k d=>rec k k d,elim⟩:=by
 intro k d x hx a0 M0 w0 a w Q r hQ
 refine yAg (fun n a w=>∃d,vO false na nt a0 M0 w0 (GW (pre+gw) ins d) a w∧rec k n d=some x) (fun n a w ⟨d,r,hi⟩=>?_) ⟨d,r,hx⟩
 cases n with
 |zero=>simp_all
 |succ n=>
  rw[aM k n d] at hi
  refine yI3 hE hS hm (by simp) b hL _ _ a w _ (yG0 hi) r fun e bE a' w' r' h'=>?_
  have out:∀e,(match Gf pre outs e bE with|some o=>some (lB o)|none=>none)=some x→Q e.toExit a' w':=fun e h'=>by
   split at h'
   ·rename_i o ho
    obtain⟨h1,h2⟩:=yHu (pre:=pre) r' ho
    grind
   ·cases h'
  cases e with
  |normal=>
   have h':(match Bo pre ins bE with|some d=>rec k n d|none=>none)=some x:=h'
   split at h'
   ·rename_i d' hd
    exact⟨n,by simp,d',RW r' hd,h'⟩
   ·cases h'
  |ret=>exact out .ret h'
  |exit id=>exact out (.exit id) h'
theorem RZ fn tmps:results fn tmps=(do let vs←fn.results.mapM (K6 tmps);pure (if h:vs.size=1 then vs[0] else .tuple vs)):=rfl
theorem vSw (hE:fJ E)(hS:iJ E.sums)(hm:E.P.follows .mixedOrders=true){st}{a:Act}{w x v M}(hM:M.h=st.h)(hH:M.H=w.heap)(ok:Ok M)(ht:∀t,zW M (st.t t) (a.tmps.getD t undef))(h:tT E st x=some v):
  ∃rv,(K6 a.tmps x).run E.P w=.ok rv w∧zW M v rv:=by
 unfold tT at h
 split at h
 ·rename_i t
  cases h
  exact⟨_,rfl,ht t⟩
 ·rename_i c t
  split at h
  ·rename_i id off hc
   split at h
   ·split at h
    ·rename_i vs eC
     have hv:=ht c
     rw[hc] at hv
     obtain⟨C,B,hC,hB,e⟩:=hv
     obtain⟨C',aD,hO⟩:=ok.obj id _ (by rw[hM];omega)
     rw[hC] at aD;cases aD
     obtain⟨B',je,aF⟩:=yX0 hO
     rw[hB] at je;cases je
     obtain⟨rv2,mv,dh⟩:∃rv,(loadVar t ⟨B,0+off,none⟩).run E.P w=.ok rv w∧zW M v rv:=yHk ok hH aF eC h
     refine⟨rv2,?_,dh⟩
     simp  at mv
     unfold K6
     dsimp only
     rw[e]
     simp[asAddr,mv]
    ·cases h
   ·cases h
  ·cases h
theorem vKw {M v p rv}(h:Bq v=some p)(hv:zW M v rv):tV M p rv:=by
 unfold Bq at h
 split at h
 ·cases h;exact hv
 ·cases h;exact hv
 ·cases h
theorem qZi {M}:∀{vs xs rs},zM (fun a b=>Bq a=some b) vs xs→zM (zW M) vs rs→zM (tV M) xs rs
 |[],[],[],_,_=>trivial
 |_::_,_::_,_::_,h,k=>⟨vKw h.1 k.1,qZi h.2 k.2⟩
theorem yCt {st}:∀(l:List ResultVar) xs,l.mapM (fun r=>(tT E st r).bind Bq)=some xs→∃vs,l.mapM (tT E st)=some vs∧vs.mapM Bq=some xs
 |[],xs,h=>by simp_all
 |x::l,xs,h=>by
  simp only[List.mapM_cons,Option.bind_eq_bind,Option.bind_eq_some_iff] at h
  obtain⟨p,⟨v,h1,h2⟩,ps,h3,h4⟩:=h
  obtain⟨vs,k1,k2⟩:=yCt l ps h3
  simp_all
theorem vTk (hE:fJ E)(hS:iJ E.sums)(hm:E.P.follows .mixedOrders=true){fn st}{a:Act}{w v M}(hM:M.h=st.h)(hH:M.H=w.heap)(ok:Ok M)(ht:∀t,zW M (st.t t) (a.tmps.getD t undef))(h:Ku E fn st=some v):
  ∃rv,(results fn a.tmps).run E.P w=.ok rv w∧zW M v rv:=by
 have one:=fun x v=>vSw hE hS hm (x:=x) (v:=v) hM hH ok ht
 have key:∀(l:List ResultVar) (vs:List zT),l.mapM (tT E st)=some vs→∃rs:List Value,(l.mapM (K6 a.tmps)).run E.P w=.ok rs w∧zM (zW M) vs rs:=by
  intro l
  induction l with
  |nil=>exact fun vs h=>by simp at h;subst h;exact⟨[],rfl,trivial⟩
  |cons x l ih=>
   intro vs h
   simp[Option.bind_eq_some_iff] at h
   obtain⟨v,h1,QK,h2,h3⟩:=h
   cases h3
   obtain⟨rv,k1,k2⟩:=one x v h1
   obtain⟨rs,k3,k4⟩:=ih QK h2
   refine⟨rv::rs,?_,k2,k4⟩
   simp_all
 have run:∀(vs:List zT),fn.results.toList.mapM (tT E st)=some vs→∃rs:List Value,(results fn a.tmps).run E.P w=.ok (if h:rs.length=1 then rs[0] else .tuple rs.toArray) w∧zM (zW M) vs rs:=fun vs h=>by
  obtain⟨rs,k1,k2⟩:=key _ vs h
  refine⟨rs,?_,k2⟩
  rw[RZ,Array.mapM_eq_mapM_toList]
  simp_all
 unfold Ku at h
 split at h
 ·cases h
  obtain⟨rs,k1,k2⟩:=run [] (by simp_all)
  cases rs with
  |cons _ _=>exact k2.elim
  |nil=>exact⟨_,k1,#[],rfl,trivial⟩
 ·obtain⟨rs,k1,k2⟩:=run [v] (by simp_all)
  match rs,k2 with
  |[r],k2=>exact⟨_,k1,k2.1⟩
 ·split at h
  ·rename_i xs GL
   cases h
   obtain⟨vs,k1,k2⟩:=yCt _ _ GL
   obtain⟨rs,r1,r2⟩:=run vs k1
   have hlen:rs.length≠1:=fun e=>by
    have e1:=r2.length
    have e2:=(GK _ _ _ k1).length
    have h3:fn.results.toList.length=1:=by omega
    match hl:fn.results.toList,h3 with
    |[x],_=>simp_all
   rw[dif_neg hlen] at r1
   exact⟨_,r1,rs.toArray,rfl,qZi (GK _ _ _ k2) r2⟩
  ·cases h
theorem R0 (hE:fJ E)(hS:iJ E.sums)(hm:E.P.follows .mixedOrders=true){f fn}(hf:E.P.funcs[f]? =some fn)(hL:∀c,fn.body=some c→wE E.P A pre na fn.ntmps c){args h K}(aT:ja E A k pre na fn args h K=some out){M w vs}(hh:M.h=h)(hH:M.H=w.heap)(ok:Ok M)
  (hv:zM (zW M) args vs.toList):Calls E.P f vs w fun
   |.returned rv,w'=>∃(M':zL) (v:zT) (st:St),K v st=some out∧M'.h=st.h∧M'.H=w'.heap∧Ok M'∧iK M M'∧(A.loops=[]→KX M M')∧zW M' v rv∧w'.os=w.os∧w'.tape=w.tape∧w'.output=w.output∧
     (∀t,t<na→zW M' (st.t t) (vs.getD t undef))
   |_,_=>False:=by
 unfold ja at aT
 cases hb:fn.body with
 |none=>simp_all
 |some c=>
  rw[hb] at aT
  dsimp only at aT
  cases hle:Nat.ble args.length fn.ntmps with
  |false=>simp_all
  |true=>
   rw[hle] at aT
   rw[cond_true] at aT
   have hl:=hv.length
   have hle:args.length≤fn.ntmps:=Nat.le_of_ble_eq_true hle
   have dN:vs.size≤fn.ntmps:=by simp at hl;omega
   have GX:∀t,zW M (Kv args t) ((vs++Array.replicate (fn.ntmps-vs.size) undef).getD t undef):=fun t=>by
    unfold Kv
    by_cases ht:t<args.length
    ·have R1:t<vs.size:=by simp at hl;omega
     have:=hv.get t ht (by simpa using R1)
     simp only[List.getD_eq_getElem?_getD,List.getElem?_eq_getElem ht,Option.getD_some]
     simp only[Array.getD_eq_getD_getElem?,Array.getElem?_append_left R1,Array.getElem?_eq_getElem R1,Option.getD_some]
     simpa using this
    ·simp only[List.getD_eq_getElem?_getD,List.getElem?_eq_none (Nat.not_lt.1 ht),Option.getD_none]
     show _=undef
     simp
     grind
   have r:vO A.loops.isEmpty na fn.ntmps (fun t=>(vs++Array.replicate (fn.ntmps-vs.size) undef).getD t undef) M w {t:=Kv args,h:=h} {tmps:=vs++Array.replicate (fn.ntmps-vs.size) undef,defers:=[]} w:=
    ⟨⟨M,hh,hH,ok,⟨.refl M,fun _ _ C h=>⟨C,h,rfl⟩⟩,GX⟩,rfl,by simp;omega,rfl,rfl,rfl,fun _ _=>rfl⟩
   refine calls_of_wp hf hb (yI3 hE hS hm (by simp) c (hL c hb) _ _ _ _ _ aT r fun e bE a' w' r' hK=>?_)
   obtain⟨M',q1,q2,q3,q4,q5⟩:=r'.ex
   have fin:∀v,Ku E fn bE=some v→K v bE=some out→a'.defers=[]∧∃rv,(results fn a'.tmps).run E.P w'=.ok rv w'∧∃(M':zL) (v:zT) (st:St),K v st=some out∧M'.h=st.h∧M'.H=w'.heap∧Ok M'∧iK M M'∧(A.loops=[]→KX M M')∧zW M' v rv∧w'.os=w.os∧w'.tape=w.tape∧w'.output=w.output∧
     (∀t,t<na→zW M' (st.t t) (vs.getD t undef)):=fun v jo hK=>by
    obtain⟨rv,k1,k2⟩:=vTk hE hS hm q1 q2 q3 q5 jo
    refine⟨r'.defers,rv,k1,M',v,bE,hK,q1,q2,q3,q4.g,fun h=>q4.k (by grind),k2,r'.os,r'.tape,r'.output,fun t ht=>?_⟩
    have:=q5 t
    rw[r'.keep t ht] at this
    have e:(vs++Array.replicate (fn.ntmps-vs.size) undef).getD t undef=vs.getD t undef:=by
     by_cases h1:t<vs.size
     ·simp[Array.getD_eq_getD_getElem?,Array.getElem?_append_left h1]
     ·simp
      grind
    simp_all
   cases e with
   |exit id=>cases hK
   |normal=>
    dsimp only at hK
    split at hK
    ·rename_i v jo
     exact fin v jo hK
    ·cases hK
   |ret=>
    dsimp only at hK
    split at hK
    ·rename_i v jo
     exact fin v jo hK
    ·cases hK
end
inductive PC where
 |int (k:IntKind)|bool|dat (sh:Bool) (t:Ty)|fn (f:Nat)
 |nil|nilp
abbrev PC.den:PC→Type
 |.int _=>Int|.bool=>Bool|.dat _ t=>List t.den|.fn _=>Unit|.nil=>Unit|.nilp=>Unit
abbrev PL:List PC→Type
 |[]=>Unit
 |p::l=>p.den×PL l
inductive AS where
 |c (p:PC)|agg (l:List PC)|ptr (l:List PC)|fn (f:Nat) (bp:List (List PC))
def AS.cells:AS→List PC
 |.c p=>[p]
 |.agg l=>l
 |.ptr l=>l
 |.fn _ bp=>bp.flatten
abbrev AD (l:List AS):Type:=PL (l.flatMap AS.cells)
def xQ (h:Hp)(t:Ty):zX→Option (List t.den)
 |.nsl=>some []
 |c=>match iY h c with
  |some ⟨s,xs⟩=>gp s t xs
  |none=>none
def sg (h:Hp):(p:PC)→zX→Option p.den
 |.int k,.int j n=>bif fF j k then some n else none
 |.bool,.bool b=>some b
 |.dat false t,c=>xQ h t c
 |.dat true t,.fsl true s xs=>gp s t xs
 |.dat true t,.nsl=>some []
 |.fn f,.fn g []=>bif Nat.beq f g then some () else none
 |.nil,.nsl=>some ()
 |.nilp,.nilp=>some ()
 |_,_=>none
def xR (h:Hp):(l:List PC)→List zX→Option (PL l)
 |[],[]=>some ()
 |p::l,c::cs=>match sg h p c,xR h l cs with
  |some d,some ds=>some (d,ds)
  |_,_=>none
 |_,_=>none
def BW (h:Hp)(id:Nat):Option (List zX):=match h id with
 |some (.box _ cells)=>some cells
 |some (.robox cells)=>some cells
 |_=>none
def sj (h:Hp):List (List PC)→List Nat→Option (List zX)
 |[],[]=>some []
 |l::ls,id::ids=>match BW h id,sj h ls ids with
  |some cells,some rest=>bif Nat.beq cells.length l.length then some (cells++rest) else none
  |_,_=>none
 |_,_=>none
def AS.get (h:Hp):AS→zT→Option (List zX)
 |.c _,.c x=>some [x]
 |.agg l,.agg xs=>bif Nat.beq xs.length l.length then some xs else none
 |.ptr l,.c (.ptr id 0)=>sj h [l] [id]
 |.fn f bp,.c (.fn g ids)=>bif Nat.beq f g then sj h bp ids else none
 |_,_=>none
def pM (h:Hp):List AS→List zT→Option (List zX)
 |[],[]=>some []
 |s::l,a::as=>match s.get h a,pM h l as with
  |some cs,some rest=>some (cs++rest)
  |_,_=>none
 |_,_=>none
def xS (h:Hp) l (as:List zT):Option (AD l):=match pM h l as with
 |some cs=>xR h (l.flatMap AS.cells) cs
 |none=>none
def BX:(p:PC)→p.den→zX
 |.int k,n=>.int k n
 |.bool,b=>.bool b
 |.dat sh t,xs=>.fsl sh t xs
 |.fn f,_=>.fn f []
 |.nil,_=>.nsl
 |.nilp,_=>.nilp
def vS:(l:List PC)→PL l→List zX
 |[],_=>[]
 |p::l,d=>BX p d.1::vS l d.2
def K7:List (List PC)→List zX→List (List zX)
 |[],_=>[]
 |l::ls,cs=>cs.take l.length::K7 ls (cs.drop l.length)
def AS.mk (n:Nat)(cs:List zX):AS→zT
 |.c _=>match cs with|x::_=>.c x|[]=>.undef
 |.agg _=>.agg cs
 |.ptr _=>.c (.ptr n 0)
 |.fn f bp=>.c (.fn f ((List.range bp.length).map (n+·)))
def AS.boxes (cs:List zX):AS→List (List zX)
 |.ptr _=>[cs]
 |.fn _ bp=>K7 bp cs
 |_=>[]
def kQ:List AS→List zX→Nat→List zT×List (List zX)
 |[],_,_=>([],[])
 |s::l,cs,n=>
  let ao:=cs.take s.cells.length
  let bs:=s.boxes ao
  let rest:=kQ l (cs.drop s.cells.length) (n+bs.length)
  (s.mk n ao::rest.1,bs++rest.2)
def kR (bs:List (List zX)):Hp:=fun n=>match bs[n]? with
 |some cells=>some (.robox cells)
 |none=>none
def od l (d:AD l):List zT×Hp:=
 let r:=kQ l (vS (l.flatMap AS.cells) d) 0
 (r.1,kR r.2)
inductive RC where
 |int (k:IntKind)|bool|fro (t:Ty)|own (t:Ty)|mat
 |jun
 |map
 |nilp|link (j:Nat)
abbrev RC.den:RC→Type
 |.int _=>Int|.bool=>Bool|.fro t=>List t.den|.own t=>List t.den|.mat=>List (List Int)|.jun=>Nat|.map=>List (Int×Bool)|.nilp=>Unit|.link _=>Unit
abbrev RL:List RC→Type
 |[]=>Unit
 |r::l=>r.den×RL l
inductive RS where
 |c (r:RC)|agg (l:List RC)|tup (l:List (Bool×List RC))
def RS.cells:RS→List RC
 |.c r=>[r]
 |.agg l=>l
 |.tup l=>l.flatMap (·.2)
def R2:List (Bool×List RC)→List (Bool×List zX)→Option (List zX)
 |[],[]=>some []
 | (b, l) :: ls, (g, cs) :: rest => bif (bif b then g else !g && Nat.beq cs.length 1) && Nat.beq cs.length l.length then (match R2 ls rest with
   |some r=>some (cs++r)
   |none=>none) else none
 |_,_=>none
def RS.get:RS→zT→Option (List zX)
 |.c _,.c x=>some [x]
 |.agg l,.agg xs=>bif Nat.beq xs.length l.length then some xs else none
 |.tup l,.tup xs=>R2 l xs
 |_,_=>none
def R3:List (Bool×List RC)→List zX→List (Bool×List zX)
 |[],_=>[]
 |(b,l)::ls,cs=>(b,cs.take l.length)::R3 ls (cs.drop l.length)
def RS.mk (cs:List zX):RS→zT
 |.c _=>match cs with|x::_=>.c x|[]=>.undef
 |.agg _=>.agg cs
 |.tup l=>.tup (R3 l cs)
def fK (h:Hp):List Bool→List zX→Option (List zX×vB)
 |true::l,c::cs=>match mW h c,fK h l cs with
  |some (c,u),some (cs,us)=>some (c::cs,u++us)
  |_,_=>none
 |false::l,c::cs=>match fK h l cs with
  |some (cs,us)=>some (c::cs,us)
  |none=>none
 |_,cs=>some (cs,[])
def RC.isFro:RC→Bool
 |.fro _=>true
 |_=>false
def PC.isKept:PC→Bool
 |.dat true _=>true
 |_=>false
def oe (h:Hp):(r:RC)→zX→Option r.den
 |.int k,.int j n=>bif fF j k then some n else none
 |.bool,.bool b=>some b
 |.fro t,.fsl true s xs=>gp s t xs
 |.fro t,.nsl=>some []
 |.own t,.osl id none=>match h id with
  |some (.arr true s xs)=>gp s t xs
  |_=>none
 |.own t,.osl id (some (0,n))=>match h id with
  |some (.arr true s xs)=>gp s t (xs.take n)
  |_=>none
 |.own t,.nsl=>some []
 |.mat,.osl id none=>match h id with
  |some (.mat _ xs)=>some xs
  |some (.pmat _ xs n)=>bif Nat.beq xs.length n then some xs else none
  |_=>none
 |.mat,.nsl=>some []
 |.jun,.osl id none=>match h id with
  |some (.arr true (.sl (.int .i64)) xs)=>some xs.length
  |_=>none
 |.jun,.nsl=>some 0
 |.map,.map id=>match h id with
  |some (.imap cW)=>some cW
  |_=>none
 |.nilp,.nilp=>some ()
 |.link _,.ptr _ 0=>some ()
 |_,_=>none
def jq (h:Hp):(l:List RC)→List zX→Option (RL l)
 |[],[]=>some ()
 |r::l,c::cs=>match oe h r c,jq h l cs with
  |some d,some ds=>some (d,ds)
  |_,_=>none
 |_,_=>none
def vX:List RC→List zX→List Nat
 |.own _::l,.osl id _::cs=>id::vX l cs
 |.mat::l,.osl id _::cs=>id::vX l cs
 |.jun::l,.osl id _::cs=>id::vX l cs
 |.map::l,.map id::cs=>id::vX l cs
 |_::l,_::cs=>vX l cs
 |_,_=>[]
def GY (h:Hp)(s:RS)(v:zT):Option (RL s.cells):=match s.get v with
 |some cs=>match fK h (s.cells.map RC.isFro) cs with
  |some (cs,u)=>bif rD (vX s.cells cs) then jq (qL h u) s.cells cs else none
  |none=>none
 |none=>none
def lK (rs:RS){X:Type}(unpack:RL rs.cells→X)(v:zT)(st:St):Option X:=match GY st.h rs v with
 |some d=>some (unpack d)
 |none=>none
def pN (nm:Nat):(r:RC)→r.den→zX×vB
 |.int k,n=>(.int k n,[])
 |.bool,b=>(.bool b,[])
 |.fro t,xs=>(.fsl true t xs,[])
 |.own t,xs=>(.osl nm none,[(nm,.arr true t xs)])
 |.mat,xs=>(.osl nm none,[(nm,.mat 0 xs)])
 |.jun,n=>(.osl nm none,[(nm,.pmat 0 [] n)])
 |.map,cW=>(.map nm,[(nm,.imap cW)])
 |.nilp,_=>(.nilp,[])
 |.link _,_=>(.undef,[])
def np (nm:Nat):(l:List RC)→RL l→List zX×vB
 |[],_=>([],[])
 |r::l,d=>
  let x:=pN nm r d.1
  let y:=np (nm+1) l d.2
  (x.1::y.1,x.2++y.2)
def yWm (nm:Nat)(s:RS)(d:RL s.cells):zT×vB:=
 let r:=np nm s.cells d
 (s.mk r.1,r.2)
def uk (h:Hp):Nat→Nat→Bool
 |_,0=>true
 |nm,n+1=>(match h nm with|none=>true|some _=>false)&&uk h (nm+1) n
def um (h:Hp):AS→zT→Option (zT×vB)
 |.c p,.c x=>match fK h [p.isKept] [x] with
  |some ([x],u)=>some (.c x,u)
  |_=>none
 |.agg l,.agg xs=>match fK h (l.map PC.isKept) xs with
  |some (xs,u)=>some (.agg xs,u)
  |none=>none
 |_,a=>some (a,[])
def pO (h:Hp):List AS→List zT→Option (List zT×vB)
 |s::l,a::as=>match um h s a,pO h l as with
  |some (a,u),some (as,us)=>some (a::as,u++us)
  |_,_=>none
 |_,as=>some (as,[])
def nq as (rs:RS){X}(S:AD as→Option X)(pack:X→RL rs.cells)(nm:Nat)(args:List zT)(h:Hp):yS:=
 match pO h as args with
 |none=>.stuck
 |some (args,u)=>match xS (qL h u) as args with
  |some d=>bif uk h nm rs.cells.length&&Nat.ble rs.cells.length 100 then .call X (S d) (fun r=>((yWm nm rs (pack r)).1,u++(yWm nm rs (pack r)).2)) else .stuck
  |none=>.stuck
structure Lo (M Ml:zL):Prop where
 H:Ml.H=M.H
 F:Ml.F=fun b=>b<M.H.size
 G:Ml.G=M.G
theorem R4 {M M':zL}(ok:Ok M')(hH:M'.H=M.H){t}{xs:List t.den}{v}(h:qF M'.H M'.G (.sl t) xs (fun _=>some v)):qF M.H (fun b=>b<M.H.size) (.sl t) xs (fun _=>some v):=by
 refine yX (fun b hb=>?_) (by grind) _ _ _ _ (by simp) h
 have:=ok.Flt b (ok.GF b hb)
 simp_all
theorem vV2 {M}(ok:Ok M){c v t xs}(hv:zY M c v)(h:iY M.h c=some ⟨t,xs⟩):qF M.H (fun b=>b<M.H.size) (.sl t) xs (fun _=>some v):=by
 unfold iY at h
 split at h
 ·rename_i sh s ys
  cases h
  cases sh with
  |true=>exact yX (fun b hb=>ok.Flt b (ok.GF b hb)) (by simp) _ _ _ _ (fun _ _=>rfl) hv
  |false=>exact yX (fun b hb=>ok.Flt b hb) (by simp) _ _ _ _ (fun _ _=>rfl) hv
 ·rename_i id r
  split at h
  ·rename_i own s ys an
   cases h
   cases own with
   |false=>
    obtain⟨C,hC,hO⟩:=ok.obj _ _ an
    exact R4 ok rfl (xp hC hO hv)
   |true=>
    obtain⟨M',h1,h2,h3,h4⟩:=yA2 ok an
    obtain⟨C,hC,hO⟩:=h3.obj id _ (by rw[h2];exact yM _ _ _)
    exact R4 h3 h1 (xp hC hO (hv.ext h4.ext))
  ·rename_i ver ys an
   cases r with
   |some p=>cases h
   |none=>
    cases h
    obtain⟨M',h1,h2,h3,h4⟩:=yZ7 ok an
    obtain⟨C,hC,hO⟩:=h3.obj id _ (by rw[h2];exact yM _ _ _)
    exact R4 h3 h1 (xp (r:=none) hC hO (hv.ext h4.ext))
  ·cases h
 ·rename_i id i ver
  split at h
  ·rename_i v' ys an
   cases fe:Nat.beq v' ver with
   |false=>simp_all
   |true=>
    rw[fe] at h
    cases h
    have e:v'=ver:=by simpa using fe
    subst e
    obtain⟨C,hC,hO⟩:=ok.obj _ _ an
    obtain⟨C',aD,cj,_,aW⟩:=hv
    rw[hC] at aD;cases aD
    obtain⟨rb,rl,rV,pI⟩:=aW hO.1
    by_cases hi:i<ys.length
    ·obtain⟨B,nV,v2,k1,k2,k3,k4,k5,k6⟩:=Bu hO hi
     rw[rV] at k3
     cases k3
     rw[show ys.getD i []=ys[i] by simp_all]
     simp only[qF]
     cases rb with
     |none=>
      obtain⟨rfl,h0⟩:=pI
      grind
     |some R=>
      obtain⟨a,c,rfl,h1,h2,h3⟩:=pI
      refine⟨_,_,c,rfl,rfl,h1,?_⟩
      by_cases h0:ys[i].length=0
      ·simp_all
      ·have ha:a=0:=by omega
       subst ha
       refine .inr ⟨R,0,rfl,?_,fun j hj=>?_⟩
       ·have:=k6 R rfl 0 (by omega)
        unfold yP at this
        grind
       ·simp only[Ty.size]
        simp_all
    ·have:C.rows[i]? =none:=List.getElem?_eq_none (by have:=hO.2.2.2.1;omega)
     simp_all
  ·cases h
 ·cases h
theorem GZ {H F t}:qF H F (.sl t) ([]:List t.den) (fun _=>some (.slice none 0 0)):=⟨none,0,0,rfl,rfl,by simp,by simp⟩
theorem vHq {M}(ok:Ok M){c v t xs}(hv:zY M c v)(h:xQ M.h t c=some xs):qF M.H (fun b=>b<M.H.size) (.sl t) xs (fun _=>some v):=by
 unfold xQ at h
 split at h
 ·cases h
  rw[show v=.slice none 0 0 from hv]
  exact GZ
 ·split at h
  ·rename_i s ys hr
   obtain⟨e,hx⟩:=kl h
   subst e
   subst hx
   exact vV2 ok hv hr
  ·cases h
def Tr (M:zL)(c c':zX):Prop:=∀v Ml,Lo M Ml→zY M c v→zY Ml c' v
theorem vDc {M}(ok:Ok M){p c d}(h:sg M.h p c=some d):Tr M c (BX p d):=by
 intro v Ml lo hv
 unfold sg at h
 split at h
 ·rename_i k j n
  cases e:fF j k with
  |false=>simp_all
  |true=>rw[e] at h;cases h;rw[←ru e];exact hv
 ·cases h;exact hv
 ·have:=vHq ok hv h
  show qF Ml.H Ml.F _ _ _
  rw[lo.H,lo.F]
  omega
 ·obtain⟨e,hx⟩:=kl h
  subst e
  subst hx
  show qF Ml.H Ml.G _ _ _
  rw[lo.H,lo.G]
  exact hv
 ·cases h
  rw[show v=.slice none 0 0 from hv]
  exact GZ
 ·rename_i f g
  cases e:Nat.beq f g with
  |false=>simp_all
  |true=>
   have:f=g:=by simp_all
   subst this
   obtain⟨cv,rfl,hc⟩:=hv
   refine⟨cv,rfl,?_⟩
   generalize cv.toList=l at hc
   cases l with
   |nil=>trivial
   |cons _ _=>exact hc.elim
 ·exact hv
 ·exact hv
 ·cases h
theorem yMb {M}(ok:Ok M):∀{l cs d},xR M.h l cs=some d→zM (Tr M) cs (vS l d)
 |[],[],_,_=>trivial
 |p::l,c::cs,d,h=>by
  unfold xR at h
  split at h
  ·rename_i x xs h1 h2
   cases h
   exact⟨vDc ok h1,yMb ok h2⟩
  ·cases h
theorem R5 {M Ml}(lo:Lo M Ml):∀{cs aO vs},zM (Tr M) cs aO→zM (zY M) cs vs→zM (zY Ml) aO vs
 |[],[],[],_,_=>trivial
 |_::_,_::_,_::_,h,k=>⟨h.1 _ _ lo k.1,R5 lo h.2 k.2⟩
def uo (M:zL)(C:qC)(cells:List zX):Prop:=∃B vals e,C.blk=some B∧C.rows=[]∧M.H[B]? =some (.cells vals e (0,0))∧zM (zY M) cells vals.toList
theorem yKr {M}(ok:Ok M){id cells}(h:BW M.h id=some cells):∃C,M.κ id=some C∧uo M C cells:=by
 unfold BW at h
 split at h
 ·rename_i own cs an
  cases h
  obtain⟨C,hC,B,vals,e,h1,h2,h3,h4,_⟩:=ok.obj id _ an
  exact⟨C,hC,B,vals,e,h1,h2,h3,h4⟩
 ·rename_i cs an
  cases h
  obtain⟨C,hC,B,vals,e,h1,h2,h3,h4,_⟩:=ok.obj id _ an
  exact⟨C,hC,B,vals,e,h1,h2,h3,h4⟩
 ·cases h
theorem uo.tr {M Ml}(lo:Lo M Ml){C cs aO}(h:uo M C cs)(ht:zM (Tr M) cs aO):uo Ml C aO:=by
 obtain⟨B,vals,e,h1,h2,h3,h4⟩:=h
 exact⟨B,vals,e,h1,h2,by rw[lo.H];exact h3,R5 lo ht h4⟩
theorem R6 {M}(ok:Ok M):∀{ls ids cs aO},sj M.h ls ids=some cs→zM (Tr M) cs aO→cs.length=ls.flatten.length∧ids.length=ls.length∧
  ∃Cs:List qC,zM (fun id C=>M.κ id=some C) ids Cs∧∀Ml,Lo M Ml→zM (uo Ml) Cs (K7 ls aO)
 |[],[],cs,aO,h,ht=>by cases h;exact⟨rfl,rfl,[],trivial,fun _ _=>trivial⟩
 |l::ls,id::ids,cs,aO,h,ht=>by
  unfold sj at h
  split at h
  ·rename_i cells rest h1 h2
   obtain⟨hl,h⟩:cells.length=l.length∧cells++rest=cs:=by
    cases e:Nat.beq cells.length l.length with
    |false=>simp_all
    |true=>simp_all
   subst h
   have nr:=zM.take l.length ht
   have my:=zM.drop l.length ht
   rw[←hl,List.take_left] at nr
   rw[←hl,List.drop_left] at my
   obtain⟨C,hC,hB⟩:=yKr ok h1
   obtain⟨k1,k2,Cs,k3,k4⟩:=R6 ok h2 my
   refine⟨by simp_all,by simp[k2],C::Cs,⟨hC,k3⟩,fun Ml lo=>⟨?_,?_⟩⟩
   ·rw[←hl];exact hB.tr lo nr
   simp_all
  ·cases h
theorem vFo {M}(ok:Ok M){s:AS}{a v cs aO n}(hv:zW M a v)(h:s.get M.h a=some cs)(ht:zM (Tr M) cs aO):
  ∃Cs:List qC,(∀Ml,Lo M Ml→zM (uo Ml) Cs (s.boxes aO))∧(∀Ml,Lo M Ml→(∀i C,Cs[i]? =some C→Ml.κ (n+i)=some C)→zW Ml (s.mk n aO) v):=by
 unfold AS.get at h
 split at h
 ·cases h
  match aO,ht with
  |[c'],ht=>exact⟨[],fun _ _=>trivial,fun Ml lo _=>ht.1 v Ml lo hv⟩
 ·rename_i l xs
  cases e:Nat.beq xs.length l.length with
  |false=>simp_all
  |true=>
   rw[e] at h
   cases h
   obtain⟨vs,rfl,hx⟩:=hv
   exact⟨[],fun _ _=>trivial,fun Ml lo _=>⟨vs,rfl,R5 lo ht hx⟩⟩
 ·rename_i l id
  have:=R6 ok h ht
  obtain⟨k1,k2,Cs,k3,k4⟩:=this
  obtain⟨C,B,hC,hB,e⟩:=hv
  have hl:aO.length=l.length:=by rw[←ht.length,k1];simp
  match Cs,k3 with
  |[C'],k3=>
   have e':C'=C:=by
    have:M.κ id=some C':=k3.1
    simp_all
   subst e'
   refine⟨[C'],fun Ml lo=>?_,fun Ml lo hκ=>⟨C',B,hκ 0 C' rfl,hB,e⟩⟩
   have:=k4 Ml lo
   simp[K7] at this
   rw[List.take_of_length_le (by omega)] at this
   exact this
 ·rename_i f bp g ids
  cases e:Nat.beq f g with
  |false=>simp_all
  |true=>
   rw[e] at h
   have R7:f=g:=by simp_all
   subst R7
   obtain⟨k1,k2,Cs,k3,k4⟩:=R6 ok h ht
   refine⟨Cs,k4,fun Ml lo hκ=>?_⟩
   obtain⟨cv,rfl,hc⟩:=hv
   refine⟨cv,rfl,?_⟩
   have l1:=k3.length
   have l2:=hc.length
   refine zM.of_get (by simp_all) fun i h1 h2=>?_
   simp
   have hi:i<ids.length:=by omega
   have bV:i<Cs.length:=by omega
   obtain⟨C,B,q1,q2,q3⟩:=hc.get i hi h2
   have q4:=k3.get i hi bV
   simp_all
 ·cases h
theorem R8 {h}:∀{ls ids cs},sj h ls ids=some cs→cs.length=ls.flatten.length
 |[],[],cs,e=>by cases e;rfl
 |l::ls,id::ids,cs,e=>by
  unfold sj at e
  split at e
  ·rename_i cells rest h1 h2
   cases el:Nat.beq cells.length l.length with
   |false=>simp_all
   |true=>
    rw[el] at e
    cases e
    have:cells.length=l.length:=by simp_all
    simp[this,R8 h2]
  ·cases e
theorem R9 {h}{s:AS}{a cs}(e:s.get h a=some cs):cs.length=s.cells.length:=by
 unfold AS.get at e
 split at e
 ·cases e;rfl
 ·rename_i l xs
  cases el:Nat.beq xs.length l.length with
  |false=>simp_all
  |true=>rw[el] at e;cases e;exact Nat.eq_of_beq_eq_true el
 ·rw[R8 e];simp[AS.cells]
 ·rename_i f bp g ids
  cases el:Nat.beq f g with
  |false=>simp_all
  |true=>rw[el] at e;exact R8 e
 ·cases e
theorem yLt {M}(ok:Ok M):∀{l as vs cs aO n},zM (zW M) as vs→pM M.h l as=some cs→zM (Tr M) cs aO→
  ∃Cs:List qC,(∀Ml,Lo M Ml→zM (uo Ml) Cs (kQ l aO n).2)∧(∀Ml,Lo M Ml→(∀i C,Cs[i]? =some C→Ml.κ (n+i)=some C)→zM (zW Ml) (kQ l aO n).1 vs)
 |[],[],[],cs,aO,n,_,_,_=>⟨[],fun _ _=>trivial,fun _ _ _=>trivial⟩
 |s::l,a::as,v::vs,cs,aO,n,hv,h,ht=>by
  unfold pM at h
  split at h
  ·rename_i lH rest h1 h2
   cases h
   have hl:=R9 h1
   have nr:=zM.take s.cells.length ht
   have my:=zM.drop s.cells.length ht
   rw[←hl,List.take_left,hl] at nr
   rw[←hl,List.drop_left,hl] at my
   obtain⟨C1,k1,k2⟩:=vFo ok (n:=n) hv.1 h1 nr
   obtain⟨C2,k3,k4⟩:=yLt ok (n:=n+(s.boxes (aO.take s.cells.length)).length) hv.2 h2 my
   refine⟨C1++C2,fun Ml lo=>(k1 Ml lo).append (k3 Ml lo),fun Ml lo hκ=>⟨k2 Ml lo fun i C hi=>hκ i C ?_,k4 Ml lo fun i C hi=>?_⟩⟩
   ·grind
   ·have hb:=(k1 Ml lo).length
    have:=hκ (C1.length+i) C (by grind)
    grind
  ·cases h
def zL.below (M:zL)(Cs:List qC)(bs:List (List zX)):zL:={κ:=fun n=>Cs[n]?,F:=fun b=>b<M.H.size,G:=M.G,h:=kR bs,H:=M.H}
theorem zL.below_lo M Cs bs:Lo M (M.below Cs bs):=⟨rfl,rfl,rfl⟩
theorem zL.below_ok {M}(ok:Ok M){Cs bs}(h:zM (uo (M.below Cs bs)) Cs bs):Ok (M.below Cs bs)∧∀b,¬qS (M.below Cs bs) b:=by
 have hr:∀id o,(M.below Cs bs).h id=some o→∃cells,bs[id]? =some cells∧o=.robox cells:=fun id o e=>by
  have e:kR bs id=some o:=e
  unfold kR at e
  grind
 have G0:∀b,¬qS (M.below Cs bs) b:=fun b ⟨id,o,C,h1,h2,_,_⟩=>by
  obtain⟨cells,_,rfl⟩:=hr id o h1
  cases h2
 refine⟨⟨fun id o e=>?_,fun id e=>?_,fun i j oi oj Ci Cj b _ h1 _ h3 _ _ _ _ _=>?_,by grind,fun b hb=>ok.Flt b (ok.GF b hb),fun b hb=>hb⟩,G0⟩
 ·obtain⟨cells,hc,rfl⟩:=hr id o e
  have bg:id<bs.length:=by
   grind
  have jb:id<Cs.length:=by rw[h.length];omega
  obtain⟨B,vals,ev,q1,q2,q3,q4⟩:=h.get id jb bg
  rw[List.getElem?_eq_getElem bg] at hc
  cases hc
  refine⟨Cs[id],List.getElem?_eq_getElem jb,B,vals,ev,q1,q2,q3,q4,?_⟩
  exact(Array.getElem?_eq_some_iff.1 q3).1
 ·have e:kR bs id=none:=e
  unfold kR at e
  split at e
  ·cases e
  ·rename_i hc
   show Cs[id]? =none
   rw[List.getElem?_eq_none_iff] at hc⊢
   rw[h.length];exact hc
 ·obtain⟨cells,_,rfl⟩:=hr i oi h1
  cases h3
theorem vNw {M}(ok:Ok M){l as vs d}(hv:zM (zW M) as vs)(h:xS M.h l as=some d):
  ∃Ml:zL,Lo M Ml∧Ml.h=(od l d).2∧Ok Ml∧(∀b,¬qS Ml b)∧zM (zW Ml) (od l d).1 vs:=by
 unfold xS at h
 split at h
 ·rename_i cs hg
  obtain⟨Cs,h1,h2⟩:=yLt ok (n:=0) hv hg (yMb ok h)
  have lo:=M.below_lo Cs (kQ l (vS (l.flatMap AS.cells) d) 0).2
  have:=zL.below_ok ok (h1 _ lo)
  exact⟨_,lo,rfl,this.1,this.2,h2 _ lo fun i C hi=>by rw[Nat.zero_add];exact hi⟩
 ·cases h
theorem uq {h0}:∀{l cs aO vs u M},Ok M→wT h0 M.h→zM (zY M) cs vs→fK h0 l cs=some (aO,u)→
  ∃L:zL,L.H=M.H∧L.h=qL M.h u∧Ok L∧yY M L∧zM (zY L) aO vs∧wT h0 L.h
 |[],cs,aO,vs,u,M,ok,hf,hc,h=>by
  cases cs<;>cases h<;>exact⟨M,rfl,rfl,ok,.refl M,hc,hf⟩
 |true::l,[],aO,vs,u,M,ok,hf,hc,h
 |false::l,[],aO,vs,u,M,ok,hf,hc,h=>by cases h;exact⟨M,rfl,rfl,ok,.refl M,hc,hf⟩
 |true::l,c::cs,aO,v::vs,u,M,ok,hf,hc,h=>by
  unfold fK at h
  split at h
  ·rename_i c1 u1 lH pA e1 e2
   cases h
   obtain⟨M1,h1,h2,h3,h4,h5,h6,_⟩:=Gk ok hf hc.1 e1
   obtain⟨M2,k1,k2,k3,k4,k5,k6⟩:=uq h3 h6 (hc.2.mono fun _ _ h=>h.ext h4.ext) e2
   exact⟨M2,k1.trans h1,by rw[k2,h2,kk],k3,h4.trans k4,⟨h5.ext k4.ext,k5⟩,k6⟩
  ·cases h
 |false::l,c::cs,aO,v::vs,u,M,ok,hf,hc,h=>by
  unfold fK at h
  split at h
  ·rename_i lH pA e2
   cases h
   obtain⟨M2,k1,k2,k3,k4,k5,k6⟩:=uq ok hf hc.2 e2
   exact⟨M2,k1,k2,k3,k4,⟨hc.1.ext k4.ext,k5⟩,k6⟩
  ·cases h
def zL.add (M:zL)(nm:Nat)(o:Obj)(C:qC):zL:={M with κ:=κset M.κ nm C,h:=yE M.h nm o}
theorem zL.add_ok {M}(ok:Ok M){nm}(aS:M.h nm=none){o C}(hO:yW (M.add nm o C) o C)(hb:∀b∈C.fp,¬qS M b∧¬M.F b∧b<M.H.size):
  Ok (M.add nm o C)∧yL M (M.add nm o C)∧(∀b,qS (M.add nm o C) b→qS M b∨b∈C.fp):=by
 have x:yL M (M.add nm o C):=⟨fun id D h=>by
  have bm:id≠nm:=fun e=>by rw[e,ok.non nm aS] at h;cases h
  exact⟨D,by show κset M.κ nm _ id=_;rw[κset_ne _ _ bm];exact h,D.le_refl⟩,fun _ h=>h,fun _ h=>h,fun _ _=>rfl,fun _ _=>rfl,fun _ _=>rfl⟩
 refine⟨Ok.build ok x (fun id=>id=nm) (fun id h=>yQ _ _ h) (fun id h=>κset_ne _ _ h) (fun _ _ _ _ _ _ _ _ _=>rfl) (fun id o' D h1 h2 h3 h4 b bB=>(ok.own b ⟨id,o',D,h2,h3,h4,bB⟩).1) (Nat.le_refl _)
  (fun id o' e h=>?_) (fun id e h=>?_) (fun id o' D b e h1 h2 h3 h4=>?_) ok.GF ok.Flt,x,fun b bB=>?_⟩
 ·subst e
  have e1:(M.add id o C).h id=some o:=yM _ _ _
  rw[e1] at h
  cases h
  exact⟨_,κset_same _ _ _,hO⟩
 ·have e1:(M.add id o C).h id=some o:=yM _ _ _
  simp_all
 ·subst e
  have e1:(M.add id o C).κ id=some C:=κset_same _ _ _
  rw[e1] at h3
  cases h3
  obtain⟨k1,k2,k3⟩:=hb b h4
  refine⟨fun j oj Cj hj q1 q2 q3 q4=>k1 ⟨j,oj,Cj,?_,q2,?_,q4⟩,k2,k3⟩
  ·rw[←q1];exact(yQ _ _ hj).symm
  ·rw[←q3];exact(κset_ne _ _ hj).symm
 ·obtain⟨id,o',D,h1,h2,h3,h4⟩:=bB
  by_cases e:id=nm
  ·have e1:(M.add id o C).κ id=some C:=κset_same _ _ _
   simp_all
  ·exact .inl ⟨id,o',D,by rw[←h1];exact(yQ _ _ e).symm,h2,by rw[←h3];exact(κset_ne _ _ e).symm,h4⟩
structure Up (L Mc:zL):Prop where
 H:Mc.H=L.H
 G:Mc.G=L.G
theorem vBm {L Mc}(up:Up L Mc){t xs C}(h:yW L (.arr true t xs) C):yW Mc (.arr true t xs) C:=by
 obtain⟨h1,h2,h3,h4⟩:=h
 refine⟨h1,h2,h3,?_⟩
 rw[up.H,up.G]
 exact h4
theorem Sa {L Mc}(up:Up L Mc){ver xs C}(h:yW L (.mat ver xs) C):yW Mc (.mat 0 xs) {C with ver:=0}:=by
 obtain⟨h1,h2⟩:=h
 refine⟨rfl,?_⟩
 rw[up.H]
 exact h2
theorem vLu {L Mc}(up:Up L Mc){ver n xs C}(h:yW L (.pmat ver xs n) C)(hn:xs.length=n):yW Mc (.mat 0 xs) {C with ver:=0}:=by
 obtain⟨h1,h2,h3,h4,h5,_,h6⟩:=h
 refine⟨rfl,by rw[hn];exact h2,h3,h4,h5,?_⟩
 rw[up.H]
 subst hn
 simp_all
theorem vIr {L Mc}(up:Up L Mc){xs:List (List Int)}{C}(h:yW L (.arr true (.sl (.int .i64)) xs) C):yW Mc (.pmat 0 [] xs.length) {C with ver:=0}:=by
 obtain⟨h1,h2,h3,h4⟩:=h
 have hr:=h3 rfl
 refine⟨rfl,h1,h2,by simp_all,?_,by simp,?_⟩
 ·simp[qC.fp]
  grind
 ·cases hB:C.blk with
  |none=>simp_all
  |some B=>
   rw[hB] at h4
   obtain⟨vals,e,h5,_,h7,_⟩:=h4
   refine⟨vals,e,by rw[up.H];exact h5,by simpa[Ty.size] using h7,by simp⟩
theorem vQl {L Mc}(gQ:Ok L)(ok:Ok Mc)(up:Up L Mc){nm}(aS:Mc.h nm=none){r c d}(h:oe L.h r c=some d)
  (hb:∀id∈vX [r] [c],∀C,L.κ id=some C→∀b∈C.fp,¬qS Mc b∧¬Mc.F b∧b<Mc.H.size):
  ∃ew:zL,ew.H=Mc.H∧ew.G=Mc.G∧ew.F=Mc.F∧ew.h=qL Mc.h (pN nm r d).2∧Ok ew∧yL Mc ew∧
   (∀b,qS ew b→qS Mc b∨∃id∈vX [r] [c],∃C,L.κ id=some C∧b∈C.fp)∧∀v,zY L c v→zY ew (pN nm r d).1 v:=by
 have same : (pN nm r d).2 = [] → (∀ v, zY L c v → zY Mc (pN nm r d).1 v) → _ := fun e hv => (⟨Mc,rfl,rfl,rfl,by rw[e];rfl,ok,.refl Mc,by grind,hv⟩:
  ∃ew:zL,ew.H=Mc.H∧ew.G=Mc.G∧ew.F=Mc.F∧ew.h=qL Mc.h (pN nm r d).2∧Ok ew∧yL Mc ew∧
   (∀b,qS ew b→qS Mc b∨∃id∈vX [r] [c],∃C,L.κ id=some C∧b∈C.fp)∧∀v,zY L c v→zY ew (pN nm r d).1 v)
 unfold oe at h
 split at h
 ·rename_i k j n
  cases e:fF j k with
  |false=>rw[e] at h;cases h
  |true=>
   rw[e] at h
   cases h
   exact same rfl fun v hv=>by rw[←ru e];exact hv
 ·cases h
  exact same rfl fun v hv=>hv
 ·obtain⟨e,hx⟩:=kl h
  subst e
  subst hx
  refine same rfl fun v hv=>?_
  show qF Mc.H Mc.G _ _ _
  rw[up.H,up.G]
  exact hv
 ·cases h
  refine same rfl fun v hv=>?_
  rw[show v=.slice none 0 0 from hv]
  exact GZ
 ·rename_i t id
  split at h
  ·rename_i s xs an
   obtain⟨e,hx⟩:=kl h
   subst e
   subst hx
   obtain⟨C,hC,hO⟩:=gQ.obj id _ an
   obtain⟨k1,k2,k3⟩:=zL.add_ok ok aS (o:=.arr true s xs) (C:=C) (vBm (Mc:=Mc.add nm (.arr true s xs) C) ⟨up.H,up.G⟩ hO) (hb id (by simp[vX]) C hC)
   refine⟨Mc.add nm (.arr true s xs) C,rfl,rfl,rfl,rfl,k1,k2,fun b bB=>(k3 b bB).imp (fun h=>h) fun h=>⟨id,by simp[vX],C,hC,h⟩,fun v hv=>?_⟩
   obtain⟨C',aD,hS⟩:=hv
   rw[hC] at aD;cases aD
   refine⟨C,κset_same _ _ _,?_⟩
   show wU Mc.H C 0 C.len v
   rw[up.H];exact hS
  ·cases h
 ·rename_i t id n
  split at h
  ·rename_i s xs an
   obtain⟨e,hx⟩:=kl h
   subst e
   subst hx
   obtain⟨C,hC,hO⟩:=gQ.obj id _ an
   let C':qC:={C with len:=(xs.take n).length}
   have rL:yW (Mc.add nm (.arr true s (xs.take n)) C') (.arr true s (xs.take n)) C':=by
    obtain⟨q1,q2,q3,q4⟩:=vBm (Mc:=Mc.add nm (.arr true s (xs.take n)) C') ⟨up.H,up.G⟩ hO
    refine⟨rfl,q2,q3,?_⟩
    show match C.blk with
     |none=>_
     |some B=>_
    cases hB:C.blk with
    |none=>rw[hB] at q4;show xs.take n=[];rw[q4];simp
    |some B=>
     rw[hB] at q4
     obtain⟨vals,e,r1,r2,r3,r4⟩:=q4
     have hle:(xs.take n).length≤xs.length:=by rw[List.length_take];omega
     have:=Nat.mul_le_mul_right s.size hle
     refine⟨vals,e,r1,r2,by omega,fun i hi=>?_⟩
     rw[List.getElem_take]
     exact r4 i (by omega)
   obtain⟨k1,k2,k3⟩:=zL.add_ok ok aS (o:=.arr true s (xs.take n)) (C:=C') rL (hb id (by simp[vX]) C hC)
   refine⟨Mc.add nm (.arr true s (xs.take n)) C',rfl,rfl,rfl,rfl,k1,k2,fun b bB=>(k3 b bB).imp (fun h=>h) fun h=>⟨id,by simp[vX],C,hC,h⟩,fun v hv=>?_⟩
   obtain⟨C1,gO,h1,hS,_⟩:=hv
   rw[hC] at gO;cases gO
   have hl:(xs.take n).length=n:=by rw[List.length_take,←hO.1];omega
   refine⟨C',κset_same _ _ _,?_⟩
   show wU Mc.H C' 0 (xs.take n).length v
   rw[hl,up.H]
   exact hS
  ·cases h
 ·rename_i t
  cases h
  obtain⟨k1,k2,k3⟩:=Mc.nilObj_ok ok aS t false
  refine⟨Mc.nilObj nm (jm t false) (kP t false),rfl,rfl,rfl,rfl,k1,k2,by grind,fun v hv=>?_⟩
  rw[show v=.slice none 0 0 from hv]
  exact⟨_,κset_same _ _ _,none,0,rfl,rfl,rfl,rfl⟩
 ·rename_i id
  split at h
  ·rename_i ver xs an
   cases h
   obtain⟨C,hC,hO⟩:=gQ.obj id _ an
   obtain⟨k1,k2,k3⟩:=zL.add_ok ok aS (o:=.mat 0 d) (C:={C with ver:=0}) (Sa (Mc:=Mc.add nm (.mat 0 d) {C with ver:=0}) ⟨up.H,up.G⟩ hO) (hb id (by simp[vX]) C hC)
   refine⟨Mc.add nm (.mat 0 d) {C with ver:=0},rfl,rfl,rfl,rfl,k1,k2,fun b bB=>(k3 b bB).imp (fun h=>h) fun h=>⟨id,by simp[vX],C,hC,h⟩,fun v hv=>?_⟩
   obtain⟨C',aD,hS⟩:=hv
   rw[hC] at aD;cases aD
   refine⟨_,κset_same _ _ _,?_⟩
   show wU Mc.H C 0 C.len v
   rw[up.H];exact hS
  ·rename_i ver xs n an
   obtain⟨hc,h⟩:Nat.beq xs.length n=true∧some xs=some d:=by
    cases e:Nat.beq xs.length n with
    |true=>rw[e] at h;exact⟨rfl,h⟩
    |false=>rw[e] at h;cases h
   cases h
   obtain⟨C,hC,hO⟩:=gQ.obj id _ an
   obtain⟨k1,k2,k3⟩:=zL.add_ok ok aS (o:=.mat 0 d) (C:={C with ver:=0}) (vLu (Mc:=Mc.add nm (.mat 0 d) {C with ver:=0}) ⟨up.H,up.G⟩ hO (Nat.eq_of_beq_eq_true hc)) (hb id (by simp[vX]) C hC)
   refine⟨Mc.add nm (.mat 0 d) {C with ver:=0},rfl,rfl,rfl,rfl,k1,k2,fun b bB=>(k3 b bB).imp (fun h=>h) fun h=>⟨id,by simp[vX],C,hC,h⟩,fun v hv=>?_⟩
   obtain⟨C',aD,hS⟩:=hv
   rw[hC] at aD;cases aD
   refine⟨_,κset_same _ _ _,?_⟩
   show wU Mc.H C 0 C.len v
   rw[up.H];exact hS
  ·cases h
 ·cases h
  obtain⟨k1,k2,k3⟩:=Mc.nilObj_ok ok aS (.int .i64) true
  refine⟨Mc.nilObj nm (jm (.int .i64) true) (kP (.int .i64) true),rfl,rfl,rfl,rfl,k1,k2,by grind,fun v hv=>?_⟩
  rw[show v=.slice none 0 0 from hv]
  exact⟨_,κset_same _ _ _,none,0,rfl,rfl,rfl,rfl⟩
 ·rename_i id
  split at h
  ·rename_i xs an
   cases h
   obtain⟨C,hC,hO⟩:=gQ.obj id _ an
   obtain⟨k1,k2,k3⟩:=zL.add_ok ok aS (o:=.pmat 0 [] xs.length) (C:={C with ver:=0}) (vIr (Mc:=Mc.add nm (.pmat 0 [] xs.length) {C with ver:=0}) ⟨up.H,up.G⟩ hO) (hb id (by simp[vX]) C hC)
   refine⟨Mc.add nm (.pmat 0 [] xs.length) {C with ver:=0},rfl,rfl,rfl,rfl,k1,k2,fun b bB=>(k3 b bB).imp (fun h=>h) fun h=>⟨id,by simp[vX],C,hC,h⟩,fun v hv=>?_⟩
   obtain⟨C',aD,hS⟩:=hv
   rw[hC] at aD;cases aD
   refine⟨_,κset_same _ _ _,?_⟩
   show wU Mc.H C 0 C.len v
   rw[up.H];exact hS
  ·cases h
 ·cases h
  obtain⟨k1,k2,k3⟩:=zL.add_ok ok aS (o:=.pmat 0 [] 0) (C:=⟨none,0,1,0,[]⟩) ⟨rfl,rfl,rfl,rfl,by simp[qC.fp],Nat.le_refl _,rfl⟩ (nofun)
  refine⟨Mc.add nm (.pmat 0 [] 0) ⟨none,0,1,0,[]⟩,rfl,rfl,rfl,rfl,k1,k2,fun b bB=>(k3 b bB).imp (fun h=>h) nofun,fun v hv=>?_⟩
  rw[show v=.slice none 0 0 from hv]
  exact⟨_,κset_same _ _ _,none,0,rfl,rfl,rfl,rfl⟩
 ·rename_i id
  split at h
  ·rename_i cW an
   cases h
   obtain⟨C,hC,hO⟩:=gQ.obj id _ an
   have rL:yW (Mc.add nm (.imap d) C) (.imap d) C:=by
    obtain⟨B,es,ck,h1,h2,h3,h4,h5⟩:=hO
    refine⟨B,es,ck,h1,h2,?_,h4,h5⟩
    show Mc.H[B]? =_
    rw[up.H];exact h3
   obtain⟨k1,k2,k3⟩:=zL.add_ok ok aS (o:=.imap d) (C:=C) rL (hb id (by simp[vX]) C hC)
   refine⟨Mc.add nm (.imap d) C,rfl,rfl,rfl,rfl,k1,k2,fun b bB=>(k3 b bB).imp (fun h=>h) fun h=>⟨id,by simp[vX],C,hC,h⟩,fun v hv=>?_⟩
   obtain⟨C',B,aD,hB,e⟩:=hv
   rw[hC] at aD;cases aD
   exact⟨C,B,κset_same _ _ _,hB,e⟩
  ·cases h
 ·exact same rfl fun v hv=>hv
 ·exact same rfl fun v hv=>hv.one
 ·cases h
theorem K8 r c l cs:vX (r::l) (c::cs)=vX [r] [c]++vX l cs:=by
 cases r<;>cases c<;>rfl
theorem yZz {nm r d n}(h:n≠nm) hh:qL hh (pN nm r d).2 n=hh n:=by
 cases r<;>first|rfl|exact yQ _ _ h
theorem Sb {h}:∀{n nm},uk h nm n=true→∀i,i<n→h (nm+i)=none
 |n+1,nm,e,i,hi=>by
  unfold uk at e
  rw[Bool.and_eq_true] at e
  cases i with
  |zero=>
   grind
  |succ i=>rw[←Sb e.2 i (by omega)];grind
theorem Sc {L:zL}(gQ:Ok L):∀{l:List RC} {cs:List zX} {d:RL l} {nm:Nat} {Mc:zL},Ok Mc→Up L Mc→(∀i,i<l.length→Mc.h (nm+i)=none)→jq L.h l cs=some d→(vX l cs).Nodup→
  (∀id∈vX l cs,∃o,L.h id=some o∧o.owned=true)→
  (∀id∈vX l cs,∀C,L.κ id=some C→∀b∈C.fp,¬qS Mc b∧¬Mc.F b∧b<Mc.H.size)→
  ∃ew:zL,ew.H=Mc.H∧ew.G=Mc.G∧ew.F=Mc.F∧ew.h=qL Mc.h (np nm l d).2∧Ok ew∧yL Mc ew∧
   (∀b,qS ew b→qS Mc b∨∃id∈vX l cs,∃C,L.κ id=some C∧b∈C.fp)∧∀vs,zM (zY L) cs vs→zM (zY ew) (np nm l d).1 vs
 |[],[],d,nm,Mc,ok,up,_,_,_,_,_=>⟨Mc,rfl,rfl,rfl,rfl,ok,.refl Mc,fun b h=>.inl h,fun vs h=>by
  cases vs with
  |nil=>trivial
  |cons _ _=>exact h.elim⟩
 |r::l,c::cs,d,nm,Mc,ok,up,hf,h,dz,aK,hb=>by
  unfold jq at h
  split at h
  ·rename_i x xs e1 e2
   cases h
   rw[K8] at dz aK hb
   obtain⟨nd1,nd2,nd3⟩:=List.nodup_append.1 dz
   obtain⟨M1,a1,a2,a3,a4,a5,a6,a7,a8⟩:=vQl gQ ok up (by have:=hf 0 (by simp);simpa using this) e1 (by grind)
   have up1:Up L M1:=⟨a1.trans up.H,a2.trans up.G⟩
   obtain ⟨M2, b1, b2, b3, b4, b5, b6, b7, b8⟩ := Sc gQ (nm := nm + 1) a5 up1 (fun i hi=>by
     rw[a4,yZz (by omega)]
     have:=hf (i+1) (by simp;omega)
     grind) e2 nd2 (fun id an => aK id (by grind)) (fun id an C hC b BY=>by
     obtain⟨q1,q2,q3⟩:=hb id (List.mem_append_right _ an) C hC b BY
     refine⟨fun ho=>?_,by simp_all,by simp_all⟩
     rcases a7 b ho with ho|⟨jd,cX,D,hD,Sd⟩
     ·exact q1 ho
     ·have bm:id≠jd:=by grind
      obtain⟨o1,p1,p2⟩:=aK id (by grind)
      obtain⟨o2,p3,p4⟩:=aK jd (List.mem_append_left _ cX)
      exact gQ.disj id jd o1 o2 C D b bm p1 p3 p2 p4 hC hD BY Sd)
   refine⟨M2,b1.trans a1,b2.trans a2,b3.trans a3,?_,b5,a6.trans (by simp_all) b6,fun b bB=>?_,fun vs dy=>?_⟩
   ·show M2.h=qL Mc.h ((pN nm r x).2++(np (nm+1) l xs).2)
    rw[kk,←a4];exact b4
   ·rw[K8]
    grind
   ·cases vs with
    |nil=>exact dy.elim
    |cons v vs=>exact⟨(a8 v dy.1).ext b6,b8 vs dy.2⟩
  ·cases h
 |[],_::_,_,_,_,_,_,_,h,_,_,_=>by cases h
 |_::_,[],_,_,_,_,_,_,h,_,_,_=>by cases h
theorem wC {α:Type}{c x}{y:α}(h:(bif c then x else none)=some y):c=true∧x=some y:=by
 grind
theorem yB2 {M}:∀{l xs cs vs},R2 l xs=some cs→zM (tV M) xs vs→
  cs.length=(l.flatMap (·.2)).length∧∃us:List Value,zM (zY M) cs us∧∀M' aO,zM (zY M') aO us→zM (tV M') (R3 l aO) vs
 |[],[],cs,[],h,_=>by cases h;exact⟨rfl,[],trivial,fun _ _ _=>trivial⟩
 |(b,l)::ls,(g,lH)::rest,cs,v::vs,h,hv=>by
  obtain⟨hc,h⟩:=wC h
  split at h
  ·rename_i r hr
   cases h
   rw[Bool.and_eq_true] at hc
   have hl:lH.length=l.length:=by simp_all
   obtain⟨k1,us,k2,k3⟩:=yB2 hr hv.2
   refine⟨by simp_all,?_⟩
   cases b with
   |true=>
    have hg:g=true:=hc.1
    subst hg
    obtain⟨ws,rfl,hw⟩:=hv.1
    refine⟨ws.toList++us,hw.append k2,fun M' aO h'=>⟨?_,?_⟩⟩
    ·have h1:=zM.take l.length h'
     have Se:=hw.length
     rw[show(ws.toList++us).take l.length=ws.toList from by simp_all] at h1
     exact⟨ws,rfl,h1⟩
    ·have h1:=zM.drop l.length h'
     have Se:=hw.length
     simp_all
   |false=>
    have hg:=hc.1
    simp  at hg
    obtain⟨K9,hg2⟩:=hg
    subst K9
    have rO:lH.length=1:=by simp_all
    match lH,rO with
    |[c],_=>
     have mu:zY M c v:=hv.1
     refine⟨v::us,⟨mu,k2⟩,fun M' aO h'=>?_⟩
     match aO,h' with
     |c'::Sf,h'=>
      have e:l.length=1:=by omega
      refine⟨?_,?_⟩
      ·rw[e]
       exact h'.1
      ·rw[e]
       exact k3 M' Sf h'.2
  ·cases h
 |[],[],_,_::_,_,hv=>hv.elim
theorem yRn {M}{s:RS}{v cs rv}(h:s.get v=some cs)(hv:zW M v rv):
  cs.length=s.cells.length∧∃us:List Value,zM (zY M) cs us∧∀M' aO,zM (zY M') aO us→zW M' (s.mk aO) rv:=by
 unfold RS.get at h
 split at h
 ·cases h
  refine⟨rfl,[rv],⟨hv,trivial⟩,fun M' aO h'=>?_⟩
  match aO,h' with
  |[c'],h'=>exact h'.1
 ·obtain⟨hl,h⟩:=wC h
  cases h
  obtain⟨vs,rfl,hx⟩:=hv
  exact⟨Nat.eq_of_beq_eq_true hl,vs.toList,hx,fun M' aO h'=>⟨vs,rfl,h'⟩⟩
 ·obtain⟨vs,rfl,hx⟩:=hv
  obtain⟨k1,us,k2,k3⟩:=yB2 h hx
  exact⟨k1,us,k2,fun M' aO h'=>⟨vs,rfl,by grind⟩⟩
 ·cases h
theorem vCr {h0 s a a' v u M}(ok:Ok M)(hf:wT h0 M.h)(hv:zW M a v)(h:um h0 s a=some (a',u)):
  ∃L:zL,L.H=M.H∧L.h=qL M.h u∧Ok L∧yY M L∧zW L a' v∧wT h0 L.h:=by
 unfold um at h
 split at h
 ·rename_i p x
  split at h
  ·rename_i y u1 e
   cases h
   obtain⟨L,h1,h2,h3,h4,h5,h6⟩:=uq (cs:=[x]) (vs:=[v]) ok hf ⟨hv,trivial⟩ e
   exact⟨L,h1,h2,h3,h4,h5.1,h6⟩
  ·cases h
 ·split at h
  ·rename_i ys u1 e
   cases h
   obtain⟨vs,rfl,hx⟩:=hv
   obtain⟨L,h1,h2,h3,h4,h5,h6⟩:=uq ok hf hx e
   exact⟨L,h1,h2,h3,h4,⟨vs,rfl,h5⟩,h6⟩
  ·cases h
 ·cases h
  exact⟨M,rfl,rfl,ok,.refl M,hv,hf⟩
theorem ur.ext {M M'}(x:yL M M'):∀{as vs},zM (zW M) as vs→zM (zW M') as vs:=fun h=>h.mono fun _ _ h=>h.ext x
theorem vBq {h0}:∀{l as eG vs u M},Ok M→wT h0 M.h→zM (zW M) as vs→pO h0 l as=some (eG,u)→
  ∃L:zL,L.H=M.H∧L.h=qL M.h u∧Ok L∧yY M L∧zM (zW L) eG vs∧wT h0 L.h
 |s::l,a::as,eG,v::vs,u,M,ok,hf,hv,h=>by
  unfold pO at h
  split at h
  ·rename_i a1 u1 Sg pA e1 e2
   cases h
   obtain⟨M1,h1,h2,h3,h4,h5,h6⟩:=vCr ok hf hv.1 e1
   obtain⟨M2,k1,k2,k3,k4,k5,k6⟩:=vBq h3 h6 (ur.ext h4.ext hv.2) e2
   exact⟨M2,k1.trans h1,by rw[k2,h2,kk],k3,h4.trans k4,⟨h5.ext k4.ext,k5⟩,k6⟩
  ·cases h
 |[],as,eG,vs,u,M,ok,hf,hv,h=>by
  cases as<;>cases h<;>exact⟨M,rfl,rfl,ok,.refl M,hv,hf⟩
 |s::l,[],eG,vs,u,M,ok,hf,hv,h=>by cases h;exact⟨M,rfl,rfl,ok,.refl M,hv,hf⟩
def zL.over (M L:zL):zL:={κ:=M.κ,F:=fun b=>M.F b∨L.G b,G:=L.G,h:=M.h,H:=L.H}
theorem zL.over_ok {M Ml L}(ok:Ok M)(gQ:Ok L)(lo:Lo M Ml)(G0:∀b,¬qS Ml b)(g:iK Ml L):Ok (M.over L)∧yY M (M.over L):=by
 have bg:∀b,Ml.F b↔b<M.H.size:=fun b=>by rw[lo.F]
 have bX:∀b,b<M.H.size→L.H[b]? =M.H[b]? :=fun b hb=>by rw[g.same b (by grind),lo.H]
 have dN:M.H.size≤L.H.size:=by grind
 have hG:∀b,L.G b→b<M.H.size→M.G b:=fun b hb hs=>by
  rcases g.Gb b hb (by rw[lo.H];exact hs) with h|h
  ·rw[lo.G] at h;exact h
  simp_all
 have jb:∀b,M.F b→b<M.H.size:=ok.Flt
 have x:yL M (M.over L):=⟨fun id C h=>⟨C,h,C.le_refl⟩,fun b h=>.inl h,fun b h=>g.G b (by rw[lo.G];exact h),fun b h=>bX b (by grind),fun b h=>bX b (ok.Flt b (ok.GF b h)),fun b h=>Br (bX b h)⟩
 have aK:∀b,qS (M.over L) b→qS M b:=fun b h=>h
 refine⟨⟨fun id o h=>?_,fun id h=>ok.non id h,ok.disj,fun b h=>⟨fun hf=>?_,?_⟩,fun b h=>.inr h,fun b h=>?_⟩,⟨x,dN,fun b hb _=>bX b hb,by grind,fun b h hs=>.inl (hG b h hs),fun b h hs=>?_⟩⟩
 ·obtain⟨C,hC,hO⟩:=ok.obj id o h
  exact⟨C,hC,hO.ext x fun ho b hb=>bX b (ok.own b ⟨id,o,C,h,ho,hC,hb⟩).2⟩
 ·have:=ok.own b (aK b h)
  rcases hf with hf|hf
  ·simp_all
  ·exact this.1 (ok.GF b (by grind))
 ·have h1:=(ok.own b (aK b h)).2
  show b<L.H.size
  omega
 ·show b<L.H.size
  rcases h with h|h
  ·grind
  ·exact gQ.Flt b (gQ.GF b h)
 ·rcases h with h|h
  ·simp_all
  ·exact .inl (ok.GF b (hG b h hs))
theorem vXp {h0 r c d}(h:oe h0 r c=some d):∀id∈vX [r] [c],∃o,h0 id=some o∧o.owned=true:=by
 unfold oe at h
 split at h
 all_goals (try (intro id an;simp[vX] at an;done))
 ·intro BR an
  have:=List.mem_singleton.1 an
  subst this
  split at h
  ·exact⟨_,by assumption,rfl⟩
  ·cases h
 ·intro BR an
  have:=List.mem_singleton.1 an
  subst this
  split at h
  ·exact⟨_,by omega,rfl⟩
  ·cases h
 ·rename_i id
  intro BR an
  have:=List.mem_singleton.1 an
  subst this
  split at h
  ·exact⟨_,by assumption,rfl⟩
  ·exact⟨_,by omega,rfl⟩
  ·cases h
 ·intro BR an
  have:=List.mem_singleton.1 an
  subst this
  split at h
  ·exact⟨_,by assumption,rfl⟩
  ·cases h
 ·intro BR an
  have:=List.mem_singleton.1 an
  subst this
  split at h
  ·exact⟨_,by assumption,rfl⟩
  ·cases h
 ·cases h
theorem uu {L:zL}:∀{l cs d},jq L.h l cs=some d→∀id∈vX l cs,∃o,L.h id=some o∧o.owned=true
 |r::l,c::cs,d,h,id,an=>by
  unfold jq at h
  split at h
  ·rename_i x xs e1 e2
   rw[K8] at an
   rcases List.mem_append.1 an with an|an
   ·exact vXp e1 id an
   ·exact uu e2 id an
  ·cases h
theorem yEw {E}(hE:fJ E)(hS:iJ E.sums)(hm:E.P.follows .mixedOrders=true){A k pre na f fn}(hf:E.P.funcs[f]? =some fn)(hL:∀c,fn.body=some c→wE E.P A pre na fn.ntmps c)(bY:∀vs w,(callFunc f vs).run E.P w=.ok (.enter f vs) w)
  {as rs X S pack} {unpack:RL rs.cells→X} (eP:∀d,pack (unpack d)=d) (aT:∀d x,S d=some x→∀Ml vs,zM (zW Ml) (od as d).1 vs→∃ez,zM (zW Ml) ez vs∧ja E A k pre na fn ez (od as d).2 (lK rs unpack)=some x)
  {nm args h v u} (hy:yI (nq as rs S pack nm args h) v u):rY E.P f args h v u:=by
 intro M w vs hh hH ok hv
 refine .inl ⟨bY vs w,?_⟩
 unfold nq at hy
 split at hy
 ·exact hy.elim
 rename_i ez u0 xT
 split at hy
 case h_2=>exact hy.elim
 rename_i d hd
 obtain⟨hc,hy⟩:=xD hy
 rw[Bool.and_eq_true] at hc
 obtain⟨x,hx,rfl,rfl⟩:=hy
 subst hh
 obtain⟨M1,a1,a2,a3,a4,a5,a6⟩:=vBq ok (wT.refl _) hv xT
 rw[←a2] at hd
 obtain⟨Ml,lo,b2,b3,b4,b5⟩:=vNw a3 a5 hd
 obtain⟨aaW,xU,Sh⟩:=aT d x hx Ml _ b5
 refine Calls.mono (R0 hE hS hm hf hL Sh b2 (by rw[lo.H,a1];exact hH) b3 xU) fun e w' he=>?_
 cases e with
 |panicked _=>omega
 |outgrown=>omega
 |returned rv=>
  obtain⟨L0,v0,st,hK,c1,c2,c3,c4,_,c5,c6,c7,c8,_⟩:=he
  have hK:GY st.h rs v0=some (pack x):=by
   unfold lK at hK
   grind
  unfold GY at hK
  split at hK
  case h_2=>cases hK
  rename_i cs mz
  split at hK
  case h_2=>cases hK
  rename_i aO u1 xV
  obtain⟨dz,hK⟩:=wC hK
  obtain⟨hlen,us,d1,d2⟩:=yRn mz c5
  rw[←c1] at xV hK
  obtain⟨L,e1,e2,e3,e4,e5,e6⟩:=uq c3 (wT.refl _) d1 xV
  rw[←e2] at hK
  have g:iK Ml L:=c4.trans e4.grow
  obtain⟨f1,f2⟩:=zL.over_ok a3 e3 lo b4 g
  have og:∀i,i<rs.cells.length→(M1.over L).h (nm+i)=none:=fun i hi=>by
   have h1:=Sb hc.1 i hi
   show M1.h (nm+i)=none
   rcases a6 (nm+i) with h|⟨own,t,xs,h,_⟩|⟨ver,xs,h,_⟩
   all_goals simp_all
  obtain ⟨Mc, g1, g2, g3, g4, g5, g6, g7, g8⟩ := Sc e3 f1 ⟨rfl, rfl⟩ og hK (BK dz) (uu hK) (fun id an C hC b hb=>by
   obtain⟨o,ho,gP⟩:=uu hK id an
   have aK:qS L b:=⟨id,o,C,ho,gP,hC,hb⟩
   have kj:¬b<M1.H.size:=fun bg=>b4 b (g.own b aK (by rw[lo.H];omega))
   refine⟨fun h=>kj (a3.own b h).2,fun h=>?_,(e3.own b aK).2⟩
   rcases h with h|h
   ·exact kj (a3.Flt b h)
   ·exact(e3.own b aK).1 (e3.GF b h))
  have Si:yY M1 Mc:=by
   have aK:∀b,qS Mc b→b<M1.H.size→qS M1 b:=fun b hb bg=>by
    rcases g7 b hb with h|⟨id,an,C,hC,BY⟩
    ·exact h
    ·obtain⟨o,ho,gP⟩:=uu hK id an
     exact absurd (g.own b ⟨id,o,C,ho,gP,hC,BY⟩ (by rw[lo.H];omega)) (b4 b)
   refine⟨f2.ext.trans f2.size g6,?_,fun b hb hn=>?_,aK,fun b hb bg=>?_,fun b hb bg=>?_⟩
   ·rw[g1];exact f2.size
   ·rw[g1];exact f2.frame b hb hn
   ·rw[g2] at hb;exact f2.Gb b hb bg
   ·rw[g3] at hb;exact f2.Fb b hb bg
  refine⟨Mc,⟨c6,c7,c8,?_,?_,g5,a4.trans Si⟩,?_⟩
  ·rw[g1];show L.H=_;rw[e1,c2]
  ·rw[kk,←a2];exact g4
  ·exact d2 Mc _ (g8 us e5)
theorem vGn {E}(hE:fJ E)(hS:iJ E.sums)(hm:E.P.follows .mixedOrders=true){A k pre na f fn}(hf:E.P.funcs[f]? =some fn)(hL:∀c,fn.body=some c→wE E.P A pre na fn.ntmps c)(bY:∀vs w,(callFunc f vs).run E.P w=.ok (.enter f vs) w)
  {as rs X S} {pack:X→RL rs.cells} {unpack} (eP:∀d,pack (unpack d)=d) (aT:∀d,ja E A k pre na fn (od as d).1 (od as d).2 (lK rs unpack)=S d)
  {nm args h v u} (hy:yI (nq as rs S pack nm args h) v u):rY E.P f args h v u:=
 yEw hE hS hm hf hL bY eP (fun d x hx _ _ hv=>⟨_,hv,(aT d).trans hx⟩) hy
theorem vMm {E}(hE:fJ E)(hS:iJ E.sums)(hm:E.P.follows .mixedOrders=true){A k pre na f fn}(hf:E.P.funcs[f]? =some fn)(hL:∀c,fn.body=some c→wE E.P A pre na fn.ntmps c)(bY:∀vs w,(callFunc f vs).run E.P w=.ok (.enter f vs) w)
  {sh t rs X} {S:List t.den→Option X} {pack unpack} (eP:∀d,pack (unpack d)=d) (cI:∀x,S []=some x→ja E A k pre na fn [.c .nsl] (kR []) (lK rs unpack)=some x)
  (aT:∀xs x,S xs=some x→ja E A k pre na fn [.c (.nfl sh t xs)] (kR []) (lK rs unpack)=some x)
  {nm args h v u} (hy:yI (nq [.c (.dat sh t)] rs (fun d=>S d.1) pack nm args h) v u):rY E.P f args h v u:=
 yEw hE hS hm hf hL bY eP (fun d x hx Ml vs hv=>by
  obtain⟨xs,_⟩:=d
  match vs,hv with
  |[v],hv=>
   have mu:qF Ml.H (bif sh then Ml.G else Ml.F) (.sl t) xs (fun _=>some v):=hv.1
   have nX:=mu
   simp[qF] at mu
   obtain⟨A',n,c,rfl,hn,hc,h⟩:=mu
   cases A' with
   |some a=>exact⟨[.c (.nfl sh t xs)],⟨⟨by simp,nX⟩,trivial⟩,aT xs x hx⟩
   |none=>
    rcases h with⟨rfl,h0⟩|⟨B,o,e,_⟩
    ·have h0:=h0 rfl
     subst h0
     subst hn
     exact⟨[.c .nsl],⟨rfl,trivial⟩,cI x hx⟩
    ·cases e) hy
def yS.orElse:yS→yS→yS
 |.alts [],b=>b
 |a,_=>a
abbrev mA:=Nat→Nat→List zT→Hp→yS
def eQ:List (Nat×mA)→Kg
 |[],_,_,_,_,_=>.stuck
 |(g,e)::l,k,nm,f,args,h=>bif Nat.beq g f then(e k nm args h).orElse (eQ l k nm f args h) else eQ l k nm f args h
def yL9 (P:Program)(r:Nat×mA):Prop:=∀k nm args h v u,yI (r.2 k nm args h) v u→rY P r.1 args h v u
def G1 (e:mA):Prop:=∀k nm (args:List zT) h h',(args.any wI=false→∀id,(id∈args.flatMap yN∨mg nm id=true)→h id=h' id)→(args.any wI=true→h=h')→e k nm args h=e k nm args h'
theorem vR4 {a b v u}(h:yI (a.orElse b) v u):yI a v u∨yI b v u:=by
 unfold yS.orElse at h
 grind
theorem ySa {P}:∀{l},(∀r∈l,yL9 P r)→yPx P (eQ l)
 |[],_=>nofun
 |(g,e)::l,hl=>fun k nm f args h v u hy=>by
  have ih:=ySa (l:=l) fun r hr=>hl r (by grind)
  unfold eQ at hy
  cases hg:Nat.beq g f with
  |false=>rw[hg] at hy;exact ih k nm f args h v u hy
  |true=>
   rw[hg] at hy
   have:g=f:=by simp_all
   subst this
   rcases vR4 hy with hy|hy
   ·exact hl (g,e) (by simp) k nm args h v u hy
   ·exact ih k nm g args h v u hy
theorem yNz:∀{l},(∀r∈l,G1 r.2)→iJ (eQ l)
 |[],_=>fun k nm f args h h' _ _=>rfl
 |(g,e)::l,hl=>fun k nm f args h h' h1 h2=>by
  have ih:=yNz (l:=l) (by grind) k nm f args h h' h1 h2
  unfold eQ
  have he:e k nm args h=e k nm args h':=hl (g,e) (by simp) k nm args h h' h1 h2
  rw[ih,he]
section
variable {h h':Hp}
theorem vZe {t c}(hh:∀id∈vG c,h id=h' id):xQ h t c=xQ h' t c:=by
 have e:=KW hh
 unfold xQ
 grind
theorem yRg {p c}(hh:∀id∈vG c,h id=h' id):sg h p c=sg h' p c:=by
 have e:=fun t=>vZe (t:=t) hh
 unfold sg
 grind
theorem yKt:∀{l cs},(∀id∈cs.flatMap vG,h id=h' id)→xR h l cs=xR h' l cs
 |[],[],_
 |[],_::_,_
 |_::_,[],_=>rfl
 |p::l,c::cs,hh=>by
  simp  at hh
  unfold xR
  rw[yRg fun id hi=>hh id (.inl hi),yKt (by grind)]
theorem vG4 {ls}:sj h ls []=sj h' ls []:=by
 cases ls<;>rfl
theorem vLs {s:AS}{a}(hb:wI a=false):s.get h a=s.get h' a:=by
 unfold AS.get
 cases s with
 |c p=>grind
 |agg l=>grind
 |ptr l=>
  cases a with
  |c x=>cases x<;>first|rfl|(exact absurd hb (by nofun))
  |_=>rfl
 |fn f bp=>
  cases a with
  |c x=>cases x with
   |fn g ids=>
    cases ids with
    |nil=>dsimp only;rw[vG4]
    |cons _ _=>exact absurd hb (by nofun)
   |_=>rfl
  |_=>rfl
theorem vJ7 {s:AS}{a cs}(hb:wI a=false)(e:s.get h a=some cs):∀id∈cs.flatMap vG,id∈yN a:=by
 unfold AS.get at e
 split at e
 ·cases e;intro id an;simp  at an;exact an
 ·obtain⟨_,e⟩:=wC e
  cases e;exact fun id an=>an
 ·exact absurd hb (by nofun)
 ·rename_i f bp g ids
  obtain⟨_,e⟩:=wC e
  cases ids with
  |nil=>cases bp with
   |nil=>cases e;simp
   |cons _ _=>cases e
  |cons _ _=>exact absurd hb (by nofun)
 ·cases e
theorem ySk:∀{l as},as.any wI=false→pM h l as=pM h' l as
 |[],[],_
 |[],_::_,_
 |_::_,[],_=>rfl
 |s::l,a::as,hb=>by
  simp only[List.any_cons,Bool.or_eq_false_iff] at hb
  unfold pM
  rw[vLs (h:=h) (h':=h') hb.1,ySk hb.2]
theorem yGp:∀{l as cs},as.any wI=false→pM h l as=some cs→∀id∈cs.flatMap vG,id∈as.flatMap yN
 |[],[],cs,_,e=>by cases e;simp
 |s::l,a::as,cs,hb,e=>by
  simp only[List.any_cons,Bool.or_eq_false_iff] at hb
  unfold pM at e
  split at e
  ·rename_i c1 rest e1 e2
   cases e
   intro id an
   rw[List.flatMap_append,List.mem_append] at an
   rw[List.flatMap_cons,List.mem_append]
   rcases an with an|an
   ·exact .inl (vJ7 hb.1 e1 id an)
   ·exact .inr (yGp hb.2 e2 id an)
  ·cases e
theorem vY7 {l as}(hb:as.any wI=false)(hh:∀id∈as.flatMap yN,h id=h' id):xS h l as=xS h' l as:=by
 unfold xS
 rw[ySk (h:=h) (h':=h') hb]
 cases e:pM h' l as with
 |none=>rfl
 |some cs=>exact yKt fun id an=>hh id (yGp hb e id an)
theorem BZ {x}:[x].flatMap vG=yN (.c x):=by simp[yN]
theorem Sj {c c' u}(e:mW h c=some (c',u)):(∀id∈vG c',id∈vG c)∧(wI (.c c')=true→wI (.c c)=true):=by
 cases c with
 |osl id r=>
  unfold mW at e
  dsimp only at e
  split at e
  ·cases e;exact⟨nofun,nofun⟩
  ·cases r with
   |none=>cases e;exact⟨nofun,nofun⟩
   |some _=>cases e
  ·cases e
 |mrow _ _ _=>cases e
 |_=>cases e;simp
theorem B1:∀{l cs},(∀id∈cs.flatMap vG,h id=h' id)→fK h l cs=fK h' l cs
 |[],cs,_=>by rfl
 |true::l,[],_
 |false::l,[],_=>rfl
 |true::l,c::cs,hh=>by
  simp  at hh
  unfold fK
  rw[yIb fun id hi=>hh id (.inl hi),B1 (by grind)]
 |false::l,c::cs,hh=>by
  unfold fK
  rw[B1 (by grind)]
theorem B2:∀{l cs aO u},fK h l cs=some (aO,u)→∀id∈aO.flatMap vG,id∈cs.flatMap vG
 |[],cs,aO,u,e=>by cases cs<;>cases e<;>exact by simp
 |true::l,[],aO,u,e
 |false::l,[],aO,u,e=>by cases e;simp
 |true::l,c::cs,aO,u,e=>by
  unfold fK at e
  split at e
  ·rename_i c1 u1 lH pA e1 e2
   cases e
   intro id an
   rw[List.flatMap_cons,List.mem_append] at an⊢
   exact an.imp ((Sj e1).1 id) (B2 e2 id)
  ·cases e
 |false::l,c::cs,aO,u,e=>by
  unfold fK at e
  split at e
  ·rename_i lH pA e2
   cases e
   intro id an
   rw[List.flatMap_cons,List.mem_append] at an⊢
   exact an.imp (by simp) (B2 e2 id)
  ·cases e
theorem vPa {s a}(hh:∀id∈yN a,h id=h' id):um h s a=um h' s a:=by
 unfold um
 cases s with
 |c p=>cases a with
  |c x=>
   have:=B1 (h:=h) (h':=h') (l:=[p.isKept]) (cs:=[x]) (by rw[BZ];exact hh)
   simp_all
  |_=>rfl
 |agg l=>cases a with
  |agg xs=>
   have:=B1 (h:=h) (h':=h') (l:=l.map PC.isKept) (cs:=xs) hh
   simp_all
  |_=>rfl
 |_=>rfl
theorem vXy {s a a' u}(e:um h s a=some (a',u)):(∀id∈yN a',id∈yN a)∧(wI a=false→wI a'=false):=by
 unfold um at e
 split at e
 ·rename_i p x
  split at e
  ·rename_i y u1 e1
   cases e
   refine⟨fun id an=>by have:=B2 e1 id (by rw[BZ];omega);rwa [BZ] at this,fun hb=>?_⟩
   cases hk:p.isKept with
   |false=>rw[hk] at e1;cases e1;exact hb
   |true=>
    rw[hk] at e1
    unfold fK at e1
    split at e1
    ·rename_i c1 u2 lH pA e2 e3
     cases e1
     cases hy:wI (.c y) with
     |false=>rfl
     |true=>rw[(Sj e2).2 hy] at hb;cases hb
    ·cases e1
  ·cases e
 ·split at e
  ·rename_i ys u1 e1
   cases e
   exact⟨B2 e1,fun _=>rfl⟩
  ·cases e
 simp_all
theorem qZe:∀{l as},(∀id∈as.flatMap yN,h id=h' id)→pO h l as=pO h' l as
 |[],as,_=>by rfl
 |_::_,[],_=>rfl
 |s::l,a::as,hh=>by
  simp  at hh
  unfold pO
  rw[vPa fun id hi=>hh id (.inl hi),qZe (by grind)]
theorem yU2:∀{l as eG u},pO h l as=some (eG,u)→(∀id∈eG.flatMap yN,id∈as.flatMap yN)∧(as.any wI=false→eG.any wI=false)
 |[],as,eG,u,e=>by cases as<;>cases e<;>exact by simp
 |s::l,[],eG,u,e=>by cases e;simp
 |s::l,a::as,eG,u,e=>by
  unfold pO at e
  split at e
  ·rename_i a1 u1 Sg pA e1 e2
   obtain⟨k1,k2⟩:=vXy e1
   obtain⟨k3,k4⟩:=yU2 e2
   grind
  ·cases e
theorem Sk:∀{n nm},(∀i,i<n→h (nm+i)=h' (nm+i))→uk h nm n=uk h' nm n
 |0,_,_=>rfl
 |n+1,nm,hh=>by
  unfold uk
  have:=hh 0 (by omega)
  rw[Nat.add_zero] at this
  rw[this,Sk (by grind)]
end
theorem yWf {as rs X}{S:Nat→AD as→Option X}{pack}:G1 fun k nm args h=>nq as rs (S k) pack nm args h:=by
 intro k nm args h h' h1 h2
 cases hb:args.any wI with
 |true=>rw[h2 hb]
 |false=>
  have hh:=h1 hb
  show nq as rs (S k) pack nm args h=nq as rs (S k) pack nm args h'
  unfold nq
  rw[qZe (h:=h) (h':=h') (by grind)]
  cases e:pO h' as args with
  |none=>rfl
  |some p=>
   obtain⟨ez,u⟩:=p
   obtain⟨k1,k2⟩:=yU2 e
   dsimp only
   rw[vY7 (h:=qL h u) (h':=qL h' u) (k2 hb) fun id an=>xK (by grind)]
   cases xS (qL h' u) as ez with
   |none=>rfl
   |some d=>
    cases hle:Nat.ble rs.cells.length 100 with
    |false=>simp
    |true=>
     have hle:=Nat.le_of_ble_eq_true hle
     rw [Sk (h := h) (h' := h') fun i hi => hh _ (.inr (by
      simp only[mg,Bool.and_eq_true]
      exact⟨by simp,by simp[Nat.blt_eq];omega⟩))]
def mB:Code→List Code
 |.seq a b=>mB a++mB b
 |.cond _ a b=>mB a++mB b
 |.block _ b=>mB b
 |.loop b=>[b]
 |_=>[]
def zR (c:Code)(i:Nat):Code:=match(mB c)[i]? with
 |some b=>b
 |none=>.skip
def zS (fn:Func):Code:=match fn.body with
 |some c=>c
 |none=>.skip
def yTj (P:Program)(A:zZ)(pre na nt:Nat)(b:Code):Prop:=(∃L,tS A b=some L∧zU P pre na nt b L)∨(tS A b=none∧wE P A pre na nt b)
theorem vQx {P A pre na nt}:∀c,(∀b∈mB c,yTj P A pre na nt b)→wE P A pre na nt c:=by
 intro c
 induction c with
 |seq a b BH BI=>exact fun h=>⟨BH fun x hx=>h x (List.mem_append_left _ hx),BI fun x hx=>h x (List.mem_append_right _ hx)⟩
 |cond t a b BH BI=>exact fun h=>⟨BH fun x hx=>h x (List.mem_append_left _ hx),BI fun x hx=>h x (List.mem_append_right _ hx)⟩
 |block id b ih=>exact fun h=>ih h
 |loop b ih=>
  intro h
  rcases h b (List.mem_cons_self ..) with⟨L,h1,h2⟩|⟨h1,h2⟩
  ·refine⟨by grind,by grind⟩
  ·refine⟨fun L' h3=>?_,fun _=>h2⟩
   simp_all
 |_=>exact fun _=>trivial
theorem B3 {P A pre na nt c n}(hn:(mB c).length=n)(h:∀i,i<n→yTj P A pre na nt (zR c i)):wE P A pre na nt c:=
 vQx c fun b hb=>by
  obtain⟨i,hi,rfl⟩:=List.getElem_of_mem hb
  have e:zR c i=(mB c)[i]:=by
   unfold zR
   grind
  grind
theorem loopsOK_of {P A pre na nt c n}(hn:(mB c).length=n)(h:∀i,i<n→∃L,tS A (zR c i)=some L∧zU P pre na nt (zR c i) L):wE P A pre na nt c:=
 B3 hn fun i hi=>.inl (h i hi)
theorem vRz {P A pre na nt c}(hn:(mB c).length=0):wE P A pre na nt c:=loopsOK_of hn (by simp)
theorem body_loops {P A pre na fn}(h:wE P A pre na fn.ntmps (zS fn)):∀c,fn.body=some c→wE P A pre na fn.ntmps c:=fun c hc=>by
 unfold zS at h
 simp_all
theorem G2 {P f fn}(hf:P.funcs[f]? =some fn)(hb:fn.body.isNone=false)(hn:(fn.name== "runtime.NumGoroutine")=false):∀vs w,(callFunc f vs).run P w=.ok (.enter f vs) w:=fun vs w=>by
 have h1:(program).run P w=.ok P w:=rfl
 unfold callFunc
 simp only[Sem.run_bind,h1,Result.andThen_ok,hf,hn,hb,Bool.false_eq_true,if_false,Sem.run_pure]
abbrev zA (x:Int):Int:=IntKind.wrap .i64 x
abbrev yJ (k:IntKind)(x y:Int):Int:=rC (fun _ a b=>a&&&b) k x y
abbrev wO (k:IntKind)(x y:Int):Int:=rC (fun _ a b=>a|||b) k x y
abbrev shl (k:IntKind)(x y:Int):Int:=k.wrap (x*2^(min y.toNat k.bits))
abbrev shr (k:IntKind)(x y:Int):Int:=x.fdiv (2^(min y.toNat k.bits))
abbrev zO (n b:Nat):Bool:=Nat.ble (n*b) 140737488355328&&Nat.ble n 140737488355328
abbrev pP (l c:Int)(b:Nat):Bool:=decide (0≤l)&&decide (l≤c)&&decide (c*(b:Int)≤140737488355328)&&decide (c≤140737488355328)
abbrev wJ (lt:Bool)(x y:Int):Int:=bif lt then(bif decide (y<x) then y else x) else(bif decide (y>x) then y else x)
abbrev Sl (xs:List (List Int))(n:Nat):Option (List (List Int)):=
 lK (.c .mat) (fun d=>d.1) (.c (.osl 0 none)) ⟨fun _=>.undef,fun _=>some (.pmat 0 xs n)⟩
theorem vL5 xs n:Sl xs n=bif Nat.beq xs.length n then some xs else none:=by
 unfold Sl lK GY RS.get RS.cells
 dsimp only[List.map,RC.isFro,fK,vX,rD,qL]
 cases h:Nat.beq xs.length n<;>simp[jq,oe,h]
theorem Sm {l:List Nat}{p:Nat→Bool}(hl:∀t∈l,p t=true)(t:Nat)(h:l.any (Nat.beq t)=true):p t=true:=by
 simp_all
theorem vQv {P}:Gr P (fun _=>false):=nofun
open Go.ChangeShapes Go.WideShapes Go.ChangeAt Go.RowKit
def G3 (f:TypeId→Option Ty):Nat→List (Nat×TypeId)→Option Ty
 |_,[]=>none
 |off,[x]=>bif Nat.beq x.1 off then f x.2 else none
 | off, x :: y :: l => bif Nat.beq x.1 off then (match f x.2 with
  |some a=>(match G3 f (off+a.size) (y::l) with|some b=>some (.pair a b)|none=>none)
  |none=>none) else none
def pQ (P:Program):TypeDesc→List (Nat×TypeId)
 |.struct fs=>fs.toList.map fun f=>(f.offset,f.type)
 |.array n e=>(List.range n).map fun i=>(i*P.cellsOf e,e)
 |_=>[]
def nu (P:Program):Nat→TypeId→Option Ty
 |0,_=>none
 |d+1,t=>match P.underlying t with
  |some (.int k)=>bif Nat.beq (P.cellsOf t) 1 then some (.int k) else none
  |some .bool=>bif Nat.beq (P.cellsOf t) 1 then some .bool else none
  |some (.slice e)=>bif Nat.beq (P.cellsOf t) 1&&Nat.ble 1 (P.bytesOf e) then(match nu P d e with|some a=>some (.sl a)|none=>none) else none
  |some x=>match G3 (nu P d) 0 (pQ P x) with
   |some a=>bif Nat.beq (P.cellsOf t) a.size then some a else none
   |none=>none
  |none=>none
def Wf:(t:Ty)→t.den→Prop
 |.int k,n=>(Lit.int k n).wf=true
 |.bool,_=>True
 |.sl t,xs=>xs.length≤reachBytes∧∀i (h:i<xs.length),Wf t xs[i]
 |.pair a b,p=>Wf a p.1∧Wf b p.2
theorem Sn {P}:∀{d t ty},nu P d t=some ty→P.cellsOf t=ty.size
 |d+1,t,ty,h=>by
  unfold nu at h
  split at h
  ·obtain⟨h1,h2⟩:=wC h;cases h2;exact Nat.eq_of_beq_eq_true h1
  ·obtain⟨h1,h2⟩:=wC h;cases h2;exact Nat.eq_of_beq_eq_true h1
  ·obtain⟨h1,h2⟩:=wC h
   rw[Bool.and_eq_true] at h1
   split at h2
   ·cases h2;exact Nat.eq_of_beq_eq_true h1.1
   ·cases h2
  ·split at h
   ·obtain⟨h1,h2⟩:=wC h;simp_all
   ·cases h
  ·cases h
section
variable {H:Type} {enc:TypeId×Value→H} {P:Program} {w:World}
abbrev G4 (w:World):Nat→Prop:=fun b=>b<w.heap.size
theorem vC9 {a n cs}(h:w.cells? 0 a n=some cs):cs.length=n∧∀i,i<n→∃v,cs[i]? =some v∧w.cell? (a.add i)=some v:=by
 have hl:=mapM_some_length h
 have hg:=mapM_some_get h
 simp at hl
 refine⟨hl,fun i hi=>?_⟩
 have:=hg i i (by simp[hi])
 simp_all
theorem vBe {a v}(h:w.cell? a=some v):a.spot=none∧a.block<w.heap.size∧yP w.heap a.block a.off=some v:=by
 unfold World.cell? at h
 cases hb:w.heap[a.block]? with
 |none=>simp_all
 |some o=>
  rw[hb] at h
  cases o with
  |cells c e z=>
   dsimp only at h
   split at h
   ·cases h
   ·refine⟨by simp_all,?_,?_⟩
    ·grind
    ·unfold yP;simp_all
  |_=>cases h
theorem yI0 {α:Type}{p:Nat→α→Prop}:∀n,(∀i,i<n→∃x,p i x)→∃xs:List α,xs.length=n∧∀i h,p i xs[i]
 |0,_=>by simp
 |n+1,h=>by
  obtain⟨xs,h1,h2⟩:=yI0 n fun i hi=>h i (by omega)
  obtain⟨x,hx⟩:=h n (by omega)
  refine⟨xs++[x],by simp[h1],fun i hi=>?_⟩
  grind
def eS (l:List Nat):Prop:=l.all (· ≤reachBytes)=true
theorem oh {l m}:eS (l++m)↔eS l∧eS m:=by simp[eS]
theorem yB0 {P e}{d:DataW H}:∀{l},eS (DataW.weightsAll P e l)→d∈l→eS (d.weights P e)
 |a::l,h,hd=>by
  have h:=oh.1 h
  rcases List.mem_cons.1 hd with rfl|hd
  ·exact h.1
  ·exact yB0 h.2 hd
theorem yJt {P e}:∀{ts} {ds:List (DataW H)},(∀t∈ts,t=e)→eS (DataW.weightsAll P e ds)→eS (DataW.weightsEach P ts ds)
 |t::ts,d::ds,ht,h=>by
  have h:=oh.1 h
  rw[ht t (by simp)]
  exact oh.2 ⟨h.1,yJt (by grind) h.2⟩
 |[],_,_,_=>by simp[DataW.weightsEach,eS]
 |_::_,[],_,_=>by rfl
def La (P:Program)(w:World)(ty:Ty)(cs:List Value):Prop:=∃x:ty.den,cs.length=ty.size∧qF w.heap (G4 w) ty x (fun j=>cs[j]?)∧Wf ty x
theorem yYz {d fuel}(ih:∀t ty cs x,nu P d t=some ty→DataW.trod enc P w 0 (fun _=>true) true fuel t cs=some x→eS (x.1.weights P t)→La P w ty cs):
  ∀l off ty (cs:List Value) out,G3 (nu P d) off l=some ty→off+ty.size≤cs.length→
   (l.mapM fun p=>DataW.trod enc P w 0 (fun _=>true) true fuel p.2 ((cs.drop p.1).take (P.cellsOf p.2)))=some out→eS (DataW.weightsEach P (l.map (·.2)) (out.map (·.1)))→La P w ty ((cs.drop off).take ty.size)
 |[x],off,ty,cs,out,h,hc,hm,hw=>by
  obtain⟨h1,h2⟩:=wC h
  have ho:x.1=off:=by simpa using h1
  simp only[List.mapM_cons,List.mapM_nil,Option.pure_def,Option.bind_eq_bind,Option.bind_eq_some_iff] at hm
  obtain⟨y,hy,_,e,e'⟩:=hm
  cases e;cases e'
  rw[ho,Sn h2] at hy
  exact ih _ _ _ _ h2 hy (oh.1 hw).1
 |x::y::l,off,ty,cs,out,h,hc,hm,hw=>by
  obtain⟨h1,h2⟩:=wC h
  have ho:x.1=off:=by simpa using h1
  split at h2
  ·rename_i a ha
   split at h2
   ·rename_i b hb
    cases h2
    simp only[Ty.size] at hc⊢
    rw[List.mapM_cons] at hm
    simp only[Option.pure_def,Option.bind_eq_bind,Option.bind_eq_some_iff] at hm
    obtain⟨z,hz,zs,hzs,e⟩:=hm
    cases e
    rw[ho,Sn ha] at hz
    have hw:=oh.1 hw
    obtain⟨p,p1,p2,p3⟩:=ih _ _ _ _ ha hz hw.1
    obtain⟨q,q1,q2,q3⟩:=yYz ih (y::l) (off+a.size) b cs zs hb (by omega) hzs hw.2
    refine⟨(p,q),by simp only[List.length_take,List.length_drop,Ty.size];omega,⟨?_,?_⟩,p3,q3⟩
    ·refine yX (fun _ h=>h) (by simp) a p _ _ (fun j hj=>?_) p2
     simp only[List.getElem?_take,List.getElem?_drop]
     rw[if_pos (by omega),if_pos hj]
    grind
   ·cases h2
  ·cases h2
theorem So:∀d t ty fuel cs x,nu P d t=some ty→DataW.trod enc P w 0 (fun _=>true) true fuel t cs=some x→eS (x.1.weights P t)→La P w ty cs
 |0,_,_,_,_,_,h,_,_=>by cases h
 |d+1,t,ty,0,cs,x,_,h,_=>by simp[DataW.trod] at h
 |d+1,t,ty,fuel+1,cs,x,hl,h,hw=>by
  unfold nu at hl
  split at hl
  ·rename_i k hu
   obtain⟨_,hl⟩:=wC hl
   cases hl
   obtain⟨n,rfl,_,uv⟩:=DataW.trod_int hu h
   exact⟨n,rfl,rfl,uv⟩
  ·rename_i hu
   obtain⟨_,hl⟩:=wC hl
   cases hl
   obtain⟨b,rfl,_⟩:=DataW.trod_bool hu h
   exact⟨b,rfl,rfl,trivial⟩
  ·rename_i e hu
   obtain⟨iG,hl⟩:=wC hl
   rw[Bool.and_eq_true] at iG
   have iG:=Nat.le_of_ble_eq_true iG.2
   split at hl
   ·rename_i a ha
    cases hl
    rcases DataW.trod_slice hu h with⟨rfl,_⟩|⟨ad,len,cap,elems,rest,n,hn,rfl,rfl,_,QL,hm,hel,hg,_,_⟩
    ·refine⟨([]:List a.den),rfl,?_,?_⟩
     ·simp only[qF]
      exact⟨none,0,0,rfl,rfl,Nat.le_refl _,.inl ⟨trivial,fun _=>rfl⟩⟩
     ·simp only[Wf]
      exact by simp
    ·unfold DataW.weights at hw
     rw[hu] at hw
     have hw:eS ([((elems.map (·.1)).length+(rest.map (·.1)).length)*P.bytesOf e]++(DataW.weightsAll P e (elems.map (·.1))++DataW.weightsAll P e (rest.map (·.1)))):=hw
     obtain⟨pR,hw⟩:=oh.1 hw
     have hw2:=(oh.1 hw).1
     have hlen:len≤reachBytes:=by
      simp only[eS,List.all_cons,List.all_nil,Bool.and_true,decide_eq_true_eq,List.length_map] at pR
      have:=Nat.mul_le_mul_left (elems.length+rest.length) iG
      omega
     have key:∀i,i<len→∃x:a.den,(qF w.heap (G4 w) a x (fun j=>yP w.heap ad.block (ad.off+i*a.size+j))∧(i=0→ad.spot=none)∧ad.block<w.heap.size)∧Wf a x:=by
      intro i hi
      have h1:=hg i hi
      have RK:i<elems.length:=by omega
      rw[List.getElem?_eq_getElem RK,Option.bind_eq_some_iff] at h1
      obtain⟨cs,mz,htr⟩:=h1
      rw[Sn ha] at mz
      obtain⟨y,y1,y2,y3⟩:=So d e a n cs _ ha htr (yB0 hw2 (by grind))
      obtain⟨c1,c2⟩:=vC9 mz
      have xW:∀j,((ad.add (i*a.size)).add j).block=ad.block∧((ad.add (i*a.size)).add j).off=ad.off+i*a.size+j:=by
       intro j
       unfold Addr.add
       constructor
       ·split<;>split<;>rfl
       ·split<;>split<;>simp_all
      have at0:(i=0→ad.spot=none)∧ad.block<w.heap.size:=by
       obtain⟨v,_,hv⟩:=c2 0 a.size_pos
       have h1:=vBe hv
       refine⟨fun h0=>?_,by have:=h1.2.1;rwa [(xW 0).1] at this⟩
       have h2:=h1.1
       subst h0
       simpa[Addr.add] using h2
      refine⟨y,⟨yX (fun _ h=>h) (fun _ _=>rfl) a y _ _ (fun j hj=>?_) y2,at0⟩,y3⟩
      obtain⟨v,v1,v2⟩:=c2 j hj
      rw[v1]
      have h1:=(vBe v2).2.2
      rwa [(xW j).1,(xW j).2] at h1
     obtain⟨xs,x1,x2⟩:=yI0 len key
     refine⟨xs,rfl,?_,?_⟩
     ·simp only[qF]
      refine⟨some ad,len,cap,rfl,x1.symm,QL,?_⟩
      by_cases h0:xs=[]
      ·exact by grind
      ·refine .inr ⟨ad.block,ad.off,?_,?_,fun i hi=>(x2 i hi).1.1⟩
       ·have:=(x2 0 (List.length_pos_iff.2 h0)).1.2.1 rfl
        cases ad
        simp at this
        rw[this]
       ·exact by grind
     ·simp only[Wf]
      exact by grind
   ·cases hl
  ·rename_i y n1 n2 n3 hu
   split at hl
   ·rename_i a ha
    obtain⟨dN,hl⟩:=wC hl
    cases hl
    have dN:P.cellsOf t=ty.size:=by simpa using dN
    have fin:∀out,cs.length=P.cellsOf t→((pQ P y).mapM fun p=>DataW.trod enc P w 0 (fun _=>true) true fuel p.2 ((cs.drop p.1).take (P.cellsOf p.2)))=some out→eS (DataW.weightsEach P ((pQ P y).map (·.2)) (out.map (·.1)))→La P w ty cs:=by
     intro out hlen jk hw
     have:=yYz (fun t' ty' aO x' h1 h2 h3=>So d t' ty' fuel aO x' h1 h2 h3) (pQ P y) 0 ty cs out ha (by omega) jk hw
     rwa [List.drop_zero,List.take_of_length_le (by omega)] at this
    unfold DataW.trod at h
    rw[hu] at h
    cases y with
    |struct fs=>
     dsimp only at h
     split at h
     ·rename_i hlen
      rw[Option.map_eq_some_iff] at h
      obtain⟨out,ho,rfl⟩:=h
      unfold DataW.weights at hw
      rw[hu] at hw
      refine fin out hlen ?_ (by rw[pQ,List.map_map];exact hw)
      simp only[pQ,List.mapM_map]
      exact ho
     ·cases h
    |array n e=>
     dsimp only at h
     split at h
     ·rename_i hlen
      rw[Option.map_eq_some_iff] at h
      obtain⟨out,ho,rfl⟩:=h
      unfold DataW.weights at hw
      rw[hu] at hw
      refine fin out hlen ?_ (yJt (fun t ht=>by simp[pQ] at ht;exact ht.2.symm) hw)
      simp only[pQ,List.mapM_map]
      exact ho
     ·cases h
    |_=>simp[pQ,G3] at ha
   ·cases hl
  ·cases hl
end
open Go.ChangeShapes Go.WideShapes Go.ChangeAt Go.RowKit
def sk (sh:Bool):Ty→List PC
 |.int k=>[.int k]
 |.bool=>[.bool]
 |.sl t=>[.dat sh t]
 |.pair a b=>sk sh a++sk sh b
def uw:(l m:List PC)→PL l→PL m→PL (l++m)
 |[],_,_,e=>e
 |_::l,m,d,e=>(d.1,uw l m d.2 e)
theorem Sp:∀l m d e,vS (l++m) (uw l m d e)=vS l d++vS m e
 |[],_,_,_=>rfl
 |p::l,m,d,e=>by
  show BX p d.1::vS (l++m) (uw l m d.2 e)=BX p d.1::(vS l d.2++vS m e)
  rw[Sp l m d.2 e]
def pS sh:(t:Ty)→t.den→PL (sk sh t)
 |.int _,n=>(n,())
 |.bool,b=>(b,())
 |.sl _,xs=>(xs,())
 |.pair a b,p=>uw _ _ (pS sh a p.1) (pS sh b p.2)
def WfP:(p:PC)→p.den→Prop
 |.int k,n=>(Lit.int k n).wf=true
 |.bool,_=>True
 |.dat _ t,xs=>Wf (.sl t) xs
 |.fn _,_=>True
 |.nil,_=>True
 |.nilp,_=>True
def sm:(l:List PC)→PL l→Prop
 |[],_=>True
 |p::l,d=>WfP p d.1∧sm l d.2
theorem Sq:∀l m d e,sm l d→sm m e→sm (l++m) (uw l m d e)
 |[],_,_,_,_,h=>h
 |_::l,m,d,e,h,h'=>⟨h.1,Sq l m d.2 e h.2 h'⟩
theorem Sr sh:∀t x,Wf t x→sm (sk sh t) (pS sh t x)
 |.int _,_,h
 |.bool,_,h
 |.sl _,_,h=>⟨h,trivial⟩
 |.pair a b,p,h=>Sq _ _ _ _ (Sr sh a p.1 h.1) (Sr sh b p.2 h.2)
theorem Lb:∀l d,(vS l d).length=l.length
 |[],_=>rfl
 |p::l,d=>by
  show(vS l d.2).length+1=l.length+1
  rw[Lb l d.2]
def M0 (w:World):zL:=⟨fun _=>none,G4 w,G4 w,kR [],w.heap⟩
theorem vZy w:Ok (M0 w) where
 obj:=nofun
 non:=fun _ _=>rfl
 disj:=fun i j oi oj Ci Cj b _ h=>by cases h
 own:=nofun
 GF:=fun _ h=>h
 Flt:=fun _ h=>h
theorem Ss sh {w}:∀t x cs,cs.length=t.size→qF w.heap (G4 w) t x (fun j=>cs[j]?)→zM (zY (M0 w)) (vS (sk sh t) (pS sh t x)) cs
 |.int k,n,cs,hl,h=>by
  match cs,hl with
  |[c],_=>
   have e:c=.int k n:=by simpa[qF] using h
   exact⟨e,trivial⟩
 |.bool,b,cs,hl,h=>by
  match cs,hl with
  |[c],_=>
   have e:c=.bool b:=by simpa[qF] using h
   exact⟨e,trivial⟩
 |.sl t,xs,cs,hl,h=>by
  match cs,hl with
  |[c],_=>
   refine⟨?_,trivial⟩
   have h':=yX (F':=(bif sh then(M0 w).G else(M0 w).F)) (fun b h=>by cases sh<;>exact h) (fun b _=>rfl) (.sl t) xs (fun j=>[c][j]?) (fun _=>some c) (by grind) h
   exact h'
 |.pair a b,p,cs,hl,h=>by
  have dG:cs.length=a.size+b.size:=hl
  have h1:=Ss sh a p.1 (cs.take a.size) (by grind) (yX (fun _ h=>h) (by simp) a p.1 _ _ (by grind) h.1)
  have h2:=Ss sh b p.2 (cs.drop a.size) (by grind) (yX (by simp) (fun _ _=>rfl) b p.2 _ _ (by grind) h.2)
  show zM _ (vS (sk sh a++sk sh b) (uw _ _ (pS sh a p.1) (pS sh b p.2))) cs
  rw[Sp]
  have:=zM.append h1 h2
  simp_all
def pT (sh : Bool) (P : Program) (t : TypeId) (ty : Ty) : AS := bif jP P t == some true then .agg (sk sh ty) else (match ty with
 |.int k=>.c (.int k)|.bool=>.c .bool|.sl t=>.c (.dat sh t)|.pair a b=>.agg (sk sh (.pair a b)))
def Lc (P:Program):List TypeId→Option (List Ty)
 |[]=>some []
 |t::ts=>match nu P 8 t,Lc P ts with
  |some a,some l=>some (a::l)
  |_,_=>none
def sn (sh:Bool)(P:Program):List TypeId→List Ty→List AS
 |t::ts,a::l=>pT sh P t a::sn sh P ts l
 |_,_=>[]
theorem vWy {P t ty}(h:nu P 8 t=some ty)(ha:(jP P t==some true)=false):(∃k,P.underlying t=some (.int k)∧ty=.int k)∨(P.underlying t=some .bool∧ty=.bool)∨∃e a,P.underlying t=some (.slice e)∧ty=.sl a:=by
 unfold nu at h
 split at h
 ·grind
 ·grind
 ·grind
 ·rename_i x _ _ _ hu
  split at h
  ·rename_i a hx
   unfold jP at ha
   rw[hu] at ha
   cases x<;>first|(simp[pQ,G3] at hx;done)|(cases ha)
  ·cases h
 ·cases h
section
variable {H:Type} {enc:TypeId×Value→H} {P:Program} {w:World}
theorem vM3 sh {t ty v d ps base}(hl:nu P 8 t=some ty)(fc:Value.okWide P w .any base t v)(h:DataW.Trod enc P w 0 (fun _=>true) true t v d ps)(hw:eS (d.weights P t)):
  ∃x:PL (pT sh P t ty).cells,(∀n,zW (M0 w) ((pT sh P t ty).mk n (vS _ x)) v)∧(pT sh P t ty).boxes (vS _ x)=[]∧sm _ x:=by
 obtain⟨fuel,hf⟩:=h
 obtain⟨x,x1,x2,x3⟩:=So 8 t ty fuel _ _ hl hf hw
 have dh:=Ss sh ty x _ x1 x2
 have B4:=Sr sh ty x x3
 unfold pT
 cases ha:(jP P t==some true) with
 |true=>
  refine⟨pS sh ty x,fun n=>?_,rfl,B4⟩
  have nf:jP P t=some true:=by simp_all
  have hv:∃cs,v=.agg cs:=by
   unfold jP at nf
   unfold Value.okWide at fc
   grind
  obtain⟨cs,rfl⟩:=hv
  exact⟨cs,rfl,dh⟩
 |false=>
  rcases vWy hl ha with⟨k,hu,rfl⟩|⟨hu,rfl⟩|⟨e,a,hu,rfl⟩
  ·have hv:∃n,v=.int k n:=by
    simp[Value.okWide,Cell.okWide] at fc
    cases v<;>simp_all[Cell.ok]
   obtain⟨n0,rfl⟩:=hv
   exact⟨pS sh _ x,fun n=>dh.1,rfl,B4⟩
  ·have hv:∃b,v=.bool b:=by
    simp[Value.okWide,Cell.okWide] at fc
    cases v<;>simp_all[Cell.ok]
   obtain⟨b,rfl⟩:=hv
   exact⟨pS sh _ x,fun n=>dh.1,rfl,B4⟩
  ·obtain⟨ad,len,cap,rfl⟩:=okWide_slice hu fc
   exact⟨pS sh _ x,fun n=>dh.1,rfl,B4⟩
theorem yFy sh {base}:∀ts tys vs ds ps n,Lc P ts=some tys→(∀(j:Nat) t v,ts[j]? =some t→vs[j]? =some v→Value.okWide P w .any base t v)→
  DataW.TrodAll enc P w 0 (fun _=>true) true ts vs ds ps→eS (DataW.weightsEach P ts ds)→∃x:AD (sn sh P ts tys),zM (zW (M0 w)) (kQ (sn sh P ts tys) (vS _ x) n).1 vs∧(kQ (sn sh P ts tys) (vS _ x) n).2=[]∧sm _ x
 |[],tys,vs,ds,ps,n,hl,fc,h,_=>by
  match vs,ds,h with
  |[],[],_=>exact⟨(),trivial,rfl,trivial⟩
 |t::ts,tys,vs,ds,ps,n,hl,fc,h,hw=>by
  unfold Lc at hl
  split at hl
  ·rename_i a l ha dG
   cases hl
   match vs,ds,h with
   |v::vs,d::ds,h=>
    obtain⟨p,q,h1,h2,_⟩:=h
    have hw:=oh.1 hw
    obtain⟨x,x1,x2,x3⟩:=vM3 sh ha (fc 0 t v rfl rfl) h1 hw.1
    obtain⟨y,y1,y2,y3⟩:=yFy sh ts l vs ds q n dG (fun j t' v' h1 h2=>fc (j+1) t' v' h1 h2) h2 hw.2
    refine⟨uw _ _ x y,?_⟩
    have e:vS ((sn sh P (t::ts) (a::l)).flatMap AS.cells) (uw _ _ x y)=vS _ x++vS _ y:=Sp _ _ _ _
    have ht:(vS _ x++vS _ y).take (pT sh P t a).cells.length=vS _ x:=by
     rw[List.take_append_of_le_length (by rw[Lb];omega),List.take_of_length_le (by rw[Lb];omega)]
    have hd:(vS _ x++vS _ y).drop (pT sh P t a).cells.length=vS _ y:=by
     rw[List.drop_append_of_le_length (by rw[Lb];exact by simp),List.drop_of_length_le (by grind),List.nil_append]
    rw[e]
    have em:kQ (sn sh P (t::ts) (a::l)) (vS _ x++vS _ y) n=((pT sh P t a).mk n (vS _ x)::(kQ (sn sh P ts l) (vS _ y) n).1,(kQ (sn sh P ts l) (vS _ y) n).2):=by
     show((pT sh P t a).mk n _::_,(pT sh P t a).boxes _++_)=_
     simp_all
    rw[em]
    exact⟨⟨x1 n,y1⟩,y2,Sq _ _ _ _ x3 y3⟩
  ·cases hl
theorem qZ6 {us}{gs:List (DataW H)}:∀{ts ds},ts.length=ds.length→eS (DataW.weightsEach P (ts++us) (ds++gs))→eS (DataW.weightsEach P ts ds)
 |[],[],_,_=>by rfl
 |t::ts,d::ds,hl,h=>oh.2 ⟨(oh.1 h).1,qZ6 (by simp_all) (oh.1 h).2⟩
theorem qZ8:∀{ts vs ds ps},DataW.TrodAll enc P w 0 (fun _=>true) true ts vs ds ps→ts.length=ds.length
 |[],[],[],_,_=>rfl
 |_::_,_::_,_::_,_,⟨_,_,_,h,_⟩=>by rw[List.length_cons,List.length_cons,qZ8 h]
theorem lawArgs sh {base ts tys asp vs ds ps}(hl:Lc P ts=some tys)(has:sn sh P ts tys=asp)
  (fc:∀(j:Nat) t v,ts[j]? =some t→vs[j]? =some v→Value.okWide P w .any base t v) (h:DataW.TrodAll enc P w 0 (fun _=>true) true ts vs ds ps) {us gs} (hw:eS (DataW.weightsEach P (ts++us) (ds++gs))):
  ∃x:AD asp,zM (zW (M0 w)) (kQ asp (vS _ x) 0).1 vs∧(kQ asp (vS _ x) 0).2=[]∧sm _ x:=by
 subst has
 exact yFy sh ts tys vs ds ps 0 hl fc h (qZ6 (qZ8 h) hw)
theorem law_calls {E}(hE:fJ E)(hS:iJ E.sums)(hm:E.P.follows .mixedOrders=true){A k pre f fn}(hf:E.P.funcs[f]? =some fn)(hL:∀c,fn.body=some c→wE E.P A pre 0 fn.ntmps c)
  {as d unpack} (hup:∀d,unpack d=d.1) (aT:ja E A k pre 0 fn (od as d).1 (od as d).2 (lK (.c .bool) unpack)=some true) (hb:(kQ as (vS _ d) 0).2=[]) {vs} (hv:zM (zW (M0 w)) (kQ as (vS _ d) 0).1 vs.toList):
  Calls E.P f vs w fun e w'=>e=.returned (.bool true)∧Below w.heap.size w w':=by
 have hh:(M0 w).h=(od as d).2:=by
  show kR []=kR (kQ as (vS _ d) 0).2
  rw[hb]
 refine Calls.mono (R0 hE hS hm hf hL aT (M:=M0 w) (w:=w) hh rfl (vZy w) hv) fun e w' he=>?_
 cases e with
 |returned rv=>
  obtain⟨M',v,st,hK,_,hH,_,hg,_,hrv,o1,o2,o3,_⟩:=he
  refine⟨?_,o1,o2,o3,?_,fun b hb=>?_⟩
  ·unfold lK at hK
   split at hK
   ·rename_i r hr
    unfold GY at hr
    split at hr
    ·rename_i cs mz
     split at hr
     ·rename_i aO u Bz
      cases v with
      |c x=>
       cases mz
       have e1:aO=[x]:=by
        simp[RS.cells,RC.isFro,fK] at Bz
        simp_all
       subst e1
       have nh:jq (qL st.h u) [.bool] [x]=some r:=hr
       cases x with
       |bool b=>
        have e2:r=(b,()):=by simp[jq,oe] at nh;grind
        have:rv=.bool b:=hrv
        grind
       |_=>simp[jq,oe] at nh
      |_=>cases mz
     ·cases hr
    ·cases hr
   ·cases hK
  ·have:=hg.size
   rw[hH] at this
   exact this
  ·have:=hg.same b hb
   rw[hH] at this
   exact this
 |_=>simp_all
end
inductive XC where
 |p (c:PC)|own (t:Ty)|mat|map
 |link (j:Nat)
abbrev XC.den:XC→Type
 |.p c=>c.den|.own t=>List t.den|.mat=>List (List Int)|.map=>List (Int×Bool)|.link _=>Unit
def XC.lnk:XC→Option Nat
 |.link j=>some j
 |_=>none
def RC.lnk:RC→Option Nat
 |.link j=>some j
 |_=>none
def pU:List (Option Nat)→List Nat→List zX→Bool
 |none::l,ids,_::cs=>pU l ids cs
 |some j::l,ids,.ptr id 0::cs=>(match ids[j]? with|some k=>Nat.beq id k|none=>false)&&pU l ids cs
 |some _::_,_,_=>false
 |_,_,_=>true
def xX:List (Option Nat)→List Nat→List zX→List zX
 |none::l,ids,c::cs=>c::xX l ids cs
 |some j::l,ids,c::cs=>(match ids[j]? with|some id=>.ptr id 0|none=>c)::xX l ids cs
 |_,_,cs=>cs
def Su:List zX→Option Nat
 |[]=>none
 |.ptr id 0::_=>some id
 |_::l=>Su l
def G5 (h:Hp):Nat→Nat→Option (List Nat)
 |0,_=>none
 |1,id=>some [id]
 |n+2,id=>match BW h id with
  | some cells => (match Su cells with
   |some id2=>(match G5 h (n+1) id2 with|some l=>some (id::l)|none=>none)
   |none=>none)
  |none=>none
def kS:Nat→Nat→List Nat
 |_,0=>[]
 |n,m+1=>n::kS (n+1) m
abbrev XL:List XC→Type
 |[]=>Unit
 |c::l=>c.den×XL l
inductive AX where
 |c (x:XC)|agg (l:List PC)|ptr (io:Bool) (l:List XC)|fn (f:Nat) (bp:List (Bool×List XC))
 |chn (ls:List (List XC))
def AX.cells:AX→List XC
 |.c x=>[x]
 |.agg l=>l.map .p
 |.ptr _ l=>l
 |.fn _ bp=>bp.flatMap (·.2)
 |.chn ls=>ls.flatten
def AX.nb:AX→Nat
 |.ptr _ _=>1
 |.fn _ bp=>bp.length
 |.chn ls=>ls.length
 |_=>0
def AX.isChn:AX→Bool
 |.chn _=>true
 |_=>false
def B5 (ls:List (List XC)):List (Bool×List XC):=ls.map fun l=>(true,l)
abbrev XD (l:List AX):Type:=XL (l.flatMap AX.cells)
def AX.looks:AX→Bool
 |.ptr _ _=>true
 |.fn _ _=>true
 |_=>false
def so (l:List AX)(na:Nat):Bool:=l.zipIdx.all fun p=> !p.1.looks||Nat.blt p.2 na
def B6 (h:Hp)(io:Bool)(id:Nat):Option (List zX):=match io,h id with
 |true,some (.box true cells)=>some cells
 |false,some (.box _ cells)=>some cells
 |false,some (.robox cells)=>some cells
 |_,_=>none
def iL (h:Hp):List (Bool×List XC)→List Nat→Option (List zX×List (Bool×Nat))
 |[],[]=>some ([],[])
 |(io,l)::ls,id::ids=>match B6 h io id,iL h ls ids with
  |some cells,some (rest,bs)=>bif Nat.beq cells.length l.length then some (cells++rest,(io,id)::bs) else none
  |_,_=>none
 |_,_=>none
def AX.get (h:Hp):AX→zT→Option (List zX×List (Bool×Nat))
 |.c _,.c x=>some ([x],[])
 |.agg l,.agg xs=>bif Nat.beq xs.length l.length then some (xs,[]) else none
 |.ptr io l,.c (.ptr id 0)=>iL h [(io,l)] [id]
 |.fn f bp,.c (.fn g ids)=>bif Nat.beq f g then iL h bp ids else none
 |.chn ls,.c (.ptr id 0)=>match G5 h ls.length id with
  |some ids=>iL h (B5 ls) ids
  |none=>none
 |_,_=>none
def jt (h:Hp):List AX→List zT→Option (List zX×List (Bool×Nat))
 |[],[]=>some ([],[])
 |s::l,a::as=>match s.get h a,jt h l as with
  |some (cs,bs),some (aO,xY)=>some (cs++aO,bs++xY)
  |_,_=>none
 |_,_=>none
def G6 (h:Hp):(x:XC)→zX→Option x.den
 |.p p,c=>sg h p c
 |.own t,.osl id none=>match h id with
  |some (.arr true s xs)=>gp s t xs
  |_=>none
 |.mat,.osl id none=>match h id with
  |some (.mat _ xs)=>some xs
  |_=>none
 |.map,.map id=>match h id with
  |some (.imap cW)=>some cW
  |_=>none
 |.link _,.ptr _ 0=>some ()
 |_,_=>none
def om (h:Hp):(l:List XC)→List zX→Option (XL l)
 |[],[]=>some ()
 |x::l,c::cs=>match G6 h x c,om h l cs with
  |some d,some ds=>some (d,ds)
  |_,_=>none
 |_,_=>none
def jE:List XC→List zX→List Nat
 |.p _::l,_::cs=>jE l cs
 |.link _::l,_::cs=>jE l cs
 |_::l,.osl id _::cs=>id::jE l cs
 |_::l,.map id::cs=>id::jE l cs
 |_::l,_::cs=>jE l cs
 |_,_=>[]
def G7:List XC→List zX→List Nat
 |.p _::l,c::cs=>vG c++G7 l cs
 |_::l,_::cs=>G7 l cs
 |_,_=>[]
def wG:Nat:=500
def gx:(l:List XC)→XL l→Nat→List zX×List Obj
 |[],_,_=>([],[])
 |.p p::l,d,n=>let r:=gx l d.2 n;(BX p d.1::r.1,r.2)
 |.own t::l,d,n=>let r:=gx l d.2 (n+1);(.osl n none::r.1,.arr true t d.1::r.2)
 |.mat::l,d,n=>let r:=gx l d.2 (n+1);(.osl n none::r.1,.mat 0 d.1::r.2)
 |.map::l,d,n=>let r:=gx l d.2 (n+1);(.map n::r.1,.imap d.1::r.2)
 |.link j::l,d,n=>let r:=gx l d.2 n;(.ptr j 0::r.1,r.2)
def G8:List (Bool×List XC)→List zX→List Obj
 |[],_=>[]
 |(io,l)::ls,cs=>(bif io then .box true (cs.take l.length) else .robox (cs.take l.length))::G8 ls (cs.drop l.length)
def AX.mk (n:Nat)(cs:List zX):AX→zT
 |.c _=>match cs with|x::_=>.c x|[]=>.undef
 |.agg _=>.agg cs
 |.ptr _ _=>.c (.ptr n 0)
 |.fn f bp=>.c (.fn f ((List.range bp.length).map (n+·)))
 |.chn _=>.c (.ptr n 0)
def AX.boxes (cs:List zX):AX→List Obj
 |.ptr io l=>G8 [(io,l)] cs
 |.fn _ bp=>G8 bp cs
 |.chn ls=>G8 (B5 ls) cs
 |_=>[]
def xZ:List AX→List zX→Nat→List zT×List Obj
 |[],_,_=>([],[])
 |s::l,cs,n=>
  let ao:=cs.take s.cells.length
  let bs:=s.boxes ao
  let rest:=xZ l (cs.drop s.cells.length) (n+bs.length)
  (s.mk n ao::rest.1,bs++rest.2)
def G9 (bs rows:List Obj):Hp:=fun n=>bif Nat.ble wG n then rows[n-wG]? else bs[n]?
def ju l (d:XD l):List zT×Hp:=
 let r:=gx (l.flatMap AX.cells) d wG
 let m:=xZ l r.1 0
 (m.1,G9 m.2 r.2)
def Ha:List (Bool×List XC)→List Nat→Option (List Nat)
 |[],[]=>some []
 |(io,_)::ls,id::ids=>match Ha ls ids with
  |some l=>some (bif io then id::l else l)
  |none=>none
 |_,_=>none
def AX.io (b:Nat):AX→zT→Option (List Nat)
 |.c _,_=>some []
 |.agg _,_=>some []
 |.ptr io l,.c (.ptr id 0)=>Ha [(io,l)] [id]
 |.fn _ bp,.c (.fn _ ids)=>Ha bp ids
 |.chn ls,_=>some (kS b ls.length)
 |_,_=>none
def Ld:List AX→(Nat→zT)→Nat→Nat→Option (List Nat)
 |[],_,_,_=>some []
 |s::l,t,n,b=>match s.io b (t n),Ld l t (n+1) (b+s.nb) with
  |some a,some b=>some (a++b)
  |_,_=>none
def B7 (h:Hp):List (List RC)→List Nat→Option (List zX)
 |[],[]=>some []
 |o::os,n::ns=>match h n,B7 h os ns with
  |some (.box true cells),some rest=>bif Nat.beq cells.length o.length then some (cells++rest) else none
  |_,_=>none
 |_,_=>none
def Sv (h:Hp)(ns:Nat)(cs:List zX):Option (List Nat):=bif Nat.beq ns 0 then some [] else match Su cs with
 |some id=>G5 h ns id
 |none=>none
def ux (st:St)(as:List AX)(rs:RS)(os:List (List RC))(ns:Nat)(v:zT):Option (RL (rs.cells++os.flatten)):=
 match Ld as st.t 0 0 with
 |none=>none
 |some io=>match rs.get v with
  |none=>none
  |some cs=>match Sv st.h ns cs with
   |none=>none
   |some nw=>match B7 st.h os (io++nw) with
    |none=>none
    | some bs => bif rD (io ++ nw) then (match fK st.h ((rs.cells++os.flatten).map RC.isFro) (cs++bs) with
     |some (cs,u)=>bif rD (vX (rs.cells++os.flatten) cs)&&pU ((rs.cells++os.flatten).map RC.lnk) (io++nw) cs then jq (qL st.h u) (rs.cells++os.flatten) cs else none
     |none=>none) else none
def Hb (as:List AX)(rs:RS)(os:List (List RC))(ns:Nat){X:Type}(unpack:RL (rs.cells++os.flatten)→X)(v:zT)(st:St):Option X:=match ux st as rs os ns v with
 |some d=>some (unpack d)
 |none=>none
def Le (as:List AX)(rs:RS)(os:List (List RC))(ns:Nat)(rs2:RS)(os2:List (List RC))(ns2:Nat){X Y:Type}(up:RL (rs.cells++os.flatten)→X)(kT:RL (rs2.cells++os2.flatten)→Y)(v:zT)(st:St):Option (X⊕Y):=match ux st as rs os ns v with
 |some d=>some (.inl (up d))
 |none=>match ux st as rs2 os2 ns2 v with
  |some d=>some (.inr (kT d))
  |none=>none
def uy:List (List RC)→List zX→List (List zX)
 |[],_=>[]
 |o::os,cs=>cs.take o.length::uy os (cs.drop o.length)
def vL:List (Bool×Nat)→List Nat
 |[]=>[]
 |(true,id)::l=>id::vL l
 |(false,_)::l=>vL l
def Lf:List (Bool×Nat)→List Nat
 |[]=>[]
 |(true,_)::l=>Lf l
 |(false,id)::l=>id::Lf l
def B8:List Nat→List (List zX)→vB
 |id::ids,cs::css=>(id,.box true cs)::B8 ids css
 |_,_=>[]
def oq (ids:List Nat):vB:=ids.map fun id=>(id,.gone)
def vVk (nm:Nat)(rs:RS)(os:List (List RC))(ids:List Nat)(d:RL (rs.cells++os.flatten)):zT×vB:=
 let r:=np nm (rs.cells++os.flatten) d
 let cs:=xX ((rs.cells++os.flatten).map RC.lnk) ids r.1
 (rs.mk (cs.take rs.cells.length),r.2++B8 ids (uy os (cs.drop rs.cells.length)))
def Sw (a b:List Nat):Bool:=a.all fun x=> !b.any (Nat.beq x)
def uz (h:Hp):AX→zT→Option (zT×vB)
 |.c (.p p),.c x=>match fK h [p.isKept] [x] with
  |some ([x],u)=>some (.c x,u)
  |_=>none
 |.agg l,.agg xs=>match fK h (l.map PC.isKept) xs with
  |some (xs,u)=>some (.agg xs,u)
  |none=>none
 |_,a=>some (a,[])
def pV (h:Hp):List AX→List zT→Option (List zT×vB)
 |s::l,a::as=>match uz h s a,pV h l as with
  |some (a,u),some (as,us)=>some (a::as,u++us)
  |_,_=>none
 |_,as=>some (as,[])
def ya as (nm n:Nat)(args:List zT)(h:Hp):Option (vB×List Nat×List Nat×XD as):=
 match pV h as args with
 |none=>none
 |some (args,u)=>match jt (qL h u) as args with
  |none=>none
  |some (cs,bs)=>match om (qL h u) (as.flatMap AX.cells) cs with
   |none=>none
   |some d=>
    let rows:=jE (as.flatMap AX.cells) cs
    let ao:=vL bs++rows
    bif uk h nm n&&Nat.ble n 100&&Nat.ble bs.length wG&&rD ao&&Sw ao (G7 (as.flatMap AX.cells) cs)&&Sw ao (Lf bs)&&pU ((as.flatMap AX.cells).map XC.lnk) (bs.map (·.2)) cs then
     some (u,vL bs,rows,d)
    else none
def Hc (u:vB)(io rows:List Nat)(rs:RS)(os:List (List RC))(ns nm:Nat)(d:RL (rs.cells++os.flatten)):zT×vB:=
 let r:=vVk nm rs os (io++kS (nm+(rs.cells++os.flatten).length) ns) d
 (r.1,u++(oq rows++r.2))
def pW as (rs:RS)(os:List (List RC))(ns:Nat){X}(S:XD as→Option X)(pack:X→RL (rs.cells++os.flatten))(nm:Nat)(args:List zT)(h:Hp):yS:=
 match ya as nm ((rs.cells++os.flatten).length+ns) args h with
 |none=>.stuck
 |some (u,io,rows,d)=>.call X (S d) fun r=>Hc u io rows rs os ns nm (pack r)
def sr as (rs:RS)(os:List (List RC))(ns:Nat)(rs2:RS)(os2:List (List RC))(ns2:Nat){X Y}(S:XD as→Option (X⊕Y))(pk:X→RL (rs.cells++os.flatten))(gT:Y→RL (rs2.cells++os2.flatten))(nm:Nat)(args:List zT)(h:Hp):yS:=
 match ya as nm (((rs.cells++os.flatten).length+ns)+((rs2.cells++os2.flatten).length+ns2)) args h with
 |none=>.stuck
 |some (u,io,rows,d)=>.call2 X Y (S d) (fun r=>Hc u io rows rs os ns nm (pk r)) (fun r=>Hc u io rows rs2 os2 ns2 nm (gT r))
def kp (M:zL)(ao:List Nat)(b:Nat):Prop:=∃id∈ao,∃C,M.κ id=some C∧b∈C.fp
structure pX (M:zL) (ao:List Nat) (Ml:zL):Prop where
 H:Ml.H=M.H
 F:Ml.F=fun b=>b<M.H.size∧¬kp M ao b
 G:Ml.G=M.G
def mC (M:zL)(ao:List Nat):Prop:=∀id∈ao,∃o,M.h id=some o∧o.owned=true
theorem kp.own {M ao}(ho:mC M ao){b}(h:kp M ao b):qS M b:=by
 obtain⟨id,an,C,hC,hb⟩:=h
 obtain⟨o,h1,h2⟩:=ho id an
 exact⟨id,o,C,h1,h2,hC,hb⟩
theorem ss {M}(ok:Ok M){ao}(ho:mC M ao){b}(h:M.F b):b<M.H.size∧¬kp M ao b:=⟨ok.Flt b h,fun hh=>(ok.own b (hh.own ho)).1 h⟩
theorem yBd {M M'}(ok:Ok M){ao}(ho:mC M ao){id o}(hn:id∉ao)(hh:M'.h=yE M.h id o)(hκ:M'.κ=M.κ)(hH:M'.H=M.H)(jg:Ok M'){b}(h:M'.G b):b<M.H.size∧¬kp M ao b:=by
 have hf:=jg.GF b h
 refine⟨by have:=jg.Flt b hf;simp_all,fun hd=>?_⟩
 obtain⟨jd,hj,C,hC,hb⟩:=hd
 obtain⟨q,h1,h2⟩:=ho jd hj
 refine(jg.own b ⟨jd,q,C,?_,h2,?_,hb⟩).1 hf
 ·rw[hh,yQ _ _ (by grind)];exact h1
 simp_all
theorem vWu {M}(ok:Ok M){ao}(ho:mC M ao){c v t xs}(hn:∀id∈vG c,id∉ao)(hv:zY M c v)(h:iY M.h c=some ⟨t,xs⟩):
  qF M.H (fun b=>b<M.H.size∧¬kp M ao b) (.sl t) xs (fun _=>some v):=by
 unfold iY at h
 split at h
 ·rename_i sh s ys
  cases h
  cases sh with
  |true=>exact yX (fun b hb=>ss ok ho (ok.GF b hb)) (by simp) _ _ _ _ (fun _ _=>rfl) hv
  |false=>exact yX (fun b hb=>ss ok ho hb) (by simp) _ _ _ _ (fun _ _=>rfl) hv
 ·rename_i id r
  have nU:id∉ao:=hn id (by simp[vG])
  split at h
  ·rename_i own s ys an
   cases h
   cases own with
   |false=>
    obtain⟨C,hC,hO⟩:=ok.obj _ _ an
    exact yX (fun b hb=>ss ok ho (ok.GF b hb)) (by simp) _ _ _ _ (by simp) (xp hC hO hv)
   |true=>
    obtain⟨M',h1,h2,h3,h4,h5⟩:=yIp ok an
    obtain⟨C,hC,hO⟩:=h3.obj id _ (by rw[h2];exact yM _ _ _)
    have:=xp hC hO (hv.ext h4.ext)
    exact yX (fun b hb=>yBd ok ho nU h2 h5 h1 h3 hb) (by grind) _ _ _ _ (by simp) this
  ·rename_i ver ys an
   cases r with
   |some p=>cases h
   |none=>
    cases h
    obtain⟨M',h1,h2,h3,h4,h5⟩:=yOj ok an
    obtain⟨C,hC,hO⟩:=h3.obj id _ (by rw[h2];exact yM _ _ _)
    have:=xp (r:=none) hC hO (hv.ext h4.ext)
    exact yX (fun b hb=>yBd ok ho nU h2 h5 h1 h3 hb) (by grind) _ _ _ _ (by simp) this
  ·cases h
 ·rename_i id i ver
  have nU:id∉ao:=hn id (by simp[vG])
  split at h
  ·rename_i v' ys an
   cases fe:Nat.beq v' ver with
   |false=>rw[fe] at h;cases h
   |true=>
    rw[fe] at h
    cases h
    have e:v'=ver:=by simpa using fe
    subst e
    obtain⟨C,hC,hO⟩:=ok.obj _ _ an
    obtain⟨C',aD,cj,_,aW⟩:=hv
    rw[hC] at aD;cases aD
    obtain⟨rb,rl,rV,pI⟩:=aW hO.1
    by_cases hi:i<ys.length
    ·obtain⟨B,nV,v2,k1,k2,k3,k4,k5,k6⟩:=Bu hO hi
     rw[rV] at k3
     cases k3
     rw[show ys.getD i []=ys[i] by simp[List.getD,hi]]
     simp only[qF]
     cases rb with
     |none=>
      obtain⟨rfl,h0⟩:=pI
      grind
     |some R=>
      obtain⟨a,c,rfl,h1,h2,h3⟩:=pI
      refine⟨_,_,c,rfl,rfl,h1,?_⟩
      by_cases h0:ys[i].length=0
      ·simp_all
      ·have ha:a=0:=by omega
       subst ha
       have hR:R∈C.fp:=by
        simp only[qC.fp,List.mem_append,List.mem_filterMap]
        grind
       refine .inr ⟨R,0,rfl,⟨?_,fun hd=>?_⟩,fun j hj=>?_⟩
       ·have:=k6 R rfl 0 (by omega)
        unfold yP at this
        grind
       ·obtain⟨jd,hj,D,hD,hb⟩:=hd
        obtain⟨q,q1,q2⟩:=ho jd hj
        exact ok.disj jd id q _ D C R (by grind) q1 an q2 rfl hD hC hb hR
       ·simp only[qF,Ty.size,Nat.zero_add,Nat.mul_one,Nat.add_zero]
        exact by grind
    ·have:C.rows[i]? =none:=List.getElem?_eq_none (by have:=hO.2.2.2.1;omega)
     simp_all
  ·cases h
 ·cases h
def TrX (M:zL)(ao:List Nat)(c c':zX):Prop:=∀v Ml,pX M ao Ml→zY M c v→zY Ml c' v
theorem vR2 {M}(ok:Ok M){ao}(ho:mC M ao){p c d}(hn:∀id∈vG c,id∉ao)(h:sg M.h p c=some d):TrX M ao c (BX p d):=by
 intro v Ml lo hv
 unfold sg at h
 split at h
 ·rename_i k j n
  cases e:fF j k with
  |false=>simp_all
  |true=>rw[e] at h;cases h;rw[←ru e];exact hv
 ·cases h;exact hv
 ·show qF Ml.H Ml.F _ _ _
  rw[lo.H,lo.F]
  unfold xQ at h
  split at h
  ·cases h
   rw[show v=.slice none 0 0 from hv]
   exact GZ
  ·split at h
   ·rename_i s ys hr
    obtain⟨e,hx⟩:=kl h
    subst e
    subst hx
    exact vWu ok ho hn hv hr
   ·cases h
 ·obtain⟨e,hx⟩:=kl h
  subst e
  subst hx
  show qF Ml.H Ml.G _ _ _
  rw[lo.H,lo.G]
  exact hv
 ·cases h
  rw[show v=.slice none 0 0 from hv]
  exact GZ
 ·rename_i f g
  cases e:Nat.beq f g with
  |false=>simp_all
  |true=>
   have:f=g:=by simp_all
   subst this
   obtain⟨cv,rfl,hc⟩:=hv
   refine⟨cv,rfl,?_⟩
   generalize cv.toList=l at hc
   cases l with
   |nil=>trivial
   |cons _ _=>exact hc.elim
 ·exact hv
 ·exact hv
 ·cases h
def pY (M:zL)(ao:List Nat)(κ:Nat→Option qC)(c c':zX):Prop:=∀v Ml,pX M ao Ml→Ml.κ=κ→zY M c v→zY Ml c' v
structure vUn (M:zL) (id:Nat) (o:Obj) (C:qC):Prop where
 κ:M.κ id=some C
 rep:∀Ml:zL,Ml.H=M.H→Ml.G=M.G→yW Ml o {C with ver:=0}
 own:o.owned=true
 was:∃q,M.h id=some q∧q.owned=true
theorem Sx {M Ml}(hH:Ml.H=M.H){cW C}(h:yW M (.imap cW) C):yW Ml (.imap cW) {C with ver:=0}:=by
 obtain⟨B,es,ck,h1,h2,h3,h4,h5⟩:=h
 exact⟨B,es,ck,h1,h2,by simp_all,h4,h5⟩
theorem yVf {j l ids c cs}(h:pU (some j::l) ids (c::cs)=true):∃id,c=.ptr id 0∧ids[j]? =some id∧pU l ids cs=true:=by
 cases c with
 |ptr id off=>
  cases off with
  |zero=>
   have h:((match ids[j]? with|some k=>Nat.beq id k|none=>false)&&pU l ids cs)=true:=h
   rw[Bool.and_eq_true] at h
   have h1:=h.1
   split at h1
   all_goals simp_all
  |succ _=>cases h
 |_=>cases h
theorem B9 {M}(ok:Ok M){ao}(ho:mC M ao){κ}:∀{l cs d n ids},om M.h l cs=some d→pU (l.map XC.lnk) ids cs=true→(∀id∈G7 l cs,id∉ao)→
  (jE l cs).length=(gx l d n).2.length∧(∀(i:Nat) id o,(jE l cs)[i]? =some id→(gx l d n).2[i]? =some o→∃C,vUn M id o C)∧
   ((∀i id C,(jE l cs)[i]? =some id→M.κ id=some C→κ (n+i)=some {C with ver:=0})→(∀j id,ids[j]? =some id→κ j=M.κ id)→zM (pY M ao κ) cs (gx l d n).1)
 |[],[],_,n,_,_,_,_=>⟨rfl,nofun,fun _ _=>trivial⟩
 |x::l,c::cs,d,n,ids,h,hl,hn=>by
  unfold om at h
  split at h
  ·rename_i y ys h1 h2
   cases h
   cases x with
   |p p=>
    have nv:∀id∈vG c,id∉ao:=fun id an=>hn id (List.mem_append_left _ an)
    obtain⟨k1,k2,k3⟩:=B9 ok ho (κ:=κ) (n:=n) (ids:=ids) h2 hl (fun id an=>hn id (List.mem_append_right _ an))
    exact⟨k1,k2,fun hκ hj=>⟨fun v Ml lo _ hv=>vR2 ok ho nv h1 v Ml lo hv,k3 hκ hj⟩⟩
   |own t=>
    cases c with
    |osl id r=>
     cases r with
     |some _=>cases h1
     |none=>
      have h1:(match M.h id with|some (.arr true s xs)=>gp s t xs|_=>none)=some y:=h1
      split at h1
      ·rename_i s xs an
       obtain⟨e,hx⟩:=kl h1
       subst e
       subst hx
       obtain⟨C,hC,hO⟩:=ok.obj id _ an
       obtain⟨k1,k2,k3⟩:=B9 ok ho (κ:=κ) (n:=n+1) (ids:=ids) h2 hl hn
       refine⟨by simp only[jE,gx,List.length_cons,k1],fun i jd o hi kH=>?_,fun hκ hj=>⟨fun v Ml lo hk hv=>?_,k3 (fun i jd D hi hD=>?_) hj⟩⟩
       ·cases i with
        |zero=>
         cases hi
         cases kH
         refine⟨C,hC,fun Ml e1 e2=>?_,rfl,_,an,rfl⟩
         obtain⟨q1,q2,q3,q4⟩:=hO
         refine⟨q1,q2,q3,?_⟩
         rw[e1,e2]
         exact q4
        |succ i=>exact k2 i jd o hi kH
       ·obtain⟨D,hD,hS⟩:=hv
        rw[hC] at hD;cases hD
        refine⟨{C with ver:=0},by rw[hk];exact hκ 0 id C rfl hC,?_⟩
        rw[lo.H]
        exact hS
       ·have:=hκ (i+1) jd D hi hD
        rw[←this];congr 1;omega
      ·cases h1
    |_=>cases h1
   |mat=>
    cases c with
    |osl id r=>
     cases r with
     |some _=>cases h1
     |none=>
      have h1:(match M.h id with|some (.mat _ xs)=>some xs|_=>none)=some y:=h1
      split at h1
      ·rename_i ver xs an
       cases h1
       obtain⟨C,hC,hO⟩:=ok.obj id _ an
       obtain⟨k1,k2,k3⟩:=B9 ok ho (κ:=κ) (n:=n+1) (ids:=ids) h2 hl hn
       refine⟨by simp only[jE,gx,List.length_cons,k1],fun i jd o hi kH=>?_,fun hκ hj=>⟨fun v Ml lo hk hv=>?_,k3 (fun i jd D hi hD=>?_) hj⟩⟩
       ·cases i with
        |zero=>
         cases hi
         cases kH
         refine⟨C,hC,fun Ml e1 e2=>?_,rfl,_,an,rfl⟩
         obtain⟨q1,q2⟩:=hO
         refine⟨rfl,?_⟩
         rw[e1]
         exact q2
        |succ i=>exact k2 i jd o hi kH
       ·obtain⟨D,hD,hS⟩:=hv
        rw[hC] at hD;cases hD
        refine⟨{C with ver:=0},by rw[hk];exact hκ 0 id C rfl hC,?_⟩
        show wU Ml.H {C with ver:=0} 0 C.len v
        rw[lo.H]
        exact hS
       ·have:=hκ (i+1) jd D hi hD
        rw[←this];congr 1;omega
      ·cases h1
    |_=>cases h1
   |map=>
    cases c with
    |map id=>
     have h1:(match M.h id with|some (.imap cW)=>some cW|_=>none)=some y:=h1
     split at h1
     ·rename_i cW an
      cases h1
      obtain⟨C,hC,hO⟩:=ok.obj id _ an
      obtain⟨k1,k2,k3⟩:=B9 ok ho (κ:=κ) (n:=n+1) (ids:=ids) h2 hl hn
      refine⟨by simp only[jE,gx,List.length_cons,k1],fun i jd o hi kH=>?_,fun hκ hj=>⟨fun v Ml lo hk hv=>?_,k3 (fun i jd D hi hD=>?_) hj⟩⟩
      ·cases i with
       |zero=>
        cases hi
        cases kH
        exact⟨C,hC,fun Ml e1 e2=>Sx e1 hO,rfl,_,an,rfl⟩
       |succ i=>exact k2 i jd o hi kH
      ·obtain⟨D,B,hD,hB,e⟩:=hv
       rw[hC] at hD;cases hD
       exact⟨{C with ver:=0},B,by rw[hk];exact hκ 0 id C rfl hC,hB,e⟩
      ·have:=hκ (i+1) jd D hi hD
       rw[←this];congr 1;omega
     ·cases h1
    |_=>cases h1
   |link j=>
    obtain⟨id,rfl,an,dG⟩:=yVf hl
    obtain⟨k1,k2,k3⟩:=B9 ok ho (κ:=κ) (n:=n) (ids:=ids) h2 dG hn
    refine⟨k1,k2,fun hκ hj=>⟨fun v Ml lo hk hv=>?_,k3 hκ hj⟩⟩
    obtain⟨C,B,hC,hB,e⟩:=hv
    exact⟨C,B,by rw[hk,hj j id an];exact hC,hB,e⟩
  ·cases h
 |[],_::_,_,_,_,h,_,_=>by cases h
 |_::_,[],_,_,_,h,_,_=>by cases h
theorem Hd {M Ml ao}(lo:pX M ao Ml):∀{cs aO vs},zM (pY M ao Ml.κ) cs aO→zM (zY M) cs vs→zM (zY Ml) aO vs
 |[],[],[],_,_=>trivial
 |_::_,_::_,_::_,h,k=>⟨h.1 _ _ lo rfl k.1,Hd lo h.2 k.2⟩
def Ca (ao:List Nat)(bs:List (Bool×Nat)):Prop:=∀b∈bs,(b.1=true→b.2∈ao)∧(b.1=false→b.2∉ao)
theorem vU1 {M}(ok:Ok M){ao}(ho:mC M ao){io id cells}(h:B6 M.h io id=some cells)(hm:(io=true→id∈ao)∧(io=false→id∉ao)):
  ∃C B,M.κ id=some C∧C.blk=some B∧∀Ml bC,pX M ao Ml→zM (pY M ao Ml.κ) cells bC→yW Ml (bif io then .box true bC else .robox bC) C:=by
 unfold B6 at h
 split at h
 ·rename_i cs an
  cases h
  obtain⟨C,hC,B,vals,e,h1,h2,h3,h4,h5⟩:=ok.obj id _ an
  exact⟨C,B,hC,h1,fun Ml bC lo ht=>⟨B,vals,e,h1,h2,by rw[lo.H];exact h3,Hd lo ht h4,by simp⟩⟩
 ·rename_i own cs an
  cases h
  obtain⟨C,hC,B,vals,e,h1,h2,h3,h4,h5⟩:=ok.obj id _ an
  refine⟨C,B,hC,h1,fun Ml bC lo ht=>⟨B,vals,e,h1,h2,by rw[lo.H];exact h3,Hd lo ht h4,?_⟩⟩
  rw[lo.F]
  cases own with
  |false=>exact ss ok ho (ok.GF B (h5 rfl))
  |true=>
   refine⟨by grind,fun hd=>?_⟩
   obtain⟨jd,hj,D,hD,hb⟩:=hd
   obtain⟨q,q1,q2⟩:=ho jd hj
   exact ok.disj jd id q _ D C B (by grind) q1 an q2 rfl hD hC hb (by simp[qC.fp,h1])
 ·rename_i cs an
  cases h
  obtain⟨C,hC,B,vals,e,h1,h2,h3,h4,h5⟩:=ok.obj id _ an
  refine⟨C,B,hC,h1,fun Ml bC lo ht=>⟨B,vals,e,h1,h2,by rw[lo.H];exact h3,Hd lo ht h4,?_⟩⟩
  rw[lo.F]
  exact ss ok ho h5
 ·cases h
def Sy (M:zL)(ao:List Nat)(bs:List (Bool×Nat))(mk:List zX→List Obj)(cs:List zX):Prop:=∀(Ml:zL) (aO:List zX),pX M ao Ml→zM (pY M ao Ml.κ) cs aO→
 zM (fun(b:Bool×Nat) o=>∃C B,M.κ b.2=some C∧C.blk=some B∧yW Ml o C∧o.owned=b.1) bs (mk aO)
theorem Lg {M}(ok:Ok M){ao}(ho:mC M ao):∀{ls ids cs bs},iL M.h ls ids=some (cs,bs)→Ca ao bs→
  cs.length=(ls.flatMap (·.2)).length∧bs=(ls.map (·.1)).zip ids∧ids.length=ls.length∧Sy M ao bs (G8 ls) cs
 |[],[],cs,bs,h,_=>by cases h;exact⟨rfl,rfl,rfl,fun _ _ _ _=>trivial⟩
 |(io,l)::ls,id::ids,cs,bs,h,hf=>by
  unfold iL at h
  split at h
  ·rename_i cells rest xY h1 h2
   obtain⟨hl,h⟩:=wC h
   cases h
   have hl:cells.length=l.length:=Nat.eq_of_beq_eq_true hl
   obtain⟨C,B,hC,hB,hO⟩:=vU1 ok ho h1 (hf _ (List.mem_cons_self ..))
   obtain⟨k1,k2,k3,k4⟩:=Lg ok ho h2 fun b hb=>hf b (by grind)
   refine⟨by simp_all,by simp_all,by simp[k3],fun Ml aO lo ht=>?_⟩
   have nr:=zM.take l.length ht
   have my:=zM.drop l.length ht
   rw[←hl,List.drop_left] at my
   refine⟨⟨C,B,hC,hB,?_,?_⟩,?_⟩
   ·simp_all
   ·cases io<;>rfl
   ·rw[←hl];exact k4 Ml _ lo my
  ·cases h
theorem He {h}:∀{ls ids cs bs},iL h ls ids=some (cs,bs)→bs.length=ls.length
 |[],[],_,_,e=>by cases e;rfl
 |(io,l)::ls,id::ids,cs,bs,e=>by
  unfold iL at e
  split at e
  ·rename_i cells rest xY h1 h2
   obtain⟨_,e⟩:=wC e
   cases e
   simp[He h2]
  ·cases e
theorem vDv {h}{s:AX}{a cs bs}(e:s.get h a=some (cs,bs)):bs.length=s.nb:=by
 unfold AX.get at e
 split at e
 ·cases e;rfl
 ·obtain⟨_,e⟩:=wC e
  cases e;rfl
 ·rw[He e];rfl
 ·obtain⟨_,e⟩:=wC e
  rw[He e];rfl
 ·split at e
  ·rw[He e];simp[B5,AX.nb]
  ·cases e
 ·cases e
theorem Sz {h}:∀{n id ids},G5 h n id=some ids→ids.head? =some id∧ids.length=n
 |1,_,_,e=>by cases e;simp
 |n+2,id,ids,e=>by
  unfold G5 at e
  split at e
  ·split at e
   ·split at e
    ·rename_i l hl
     cases e
     exact⟨rfl,by simp[(Sz hl).2]⟩
    ·cases e
   ·cases e
  ·cases e
theorem vY1 {M}(ok:Ok M){ao}(ho:mC M ao){s:AX}{a v cs bs}(hv:zW M a v)(h:s.get M.h a=some (cs,bs))(hf:Ca ao bs):
  cs.length=s.cells.length∧Sy M ao bs (fun aO=>s.boxes aO) cs∧∀Ml aO n,pX M ao Ml→zM (pY M ao Ml.κ) cs aO→(∀i b,bs[i]? =some b→Ml.κ (n+i)=M.κ b.2)→zW Ml (s.mk n aO) v:=by
 unfold AX.get at h
 split at h
 ·cases h
  refine⟨rfl,fun Ml aO lo ht=>trivial,fun Ml aO n lo ht _=>?_⟩
  match aO,ht with
  |[c'],ht=>exact ht.1 v Ml lo rfl hv
 ·rename_i l xs
  obtain⟨hl,h'⟩:=wC h
  cases h'
  have hl:cs.length=l.length:=Nat.eq_of_beq_eq_true hl
  obtain⟨vs,rfl,hx⟩:=hv
  exact⟨by simp[AX.cells,hl],fun Ml aO lo ht=>trivial,fun Ml aO n lo ht _=>⟨vs,rfl,Hd lo ht hx⟩⟩
 ·rename_i io l id
  obtain⟨k1,k2,k3,k4⟩:=Lg ok ho h hf
  refine⟨by rw[k1];simp[AX.cells],k4,fun Ml aO n lo ht hκ=>?_⟩
  obtain⟨C,B,hC,hB,e⟩:=hv
  exact⟨C,B,by have:=hκ 0 (io,id) (by rw[k2];rfl);simp_all,hB,e⟩
 ·rename_i f bp g ids
  obtain⟨hg,h'⟩:=wC h
  have R7:f=g:=Nat.eq_of_beq_eq_true hg
  subst R7
  obtain⟨k1,k2,k3,k4⟩:=Lg ok ho h' hf
  refine⟨by rw[k1];rfl,k4,fun Ml aO n lo ht hκ=>?_⟩
  obtain⟨cv,rfl,hc⟩:=hv
  refine⟨cv,rfl,?_⟩
  have l2:=hc.length
  refine zM.of_get (by simp_all) fun i h1 h2=>?_
  have hi:i<ids.length:=by omega
  obtain⟨C,B,q1,q2,q3⟩:=hc.get i hi h2
  have hb:bs[i]? =some ((bp.map (·.1))[i]'(by simp at h1⊢;omega),ids[i]):=by
   grind
  grind
 ·rename_i ls id
  split at h
  ·rename_i ids kO
   obtain⟨k1,k2,k3,k4⟩:=Lg ok ho h hf
   refine⟨by rw[k1];simp[AX.cells,B5,List.flatMap_map],k4,fun Ml aO n lo ht hκ=>?_⟩
   obtain⟨C,B,hC,hB,e⟩:=hv
   have hb:bs[0]? =some (true,id):=by
    obtain⟨h1,h2⟩:=Sz kO
    rw[k2]
    cases ids with
    |nil=>cases h1
    |cons i ids=>
     cases h1
     cases ls with
     |nil=>cases k3
     |cons l ls=>rfl
   exact⟨C,B,by grind,hB,e⟩
  ·cases h
 ·cases h
theorem yAc {M}(ok:Ok M){ao}(ho:mC M ao):∀{l as vs cs bs},zM (zW M) as vs→jt M.h l as=some (cs,bs)→Ca ao bs→
  cs.length=(l.flatMap AX.cells).length∧(∀n,Sy M ao bs (fun aO=>(xZ l aO n).2) cs)∧
   ∀Ml aO n,pX M ao Ml→zM (pY M ao Ml.κ) cs aO→(∀i b,bs[i]? =some b→Ml.κ (n+i)=M.κ b.2)→zM (zW Ml) (xZ l aO n).1 vs
 |[],[],[],cs,bs,_,h,_=>by cases h;exact⟨rfl,fun _ _ _ _ _=>trivial,fun _ _ _ _ _ _=>trivial⟩
 |s::l,a::as,v::vs,cs,bs,hv,h,hf=>by
  unfold jt at h
  split at h
  ·rename_i lH bs1 cs2 bs2 h1 h2
   cases h
   have hf1:Ca ao bs1:=fun b hb=>hf b (by grind)
   have hf2:Ca ao bs2:=fun b hb=>hf b (by grind)
   obtain⟨k1,k2,k3⟩:=vY1 ok ho hv.1 h1 hf1
   obtain⟨k4,k5,k6⟩:=yAc ok ho hv.2 h2 hf2
   have cut:∀{κ:Nat→Option qC} {aO:List zX},zM (pY M ao κ) (lH++cs2) aO→zM (pY M ao κ) lH (aO.take s.cells.length)∧zM (pY M ao κ) cs2 (aO.drop s.cells.length):=by
    intro κ aO ht
    have nr:=zM.take s.cells.length ht
    have my:=zM.drop s.cells.length ht
    simp_all
   refine⟨by simp_all,fun n Ml aO lo ht=>?_,fun Ml aO n lo ht hκ=>?_⟩
   ·obtain⟨nr,my⟩:=cut ht
    exact(k2 Ml _ lo nr).append (k5 _ Ml _ lo my)
   ·obtain⟨nr,my⟩:=cut ht
    have hlen:=(k2 Ml _ lo nr).length
    refine⟨k3 Ml _ n lo nr fun i b hb=>hκ i b ?_,k6 Ml _ _ lo my fun i b hb=>?_⟩
    ·grind
    ·have:=hκ (bs1.length+i) b (by grind)
     grind
  ·cases h
def κX (M : zL) (bs : List (Bool × Nat)) (rows : List Nat) : Nat → Option qC := fun n => bif Nat.ble wG n then (match rows[n-wG]? with
  |some id=>(M.κ id).map fun C=>{C with ver:=0}
  |none=>none)
 else (match bs[n]? with
  |some b=>M.κ b.2
  |none=>none)
theorem yc:∀{bs} {i id:Nat},bs[i]? =some (true,id)→id∈vL bs
 |(true,a)::bs,0,id,h=>by cases h;exact List.mem_cons_self ..
 |(true,a)::bs,i+1,id,h=>List.mem_cons_of_mem _ (yc (bs:=bs) (i:=i) h)
 |(false,a)::bs,i+1,id,h=>yc (bs:=bs) (i:=i) h
theorem SA:∀{bs} {i j id:Nat},(vL bs).Nodup→bs[i]? =some (true,id)→bs[j]? =some (true,id)→i=j
 |(true,a)::bs,0,0,id,_,_,_=>rfl
 |(true,a)::bs,0,j+1,id,hn,h,k=>by
  cases h
  exact absurd (yc (bs:=bs) (i:=j) k) (List.nodup_cons.1 hn).1
 |(true,a)::bs,i+1,0,id,hn,h,k=>by
  cases k
  exact absurd (yc (bs:=bs) (i:=i) h) (List.nodup_cons.1 hn).1
 |(true,a)::bs,i+1,j+1,id,hn,h,k=>by rw[SA (bs:=bs) (List.nodup_cons.1 hn).2 h k]
 |(false,a)::bs,i+1,j+1,id,hn,h,k=>by rw[SA (bs:=bs) hn h k]
theorem SB {M}(ok:Ok M){l as vs cs bs}{d:XD l}(hv:zM (zW M) as vs)(hg:jt M.h l as=some (cs,bs))(hd:om M.h (l.flatMap AX.cells) cs=some d)
  (dz:(vL bs++jE (l.flatMap AX.cells) cs).Nodup) (pL:∀id∈G7 (l.flatMap AX.cells) cs,id∉vL bs++jE (l.flatMap AX.cells) cs) (uA:∀id∈Lf bs,id∉vL bs++jE (l.flatMap AX.cells) cs) (hlen:bs.length≤wG) (su:pU ((l.flatMap AX.cells).map XC.lnk) (bs.map (·.2)) cs=true) (ho:mC M (vL bs++jE (l.flatMap AX.cells) cs)):
  ∃Ml:zL,pX M (vL bs++jE (l.flatMap AX.cells) cs) Ml∧Ml.h=(ju l d).2∧Ok Ml∧(∀b,qS Ml b→kp M (vL bs++jE (l.flatMap AX.cells) cs) b)∧zM (zW Ml) (ju l d).1 vs∧Ml.κ=κX M bs (jE (l.flatMap AX.cells) cs):=by
 generalize gy:vL bs++jE (l.flatMap AX.cells) cs=ao at*
 have uB:Ca ao bs:=by
  intro b hb
  obtain⟨i,hi,rfl⟩:=List.getElem_of_mem hb
  have Gg:bs[i]? =some bs[i]:=List.getElem?_eq_getElem hi
  refine⟨fun e=>?_,fun e=>?_⟩
  ·rw[←gy]
   have:bs[i]? =some (true,bs[i].2):=by rw[Gg,←e]
   exact List.mem_append_left _ (yc this)
  ·apply uA
   clear hg hd dz pL uA hlen ho gy hv su
   induction bs generalizing i with
   |nil=>exact absurd hi (Nat.not_lt_zero i)
   |cons c bs ih=>
    obtain⟨io,a⟩:=c
    cases i with
    |zero=>cases io<;>first|exact List.mem_cons_self .. |cases e
    |succ i=>cases io<;>first|exact List.mem_cons_of_mem _ (by grind)|exact ih i (by simpa using hi) (List.getElem_mem _) (List.getElem?_eq_getElem _) e
 let κ:=κX M bs (jE (l.flatMap AX.cells) cs)
 obtain⟨k1,k2,k3⟩:=B9 ok ho (κ:=κ) (n:=wG) (ids:=bs.map (·.2)) hd su pL
 have ht : zM (pY M ao κ) cs (gx (l.flatMap AX.cells) d wG).1 := k3 (fun i id C hi hC=>by
  show κX M bs _ (wG+i)=_
  unfold κX
  rw[Nat.ble_eq_true_of_le (Nat.le_add_right _ _),show wG+i-wG=i by omega,hi]
  simp[hC]) fun j id hj=>by
  rw[List.getElem?_map] at hj
  obtain⟨b,hb,rfl⟩:=Option.map_eq_some_iff.1 hj
  have hi:j<bs.length:=by grind
  show κX M bs _ j=_
  unfold κX
  have:Nat.ble wG j=false:=by
   cases h:Nat.ble wG j with
   |false=>rfl
   |true=>have:=Nat.le_of_ble_eq_true h;omega
  rw[this,hb]
  rfl
 obtain⟨a1,a2,a3⟩:=yAc ok ho hv hg uB
 let Ml:zL:={κ:=κ,F:=fun b=>b<M.H.size∧¬kp M ao b,G:=M.G,h:=(ju l d).2,H:=M.H}
 have lo:pX M ao Ml:=⟨rfl,rfl,rfl⟩
 have yd:=a2 0 Ml _ lo ht
 have hκbox:∀i b,bs[i]? =some b→Ml.κ (0+i)=M.κ b.2:=fun i b hb=>by
  have hi:i<bs.length:=by grind
  show κX M bs _ (0+i)=_
  unfold κX
  have:Nat.ble wG (0+i)=false:=by
   cases h:Nat.ble wG (0+i) with
   |false=>rfl
   |true=>have:=Nat.le_of_ble_eq_true h;omega
  rw[this,Nat.zero_add,hb]
  rfl
 have kU:∀id o,Ml.h id=some o→∃jd C,Ml.κ id=some C∧yW Ml o C∧(o.owned=true→jd∈ao∧∃D,M.κ jd=some D∧D.fp=C.fp)∧
   ((Nat.ble wG id=true∧(jE (l.flatMap AX.cells) cs)[id-wG]? =some jd)∨(Nat.ble wG id=false∧∃io,bs[id]? =some (io,jd)∧o.owned=io)):=by
  intro id o h
  have h:G9 (xZ l (gx (l.flatMap AX.cells) d wG).1 0).2 (gx (l.flatMap AX.cells) d wG).2 id=some o:=h
  unfold G9 at h
  cases hb:Nat.ble wG id with
  |true=>
   rw[hb] at h
   have h:(gx (l.flatMap AX.cells) d wG).2[id-wG]? =some o:=h
   have hi:=(List.getElem?_eq_some_iff.1 h).1
   have hj:(jE (l.flatMap AX.cells) cs)[id-wG]? =some ((jE (l.flatMap AX.cells) cs)[id-wG]'(by omega)):=by simp
   obtain⟨C,hR⟩:=k2 _ _ _ hj h
   refine⟨_,{C with ver:=0},?_,hR.rep Ml rfl rfl,fun _=>⟨?_,C,hR.κ,rfl⟩,.inl ⟨rfl,hj⟩⟩
   ·show κX M bs _ id=_
    unfold κX
    rw[hb,hj]
    simp[hR.κ]
   ·rw[←gy]
    exact by simp
  |false=>
   rw[hb] at h
   have hi:=(List.getElem?_eq_some_iff.1 h).1
   have SC:id<bs.length:=by rw[yd.length];exact hi
   have hq:=yd.get id SC hi
   rw[List.getElem?_eq_getElem hi] at h
   cases h
   obtain⟨C,B,q1,q2,q3,q4⟩:=hq
   have Gg:bs[id]? =some bs[id]:=List.getElem?_eq_getElem SC
   refine⟨bs[id].2,C,?_,q3,fun e=>⟨(uB _ (List.getElem_mem SC)).1 (by rw[←q4];exact e),C,q1,rfl⟩,by grind⟩
   have:=hκbox id _ Gg
   rw[Nat.zero_add] at this
   rw[this];exact q1
 have aK:∀b,qS Ml b→kp M ao b:=fun b ⟨id,o,C,h1,h2,h3,h4⟩=>by
  obtain⟨jd,C',q1,_,q3,_⟩:=kU id o h1
  rw[h3] at q1
  cases q1
  obtain⟨p1,D,p2,p3⟩:=q3 h2
  exact⟨jd,p1,D,p2,by rw[p3];exact h4⟩
 refine⟨Ml,lo,rfl,⟨fun id o h=>?_,fun id h=>?_,fun i j oi oj Ci Cj b mi h1 h2 h3 h4 h5 h6 h7 h8=>?_,fun b hb=>⟨fun hf=>hf.2 (aK b hb),(ok.own b ((aK b hb).own ho)).2⟩,fun b hb=>ss ok ho (ok.GF b hb),fun b hb=>hb.1⟩,aK,a3 Ml _ 0 lo ht hκbox,rfl⟩
 ·obtain⟨jd,C,q1,q2,_⟩:=kU id o h
  exact⟨C,q1,q2⟩
 ·have h:G9 (xZ l (gx (l.flatMap AX.cells) d wG).1 0).2 (gx (l.flatMap AX.cells) d wG).2 id=none:=h
  unfold G9 at h
  show κX M bs _ id=none
  unfold κX
  cases hb:Nat.ble wG id with
  |true=>
   rw[hb] at h
   have h:(gx (l.flatMap AX.cells) d wG).2[id-wG]? =none:=h
   rw[List.getElem?_eq_none_iff,←k1] at h
   rw[List.getElem?_eq_none h]
   rfl
  |false=>
   rw[hb] at h
   have h:(xZ l (gx (l.flatMap AX.cells) d wG).1 0).2[id]? =none:=h
   rw[List.getElem?_eq_none_iff,←yd.length] at h
   rw[List.getElem?_eq_none h]
   rfl
 ·obtain⟨ji,Ci',p1,_,p3,p4⟩:=kU i oi h1
  obtain⟨jj,Cj',q1,_,q3,q4⟩:=kU j oj h2
  rw[h5] at p1;cases p1
  rw[h6] at q1;cases q1
  obtain⟨p5,Di,p6,p7⟩:=p3 h3
  obtain⟨q5,Dj,q6,q7⟩:=q3 h4
  obtain⟨oi',r1,r2⟩:=ho ji p5
  obtain⟨oj',r3,r4⟩:=ho jj q5
  refine ok.disj ji jj oi' oj' Di Dj b (fun e=>?_) r1 r3 r2 r4 p6 q6 (by rw[p7];exact h7) (by rw[q7];exact h8)
  subst e
  rw[←gy] at dz
  obtain⟨n1,n2,n3⟩:=List.nodup_append.1 dz
  rcases p4 with⟨p8,p9⟩|⟨p8,io,p9,sv⟩<;>rcases q4 with⟨q8,q9⟩|⟨q8,io',q9,Lh⟩
  ·have:=(List.getElem?_inj (by grind) n2).1 (p9.trans q9.symm)
   have e1:=Nat.le_of_ble_eq_true p8
   have e2:=Nat.le_of_ble_eq_true q8
   exact mi (by omega)
  ·rw[h4] at Lh
   subst Lh
   exact n3 _ (yc q9) _ (List.mem_of_getElem? p9) rfl
  ·rw[h3] at sv
   subst sv
   exact n3 _ (yc p9) _ (List.mem_of_getElem? q9) rfl
  ·rw[h3] at sv
   rw[h4] at Lh
   subst sv
   subst Lh
   exact mi (SA n1 p9 q9)
theorem uC {n}:∀{ids h},qL h (oq ids) n=if n∈ids then some .gone else h n
 |[],_=>by rfl
 |id::ids,h=>by
  show qL (yE h id .gone) (oq ids) n=_
  rw[uC (ids:=ids)]
  by_cases e:n=id
  ·subst e;simp[yM]
  ·rw[yQ _ _ e];simp[e]
def zL.overX (M L:zL)(ao:List Nat):zL:={κ:=M.κ,F:=fun b=>M.F b∨L.G b,G:=L.G,h:=qL M.h (oq ao),H:=L.H}
theorem zL.overX_ok {M Ml L ao}(ok:Ok M)(gQ:Ok L)(lo:pX M ao Ml)(ho:mC M ao)(hand:∀b,qS Ml b→kp M ao b)(g:iK Ml L):
  Ok (M.overX L ao)∧yY M (M.overX L ao)∧(∀b,qS (M.overX L ao) b→qS M b∧¬kp M ao b):=by
 have bX:∀b,b<M.H.size→¬kp M ao b→L.H[b]? =M.H[b]? :=fun b hb hn=>by rw[g.same b (by rw[lo.F];simp_all),lo.H]
 have dN:M.H.size≤L.H.size:=by have:=g.size;rw[lo.H] at this;exact this
 have hG:∀b,L.G b→b<M.H.size→M.G b∨kp M ao b:=fun b hb hs=>by
  rcases g.Gb b hb (by rw[lo.H];exact hs) with h|h
  ·rw[lo.G] at h;simp_all
  simp_all
 have hsF:∀b,M.F b→L.H[b]? =M.H[b]? :=fun b h=>bX b (ss ok ho h).1 (ss ok ho h).2
 have x:yL M (M.overX L ao):=⟨fun id C h=>⟨C,h,C.le_refl⟩,fun b h=>.inl h,fun b h=>g.G b (by rw[lo.G];exact h),fun b h=>hsF b h,fun b h=>hsF b (ok.GF b h),fun b h=>by
  have:=g.bsz b (by rw[lo.H];exact h)
  rw[lo.H] at this
  exact this⟩
 have kU:∀id o,(M.overX L ao).h id=some o→o.owned=true→id∉ao∧M.h id=some o:=fun id o h gP=>by
  have h:qL M.h (oq ao) id=some o:=h
  rw[uC] at h
  by_cases hm:id∈ao
  ·rw[if_pos hm] at h;cases h;cases gP
  simp_all
 have SD:∀id o C,id∉ao→M.h id=some o→o.owned=true→M.κ id=some C→∀b∈C.fp,¬kp M ao b:=fun id o C hm h gP hC b hb ⟨jd,hj,D,hD,Sd⟩=>by
  obtain⟨q,q1,q2⟩:=ho jd hj
  exact ok.disj id jd o q C D b (by grind) h q1 gP q2 hC hD hb Sd
 have aK:∀b,qS (M.overX L ao) b→qS M b∧¬kp M ao b:=fun b ⟨id,o,C,h1,h2,h3,h4⟩=>by
  obtain⟨k1,k2⟩:=kU id o h1 h2
  exact⟨⟨id,o,C,k2,h2,h3,h4⟩,SD id o C k1 k2 h2 h3 b h4⟩
 refine⟨⟨fun id o h=>?_,fun id h=>?_,fun i j oi oj Ci Cj b mi h1 h2 h3 h4 h5 h6 h7 h8=>?_,fun b h=>⟨fun hf=>?_,?_⟩,fun b h=>.inr h,fun b h=>?_⟩,⟨x,dN,fun b hb hn=>bX b hb fun hh=>hn (hh.own ho),by grind,fun b h hs=>?_,fun b h hs=>?_⟩,aK⟩
 ·have h:qL M.h (oq ao) id=some o:=h
  rw[uC] at h
  by_cases hm:id∈ao
  ·rw[if_pos hm] at h
   cases h
   obtain⟨q,q1,q2⟩:=ho id hm
   obtain⟨C,hC,_⟩:=ok.obj id q q1
   exact⟨C,hC,trivial⟩
  ·rw[if_neg hm] at h
   obtain⟨C,hC,hO⟩:=ok.obj id o h
   exact⟨C,hC,hO.ext x fun gP b hb=>bX b (ok.own b ⟨id,o,C,h,gP,hC,hb⟩).2 (by grind)⟩
 ·have h:qL M.h (oq ao) id=none:=h
  rw[uC] at h
  by_cases hm:id∈ao
  ·simp_all
  ·rw[if_neg hm] at h;exact ok.non id h
 ·exact ok.disj i j oi oj Ci Cj b mi (kU i oi h1 h3).2 (by grind) h3 h4 h5 h6 h7 h8
 ·obtain⟨k1,k2⟩:=aK b h
  have:=ok.own b k1
  rcases hf with hf|hf
  ·simp_all
  ·rcases hG b hf this.2 with h|h
   ·exact this.1 (ok.GF b h)
   simp_all
 ·have h1:=(ok.own b (aK b h).1).2
  show b<L.H.size
  omega
 ·show b<L.H.size
  rcases h with h|h
  ·have:=ok.Flt b h;omega
  ·exact gQ.Flt b (gQ.GF b h)
 ·rcases hG b h hs with h|h
  ·simp_all
  ·exact .inr (h.own ho)
 ·rcases h with h|h
  ·simp_all
  ·rcases hG b h hs with h|h
   ·exact .inl (ok.GF b h)
   ·exact .inr (h.own ho)
def qC.bare (C:qC):qC:={C with ver:=C.ver+1,rows:=[]}
def zL.revive (M:zL)(id:Nat)(C:qC)(cs:List zX):zL:={M with κ:=κset M.κ id C.bare,h:=yE M.h id (.box true cs)}
theorem zL.revive_ok {M}(ok:Ok M){id C B vals e cs}(hC:M.κ id=some C)(hB:C.blk=some B)(hH:M.H[B]? =some (.cells vals e (0,0)))(hc:zM (zY M) cs vals.toList)
  (h1:¬qS M B) (h2:¬M.F B):Ok (M.revive id C cs)∧yL M (M.revive id C cs)∧(∀b,qS (M.revive id C cs) b→qS M b∨b=B):=by
 have hκ:(M.revive id C cs).κ id=some C.bare:=κset_same _ _ _
 have x:yL M (M.revive id C cs):=⟨fun jd D h=>by
  by_cases e':jd=id
  ·subst e'
   rw[hC] at h;cases h
   exact⟨_,hκ,rfl,rfl,rfl,Nat.le_succ _,fun h=>absurd h (by simp[qC.bare])⟩
  ·exact⟨D,by show κset M.κ id _ jd=_;rw[κset_ne _ _ e'];exact h,D.le_refl⟩,fun _ h=>h,fun _ h=>h,fun _ _=>rfl,fun _ _=>rfl,fun _ _=>rfl⟩
 have pz:C.bare.fp=[B]:=by simp[qC.fp,qC.bare,hB]
 have xG:(M.revive id C cs).h id=some (.box true cs):=yM _ _ _
 refine⟨Ok.build ok x (fun jd=>jd=id) (fun jd h=>yQ _ _ h) (fun jd h=>κset_ne _ _ h) (fun _ _ _ _ _ _ _ _ _=>rfl) (fun jd o' D k1 k2 k3 k4 b bB=>(ok.own b ⟨jd,o',D,k2,k3,k4,bB⟩).1) (Nat.le_refl _)
  (fun jd o' e' h=>?_) (fun jd e' h=>?_) (fun jd o' D b e' k1 k2 k3 k4=>?_) ok.GF ok.Flt,x,fun b bB=>?_⟩
 ·subst e'
  rw[xG] at h
  cases h
  exact⟨_,hκ,B,vals,e,hB,rfl,hH,hc.mono fun _ _ h=>h.ext x,by simp⟩
 ·simp_all
 ·subst e'
  rw[hκ] at k3
  cases k3
  rw[pz,List.mem_singleton] at k4
  subst k4
  refine⟨fun j oj Cj hj q1 q2 q3 q4=>h1 ⟨j,oj,Cj,?_,q2,?_,q4⟩,h2,(Array.getElem?_eq_some_iff.1 hH).1⟩
  ·rw[←q1];exact(yQ _ _ hj).symm
  ·rw[←q3];exact(κset_ne _ _ hj).symm
 ·obtain⟨jd,o',D,k1,k2,k3,k4⟩:=bB
  by_cases e':jd=id
  ·simp_all
  ·exact .inl ⟨jd,o',D,by rw[←k1];exact(yQ _ _ e').symm,k2,by rw[←k3];exact(κset_ne _ _ e').symm,k4⟩
structure yZb (M:zL) (id:Nat) (cs:List zX) (B:Nat):Prop where
 at':∃C,M.κ id=some C∧C.blk=some B
 rep:∃vals e,M.H[B]? =some (.cells vals e (0,0))∧zM (zY M) cs vals.toList
 own:¬qS M B
 F:¬M.F B
def nx (R:Nat→List zX→Nat→Prop):List Nat→List (List zX)→List Nat→Prop
 |[],[],[]=>True
 |a::l,b::m,c::n=>R a b c∧nx R l m n
 |_,_,_=>False
theorem nx.mono {R S}:∀{l m n},(∀a b c,c∈n→R a b c→S a b c)→nx R l m n→nx S l m n
 |[],[],[],_,_=>trivial
 |_::_,_::_,_::_,h,k=>⟨h _ _ _ (by simp) k.1,nx.mono (by grind) k.2⟩
theorem yBl:∀{ids css Bs M},Ok M→nx (yZb M) ids css Bs→Bs.Nodup→
  ∃M':zL,M'.H=M.H∧M'.G=M.G∧M'.F=M.F∧M'.h=qL M.h (B8 ids css)∧Ok M'∧yL M M'∧(∀b,qS M' b→qS M b∨b∈Bs)
 |[],[],[],M,ok,_,_=>⟨M,rfl,rfl,rfl,rfl,ok,.refl M,by simp⟩
 |id::ids,cs::css,B::Bs,M,ok,h,hn=>by
  obtain⟨C,hC,hB⟩:=h.1.at'
  obtain⟨vals,e,hH,hc⟩:=h.1.rep
  obtain⟨k1,k2,k3⟩:=zL.revive_ok ok hC hB hH hc h.1.own h.1.F
  obtain⟨n1,n2⟩:=List.nodup_cons.1 hn
  obtain ⟨M', a1, a2, a3, a4, a5, a6, a7⟩ := yBl (M := M.revive id C cs) k1 (nx.mono (fun a b c hcB hb=>by
   refine⟨?_,?_,fun ho=>?_,hb.F⟩
   ·obtain⟨D,q1,q2⟩:=hb.at'
    obtain⟨D',q3,le⟩:=k2.κ _ _ q1
    exact⟨D',q3,le.blk.trans q2⟩
   ·obtain⟨vals,e,q1,q2⟩:=hb.rep
    exact⟨vals,e,q1,q2.mono fun _ _ h=>h.ext k2⟩
   ·rcases k3 _ ho with h|h
    ·exact hb.own h
    simp_all) h.2) n2
  exact⟨M',a1,a2,a3,a4,a5,yL.trans (M:=M) (M':=M.revive id C cs) (Nat.le_refl _) k2 a6,by grind⟩
theorem yVc:∀{ids css h h'},ids.length=css.length→(∀n,n∉ids→h n=h' n)→qL h (B8 ids css)=qL h' (B8 ids css)
 |[],[],h,h',_,e=>funext fun n=>e n (by simp)
 |id::ids,cs::css,h,h',hl,e=>yVc (ids:=ids) (css:=css) (by simp_all) fun n hn=>by
   by_cases k:n=id
   ·subst k;rw[yM,yM]
   ·rw[yQ _ _ k,yQ _ _ k];simp_all
theorem vGt {h0 s a a' v u M}(ok:Ok M)(hf:wT h0 M.h)(hv:zW M a v)(h:uz h0 s a=some (a',u)):
  ∃L:zL,L.H=M.H∧L.h=qL M.h u∧Ok L∧yY M L∧zW L a' v∧wT h0 L.h:=by
 unfold uz at h
 split at h
 ·rename_i p x
  split at h
  ·rename_i y u1 e
   cases h
   obtain⟨L,h1,h2,h3,h4,h5,h6⟩:=uq (cs:=[x]) (vs:=[v]) ok hf ⟨hv,trivial⟩ e
   exact⟨L,h1,h2,h3,h4,h5.1,h6⟩
  ·cases h
 ·split at h
  ·rename_i ys u1 e
   cases h
   obtain⟨vs,rfl,hx⟩:=hv
   obtain⟨L,h1,h2,h3,h4,h5,h6⟩:=uq ok hf hx e
   exact⟨L,h1,h2,h3,h4,⟨vs,rfl,h5⟩,h6⟩
  ·cases h
 ·cases h
  exact⟨M,rfl,rfl,ok,.refl M,hv,hf⟩
theorem yDr {h0}:∀{l as eG vs u M},Ok M→wT h0 M.h→zM (zW M) as vs→pV h0 l as=some (eG,u)→
  ∃L:zL,L.H=M.H∧L.h=qL M.h u∧Ok L∧yY M L∧zM (zW L) eG vs∧wT h0 L.h
 |s::l,a::as,eG,v::vs,u,M,ok,hf,hv,h=>by
  unfold pV at h
  split at h
  ·rename_i a1 u1 Sg pA e1 e2
   cases h
   obtain⟨M1,h1,h2,h3,h4,h5,h6⟩:=vGt ok hf hv.1 e1
   obtain⟨M2,k1,k2,k3,k4,k5,k6⟩:=yDr h3 h6 (ur.ext h4.ext hv.2) e2
   exact⟨M2,k1.trans h1,by rw[k2,h2,kk],k3,h4.trans k4,⟨h5.ext k4.ext,k5⟩,k6⟩
  ·cases h
 |[],as,eG,vs,u,M,ok,hf,hv,h=>by
  cases as<;>cases h<;>exact⟨M,rfl,rfl,ok,.refl M,hv,hf⟩
 |s::l,[],eG,vs,u,M,ok,hf,hv,h=>by cases h;exact⟨M,rfl,rfl,ok,.refl M,hv,hf⟩
def kV (M L:zL)(id jd:Nat):Prop:=∃C D B,M.κ id=some C∧C.blk=some B∧L.κ jd=some D∧D.blk=some B
theorem SE {M L}:∀{ls is js out} {us:List Value} {cs bs},iL M.h ls is=some (cs,bs)→Ha ls js=some out→
  zM (fun id u=>∃C B,M.κ id=some C∧C.blk=some B∧u=.pointer (some ⟨B,0,none⟩)) is us→zM (fun id u=>∃C B,L.κ id=some C∧C.blk=some B∧u=.pointer (some ⟨B,0,none⟩)) js us→zM (kV M L) (vL bs) out
 |[],[],[],out,us,cs,bs,h,k,_,_=>by cases h;cases k;exact trivial
 |(io,l)::ls,i::is,j::js,out,u::us,cs,bs,h,k,p,q=>by
  unfold iL at h
  split at h
  ·rename_i cells rest xY h1 h2
   obtain⟨_,h⟩:=wC h
   cases h
   unfold Ha at k
   split at k
   ·rename_i o ho
    cases k
    have ih:=SE h2 ho p.2 q.2
    cases io with
    |false=>exact ih
    |true=>
     obtain⟨C,B,k1,k2,k3⟩:=p.1
     obtain⟨D,B',k4,k5,k6⟩:=q.1
     rw[k3] at k6
     cases k6
     exact⟨⟨C,D,B,k1,k2,k4,k5⟩,ih⟩
   ·cases k
  ·cases h
theorem yX9 {M L}:∀{bs n},(∀q∈bs,q.1=true)→(∀i q,bs[i]? =some q→kV M L q.2 (n+i))→zM (kV M L) (vL bs) (kS n bs.length)
 |[],n,_,_=>trivial
 |(true,id)::bs,n,h,k=>⟨k 0 _ rfl,yX9 (by grind) fun i q hq=>by
   have:=k (i+1) q hq
   grind⟩
 |(false,id)::bs,n,h,k=>by simp_all
theorem yE6 {h}:∀{ls ids cs bs},iL h ls ids=some (cs,bs)→bs.map (·.1)=ls.map (·.1)
 |[],[],_,_,e=>by cases e;rfl
 |(io,l)::ls,id::ids,cs,bs,e=>by
  unfold iL at e
  split at e
  ·rename_i cells rest xY h1 h2
   obtain⟨_,e⟩:=wC e
   cases e
   simp[yE6 h2]
  ·cases e
theorem vDb {M L}{s:AX}{a b v cs bs out}(h:s.get M.h a=some (cs,bs)){n}(k:s.io n b=some out)(p:zW M a v)(q:s.looks=true→zW L b v)(hk:s.isChn=true→∀i q,bs[i]? =some q→kV M L q.2 (n+i)):zM (kV M L) (vL bs) out:=by
 unfold AX.get at h
 split at h
 ·cases h;cases k;exact trivial
 ·obtain⟨_,h'⟩:=wC h
  cases h';cases k;exact trivial
 ·unfold AX.io at k
  split at k
  ·rename_i e;cases e
  ·rename_i e;cases e
  ·rename_i io' l' jd e
   cases e
   exact SE (us:=[v]) h k ⟨p,trivial⟩ ⟨q rfl,trivial⟩
  all_goals simp_all
 ·obtain⟨hg,h'⟩:=wC h
  unfold AX.io at k
  split at k
  ·simp_all
  ·simp_all
  ·simp_all
  ·rename_i f' aaX g' js e
   cases e
   obtain⟨cv,rfl,hc⟩:=p
   obtain⟨cv',e',kJ⟩:=q rfl
   cases e'
   exact SE h' k hc kJ
  all_goals simp_all
 ·rename_i ls id
  split at h
  ·cases k
   have h1:=He h
   have h2:ls.length=bs.length:=by rw[h1];simp[B5]
   rw[h2]
   exact yX9 (fun q hq=>by
    have:q.1∈bs.map (·.1):=by grind
    rw[yE6 h] at this
    exact(by simpa[B5] using this:_∧_).2) (hk rfl)
  ·cases h
 ·cases h
theorem yNl {M L}:∀{l as vs t n cs bs out m},jt M.h l as=some (cs,bs)→Ld l t n m=some out→zM (zW M) as vs→(∀i h s,l[i]? =some s→s.looks=true→zW L (t (n+i)) vs[i])→(l.any AX.isChn=true→∀i q,bs[i]? =some q→kV M L q.2 (m+i))→
  zM (kV M L) (vL bs) out
 |[],[],[],t,n,cs,bs,out,m,h,k,_,_,_=>by cases h;cases k;exact trivial
 |s::l,a::as,v::vs,t,n,cs,bs,out,m,h,k,p,q,hk=>by
  unfold jt at h
  split at h
  ·rename_i c1 b1 c2 b2 h1 h2
   cases h
   unfold Ld at k
   split at k
   ·rename_i o1 o2 k1 k2
    cases k
    have e:∀b1 b2:List (Bool×Nat),vL (b1++b2)=vL b1++vL b2:=fun b1 b2=>by
     induction b1 with
     |nil=>rfl
     |cons x b1 ih=>obtain⟨io,y⟩:=x;cases io<;>simp[vL,ih]
    rw[e]
    have hnb:=vDv h1
    refine(vDb h1 k1 p.1 (q 0 (by simp) s rfl) (by grind)).append (yNl h2 k2 p.2 (fun i hi s' hs hl=>?_) fun hc i q hq=>?_)
    rotate_left
    ·have:=hk (by simp_all) (b1.length+i) q (by grind)
     grind
    have:=q (i+1) (by simp_all) s' (by simp_all) hl
    grind
   ·cases k
  ·cases h
 |[],_::_,_,_,_,_,_,_,_,h,_,_,_,_=>by cases h
theorem yAh {L}(gQ:Ok L):∀{os ids bs},B7 L.h os ids=some bs→bs.length=os.flatten.length∧ids.length=os.length∧
  ∃us:List Value,zM (zY L) bs us∧∀{M cs},M.H=L.H→zM (zY M) cs us→nx (fun id cs B=>(∃cells,L.h id=some (.box true cells))∧(∃C,L.κ id=some C∧C.blk=some B∧C.rows=[])∧∃vals e,M.H[B]? =some (.cells vals e (0,0))∧zM (zY M) cs vals.toList) ids (uy os cs) (ids.map fun id=>((L.κ id).bind qC.blk).getD 0)
 |[],[],bs,h=>by cases h;exact⟨rfl,rfl,[],trivial,fun _ _=>trivial⟩
 |o::os,n::ns,bs,h=>by
  unfold B7 at h
  split at h
  ·rename_i cells rest h1 h2
   obtain⟨hl,h⟩:=wC h
   cases h
   obtain⟨C,hC,B,vals,e,q1,q2,q3,q4,_⟩:=gQ.obj n _ h1
   obtain⟨k1,k2,us,k3,k4⟩:=yAh gQ h2
   refine⟨by simp_all,by simp[k2],vals.toList++us,q4.append k3,fun{M cs} hH hc=>⟨⟨by grind,⟨C,hC,?_,q2⟩,vals,e,?_,?_⟩,?_⟩⟩
   ·simp_all
   ·simp_all
   ·have h1:=zM.take o.length hc
    have Se:=q4.length
    simp_all
   ·have h1:=zM.drop o.length hc
    have Se:=q4.length
    simp_all
  ·cases h
theorem vFw {h0 r c d}(h:oe h0 r c=some d):∀id∈vX [r] [c],∀own cells,h0 id≠some (.box own cells):=by
  unfold oe at h
  split at h
  all_goals (try (intro id an;simp[vX] at an;done))
  all_goals first
    |(done)
    | (intro BR an own cells hb
       have:=List.mem_singleton.1 an
       simp_all)
    |(cases h)
theorem yHb {L}:∀{l cs d},jq L l cs=some d→∀id∈vX l cs,∀own cells,L id≠some (.box own cells)
 |r::l,c::cs,d,h,id,an=>by
  unfold jq at h
  split at h
  ·rename_i x xs e1 e2
   rw[K8] at an
   rcases List.mem_append.1 an with an|an
   ·exact vFw e1 id an
   ·exact yHb e2 id an
  ·cases h
theorem yFf:∀a b,vL (a++b)=vL a++vL b
 |[],_=>rfl
 |(true,_)::a,b
 |(false,_)::a,b=>by simp[vL,yFf a b]
theorem Hf {h}:∀{ls is cs bs},iL h ls is=some (cs,bs)→∀id∈vL bs,∃o,h id=some o∧o.owned=true
 |[],[],_,_,e=>by cases e;nofun
 |(io,l)::ls,i::is,cs,bs,e=>by
  unfold iL at e
  split at e
  ·rename_i cells rest xY h1 h2
   obtain⟨_,e⟩:=wC e
   cases e
   intro id an
   cases io with
   |false=>exact Hf h2 id an
   |true=>
    rcases List.mem_cons.1 an with rfl|an
    ·unfold B6 at h1
     split at h1
     ·rename_i c hc
      exact⟨_,hc,rfl⟩
     all_goals simp_all
    ·exact Hf h2 id an
  ·cases e
theorem vCo {h}{s:AX}{a cs bs}(e:s.get h a=some (cs,bs)):∀id∈vL bs,∃o,h id=some o∧o.owned=true:=by
 unfold AX.get at e
 split at e
 ·cases e;nofun
 ·obtain⟨_,e⟩:=wC e
  cases e;nofun
 ·exact Hf e
 ·obtain⟨_,e⟩:=wC e
  exact Hf e
 ·split at e
  ·exact Hf e
  ·cases e
 ·cases e
theorem yXj {h}:∀{l as cs bs},jt h l as=some (cs,bs)→l.length=as.length∧∀id∈vL bs,∃o,h id=some o∧o.owned=true
 |[],[],_,_,e=>by cases e;exact⟨rfl,nofun⟩
 |s::l,a::as,cs,bs,e=>by
  unfold jt at e
  split at e
  ·rename_i c1 b1 c2 b2 h1 h2
   cases e
   obtain⟨k1,k2⟩:=yXj h2
   refine⟨by simp[k1],fun id an=>?_⟩
   rw[yFf] at an
   rcases List.mem_append.1 an with an|an
   ·exact vCo h1 id an
   simp_all
  ·cases e
theorem yFu {h}:∀{l cs d},om h l cs=some d→∀id∈jE l cs,∃o,h id=some o∧o.owned=true
 |[],[],_,_=>nofun
 |x::l,c::cs,d,e=>by
  unfold om at e
  split at e
  ·rename_i y ys h1 h2
   have ih:=yFu h2
   unfold G6 at h1
   split at h1
   ·exact ih
   ·intro jd an
    rcases List.mem_cons.1 an with rfl|an
    ·split at h1
     ·rename_i s xs hs
      exact⟨_,hs,rfl⟩
     ·cases h1
    ·simp_all
   ·intro jd an
    rcases List.mem_cons.1 an with rfl|an
    ·split at h1
     ·rename_i s xs hs
      exact⟨_,hs,rfl⟩
     ·cases h1
    ·exact ih jd an
   ·intro jd an
    rcases List.mem_cons.1 an with rfl|an
    ·split at h1
     ·rename_i xs hs
      exact⟨_,hs,rfl⟩
     ·cases h1
    simp_all
   ·exact ih
   ·cases h1
  ·cases e
theorem yDk {a b}(h:Sw a b=true):∀id∈b,id∉a:=fun id hb ha=>by
 have h:=List.all_eq_true.1 h id ha
 have:b.any (Nat.beq id)=true:=List.any_eq_true.2 ⟨id,hb,by simp⟩
 simp_all
theorem yLj:∀os cs,(uy os cs).length=os.length
 |[],_=>rfl
 |_::os,cs=>by simp[uy,yLj os]
theorem yDb {M L}{P:zL→Nat→Prop}{R}:∀{ids js css Bs},zM (kV M L) ids js→nx R js css Bs→nx (fun id cs B=>∃jd,kV M L id jd∧R jd cs B) ids css Bs
 |[],[],[],[],_,_=>trivial
 |_::_,_::_,_::_,_::_,h,k=>⟨⟨_,h.1,k.1⟩,yDb (P:=P) h.2 k.2⟩
theorem zL.gone_ok {M}(ok:Ok M){nm}(aS:M.h nm=none) C:
  Ok (M.add nm .gone C)∧yL M (M.add nm .gone C)∧(∀b,qS (M.add nm .gone C) b→qS M b):=by
 have x:yL M (M.add nm .gone C):=⟨fun id D h=>by
  have bm:id≠nm:=fun e=>by rw[e,ok.non nm aS] at h;cases h
  exact⟨D,by show κset M.κ nm _ id=_;rw[κset_ne _ _ bm];exact h,D.le_refl⟩,fun _ h=>h,fun _ h=>h,fun _ _=>rfl,fun _ _=>rfl,fun _ _=>rfl⟩
 have at':∀o,(M.add nm .gone C).h nm=some o→o=.gone:=fun o h=>by
  have e1:(M.add nm .gone C).h nm=some .gone:=yM _ _ _
  simp_all
 refine⟨Ok.build ok x (fun id=>id=nm) (fun id h=>yQ _ _ h) (fun id h=>κset_ne _ _ h) (fun _ _ _ _ _ _ _ _ _=>rfl) (fun id o' D h1 h2 h3 h4 b bB=>(ok.own b ⟨id,o',D,h2,h3,h4,bB⟩).1) (Nat.le_refl _)
  (fun id o' e h=>?_) (fun id e h=>?_) (fun id o' D b e h1 h2 h3 h4=>?_) ok.GF ok.Flt,x,fun b bB=>?_⟩
 ·subst e
  rw[at' o' h]
  exact⟨_,κset_same _ _ _,trivial⟩
 ·have e1:(M.add id .gone C).h id=some .gone:=yM _ _ _
  simp_all
 ·subst e
  rw[at' o' h1] at h2;cases h2
 ·obtain⟨id,o',D,h1,h2,h3,h4⟩:=bB
  by_cases e:id=nm
  ·subst e
   rw[at' o' h1] at h2;cases h2
  ·exact⟨id,o',D,by rw[←h1];exact(yQ _ _ e).symm,h2,by rw[←h3];exact(κset_ne _ _ e).symm,h4⟩
theorem yCn:∀{n nm Bs M},Ok M→(∀i,i<n→M.h (nm+i)=none)→Bs.length=n→
  ∃M':zL,M'.H=M.H∧M'.G=M.G∧M'.F=M.F∧M'.h=qL M.h (oq (kS nm n))∧Ok M'∧yL M M'∧(∀b,qS M' b→qS M b)∧zM (fun id B=>∃C,M'.κ id=some C∧C.blk=some B) (kS nm n) Bs
 |0,nm,[],M,ok,_,_=>⟨M,rfl,rfl,rfl,rfl,ok,.refl M,by simp,trivial⟩
 |n+1,nm,B::Bs,M,ok,hf,hl=>by
  obtain⟨k1,k2,k3⟩:=zL.gone_ok ok (hf 0 (by omega)) ⟨some B,0,0,0,[]⟩
  obtain ⟨M', a1, a2, a3, a4, a5, a6, a7, a8⟩ := yCn (n := n) (nm := nm + 1) (Bs := Bs) k1 (fun i hi=>by
   have:=hf (i+1) (by omega)
   rw[show nm+1+i=nm+(i+1) by omega,←this]
   exact yQ _ _ (by omega)) (by simp_all)
  refine⟨M',a1,a2,a3,a4,a5,yL.trans (M:=M) (M':=M.add nm .gone ⟨some B,0,0,0,[]⟩) (Nat.le_refl _) k2 a6,by grind,?_,a8⟩
  obtain⟨C,h1,h2⟩:=a6.κ nm _ (κset_same _ _ _)
  exact⟨C,h1,h2.blk⟩
theorem SF {L M ids js}(hs:zM (kV M L) ids js):∀{l cs ds vs},pU l js cs=true→zM (zY L) cs vs→zM (zY M) ds vs→zM (zY M) (xX l ids ds) vs
 |[],cs,ds,vs,_,_,hd=>by exact hd
 |none::l,[],[],[],_,_,_=>trivial
 |none::l,c::cs,d::ds,v::vs,h,hc,hd=>⟨hd.1,SF hs (l:=l) h hc.2 hd.2⟩
 |some j::l,c::cs,d::ds,v::vs,h,hc,hd=>by
  obtain⟨id,rfl,an,h'⟩:=yVf h
  refine⟨?_,SF hs h' hc.2 hd.2⟩
  have hj:=(List.getElem?_eq_some_iff.1 an).1
  have hi:j<ids.length:=by rw[hs.length];exact hj
  have:=hs.get j hi hj
  rw[(List.getElem?_eq_some_iff.1 an).2] at this
  obtain⟨C,D,B,q1,q2,q3,q4⟩:=this
  obtain⟨D',B',p1,p2,p3⟩:=hc.1
  rw[q3] at p1;cases p1
  rw[q4] at p2;cases p2
  rw[List.getElem?_eq_getElem hi]
  exact⟨C,B,q1,q2,p3⟩
 |_,[],_::_,[],_,_,hd=>hd.elim
 |_,_::_,[],[],_,hc,_=>hc.elim
theorem vYp {h ns cs nw}(e:Sv h ns cs=some nw):nw.length=ns:=by
 unfold Sv at e
 cases h0:Nat.beq ns 0 with
 |true=>simp_all
 |false=>
  rw[h0] at e
  split at e
  ·exact(Sz e).2
  ·cases e
def Li (w:World)(na:Nat)(chn:Bool)(M:zL)(vs:Array Value)(rv:Value)(w':World)(v:zT)(st:St):Prop:=
 ∃M':zL,M'.h=st.h∧M'.H=w'.heap∧Ok M'∧iK M M'∧(chn=true→KX M M')∧zW M' v rv∧w'.os=w.os∧w'.tape=w.tape∧w'.output=w.output∧(∀t,t<na→zW M' (st.t t) (vs.getD t undef))
theorem yVz {n}:∀{l nm d hh},(∀j,j<l.length→n≠nm+j)→qL hh (np nm l d).2 n=hh n
 |[],_,_,_,_=>rfl
 |r::l,nm,d,hh,h=>by
  show qL hh ((pN nm r d.1).2++(np (nm+1) l d.2).2) n=_
  rw[kk,yVz fun j hj=>by have:=h (j+1) (by simp_all);omega,yZz (by have:=h 0 (by simp);omega)]
theorem vKk {M}(ok:Ok M){io id cells}(h:B6 M.h io id=some cells):∃C B,M.κ id=some C∧C.blk=some B:=by
 have h':BW M.h id=some cells:=by
  unfold B6 at h
  unfold BW
  grind
 obtain⟨C,h1,B,_,_,h2,_⟩:=yKr ok h'
 simp_all
theorem Lj {M}(ok:Ok M):∀{ls is cs bs},iL M.h ls is=some (cs,bs)→∀q∈bs,∃C B,M.κ q.2=some C∧C.blk=some B
 |[],[],_,_,e=>by cases e;simp
 |(io,l)::ls,i::is,cs,bs,e=>by
  unfold iL at e
  split at e
  ·rename_i cells rest xY h1 h2
   obtain⟨_,e⟩:=wC e
   cases e
   intro q hq
   rcases List.mem_cons.1 hq with rfl|hq
   ·exact vKk ok h1
   ·exact Lj ok h2 q hq
  ·cases e
theorem yT4 {M}(ok:Ok M):∀{l as cs bs},jt M.h l as=some (cs,bs)→∀q∈bs,∃C B,M.κ q.2=some C∧C.blk=some B
 |[],[],_,_,e=>by cases e;simp
 |s::l,a::as,cs,bs,e=>by
  unfold jt at e
  split at e
  ·rename_i c1 b1 c2 b2 h1 h2
   cases e
   intro q hq
   rcases List.mem_append.1 hq with hq|hq
   ·unfold AX.get at h1
    split at h1
    ·simp_all
    ·grind
    ·exact Lj ok h1 q hq
    ·obtain⟨_,h1⟩:=wC h1
     exact Lj ok h1 q hq
    ·split at h1
     ·exact Lj ok h1 q hq
     ·cases h1
    ·cases h1
   ·exact yT4 ok h2 q hq
  ·cases e
theorem yFd {L}(ok:Ok L):∀{os ids bs},B7 L.h os ids=some bs→∀j∈ids,∃cells C B,L.h j=some (.box true cells)∧L.κ j=some C∧C.blk=some B
 |[],[],_,_=>by simp
 |o::os,n::ns,bs,h=>by
  unfold B7 at h
  split at h
  ·rename_i cells rest h1 h2
   intro j hj
   rcases List.mem_cons.1 hj with rfl|hj
   ·obtain⟨C,hC,B,vals,e,q1,_⟩:=ok.obj _ _ h1
    simp_all
   ·exact yFd ok h2 j hj
  ·cases h
theorem yXl {L}(ok:Ok L):∀{js:List Nat},js.Nodup→(∀j∈js,∃cells C B,L.h j=some (.box true cells)∧L.κ j=some C∧C.blk=some B)→(js.map fun id=>((L.κ id).bind qC.blk).getD 0).Nodup
 |[],_,_=>by simp
 |a::js,hn,bc=>by
  obtain⟨n1,n2⟩:=List.nodup_cons.1 hn
  refine List.nodup_cons.2 ⟨fun uD=>?_,yXl ok n2 (by grind)⟩
  obtain⟨j,hj,ye⟩:=List.mem_map.1 uD
  obtain⟨c1',C,B,q1,q2,q3⟩:=bc a (by simp)
  obtain⟨c2',D,B',q4,q5,q6⟩:=bc j (by grind)
  have ye:((L.κ j).bind qC.blk).getD 0=((L.κ a).bind qC.blk).getD 0:=ye
  rw[q2,q5] at ye
  have ye:(D.blk.getD 0)=(C.blk.getD 0):=ye
  rw[q3,q6] at ye
  subst ye
  exact ok.disj a j _ _ C D B' (by grind) q1 q4 rfl rfl q2 q5 (by simp[qC.fp,q3]) (by simp[qC.fp,q6])
theorem yP6 {na as}(jv:so as na=true){nm n args h u0 io rows d}(he:ya as nm n args h=some (u0,io,rows,d)) M w vs (hh:M.h=h)(hH:M.H=w.heap)(ok:Ok M)(hv:zM (zW M) args vs.toList):
  ∃Ml:zL,Ml.h=(ju as d).2∧Ml.H=w.heap∧Ok Ml∧zM (zW Ml) (ju as d).1 vs.toList∧
   ∀rv w' v0 st,Li w na (as.any AX.isChn) Ml vs rv w' v0 st→∀rs os ns dx,ux st as rs os ns v0=some dx→(rs.cells++os.flatten).length+ns≤n→
    ∃Mf,rW M w (Hc u0 io rows rs os ns nm dx).2 Mf w'∧zW Mf (Hc u0 io rows rs os ns nm dx).1 rv:=by
 unfold ya at he
 split at he
 ·cases he
 rename_i ez u xT
 split at he
 ·cases he
 rename_i cs bs dD
 split at he
 ·cases he
 rename_i d' hd
 dsimp only at he
 obtain⟨hc,he⟩:=mw he
 cases he
 simp only[Bool.and_eq_true] at hc
 obtain⟨⟨⟨⟨⟨⟨ot,cJ⟩,cL⟩,dO⟩,gU⟩,Cb⟩,Cc⟩:=hc
 subst hh
 obtain⟨M1,a1,a2,a3,a4,a5,a6⟩:=yDr ok (wT.refl _) hv xT
 rw[←a2] at hd dD
 obtain⟨aaY,ug⟩:=yXj dD
 have aW:=yFu hd
 have dU:mC M1 (vL bs++jE (as.flatMap AX.cells) cs):=fun id an=>(List.mem_append.1 an).elim (ug id) (aW id)
 have SG:=BK dO
 obtain⟨Ml,lo,b2,b3,b4,b5,b6⟩:=SB a3 a5 dD hd SG (yDk gU) (yDk Cb) (Nat.le_of_ble_eq_true cL) Cc dU
 generalize gy:vL bs++jE (as.flatMap AX.cells) cs=ao at*
 refine⟨Ml,b2,by rw[lo.H,a1];exact hH,b3,b5,fun rv w' v0 st ⟨L0,c1,c2,c3,c4,ck,c5,c6,c7,c8,c9⟩ rs os ns dx hK hn=>?_⟩
 unfold ux at hK
 split at hK
 ·cases hK
 rename_i SH kO
 split at hK
 ·cases hK
 rename_i ccs mz
 split at hK
 ·cases hK
 rename_i nw hnw
 split at hK
 ·cases hK
 rename_i bcs sw
 obtain⟨Hg,Lk⟩:=mw hK
 clear hK
 split at Lk
 case h_2=>cases Lk
 rename_i aO u1 xV
 obtain⟨dz,hK⟩:=mw Lk
 clear Lk
 rw[Bool.and_eq_true] at dz
 obtain⟨dz,Hh⟩:=dz
 have SI:=vYp hnw
 obtain⟨hlen,us,d1,d2⟩:=yRn mz c5
 rw[←c1] at xV hK sw
 obtain⟨js,tX⟩:∃js,js=SH++nw:=⟨_,rfl⟩
 rw[←tX] at sw Hg Hh
 obtain⟨k1,k2,Ll,k3,k4⟩:=yAh c3 sw
 obtain⟨L,e1,e2,e3,e4,e5,e6⟩:=uq c3 (wT.refl _) (d1.append k3) xV
 rw[←e2] at hK
 have g:iK Ml L:=c4.trans e4.grow
 obtain⟨f1,f2,f3⟩:=zL.overX_ok a3 e3 lo dU b4 g
 have bX : zM (kV M1 L0) (vL bs) SH := yNl dD kO a5 (fun i hi s hs su=>by
  have bV:i<vs.size:=by simpa using hi
  have bg:i<na:=by
   have:=List.all_eq_true.1 jv (s,i) (List.mk_mem_zipIdx_iff_getElem?.2 hs)
   simp only[su,Bool.not_true,Bool.false_or] at this
   exact Qx this
  have:=c9 i bg
  rw[Nat.zero_add]
  have e:vs.getD i undef=vs.toList[i]:=by simp[bV]
  rw[←e];exact this) fun lL i q hq=>by
   obtain⟨C,B,p1,p2⟩:=yT4 a3 dD q (List.mem_of_getElem? hq)
   have hi:i<bs.length:=(List.getElem?_eq_some_iff.1 hq).1
   have hκ:Ml.κ i=some C:=by
    rw[b6]
    unfold κX
    have:Nat.ble wG i=false:=by
     cases h:Nat.ble wG i with
     |false=>rfl
     |true=>have h1:=Nat.le_of_ble_eq_true h;have h2:=Nat.le_of_ble_eq_true cL;omega
    rw[this,hq]
    exact p1
   obtain⟨C',p3,p4⟩:=ck lL i C hκ
   rw[Nat.zero_add]
   exact⟨C,C',B,p1,p2,p3,p4.trans p2⟩
 have ou:∀i,i<n→(M1.overX L ao).h (nm+i)=none:=fun i hi=>by
  have h1:=Sb ot i hi
  have h2:M1.h (nm+i)=none:=by
   rw[a2]
   rcases a6 (nm+i) with h|⟨own,t,xs,h,_⟩|⟨ver,xs,h,_⟩
   ·rw[a2] at h;rw[h];exact h1
   ·rw[h1] at h;cases h
   ·rw[h1] at h;cases h
  show qL M1.h (oq ao) (nm+i)=none
  rw[uC,if_neg,h2]
  intro uD
  obtain⟨o,ho,_⟩:=dU _ uD
  rw[h2] at ho;cases ho
 have og:∀i,i<(rs.cells++os.flatten).length→(M1.overX L ao).h (nm+i)=none:=fun i hi=>ou i (by omega)
 have sA:∀b,qS L b→b<M1.H.size→kp M1 ao b:=fun b hb bg=>b4 b (g.own b hb (by rw[lo.H];exact bg))
 have uE:∀b,qS L b→¬(M1.overX L ao).F b:=fun b hb h=>by
  rcases h with h|h
  ·exact(ss a3 dU h).2 (sA b hb (a3.Flt b h))
  ·exact(e3.own b hb).1 (e3.GF b h)
 have uF:∀b,qS L b→¬qS (M1.overX L ao) b:=fun b hb h=>by
  obtain⟨q1,q2⟩:=f3 b h
  exact q2 (sA b hb (a3.own b q1).2)
 obtain ⟨Mc, g1, g2, g3, g4, g5, g6, g7, g8⟩ := Sc e3 f1 ⟨rfl, rfl⟩ og hK (BK dz) (uu hK) (fun id an C hC b hb=>by
  obtain⟨o,ho,gP⟩:=uu hK id an
  have aK:qS L b:=⟨id,o,C,ho,gP,hC,hb⟩
  exact⟨uF b aK,uE b aK,(e3.own b aK).2⟩)
 obtain ⟨Mg, n1, n2, n3, n4, n5, n6, n7, n8⟩ := yCn (n := ns) (nm := nm + (rs.cells ++ os.flatten).length) (Bs := nw.map fun id => ((L0.κ id).bind qC.blk).getD 0) g5 (fun i hi=>by
  rw[g4,yVz (fun j hj=>by omega),Nat.add_assoc]
  exact ou _ (by omega)) (by simp[SI])
 have ow:∀j∈js,∃cells C B,L0.h j=some (.box true cells)∧L0.κ j=some C∧C.blk=some B:=yFd c3 sw
 have Lm:yL M1 Mg:=(f2.ext.trans f2.size g6).trans (by rw[g1];exact f2.size) n6
 have BO:zM (kV Mg L0) (vL bs) SH:=bX.mono fun id jd hq=>by
  obtain⟨C,D,B,q1,q2,q3,q4⟩:=hq
  obtain⟨C',p3,le⟩:=Lm.κ id C q1
  exact⟨C',D,B,p3,le.blk.trans q2,q3,q4⟩
 have Cd:zM (kV Mg L0) (kS (nm+(rs.cells++os.flatten).length) ns) nw:=by
  have hl8:=n8.length
  rw[List.length_map] at hl8
  refine zM.of_get hl8 fun i h1 h2=>?_
  obtain⟨C,q1,q2⟩:=n8.get i h1 (by simpa using h2)
  obtain⟨cells,D,B,p1,p2,p3⟩:=ow nw[i] (by rw[tX];exact List.mem_append_right _ (List.getElem_mem _))
  refine⟨C,D,B,q1,?_,p2,p3⟩
  rw[q2,List.getElem_map,p2]
  show some (D.blk.getD 0)=_
  rw[p3];rfl
 have kW:zM (kV Mg L0) (vL bs++kS (nm+(rs.cells++os.flatten).length) ns) js:=by
  rw[tX];exact BO.append Cd
 have sB:zM (kV Mg L) (vL bs++kS (nm+(rs.cells++os.flatten).length) ns) js:=kW.mono fun id jd hq=>by
  obtain⟨C,D,B,q1,q2,q3,q4⟩:=hq
  obtain⟨D',p3,le⟩:=e4.ext.κ jd D q3
  exact⟨C,D',B,q1,q2,p3,le.blk.trans q4⟩
 have yf:=SF sB Hh e5 ((g8 _ e5).mono fun _ _ h=>h.ext n6)
 obtain⟨G,hG⟩:∃G,G=xX ((rs.cells++os.flatten).map RC.lnk) (vL bs++kS (nm+(rs.cells++os.flatten).length) ns) (np nm (rs.cells++os.flatten) dx).1:=⟨_,rfl⟩
 rw[←hG] at yf
 have BC:us.length=rs.cells.length:=by rw[←d1.length,hlen]
 have hgr:zM (zY Mg) (G.take rs.cells.length) us:=by
  have:=zM.take rs.cells.length yf
  rwa [show(us++Ll).take rs.cells.length=us from by rw[←BC,List.take_left]] at this
 have hgb:zM (zY Mg) (G.drop rs.cells.length) Ll:=by
  have:=zM.drop rs.cells.length yf
  rwa [show(us++Ll).drop rs.cells.length=Ll from by rw[←BC,List.drop_left]] at this
 have hHc:Mg.H=L0.H:=by rw[n1,g1];exact e1
 have Hi:=yDb (P:=fun _ _=>True) kW (k4 hHc hgb)
 have uG:∀jd B,(∃cells,L0.h jd=some (.box true cells))→(∃C,L0.κ jd=some C∧C.blk=some B)→∃cells C,L.h jd=some (.box true cells)∧L.κ jd=some C∧B∈C.fp:=fun jd B ⟨cells,q1⟩ ⟨C,q2,q3⟩=>by
  obtain⟨C',q4,le⟩:=e4.ext.κ jd C q2
  refine⟨cells,C',?_,q4,?_⟩
  ·rcases e6 jd with h|⟨own,t,xs,h,_⟩|⟨ver,xs,h,_⟩
   ·rw[h,q1]
   ·rw[q1] at h;cases h
   ·rw[q1] at h;cases h
  ·have:C'.blk=some B:=le.blk.trans q3
   simp[qC.fp,this]
 have Hj:∀b,b∈(js.map fun id=>((L0.κ id).bind qC.blk).getD 0)→qS L b:=fun b hb=>by
  obtain⟨j,hj,rfl⟩:=List.mem_map.1 hb
  obtain⟨cells,C,B,q1,q2,q3⟩:=ow j hj
  obtain⟨bC,D,p4,p5,p6⟩:=uG j B ⟨cells,q1⟩ ⟨C,q2,q3⟩
  have e:((L0.κ j).bind qC.blk).getD 0=B:=by rw[q2];show C.blk.getD 0=B;rw[q3];rfl
  rw[e]
  exact⟨j,_,D,p4,rfl,p5,p6⟩
 have yg : nx (yZb Mg) (vL bs ++ kS (nm + (rs.cells ++ os.flatten).length) ns) (uy os (G.drop rs.cells.length)) (js.map fun id => ((L0.κ id).bind qC.blk).getD 0) := nx.mono (fun id css B _ ⟨jd,q1,q2,⟨D0,q3,q3b,_⟩,q4⟩=>by
  obtain⟨C,D1,B',p1,p2,p3,p3b⟩:=q1
  rw[q3] at p3;cases p3
  rw[q3b] at p3b;cases p3b
  obtain⟨cells,D,p4,p5,p6⟩:=uG jd B q2 ⟨_,q3,q3b⟩
  have aK:qS L B:=⟨jd,_,D,p4,rfl,p5,p6⟩
  refine⟨⟨C,p1,p2⟩,q4,fun ho=>?_,?_⟩
  ·rcases g7 B (n7 B ho) with h|⟨kd,Ln,D',p7,p8⟩
   ·exact uF B aK h
   ·obtain⟨o,p9,sv⟩:=uu hK kd Ln
    refine e3.disj jd kd _ o D D' B (fun e=>?_) p4 p9 rfl sv p5 p7 p6 p8
    exact yHb hK kd Ln true cells (by rw[←e];exact p4)
  ·rw[n3,g3];exact uE B aK) Hi
 have hBs:(js.map fun id=>((L0.κ id).bind qC.blk).getD 0).Nodup:=yXl c3 (BK Hg) ow
 obtain⟨Mf,r1,r2,r3,r4,r5,r6,r7⟩:=yBl n5 yg hBs
 have Si:yY M1 Mf:=by
  have aK:∀b,qS Mf b→b<M1.H.size→qS M1 b:=fun b hb bg=>by
   rcases r7 b hb with hb|hb
   ·rcases g7 b (n7 b hb) with h|⟨id,an,C,hC,BY⟩
    ·exact(f3 b h).1
    ·obtain⟨o,ho,gP⟩:=uu hK id an
     exact(sA b ⟨id,o,C,ho,gP,hC,BY⟩ bg).own dU
   ·exact(sA b (Hj b hb) bg).own dU
  have K9:Mf.H=(M1.overX L ao).H:=r1.trans (n1.trans g1)
  refine⟨Lm.trans ?_ r6,?_,fun b hb hn=>?_,aK,fun b hb bg=>?_,fun b hb bg=>?_⟩
  ·rw[n1,g1];exact f2.size
  ·rw[K9];exact f2.size
  ·rw[K9];exact f2.frame b hb hn
  ·rw[r2,n2,g2] at hb;exact f2.Gb b hb bg
  ·rw[r3,n3,g3] at hb;exact f2.Fb b hb bg
 have oz:(vL bs++kS (nm+(rs.cells++os.flatten).length) ns).length=(uy os (G.drop rs.cells.length)).length:=by
  rw[yLj,kW.length,k2]
 refine⟨Mf,⟨c6,c7,c8,?_,?_,r5,a4.trans Si⟩,?_⟩
 ·rw[r1,n1,g1];show L.H=_;rw[e1,c2]
 ·rw[r4,n4,g4]
  show _=qL M.h (u0++(oq (jE (as.flatMap AX.cells) cs)++((np nm (rs.cells++os.flatten) dx).2++B8 (vL bs++kS (nm+(rs.cells++os.flatten).length) ns) (uy os ((xX ((rs.cells++os.flatten).map RC.lnk) (vL bs++kS (nm+(rs.cells++os.flatten).length) ns) (np nm (rs.cells++os.flatten) dx).1).drop rs.cells.length)))))
  rw[←hG,kk,kk,kk,←a2]
  refine yVc oz fun m hm=>?_
  rw[List.mem_append,not_or] at hm
  rw[uC,if_neg hm.2]
  refine xK ?_
  show qL M1.h (oq ao) m=_
  rw[uC,uC,←gy]
  simp[hm.1]
 ·show zW Mf (rs.mk ((xX ((rs.cells++os.flatten).map RC.lnk) (vL bs++kS (nm+(rs.cells++os.flatten).length) ns) (np nm (rs.cells++os.flatten) dx).1).take rs.cells.length)) rv
  rw[←hG]
  exact d2 Mf _ (hgr.mono fun _ _ h=>h.ext r6)
theorem yCr {P na f}(bY:∀vs w,(callFunc f vs).run P w=.ok (.enter f vs) w)
  {as rs os ns X} {S:XD as→Option X} {pack unpack} (eP:∀d,pack (unpack d)=d) (jv:so as na=true)
  (kX:∀d x,S d=some x→∀M w vs,M.h=(ju as d).2→M.H=w.heap→Ok M→zM (zW M) (ju as d).1 vs.toList→Calls P f vs w fun
   |.returned rv,w'=>∃(v:zT) (st:St),Hb as rs os ns unpack v st=some x∧Li w na (as.any AX.isChn) M vs rv w' v st
   |_,_=>False)
  {nm args h v u} (hy:yI (pW as rs os ns S pack nm args h) v u):rY P f args h v u:=by
 intro M w vs hh hH ok hv
 refine .inl ⟨bY vs w,?_⟩
 unfold pW at hy
 split at hy
 ·exact hy.elim
 rename_i u0 io rows d he
 obtain⟨x,hx,rfl,rfl⟩:=hy
 obtain⟨Ml,b1,b2,b3,b4,b5⟩:=yP6 jv he M w vs hh hH ok hv
 refine Calls.mono (kX d x hx Ml w vs b1 b2 b3 b4) fun e w' hl=>?_
 cases e with
 |panicked _=>omega
 |outgrown=>omega
 |returned rv=>
  obtain⟨v0,st,hK,hl⟩:=hl
  have hK:ux st as rs os ns v0=some (pack x):=by
   unfold Hb at hK
   grind
  grind
theorem vC4 {P na f}(bY:∀vs w,(callFunc f vs).run P w=.ok (.enter f vs) w)
  {as rs rs2 os os2 ns ns2 X Y} {S:XD as→Option (X⊕Y)} {pk up gT kT}
  (eP:∀d,pk (up d)=d) (mD:∀d,gT (kT d)=d) (jv:so as na=true)
  (kX:∀d x,S d=some x→∀M w vs,M.h=(ju as d).2→M.H=w.heap→Ok M→zM (zW M) (ju as d).1 vs.toList→Calls P f vs w fun
   |.returned rv,w'=>∃(v:zT) (st:St),Le as rs os ns rs2 os2 ns2 up kT v st=some x∧Li w na (as.any AX.isChn) M vs rv w' v st
   |_,_=>False)
  {nm args h v u} (hy:yI (sr as rs os ns rs2 os2 ns2 S pk gT nm args h) v u):rY P f args h v u:=by
 intro M w vs hh hH ok hv
 refine .inl ⟨bY vs w,?_⟩
 unfold sr at hy
 split at hy
 ·exact hy.elim
 rename_i u0 io rows d he
 obtain⟨Ml,b1,b2,b3,b4,b5⟩:=yP6 jv he M w vs hh hH ok hv
 rcases hy with⟨x,hx,rfl,rfl⟩|⟨x,hx,rfl,rfl⟩<;>
 ·refine Calls.mono (kX d _ hx Ml w vs b1 b2 b3 b4) fun e w' hl=>?_
  cases e with
  |panicked _=>omega
  |outgrown=>omega
  |returned rv=>
   obtain⟨v0,st,hK,hl⟩:=hl
   unfold Le at hK
   grind
theorem yH6 {E}(hE:fJ E)(hS:iJ E.sums)(hm:E.P.follows .mixedOrders=true){A k pre na f fn}(hf:E.P.funcs[f]? =some fn)(hL:∀c,fn.body=some c→wE E.P A pre na fn.ntmps c){chn}(lL:(!chn||A.loops.isEmpty)=true)
  {R K} {x:R} {args h} (aT:ja E A k pre na fn args h K=some x) {M w vs} (h1:M.h=h) (h2:M.H=w.heap) (h3:Ok M) (h4:zM (zW M) args vs.toList):
  Calls E.P f vs w fun
   |.returned rv,w'=>∃(v:zT) (st:St),K v st=some x∧Li w na chn M vs rv w' v st
   |_,_=>False:=by
 refine Calls.mono (R0 hE hS hm hf hL aT h1 h2 h3 h4) fun e w' hl=>?_
 cases e with
 |panicked _=>omega
 |outgrown=>omega
 |returned rv=>
  obtain⟨M',v,st,a1,a2,a3,a4,a5,a6,a7,a8,a9,Hk,Hl⟩:=hl
  refine⟨v,st,a1,M',a2,a3,a4,a5,fun hc=>a6 ?_,a7,a8,a9,Hk,Hl⟩
  simp_all
theorem SJ {E}(hE:fJ E)(hS:iJ E.sums)(hm:E.P.follows .mixedOrders=true){A k pre na f fn}(hf:E.P.funcs[f]? =some fn)(hL:∀c,fn.body=some c→wE E.P A pre na fn.ntmps c)(bY:∀vs w,(callFunc f vs).run E.P w=.ok (.enter f vs) w)
  {as rs os ns X} {S:XD as→Option X} {pack unpack} (eP:∀d,pack (unpack d)=d) (jv:so as na=true) (lL:(!as.any AX.isChn||A.loops.isEmpty)=true)
  (aT:∀d,ja E A k pre na fn (ju as d).1 (ju as d).2 (Hb as rs os ns unpack)=S d)
  {nm args h v u} (hy:yI (pW as rs os ns S pack nm args h) v u):rY E.P f args h v u:=
 yCr bY eP jv (fun d x hx M w vs h1 h2 h3 h4=>yH6 hE hS hm hf hL lL ((aT d).trans hx) h1 h2 h3 h4) hy
theorem vE7 {E}(hE:fJ E)(hS:iJ E.sums)(hm:E.P.follows .mixedOrders=true){A k pre na f fn}(hf:E.P.funcs[f]? =some fn)(hL:∀c,fn.body=some c→wE E.P A pre na fn.ntmps c)(bY:∀vs w,(callFunc f vs).run E.P w=.ok (.enter f vs) w)
  {as rs rs2 os os2 ns ns2 X Y} {S:XD as→Option (X⊕Y)} {pk up gT kT}
  (eP:∀d,pk (up d)=d) (mD:∀d,gT (kT d)=d) (jv:so as na=true) (lL:(!as.any AX.isChn||A.loops.isEmpty)=true)
  (aT:∀d,ja E A k pre na fn (ju as d).1 (ju as d).2 (Le as rs os ns rs2 os2 ns2 up kT)=S d)
  {nm args h v u} (hy:yI (sr as rs os ns rs2 os2 ns2 S pk gT nm args h) v u):rY E.P f args h v u:=
 vC4 bY eP mD jv (fun d x hx M w vs h1 h2 h3 h4=>yH6 hE hS hm hf hL lL ((aT d).trans hx) h1 h2 h3 h4) hy
section
variable {h h':Hp}
theorem vPr {x c}(hh:∀id∈vG c,h id=h' id):G6 h x c=G6 h' x c:=by
 unfold G6
 split
 ·exact yRg hh
 ·rename_i id;rw[hh id (by simp[vG])]
 ·rename_i id;rw[hh id (by simp[vG])]
 ·rename_i id;rw[hh id (by simp[vG])]
 ·rfl
 ·rfl
theorem yVs:∀{l cs},(∀id∈cs.flatMap vG,h id=h' id)→om h l cs=om h' l cs
 |[],[],_
 |[],_::_,_
 |_::_,[],_=>rfl
 |p::l,c::cs,hh=>by
  simp  at hh
  unfold om
  rw[vPr fun id hi=>hh id (.inl hi),yVs (by grind)]
theorem SK {ls}:iL h ls []=iL h' ls []:=by
 cases ls<;>rfl
theorem vFl {s:AX}{a}(hb:wI a=false):s.get h a=s.get h' a:=by
 unfold AX.get
 cases s with
 |c p=>grind
 |agg l=>grind
 |ptr io l=>
  cases a with
  |c x=>cases x<;>first|rfl|(exact absurd hb (by simp[wI]))
  |_=>rfl
 |fn f bp=>
  cases a with
  |c x=>cases x with
   |fn g ids=>
    cases ids with
    |nil=>dsimp only;rw[SK]
    |cons _ _=>exact absurd hb (by nofun)
   |_=>rfl
  |_=>rfl
 |chn ls=>
  cases a with
  |c x=>cases x<;>first|rfl|(exact absurd hb (by nofun))
  |_=>rfl
theorem vLi {s:AX}{a cs bs}(hb:wI a=false)(e:s.get h a=some (cs,bs)):∀id∈cs.flatMap vG,id∈yN a:=by
 unfold AX.get at e
 split at e
 ·cases e;intro id an;simp  at an;exact an
 ·obtain⟨_,e⟩:=wC e
  cases e;exact fun id an=>an
 ·exact absurd hb (by nofun)
 ·rename_i f bp g ids
  obtain⟨_,e⟩:=wC e
  cases ids with
  |nil=>cases bp with
   |nil=>cases e;simp
   |cons _ _=>cases e
  |cons _ _=>exact absurd hb (by nofun)
 ·exact absurd hb (by nofun)
 ·cases e
theorem yZe:∀{l as},as.any wI=false→jt h l as=jt h' l as
 |[],[],_
 |[],_::_,_
 |_::_,[],_=>rfl
 |s::l,a::as,hb=>by
  simp only[List.any_cons,Bool.or_eq_false_iff] at hb
  unfold jt
  rw[vFl (h:=h) (h':=h') hb.1,yZe hb.2]
theorem yTr:∀{l as cs bs},as.any wI=false→jt h l as=some (cs,bs)→∀id∈cs.flatMap vG,id∈as.flatMap yN
 |[],[],cs,bs,_,e=>by cases e;simp
 |s::l,a::as,cs,bs,hb,e=>by
  simp only[List.any_cons,Bool.or_eq_false_iff] at hb
  unfold jt at e
  split at e
  ·rename_i c1 b1 c2 b2 e1 e2
   cases e
   intro id an
   rw[List.flatMap_append,List.mem_append] at an
   rw[List.flatMap_cons,List.mem_append]
   rcases an with an|an
   ·exact .inl (vLi hb.1 e1 id an)
   ·exact .inr (yTr hb.2 e2 id an)
  ·cases e
theorem vGb {s a}(hh:∀id∈yN a,h id=h' id):uz h s a=uz h' s a:=by
 unfold uz
 split
 ·rename_i p x
  have:=B1 (h:=h) (h':=h') (l:=[p.isKept]) (cs:=[x]) (by rw[BZ];exact hh)
  simp_all
 ·rename_i l xs
  have:=B1 (h:=h) (h':=h') (l:=l.map PC.isKept) (cs:=xs) hh
  simp_all
 ·rfl
theorem vSx {s a a' u}(e:uz h s a=some (a',u)):(∀id∈yN a',id∈yN a)∧(wI a=false→wI a'=false):=by
 unfold uz at e
 split at e
 ·rename_i p x
  split at e
  ·rename_i y u1 e1
   cases e
   refine⟨fun id an=>by have:=B2 e1 id (by rw[BZ];omega);rwa [BZ] at this,fun hb=>?_⟩
   cases hk:p.isKept with
   |false=>rw[hk] at e1;cases e1;exact hb
   |true=>
    rw[hk] at e1
    unfold fK at e1
    split at e1
    ·rename_i c1 u2 lH pA e2 e3
     cases e1
     cases hy:wI (.c y) with
     |false=>rfl
     |true=>rw[(Sj e2).2 hy] at hb;cases hb
    ·cases e1
  ·cases e
 ·split at e
  ·rename_i ys u1 e1
   cases e
   exact⟨B2 e1,fun _=>rfl⟩
  ·cases e
 simp_all
theorem ySs:∀{l as},(∀id∈as.flatMap yN,h id=h' id)→pV h l as=pV h' l as
 |[],as,_=>by rfl
 |_::_,[],_=>rfl
 |s::l,a::as,hh=>by
  simp  at hh
  unfold pV
  rw[vGb fun id hi=>hh id (.inl hi),ySs (by grind)]
theorem yEn:∀{l as eG u},pV h l as=some (eG,u)→(∀id∈eG.flatMap yN,id∈as.flatMap yN)∧(as.any wI=false→eG.any wI=false)
 |[],as,eG,u,e=>by cases as<;>cases e<;>exact by simp
 |s::l,[],eG,u,e=>by cases e;simp
 |s::l,a::as,eG,u,e=>by
  unfold pV at e
  split at e
  ·rename_i a1 u1 Sg pA e1 e2
   obtain⟨k1,k2⟩:=vSx e1
   obtain⟨k3,k4⟩:=yEn e2
   grind
  ·cases e
theorem yU5 {as nm n args}(h1:args.any wI=false→∀id,(id∈args.flatMap yN∨mg nm id=true)→h id=h' id)(h2:args.any wI=true→h=h'):ya as nm n args h=ya as nm n args h':=by
 cases hb:args.any wI with
 |true=>rw[h2 hb]
 |false=>
  have hh:=h1 hb
  unfold ya
  rw[ySs (h:=h) (h':=h') (by grind)]
  cases e:pV h' as args with
  |none=>rfl
  |some p=>
   obtain⟨ez,u⟩:=p
   obtain⟨k1,k2⟩:=yEn e
   dsimp only
   rw[yZe (h:=qL h u) (h':=qL h' u) (k2 hb)]
   cases e2:jt (qL h' u) as ez with
   |none=>rfl
   |some q=>
    obtain⟨cs,bs⟩:=q
    dsimp only
    rw[yVs (h:=qL h u) (h':=qL h' u) fun id an=>xK (hh id (.inl (k1 id (yTr (k2 hb) e2 id an))))]
    cases om (qL h' u) (as.flatMap AX.cells) cs with
    |none=>rfl
    |some d=>
     cases hle:Nat.ble n 100 with
     |false=>simp
     |true=>
      have hle:=Nat.le_of_ble_eq_true hle
      rw [Sk (h := h) (h' := h') fun i hi => hh _ (.inr (by
       simp only[mg,Bool.and_eq_true]
       exact⟨by simp,by simp[Nat.blt_eq];omega⟩))]
end
theorem yLz {as rs os ns X}{S:Nat→XD as→Option X}{pack}:G1 fun k nm args h=>pW as rs os ns (S k) pack nm args h:=by
 intro k nm args h h' h1 h2
 show pW as rs os ns (S k) pack nm args h=pW as rs os ns (S k) pack nm args h'
 unfold pW
 rw[yU5 h1 h2]
theorem vSc {as rs rs2 os os2 ns ns2 X Y}{S:Nat→XD as→Option (X⊕Y)}{pk gT}:G1 fun k nm args h=>sr as rs os ns rs2 os2 ns2 (S k) pk gT nm args h:=by
 intro k nm args h h' h1 h2
 show sr as rs os ns rs2 os2 ns2 (S k) pk gT nm args h=sr as rs os ns rs2 os2 ns2 (S k) pk gT nm args h'
 unfold sr
 rw[yU5 h1 h2]
structure zD (P:Program) (r:Nat×mA):Prop where
 ok:yL9 P r
 loc:G1 r.2
def Ce (P:Program):List (Nat×mA)→Prop
 |[]=>True
 |r::l=>zD P r∧Ce P l
theorem Ce.all {P}:∀{l},Ce P l→∀r∈l,zD P r
 |a::l,h,r,hr=>by
  rcases List.mem_cons.1 hr with rfl|hr
  ·exact h.1
  ·exact Ce.all h.2 r hr
structure jA (E:Env):Prop where
 ok:fJ E
 loc:iJ E.sums
 ord:E.P.follows .mixedOrders=true
theorem Lp {P l eqT}(he:Gr P eqT)(hm:P.follows .mixedOrders=true)(h:Ce P l):jA ⟨P,eqT,eQ l⟩:=
 ⟨⟨he,ySa fun r hr=>(h.all r hr).ok⟩,yNz fun r hr=>(h.all r hr).loc,hm⟩
theorem mE {P l}(hm:P.follows .mixedOrders=true)(h:Ce P l):jA ⟨P,fun _=>false,eQ l⟩:=Lp vQv hm h
theorem qE {P A pre na nt c L}(h:zU P pre na nt (zR c 0) L)(hn:(mB c).length=1:=by kernel_rfl) (hl:tS A (zR c 0)=some L:=by kernel_rfl):wE P A pre na nt c:=
 loopsOK_of hn (by grind)
theorem zG {P A pre na nt c}(hn:(mB c).length=0:=by kernel_rfl):wE P A pre na nt c:=vRz hn
def yQg (E:Env)(A:zZ)(na nt:Nat)(b:Code) ins outs {X Y:Type}(lB:tN outs→X)(c:Y→pw ins→Option X)(bf:Nat→Y→Y):Prop:=
 ∀k rec d,c (bf k rec) d=Ks (1000+gw) ins d fun st=>iZ E A k 1000 na nt b st (qZq 1000 ins outs lB (c rec))
abbrev vUt (X:Type):=Nat→X→(R:Type)→(Ex→St→Option R)→Option R
theorem vPp {E A na nt b ins outs X Y lB c bf}(hE:jA E)(hs:yQg E A na nt b ins outs lB c bf)(f:Nat→Nat→Y)(elim:vUt X)
  (hX:∀o R K,elim (1000+gw) (lB o) R K=Bp (1000+gw) outs o K) (hL:wE E.P A 1000 na nt b) (h0:∀k d,c (f k 0) d=none:=by intros;rfl) (h1:∀k n,f k (n+1)=bf k (f k n):=by intros;rfl):
  zU E.P 1000 na nt b ⟨ins,outs,X,fun k d=>c (f k k) d,elim⟩:=
 vYe hE.ok hE.loc hE.ord hL lB elim hX (fun k n d=>c (f k n) d) h0 (fun k n d=>by rw[h1];exact hs k (f k n) d)
def SM (E:Env)(A:zZ)(na:Nat)(fn:Func) as (rs:RS){X}(up:RL rs.cells→X)(S:Nat→AD as→Option X):Prop:=
 ∀k d,ja E A k 1000 na fn (od as d).1 (od as d).2 (lK rs up)=S k d
def yGz (E:Env)(A:zZ)(na:Nat)(fn:Func) as (rs:RS)(os:List (List RC))(ns:Nat){X}(up:RL (rs.cells++os.flatten)→X)(S:Nat→XD as→Option X):Prop:=
 ∀k d,ja E A k 1000 na fn (ju as d).1 (ju as d).2 (Hb as rs os ns up)=S k d
def yNi (E:Env)(A:zZ)(na:Nat)(fn:Func) as (rs:RS)(os:List (List RC))(ns:Nat)(rs2:RS)(os2:List (List RC))(ns2:Nat){X Y}(up:RL (rs.cells++os.flatten)→X)(kT:RL (rs2.cells++os2.flatten)→Y)(S:Nat→XD as→Option (X⊕Y)):Prop:=
 ∀k d,ja E A k 1000 na fn (ju as d).1 (ju as d).2 (Le as rs os ns rs2 os2 ns2 up kT)=S k d
theorem vN5 {E A na f fn as rs X S pack}{unpack:RL rs.cells→X}(hE:jA E)(aT:SM E A na fn as rs unpack S)(hL:wE E.P A 1000 na fn.ntmps (zS fn))
  (hf:E.P.funcs[f]? =some fn:=by kernel_rfl) (hb:fn.body.isNone=false:=by kernel_rfl) (hn:(fn.name== "runtime.NumGoroutine")=false:=by kernel_rfl) (eP:∀d,pack (unpack d)=d:=by intro d;rfl):
  zD E.P (f,fun k nm args h=>nq as rs (S k) pack nm args h):=
 ⟨fun k _ _ _ _ _ hy=>vGn hE.ok hE.loc hE.ord hf (body_loops hL) (G2 hf hb hn) eP (aT k) hy,yWf⟩
theorem SN {E A na f fn as rs os ns X}{S:Nat→XD as→Option X}{pack unpack}(hE:jA E)(aT:yGz E A na fn as rs os ns unpack S)
  (hL:wE E.P A 1000 na fn.ntmps (zS fn)) (hf:E.P.funcs[f]? =some fn:=by kernel_rfl) (hb:fn.body.isNone=false:=by kernel_rfl) (hn:(fn.name== "runtime.NumGoroutine")=false:=by kernel_rfl) (jv:so as na=true:=by kernel_rfl) (lL:(!as.any AX.isChn||A.loops.isEmpty)=true:=by kernel_rfl) (eP:∀d,pack (unpack d)=d:=by intro d;rfl):
  zD E.P (f,fun k nm args h=>pW as rs os ns (S k) pack nm args h):=
 ⟨fun k _ _ _ _ _ hy=>SJ hE.ok hE.loc hE.ord hf (body_loops hL) (G2 hf hb hn) eP jv lL (aT k) hy,yLz⟩
theorem vIj {E A na f fn as rs rs2 os os2 ns ns2 X Y}{S:Nat→XD as→Option (X⊕Y)}{pk up gT kT}(hE:jA E)
  (aT:yNi E A na fn as rs os ns rs2 os2 ns2 up kT S)
  (hL:wE E.P A 1000 na fn.ntmps (zS fn)) (hf:E.P.funcs[f]? =some fn:=by kernel_rfl) (hb:fn.body.isNone=false:=by kernel_rfl) (hn:(fn.name== "runtime.NumGoroutine")=false:=by kernel_rfl) (jv:so as na=true:=by kernel_rfl) (lL:(!as.any AX.isChn||A.loops.isEmpty)=true:=by kernel_rfl) (eP:∀d,pk (up d)=d:=by intro d;rfl) (mD:∀d,gT (kT d)=d:=by intro d;rfl):
  zD E.P (f,fun k nm args h=>sr as rs os ns rs2 os2 ns2 (S k) pk gT nm args h):=
 ⟨fun k _ _ _ _ _ hy=>vE7 hE.ok hE.loc hE.ord hf (body_loops hL) (G2 hf hb hn) eP mD jv lL (aT k) hy,vSc⟩
theorem vGg {E A na f fn sh t rs X}{S:Nat→List t.den→Option X}{pack unpack}(hE:jA E)(cI:∀k,ja E A k 1000 na fn [.c .nsl] (kR []) (lK rs unpack)=S k [])
  (aT:∀k xs,ja E A k 1000 na fn [.c (.nfl sh t xs)] (kR []) (lK rs unpack)=S k xs) (hL:wE E.P A 1000 na fn.ntmps (zS fn)) (hf:E.P.funcs[f]? =some fn:=by kernel_rfl) (hb:fn.body.isNone=false:=by kernel_rfl) (hn:(fn.name== "runtime.NumGoroutine")=false:=by kernel_rfl) (eP:∀d,pack (unpack d)=d:=by intro d;rfl):
  zD E.P (f,fun k nm args h=>nq [.c (.dat sh t)] rs (fun d=>S k d.1) pack nm args h):=
 ⟨fun k _ _ _ _ _ hy=>vMm hE.ok hE.loc hE.ord hf (body_loops hL) (G2 hf hb hn) eP (fun x hx=>(cI k).trans hx) (by grind) hy,yWf⟩
def Cf (k:Nat)(a b c:Int):Option (Int×Int):=
 bif decide (c=0) then some (Int.ofNat ((a.toNat+b.toNat+0)%18446744073709551616),Int.ofNat ((a.toNat+b.toNat+0)/18446744073709551616)) else none
def Lq:mA:=fun k nm args h=>match args with
 |[.c (.int .u64 a),.c (.int .u64 b),.c (.int .u64 c)]=>.call (Int×Int) (Cf k a b c) (fun r=>(.tup [(false,[.int .u64 r.1]),(false,[.int .u64 r.2])],[]))
 |_=>.stuck
theorem SO {P} a b w:
  (add64Entry #[.int .u64 a,.int .u64 b,.int .u64 0]).run P w=.ok (.tuple #[.int .u64 (Int.ofNat ((a.toNat+b.toNat+0)%18446744073709551616)),.int .u64 (Int.ofNat ((a.toNat+b.toNat+0)/18446744073709551616))]) w:=rfl
theorem vCi {P f fn}(hf:P.funcs[f]? =some fn:=by kernel_rfl) (oA:(fn.name== "runtime.NumGoroutine")=false:=by kernel_rfl) (hb:fn.body.isNone=true:=by kernel_rfl)
  (hn:Extern.findNext fn=none:=by kernel_rfl) (he:Extern.find fn=some add64Entry:=by kernel_rfl):
  zD P (f,Lq):=by
 refine⟨fun k nm args h v u hy=>?_,fun _ _ _ _ _ _ _=>rfl⟩
 intro M w vs hh hH ok hv
 refine .inr ?_
 replace hy:yI (Lq k nm args h) v u:=hy
 unfold Lq at hy
 split at hy
 ·rename_i a b c
  obtain⟨x,hx,rfl,rfl⟩:=hy
  match hl:vs.toList,hv with
  |[v1,v2,v3],hv=>
   obtain⟨h1,h2,h3,_⟩:=hv
   cases h1;cases h2;cases h3
   obtain rfl:vs=#[.int .u64 a,.int .u64 b,.int .u64 c]:=by grind
   obtain⟨hc,hx⟩:=wC hx
   cases hx
   have hc:c=0:=by simp_all
   subst hc
   refine⟨.tuple #[.int .u64 (Int.ofNat ((a.toNat+b.toNat+0)%18446744073709551616)),.int .u64 (Int.ofNat ((a.toNat+b.toNat+0)/18446744073709551616))],w,M,?_,⟨rfl,rfl,rfl,hH,rfl,ok,.refl M⟩,?_⟩
   ·rw[run_callFunc_extern hf oA hb hn he,SO a b w]
    rfl
   ·exact⟨#[.int .u64 (Int.ofNat ((a.toNat+b.toNat+0)%18446744073709551616)),.int .u64 (Int.ofNat ((a.toNat+b.toNat+0)/18446744073709551616))],rfl,rfl,rfl,trivial⟩
 ·exact hy.elim
end Go.Ab
