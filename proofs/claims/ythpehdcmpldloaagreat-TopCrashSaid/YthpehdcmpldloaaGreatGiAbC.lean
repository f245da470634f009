/- part 2 -/
import Derived.Test.YthpehdcmpldloaaGreatGiAbB
import Derived.ProofKit
import Derived.Below
import Derived.Carry
import Derived.Laws.Externs
set_option linter.unusedVariables false
set_option linter.unusedSimpArgs false
set_option linter.unusedSectionVars false
namespace Go.Ab
def Ex.toExit:Ex→Exit
 |.normal=>.normal
 |.ret=>.ret
 |.exit id=>.exit id
theorem yDh {P Q c}(I:Nat→Act→World→Prop)(round:∀n a w,I n a w→c.wp P (Exit.then (fun a' w'=>∃m,m<n∧I m a' w') Q) a w){n a w}(h₀:I n a w):(Code.loop c).wp P Q a w:=by
 intro b k cs;have key:∀n a w,I n a w→∃e a' w',Q e a' w'∧Arrives P (lone (b.at a (.code c::.inLoop c::k)) cs w) b k cs e a' w':=by
  intro n
  induction n using Nat.strongRecOn with
  |_ n ih=>
   intro a w hI;obtain⟨e,a₁,w₁,hq,kN⟩:=round n a w hI b (.inLoop c::k) cs;cases e with
   |normal=>
    obtain⟨m,hm,hI₁⟩:=hq;obtain⟨e₂,a₂,w₂,hq₂,harr₂⟩:=ih m hm a₁ w₁ hI₁;exact⟨e₂,a₂,w₂,hq₂,.of_steps (Steps.trans kN (.one step_inLoop)) harr₂⟩
   |exit id=>exact⟨_,a₁,w₁,hq,.pass (x:=.inLoop c) rfl (by simp) kN⟩
   |goto l=>exact⟨_,a₁,w₁,hq,.pass (x:=.inLoop c) rfl (by simp) kN⟩
   |ret=>exact⟨_,a₁,w₁,hq,.pass (x:=.inLoop c) rfl (fun _ _=>.inl (by simp)) kN⟩
   |panic ch=>exact⟨_,a₁,w₁,hq,.pass (x:=.inLoop c) rfl (fun _ _=>.inl (by simp)) kN⟩
   |outgrown=>exact⟨_,a₁,w₁,hq,.pass (x:=.inLoop c) rfl (by simp) kN⟩
 obtain⟨e,a',w',hq,kN⟩:=key n a w h₀;exact⟨e,a',w',hq,.of_steps (.one step_loop) kN⟩
def N5 (tmps:Array Value):ResultVar→Sem Value
 |.tmp t=>pure (tmps.getD t undef)
 |.cell c t=>do loadVar t (←asAddr (tmps.getD c undef))
def A8 (base:Nat):(l:List (Ex×zE))→wa l→Ex×St
 |[],d=>(.normal,⟨fun _=>.undef,fun _=>none⟩)
 |[p],d=>(p.1,zN base p.2 d)
 |p::q::l,d=>match d with
  |.inl d=>(p.1,zN base p.2 d)
  |.inr d=>A8 base (q::l) d
theorem yV3 {R base K}{out:R}:∀{l d},Dx base l d K=some out→K (A8 base l d).1 (A8 base l d).2=some out
 |[p],_,h
 |p::q::l,.inl d,h=>h
 |p::q::l,.inr d,h=>yV3 (l:=q::l) h
def Jf (base:Nat):(l:List zE)→rW l→St
 |[],_=>⟨fun _=>.undef,fun _=>none⟩
 |[S],d=>zN base S d
 |S::T::l,d=>match d with
  |.inl d=>zN base S d
  |.inr d=>Jf base (T::l) d
theorem vF3 {R base K}{out:R}:∀{l d},Nr base l d K=some out→K (Jf base l d)=some out
 |[S],_,h
 |S::T::l,.inl d,h=>h
 |S::T::l,.inr d,h=>vF3 (l:=T::l) h
def zS (P:Program)(pre na nt:Nat)(b:Code)(L:zT):Prop:=∀k d x,L.sum k d=some x→∀(a0:Nat→Value) (M0:zK) (w0:World) (a:Act) (w:World) (Q:Exit→Act→World→Prop),
 wA false na nt a0 M0 w0 (Jf (pre+iz) L.ins d) a w→
 (∀(o:wa L.outs) a' w',(∀R K,L.elim (pre+iz) x R K=Dx (pre+iz) L.outs o K)→wA false na nt a0 M0 w0 (A8 (pre+iz) L.outs o).2 a' w'→Q (A8 (pre+iz) L.outs o).1.toExit a' w')→
 (Code.loop b).wp P Q a w
def wO (P:Program)(A:zW)(pre na nt:Nat):Code→Prop
 |.seq a b=>wO P A pre na nt a∧wO P A pre na nt b
 |.cond _ a b=>wO P A pre na nt a∧wO P A pre na nt b
 |.block _ b=>wO P A pre na nt b
 |.loop b=>(∀L,wi A b=some L→zS P pre na nt b L)∧(wi A b=none→wO P A pre na nt b)
 |_=>True
theorem yO6 {A c b st}(h:st.ev c=.c (.bool b)):Ns A c b st=st:=by
 unfold Ns;split
 ·rw[UM h]
 ·rfl
section
variable {nl:Bool} {E:Env} {A:zW} {k pre na nt:Nat} {a0:Nat→Value} {R:Type} {M0:zK} {w0:World} {out:R}
theorem U7 {a w st}(r:wA false na nt a0 M0 w0 st a w):∀{l x},Dw pre l st=some x→wA false na nt a0 M0 w0 (Jf (pre+iz) l x) a w
 |[S],x,h=>N4 r h
 |S::T::l,x,h=>by
  unfold Dw at h;split at h
  ·rename_i d hd;cases h;exact N4 r hd
  ·split at h
   ·rename_i d hd;cases h;exact U7 r (l:=T::l) hd
   ·cases h
theorem yFd (hE:gF E)(hS:kb E.sums)(hm:E.P.follows .mixedOrders=true)(NQ:nl=true→A.loops=[]):∀c,wO E.P A pre na nt c→∀st K a w Q,kA E A k pre na nt c st K=some out→wA nl na nt a0 M0 w0 st a w→
  (∀e bP a' w',wA nl na nt a0 M0 w0 bP a' w'→K e bP=some out→Q e.toExit a' w')→c.wp E.P Q a w:=by
 intro c
 induction c with
 |skip=>exact fun _ st K a w Q h r hK=>wp_skip (hK .normal st a w r h)
 |region id ops draw=>
  intro _ st K a w Q h r hK;cases draw with
  |true=>
   cases he:Iz ops with
   |false=>simp only[kA,he] at h;cases h
   |true=>
    simp only[kA,he] at h;exact vUe hE hS hm he h r fun bP a' w' r' h'=>hK .normal bP a' w' r' h'
  |false=>
   have:=yC2 hE (Q:=Q) _ _ _ _ a w (by grind) h r fun bP a' w' r' h'=>hK .normal bP a' w' r' h'
   refine wp_region ?_;have e:(ops.toList.zipIdx.map fun p=>(p.2,p.1)).map (·.1)=List.range ops.size:=by
    rw[List.map_map];have e2:((fun x:Nat×Oper=>x.1)∘fun p:Oper×Nat=>(p.2,p.1))=Prod.snd:=rfl;rw[e2,List.zipIdx_map_snd,←List.range_eq_range'];simp
   simp_all
 |seq x y U8 U9=>
  intro hL st K a w Q h r hK;simp only[kA] at h;refine wp_seq (U8 hL.1 st _ a w _ h r fun e bP a' w' r' h'=>?_);cases e with
  |normal=>exact U9 hL.2 bP K a' w' Q h' r' hK
  |ret=>exact hK .ret bP a' w' r' h'
  |exit id=>exact hK (.exit id) bP a' w' r' h'
 |cond c x y U8 U9=>
  intro hL st K a w Q h r hK;simp only[kA] at h;split at h
  ·rename_i t ht;obtain⟨M,_,_,_,_,hv⟩:=r.ex;have hc:=ySp hv c;rw[ht] at hc;refine wp_cond (t:=t) hc ?_;cases t with
   |true=>
    rw[yO6 ht,cond_true] at h;exact U8 hL.1 st K a w Q h r hK
   |false=>
    rw[yO6 ht,cond_false] at h;exact U9 hL.2 st K a w Q h r hK
  ·cases h
 |block id b ih=>
  intro hL st K a w Q h r hK;simp only[kA] at h;refine wp_block (ih hL st _ a w _ h r fun e bP a' w' r' h'=>?_);cases e with
  |normal=>exact hK .normal bP a' w' r' h'
  |ret=>exact hK .ret bP a' w' r' h'
  |exit i=>
   show if i=id then Q .normal a' w' else Q (.exit i) a' w'
   dsimp only at h';cases e:Nat.beq i id with
   |true=>
    rw[e] at h';rw[if_pos (by simpa using e)];exact hK .normal bP a' w' r' h'
   |false=>
    rw[e] at h';rw[if_neg (fun e'=>by simp_all)];exact hK (.exit i) bP a' w' r' h'
 |loop b ih=>
  intro hL st K a w Q h r hK;simp only[kA] at h;split at h
  ·rename_i hN;refine yDh (fun n a w=>∃st,wA nl na nt a0 M0 w0 st a w∧Th (kA E A k pre na nt b) n st K=some out) (fun n a w ⟨st,r,hi⟩=>?_) ⟨st,r,h⟩;cases n with
   |zero=>cases hi
   |succ n=>
    refine ih (hL.2 hN) st _ a w _ hi r fun e bP a' w' r' h'=>?_
    cases e with
    |normal=>exact⟨n,by simp,bP,r',h'⟩
    |ret=>exact hK .ret bP a' w' r' h'
    |exit id=>exact hK (.exit id) bP a' w' r' h'
  ·rename_i L hN;split at h
   ·cases h
   ·rename_i d hd;obtain⟨x,hx,h⟩:=Option.bind_eq_some_iff.1 h;cases nl with
    |true=>
     unfold wi at hN;grind
    |false=>exact hL.1 L hN k d x hx a0 M0 w0 a w Q (U7 r hd) fun o a' w' ho r'=>hK _ _ a' w' r' (yV3 (by simp_all))
 |exit id=>exact fun _ st K a w Q h r hK=>wp_exit (hK (.exit id) st a w r h)
 |ret=>exact fun _ st K a w Q h r hK=>wp_ret (hK .ret st a w r h)
 |_=>nofun
theorem yN2 {a b}(h:Tb a b=true):a=b:=by
 cases a<;>cases b<;>first|rfl|(cases h)|skip
 rw[Nat.eq_of_beq_eq_true h]
theorem yHk {a w st e}(r:wA false na nt a0 M0 w0 st a w):∀{l x},IB pre l e st=some x→(A8 (pre+iz) l x).1=e∧wA false na nt a0 M0 w0 (A8 (pre+iz) l x).2 a w
 |[p],x,h=>by
  obtain⟨he,h⟩:=nW h;exact⟨yN2 he,N4 r h⟩
 |p::q::l,x,h=>by
  unfold IB at h;split at h
  ·rename_i d hd;cases h;obtain⟨he,hd⟩:=nW hd;exact⟨yN2 he,N4 r hd⟩
  ·split at h
   ·rename_i d hd;cases h;exact yHk r (l:=q::l) hd
   ·cases h
theorem vS3 (hE:gF E)(hS:kb E.sums)(hm:E.P.follows .mixedOrders=true){b ins outs}(hL:wO E.P A pre na nt b){X} mT elim (hX:∀o R K,elim (pre+iz) (mT o) R K=Dx (pre+iz) outs o K)
  (rec:Nat→Nat→rW ins→Option X) (h0:∀k d,rec k 0 d=none)
  (aL:∀k n d,rec k (n+1) d=Nr (pre+iz) ins d fun st=>kA E A k pre na nt b st (vCv pre ins outs mT (rec k n))):zS E.P pre na nt b ⟨ins,outs,X,fun k d=>rec k k d,elim⟩:=by
 intro k d x hx a0 M0 w0 a w Q r hQ;refine yDh (fun n a w=>∃d,wA false na nt a0 M0 w0 (Jf (pre+iz) ins d) a w∧rec k n d=some x) (fun n a w ⟨d,r,hi⟩=>?_) ⟨d,r,hx⟩;cases n with
 |zero=>simp_all
 |succ n=>
  rw[aL k n d] at hi;refine yFd hE hS hm (by simp) b hL _ _ a w _ (vF3 hi) r fun e bP a' w' r' h'=>?_
  have out:∀e,(match IB pre outs e bP with|some o=>some (mT o)|none=>none)=some x→Q e.toExit a' w':=fun e h'=>by
   split at h'
   ·rename_i o ho;obtain⟨h1,h2⟩:=yHk (pre:=pre) r' ho;grind
   ·cases h'
  cases e with
  |normal=>
   have h':(match Dw pre ins bP with|some d=>rec k n d|none=>none)=some x:=h';split at h'
   ·rename_i d' hd;exact⟨n,by simp,d',U7 r' hd,h'⟩
   ·cases h'
  |ret=>exact out .ret h'
  |exit id=>exact out (.exit id) h'
theorem vKy fn tmps:results fn tmps=(do let vs←fn.results.mapM (N5 tmps);pure (if h:vs.size=1 then vs[0] else .tuple vs)):=rfl
theorem vSc (hE:gF E)(hS:kb E.sums)(hm:E.P.follows .mixedOrders=true){st}{a:Act}{w x v M}(hM:M.h=st.h)(hH:M.H=w.heap)(ok:Ok M)(ht:∀t,zV M (st.t t) (a.tmps.getD t undef))(h:wj E st x=some v):
  ∃rv,(N5 a.tmps x).run E.P w=.ok rv w∧zV M v rv:=by
 unfold wj at h;split at h
 ·rename_i t;cases h;exact⟨_,rfl,ht t⟩
 ·rename_i c t;split at h
  ·rename_i id off hc;split at h
   ·split at h
    ·rename_i vs fu;have hv:=ht c;rw[hc] at hv;obtain⟨C,B,hC,hB,e⟩:=hv;obtain⟨C',aE,hO⟩:=ok.obj id _ (by rw[hM];omega);rw[hC] at aE;cases aE;obtain⟨B',kF,aG⟩:=yKz hO;rw[hB] at kF;cases kF;obtain⟨rv2,nV,dv⟩:∃rv,(loadVar t ⟨B,0+off,none⟩).run E.P w=.ok rv w∧zV M v rv:=yZh ok hH aG fu h;refine⟨rv2,?_,dv⟩;simp  at nV;unfold N5;dsimp only;rw[e];simp[asAddr,nV]
    ·cases h
   ·cases h
  ·cases h
theorem Va {M v p rv}(h:Dy v=some p)(hv:zV M v rv):wk M p rv:=by
 unfold Dy at h;split at h
 ·cases h;exact hv
 ·cases h;exact hv
 ·cases h
theorem yL7 {M}:∀{vs xs rs},zM (fun a b=>Dy a=some b) vs xs→zM (zV M) vs rs→zM (wk M) xs rs
 |[],[],[],_,_=>trivial
 |_::_,_::_,_::_,h,k=>⟨Va h.1 k.1,yL7 h.2 k.2⟩
theorem yLr {st}:∀(l:List ResultVar) xs,l.mapM (fun r=>(wj E st r).bind Dy)=some xs→∃vs,l.mapM (wj E st)=some vs∧vs.mapM Dy=some xs
 |[],xs,h=>by simp_all
 |x::l,xs,h=>by
  simp only[List.mapM_cons,Option.bind_eq_bind,Option.bind_eq_some_iff] at h;obtain⟨p,⟨v,h1,h2⟩,ps,h3,h4⟩:=h;obtain⟨vs,k1,k2⟩:=yLr l ps h3;simp_all
theorem vOn (hE:gF E)(hS:kb E.sums)(hm:E.P.follows .mixedOrders=true){fn st}{a:Act}{w v M}(hM:M.h=st.h)(hH:M.H=w.heap)(ok:Ok M)(ht:∀t,zV M (st.t t) (a.tmps.getD t undef))(h:Nt E fn st=some v):
  ∃rv,(results fn a.tmps).run E.P w=.ok rv w∧zV M v rv:=by
 have one:=fun x v=>vSc hE hS hm (x:=x) (v:=v) hM hH ok ht
 have key:∀(l:List ResultVar) (vs:List zY),l.mapM (wj E st)=some vs→∃rs:List Value,(l.mapM (N5 a.tmps)).run E.P w=.ok rs w∧zM (zV M) vs rs:=by
  intro l
  induction l with
  |nil=>exact fun vs h=>by simp at h;subst h;exact⟨[],rfl,trivial⟩
  |cons x l ih=>
   intro vs h;simp[Option.bind_eq_some_iff] at h;obtain⟨v,h1,TM,h2,h3⟩:=h;cases h3;obtain⟨rv,k1,k2⟩:=one x v h1;obtain⟨rs,k3,k4⟩:=ih TM h2;refine⟨rv::rs,?_,k2,k4⟩;simp_all
 have run:∀(vs:List zY),fn.results.toList.mapM (wj E st)=some vs→∃rs:List Value,(results fn a.tmps).run E.P w=.ok (if h:rs.length=1 then rs[0] else .tuple rs.toArray) w∧zM (zV M) vs rs:=fun vs h=>by
  obtain⟨rs,k1,k2⟩:=key _ vs h;refine⟨rs,?_,k2⟩;rw[vKy,Array.mapM_eq_mapM_toList];simp_all
 unfold Nt at h;split at h
 ·cases h;obtain⟨rs,k1,k2⟩:=run [] (by simp_all);cases rs with
  |cons _ _=>exact k2.elim
  |nil=>exact⟨_,k1,#[],rfl,trivial⟩
 ·obtain⟨rs,k1,k2⟩:=run [v] (by simp_all)
  match rs,k2 with
  |[r],k2=>exact⟨_,k1,k2.1⟩
 ·split at h
  ·rename_i xs I5;cases h;obtain⟨vs,k1,k2⟩:=yLr _ _ I5;obtain⟨rs,r1,r2⟩:=run vs k1;have hlen:rs.length≠1:=fun e=>by
    have e1:=r2.length;have e2:=(I4 _ _ _ k1).length;have h3:fn.results.toList.length=1:=by omega
    match hl:fn.results.toList,h3 with
    |[x],_=>simp_all
   rw[dif_neg hlen] at r1;exact⟨_,r1,rs.toArray,rfl,yL7 (I4 _ _ _ k2) r2⟩
  ·cases h
theorem Vb (hE:gF E)(hS:kb E.sums)(hm:E.P.follows .mixedOrders=true){f fn}(hf:E.P.funcs[f]? =some fn)(hL:∀c,fn.body=some c→wO E.P A pre na fn.ntmps c){args h K}(aO:kB E A k pre na fn args h K=some out){M w vs}(hh:M.h=h)(hH:M.H=w.heap)(ok:Ok M)
  (hv:zM (zV M) args vs.toList):Calls E.P f vs w fun
   |.returned rv,w'=>∃(M':zK) (v:zY) (st:St),K v st=some out∧M'.h=st.h∧M'.H=w'.heap∧Ok M'∧ke M M'∧(A.loops=[]→gf M M')∧zV M' v rv∧w'.os=w.os∧w'.tape=w.tape∧w'.output=w.output∧
     (∀t,t<na→zV M' (st.t t) (vs.getD t undef))
   |_,_=>False:=by
 unfold kB at aO;cases hb:fn.body with
 |none=>simp_all
 |some c=>
  rw[hb] at aO;dsimp only at aO;cases hle:Nat.ble args.length fn.ntmps with
  |false=>simp_all
  |true=>
   rw[hle] at aO;rw[cond_true] at aO;have hl:=hv.length;have hle:args.length≤fn.ntmps:=Nat.le_of_ble_eq_true hle;have ee:vs.size≤fn.ntmps:=by simp at hl;omega
   have Jg:∀t,zV M (Nu args t) ((vs++Array.replicate (fn.ntmps-vs.size) undef).getD t undef):=fun t=>by
    unfold Nu;by_cases ht:t<args.length
    ·have Vc:t<vs.size:=by simp at hl;omega
     have:=hv.get t ht (by simpa using Vc);simp only[List.getD_eq_getElem?_getD,List.getElem?_eq_getElem ht,Option.getD_some];simp only[Array.getD_eq_getD_getElem?,Array.getElem?_append_left Vc,Array.getElem?_eq_getElem Vc,Option.getD_some]
     simpa using this
    ·simp only[List.getD_eq_getElem?_getD,List.getElem?_eq_none (Nat.not_lt.1 ht),Option.getD_none];show _=undef;simp;grind
   have r:wA A.loops.isEmpty na fn.ntmps (fun t=>(vs++Array.replicate (fn.ntmps-vs.size) undef).getD t undef) M w {t:=Nu args,h:=h} {tmps:=vs++Array.replicate (fn.ntmps-vs.size) undef,defers:=[]} w:=
    ⟨⟨M,hh,hH,ok,⟨.refl M,fun _ _ C h=>⟨C,h,rfl⟩⟩,Jg⟩,rfl,by simp;omega,rfl,rfl,rfl,fun _ _=>rfl⟩
   refine calls_of_wp hf hb (yFd hE hS hm (by simp) c (hL c hb) _ _ _ _ _ aO r fun e bP a' w' r' hK=>?_);obtain⟨M',q1,q2,q3,q4,q5⟩:=r'.ex;have fin:∀v,Nt E fn bP=some v→K v bP=some out→a'.defers=[]∧∃rv,(results fn a'.tmps).run E.P w'=.ok rv w'∧∃(M':zK) (v:zY) (st:St),K v st=some out∧M'.h=st.h∧M'.H=w'.heap∧Ok M'∧ke M M'∧(A.loops=[]→gf M M')∧zV M' v rv∧w'.os=w.os∧w'.tape=w.tape∧w'.output=w.output∧
     (∀t,t<na→zV M' (st.t t) (vs.getD t undef)):=fun v kO hK=>by
    obtain⟨rv,k1,k2⟩:=vOn hE hS hm q1 q2 q3 q5 kO;refine⟨r'.defers,rv,k1,M',v,bP,hK,q1,q2,q3,q4.g,fun h=>q4.k (by grind),k2,r'.os,r'.tape,r'.output,fun t ht=>?_⟩;have:=q5 t;rw[r'.keep t ht] at this;have e:(vs++Array.replicate (fn.ntmps-vs.size) undef).getD t undef=vs.getD t undef:=by
     by_cases h1:t<vs.size
     ·simp[Array.getD_eq_getD_getElem?,Array.getElem?_append_left h1]
     ·simp;grind
    simp_all
   cases e with
   |exit id=>cases hK
   |normal=>
    dsimp only at hK;split at hK
    ·rename_i v kO;exact fin v kO hK
    ·cases hK
   |ret=>
    dsimp only at hK;split at hK
    ·rename_i v kO;exact fin v kO hK
    ·cases hK
end
inductive PC where
 |int (k:IntKind)|bool|dat (sh:Bool) (t:Ty)|fn (f:Nat)
 |nil|nilp
abbrev PC.den:PC→Type
 |.int _=>Int|.bool=>Bool|.dat _ t=>List t.den|.fn _=>Unit|.nil=>Unit|.nilp=>Unit
abbrev PL:List PC→Type
 |[]=>Unit
 |p::l=>p.den×PL l
inductive AS where
 |c (p:PC)|agg (l:List PC)|ptr (l:List PC)|fn (f:Nat) (bD:List (List PC))
def AS.cells:AS→List PC
 |.c p=>[p]
 |.agg l=>l
 |.ptr l=>l
 |.fn _ bD=>bD.flatten
abbrev AD (l:List AS):Type:=PL (l.flatMap AS.cells)
def A9 (h:Hp)(t:Ty):zZ→Option (List t.den)
 |.nsl=>some []
 |c=>match kz h c with
  |some ⟨s,xs⟩=>iu s t xs
  |none=>none
def uf (h:Hp):(p:PC)→zZ→Option p.den
 |.int k,.int j n=>bif gz j k then some n else none
 |.bool,.bool b=>some b
 |.dat false t,c=>A9 h t c
 |.dat true t,.fsl true s xs=>iu s t xs
 |.dat true t,.nsl=>some []
 |.fn f,.fn g []=>bif Nat.beq f g then some () else none
 |.nil,.nsl=>some ()
 |.nilp,.nilp=>some ()
 |_,_=>none
def Ba (h:Hp):(l:List PC)→List zZ→Option (PL l)
 |[],[]=>some ()
 |p::l,c::cs=>match uf h p c,Ba h l cs with
  |some d,some ds=>some (d,ds)
  |_,_=>none
 |_,_=>none
def D6 (h:Hp)(id:Nat):Option (List zZ):=match h id with
 |some (.box _ cells)=>some cells
 |some (.robox cells)=>some cells
 |_=>none
def ug (h:Hp):List (List PC)→List Nat→Option (List zZ)
 |[],[]=>some []
 |l::ls,id::ids=>match D6 h id,ug h ls ids with
  |some cells,some rest=>bif Nat.beq cells.length l.length then some (cells++rest) else none
  |_,_=>none
 |_,_=>none
def AS.get (h:Hp):AS→zY→Option (List zZ)
 |.c _,.c x=>some [x]
 |.agg l,.agg xs=>bif Nat.beq xs.length l.length then some xs else none
 |.ptr l,.c (.ptr id 0)=>ug h [l] [id]
 |.fn f bD,.c (.fn g ids)=>bif Nat.beq f g then ug h bD ids else none
 |_,_=>none
def sA (h:Hp):List AS→List zY→Option (List zZ)
 |[],[]=>some []
 |s::l,a::as=>match s.get h a,sA h l as with
  |some cs,some rest=>some (cs++rest)
  |_,_=>none
 |_,_=>none
def Bb (h:Hp) l (as:List zY):Option (AD l):=match sA h l as with
 |some cs=>Ba h (l.flatMap AS.cells) cs
 |none=>none
def D7:(p:PC)→p.den→zZ
 |.int k,n=>.int k n
 |.bool,b=>.bool b
 |.dat sh t,xs=>.fsl sh t xs
 |.fn f,_=>.fn f []
 |.nil,_=>.nsl
 |.nilp,_=>.nilp
def wE:(l:List PC)→PL l→List zZ
 |[],_=>[]
 |p::l,d=>D7 p d.1::wE l d.2
def N6:List (List PC)→List zZ→List (List zZ)
 |[],_=>[]
 |l::ls,cs=>cs.take l.length::N6 ls (cs.drop l.length)
def AS.mk (n:Nat)(cs:List zZ):AS→zY
 |.c _=>match cs with|x::_=>.c x|[]=>.undef
 |.agg _=>.agg cs
 |.ptr _=>.c (.ptr n 0)
 |.fn f bD=>.c (.fn f ((List.range bD.length).map (n+·)))
def AS.boxes (cs:List zZ):AS→List (List zZ)
 |.ptr _=>[cs]
 |.fn _ bD=>N6 bD cs
 |_=>[]
def ma:List AS→List zZ→Nat→List zY×List (List zZ)
 |[],_,_=>([],[])
 |s::l,cs,n=>
  let aq:=cs.take s.cells.length;let bs:=s.boxes aq;let rest:=ma l (cs.drop s.cells.length) (n+bs.length)
  (s.mk n aq::rest.1,bs++rest.2)
def mb (bs:List (List zZ)):Hp:=fun n=>match bs[n]? with
 |some cells=>some (.robox cells)
 |none=>none
def qb l (d:AD l):List zY×Hp:=
 let r:=ma l (wE (l.flatMap AS.cells) d) 0
 (r.1,mb r.2)
inductive RC where
 |int (k:IntKind)|bool|fro (t:Ty)|own (t:Ty)|mat
 |jun
 |map
 |nilp|link (j:Nat)|nil
abbrev RC.den:RC→Type
 |.int _=>Int|.bool=>Bool|.fro t=>List t.den|.own t=>List t.den|.mat=>List (List Int)|.jun=>Nat|.map=>List (Int×Bool)|.nilp=>Unit|.link _=>Unit|.nil=>Unit
abbrev RL:List RC→Type
 |[]=>Unit
 |r::l=>r.den×RL l
inductive RS where
 |c (r:RC)|agg (l:List RC)|tup (l:List (Bool×List RC))
def RS.cells:RS→List RC
 |.c r=>[r]
 |.agg l=>l
 |.tup l=>l.flatMap (·.2)
def Vd:List (Bool×List RC)→List (Bool×List zZ)→Option (List zZ)
 |[],[]=>some []
 | (b, l) :: ls, (g, cs) :: rest => bif (bif b then g else !g && Nat.beq cs.length 1) && Nat.beq cs.length l.length then (match Vd ls rest with
   |some r=>some (cs++r)
   |none=>none) else none
 |_,_=>none
def RS.get:RS→zY→Option (List zZ)
 |.c _,.c x=>some [x]
 |.agg l,.agg xs=>bif Nat.beq xs.length l.length then some xs else none
 |.tup l,.tup xs=>Vd l xs
 |_,_=>none
def Ve:List (Bool×List RC)→List zZ→List (Bool×List zZ)
 |[],_=>[]
 |(b,l)::ls,cs=>(b,cs.take l.length)::Ve ls (cs.drop l.length)
def RS.mk (cs:List zZ):RS→zY
 |.c _=>match cs with|x::_=>.c x|[]=>.undef
 |.agg _=>.agg cs
 |.tup l=>.tup (Ve l cs)
def gG (h:Hp):List Bool→List zZ→Option (List zZ×vJ)
 |true::l,c::cs=>match oR h c,gG h l cs with
  |some (c,u),some (cs,us)=>some (c::cs,u++us)
  |_,_=>none
 |false::l,c::cs=>match gG h l cs with
  |some (cs,us)=>some (c::cs,us)
  |none=>none
 |_,cs=>some (cs,[])
def RC.isFro:RC→Bool
 |.fro _=>true
 |_=>false
def PC.isKept:PC→Bool
 |.dat true _=>true
 |_=>false
def qc (h:Hp):(r:RC)→zZ→Option r.den
 |.int k,.int j n=>bif gz j k then some n else none
 |.bool,.bool b=>some b
 |.fro t,.fsl true s xs=>iu s t xs
 |.fro t,.nsl=>some []
 |.own t,.osl id none=>match h id with
  |some (.arr true s xs)=>iu s t xs
  |_=>none
 |.own t,.osl id (some (0,n))=>match h id with
  |some (.arr true s xs)=>iu s t (xs.take n)
  |_=>none
 |.own t,.nsl=>some []
 |.mat,.osl id none=>match h id with
  |some (.mat _ xs)=>some xs
  |some (.pmat _ xs n)=>bif Nat.beq xs.length n then some xs else none
  |_=>none
 |.mat,.nsl=>some []
 |.jun,.osl id none=>match h id with
  |some (.arr true (.sl (.int .i64)) xs)=>some xs.length
  |_=>none
 |.jun,.nsl=>some 0
 |.map,.map id=>match h id with
  |some (.imap di)=>some di
  |_=>none
 |.nilp,.nilp=>some ()
 |.link _,.ptr _ 0=>some ()
 |.nil,.nsl=>some ()
 |_,_=>none
def kP (h:Hp):(l:List RC)→List zZ→Option (RL l)
 |[],[]=>some ()
 |r::l,c::cs=>match qc h r c,kP h l cs with
  |some d,some ds=>some (d,ds)
  |_,_=>none
 |_,_=>none
def wH:List RC→List zZ→List Nat
 |.own _::l,.osl id _::cs=>id::wH l cs
 |.mat::l,.osl id _::cs=>id::wH l cs
 |.jun::l,.osl id _::cs=>id::wH l cs
 |.map::l,.map id::cs=>id::wH l cs
 |_::l,_::cs=>wH l cs
 |_,_=>[]
def Jh (h:Hp)(s:RS)(v:zY):Option (RL s.cells):=match s.get v with
 |some cs=>match gG h (s.cells.map RC.isFro) cs with
  |some (cs,u)=>bif tF (wH s.cells cs) then kP (qK h u) s.cells cs else none
  |none=>none
 |none=>none
def nj (rs:RS){X:Type}(unpack:RL rs.cells→X)(v:zY)(st:St):Option X:=match Jh st.h rs v with
 |some d=>some (unpack d)
 |none=>none
def sB (nm:Nat):(r:RC)→r.den→zZ×vJ
 |.int k,n=>(.int k n,[])
 |.bool,b=>(.bool b,[])
 |.fro t,xs=>(.fsl true t xs,[])
 |.own t,xs=>(.osl nm none,[(nm,.arr true t xs)])
 |.mat,xs=>(.osl nm none,[(nm,.mat 0 xs)])
 |.jun,n=>(.osl nm none,[(nm,.pmat 0 [] n)])
 |.map,di=>(.map nm,[(nm,.imap di)])
 |.nilp,_=>(.nilp,[])
 |.link _,_=>(.undef,[])
 |.nil,_=>(.nsl,[])
def o9 (nm:Nat):(l:List RC)→RL l→List zZ×vJ
 |[],_=>([],[])
 |r::l,d=>
  let x:=sB nm r d.1;let y:=o9 (nm+1) l d.2
  (x.1::y.1,x.2++y.2)
def yIw (nm:Nat)(s:RS)(d:RL s.cells):zY×vJ:=
 let r:=o9 nm s.cells d
 (s.mk r.1,r.2)
def w9 (h:Hp):Nat→Nat→Bool
 |_,0=>true
 |nm,n+1=>(match h nm with|none=>true|some _=>false)&&w9 h (nm+1) n
def xa (h:Hp):AS→zY→Option (zY×vJ)
 |.c p,.c x=>match gG h [p.isKept] [x] with
  |some ([x],u)=>some (.c x,u)
  |_=>none
 |.agg l,.agg xs=>match gG h (l.map PC.isKept) xs with
  |some (xs,u)=>some (.agg xs,u)
  |none=>none
 |_,a=>some (a,[])
def sC (h:Hp):List AS→List zY→Option (List zY×vJ)
 |s::l,a::as=>match xa h s a,sC h l as with
  |some (a,u),some (as,us)=>some (a::as,u++us)
  |_,_=>none
 |_,as=>some (as,[])
def pb as (rs:RS){X}(S:AD as→Option X)(pack:X→RL rs.cells)(nm:Nat)(args:List zY)(h:Hp):yU:=
 match sC h as args with
 |none=>.stuck
 |some (args,u)=>match Bb (qK h u) as args with
  |some d=>bif w9 h nm rs.cells.length&&Nat.ble rs.cells.length 100 then .call X (S d) (fun r=>((yIw nm rs (pack r)).1,u++(yIw nm rs (pack r)).2)) else .stuck
  |none=>.stuck
structure Lo (M Ml:zK):Prop where
 H:Ml.H=M.H
 F:Ml.F=fun b=>b<M.H.size
 G:Ml.G=M.G
theorem Vf {M M':zK}(ok:Ok M')(hH:M'.H=M.H){t}{xs:List t.den}{v}(h:qF M'.H M'.G (.sl t) xs (fun _=>some v)):qF M.H (fun b=>b<M.H.size) (.sl t) xs (fun _=>some v):=by
 refine vD (fun b hb=>?_) (by grind) _ _ _ _ (by simp) h;have:=ok.Flt b (ok.GF b hb);simp_all
theorem vTa {M}(ok:Ok M){c v t xs}(hv:zX M c v)(h:kz M.h c=some ⟨t,xs⟩):qF M.H (fun b=>b<M.H.size) (.sl t) xs (fun _=>some v):=by
 unfold kz at h;split at h
 ·rename_i sh s ys;cases h;cases sh with
  |true=>exact vD (fun b hb=>ok.Flt b (ok.GF b hb)) (by simp) _ _ _ _ (fun _ _=>rfl) hv
  |false=>exact vD (fun b hb=>ok.Flt b hb) (by simp) _ _ _ _ (fun _ _=>rfl) hv
 ·rename_i id r;split at h
  ·rename_i own s ys an;cases h;cases own with
   |false=>
    obtain⟨C,hC,hO⟩:=ok.obj _ _ an;exact Vf ok rfl (AH hC hO hv)
   |true=>
    obtain⟨M',h1,h2,h3,h4⟩:=yHo ok an;obtain⟨C,hC,hO⟩:=h3.obj id _ (by rw[h2];exact yQ _ _ _);exact Vf h3 h1 (AH hC hO (hv.ext h4.ext))
  ·rename_i ver ys an;cases r with
   |some p=>cases h
   |none=>
    cases h;obtain⟨M',h1,h2,h3,h4⟩:=yO0 ok an;obtain⟨C,hC,hO⟩:=h3.obj id _ (by rw[h2];exact yQ _ _ _);exact Vf h3 h1 (AH (r:=none) hC hO (hv.ext h4.ext))
  ·cases h
 ·rename_i id i ver;split at h
  ·rename_i v' ys an;cases gd:Nat.beq v' ver with
   |false=>simp_all
   |true=>
    rw[gd] at h;cases h;have e:v'=ver:=by simpa using gd
    subst e;obtain⟨C,hC,hO⟩:=ok.obj _ _ an;obtain⟨C',aE,cy,_,aS⟩:=hv;rw[hC] at aE;cases aE;obtain⟨rb,rl,wv,ss⟩:=aS hO.1;by_cases hi:i<ys.length
    ·obtain⟨B,pT,v2,k1,k2,k3,k4,k5,k6⟩:=DC hO hi;rw[wv] at k3;cases k3;rw[show ys.getD i []=ys[i] by simp_all];simp only[qF];cases rb with
     |none=>
      obtain⟨rfl,h0⟩:=ss;grind
     |some R=>
      obtain⟨a,c,rfl,h1,h2,h3⟩:=ss;refine⟨_,_,c,rfl,rfl,h1,?_⟩;by_cases h0:ys[i].length=0
      ·simp_all
      ·have ha:a=0:=by omega
       subst ha;refine .inr ⟨R,0,rfl,?_,fun j hj=>?_⟩
       ·have:=k6 R rfl 0 (by omega);unfold yS at this;grind
       ·simp only[Ty.size];simp_all
    ·have:C.rows[i]? =none:=List.getElem?_eq_none (by have:=hO.2.2.2.1;omega);simp_all
  ·cases h
 ·cases h
theorem Ji {H F t}:qF H F (.sl t) ([]:List t.den) (fun _=>some (.slice none 0 0)):=⟨none,0,0,rfl,rfl,by simp,by simp⟩
theorem Vg {M}(ok:Ok M){c v t xs}(hv:zX M c v)(h:A9 M.h t c=some xs):qF M.H (fun b=>b<M.H.size) (.sl t) xs (fun _=>some v):=by
 unfold A9 at h;split at h
 ·cases h;rw[show v=.slice none 0 0 from hv];exact Ji
 ·split at h
  ·rename_i s ys hr;obtain⟨e,hx⟩:=lD h;subst e;subst hx;exact vTa ok hv hr
  ·cases h
def Tr (M:zK)(c c':zZ):Prop:=∀v Ml,Lo M Ml→zX M c v→zX Ml c' v
theorem vOx {M}(ok:Ok M){p c d}(h:uf M.h p c=some d):Tr M c (D7 p d):=by
 intro v Ml lo hv;unfold uf at h;split at h
 ·rename_i k j n;cases e:gz j k with
  |false=>simp_all
  |true=>rw[e] at h;cases h;rw[←tB e];exact hv
 ·cases h;exact hv
 ·have:=Vg ok hv h;show qF Ml.H Ml.F _ _ _;rw[lo.H,lo.F];omega
 ·obtain⟨e,hx⟩:=lD h;subst e;subst hx;show qF Ml.H Ml.G _ _ _;rw[lo.H,lo.G];exact hv
 ·cases h;rw[show v=.slice none 0 0 from hv];exact Ji
 ·rename_i f g;cases e:Nat.beq f g with
  |false=>simp_all
  |true=>
   have:f=g:=by simp_all
   subst this;obtain⟨cv,rfl,hc⟩:=hv;refine⟨cv,rfl,?_⟩;generalize cv.toList=l at hc;cases l with
   |nil=>trivial
   |cons _ _=>exact hc.elim
 ·exact hv
 ·exact hv
 ·cases h
theorem vDy {M}(ok:Ok M):∀{l cs d},Ba M.h l cs=some d→zM (Tr M) cs (wE l d)
 |[],[],_,_=>trivial
 |p::l,c::cs,d,h=>by
  unfold Ba at h;split at h
  ·rename_i x xs h1 h2;cases h;exact⟨vOx ok h1,vDy ok h2⟩
  ·cases h
theorem Vh {M Ml}(lo:Lo M Ml):∀{cs aQ vs},zM (Tr M) cs aQ→zM (zX M) cs vs→zM (zX Ml) aQ vs
 |[],[],[],_,_=>trivial
 |_::_,_::_,_::_,h,k=>⟨h.1 _ _ lo k.1,Vh lo h.2 k.2⟩
def xc (M:zK)(C:qB)(cells:List zZ):Prop:=∃B vals e,C.blk=some B∧C.rows=[]∧M.H[B]? =some (.cells vals e (0,0))∧zM (zX M) cells vals.toList
theorem yRk {M}(ok:Ok M){id cells}(h:D6 M.h id=some cells):∃C,M.κ id=some C∧xc M C cells:=by
 unfold D6 at h;split at h
 ·rename_i own cs an;cases h;obtain⟨C,hC,B,vals,e,h1,h2,h3,h4,_⟩:=ok.obj id _ an;exact⟨C,hC,B,vals,e,h1,h2,h3,h4⟩
 ·rename_i cs an;cases h;obtain⟨C,hC,B,vals,e,h1,h2,h3,h4,_⟩:=ok.obj id _ an;exact⟨C,hC,B,vals,e,h1,h2,h3,h4⟩
 ·cases h
theorem xc.tr {M Ml}(lo:Lo M Ml){C cs aQ}(h:xc M C cs)(ht:zM (Tr M) cs aQ):xc Ml C aQ:=by
 obtain⟨B,vals,e,h1,h2,h3,h4⟩:=h;exact⟨B,vals,e,h1,h2,by rw[lo.H];exact h3,Vh lo ht h4⟩
theorem Vi {M}(ok:Ok M):∀{ls ids cs aQ},ug M.h ls ids=some cs→zM (Tr M) cs aQ→cs.length=ls.flatten.length∧ids.length=ls.length∧
  ∃Cs:List qB,zM (fun id C=>M.κ id=some C) ids Cs∧∀Ml,Lo M Ml→zM (xc Ml) Cs (N6 ls aQ)
 |[],[],cs,aQ,h,ht=>by cases h;exact⟨rfl,rfl,[],trivial,fun _ _=>trivial⟩
 |l::ls,id::ids,cs,aQ,h,ht=>by
  unfold ug at h;split at h
  ·rename_i cells rest h1 h2;obtain⟨hl,h⟩:cells.length=l.length∧cells++rest=cs:=by
    cases e:Nat.beq cells.length l.length with
    |false=>simp_all
    |true=>simp_all
   subst h;have pc:=zM.take l.length ht;have nX:=zM.drop l.length ht;rw[←hl,List.take_left] at pc;rw[←hl,List.drop_left] at nX;obtain⟨C,hC,hB⟩:=yRk ok h1;obtain⟨k1,k2,Cs,k3,k4⟩:=Vi ok h2 nX;refine⟨by simp_all,by simp[k2],C::Cs,⟨hC,k3⟩,fun Ml lo=>⟨?_,?_⟩⟩
   ·rw[←hl];exact hB.tr lo pc
   simp_all
  ·cases h
theorem vHu {M}(ok:Ok M){s:AS}{a v cs aQ n}(hv:zV M a v)(h:s.get M.h a=some cs)(ht:zM (Tr M) cs aQ):
  ∃Cs:List qB,(∀Ml,Lo M Ml→zM (xc Ml) Cs (s.boxes aQ))∧(∀Ml,Lo M Ml→(∀i C,Cs[i]? =some C→Ml.κ (n+i)=some C)→zV Ml (s.mk n aQ) v):=by
 unfold AS.get at h;split at h
 ·cases h
  match aQ,ht with
  |[c'],ht=>exact⟨[],fun _ _=>trivial,fun Ml lo _=>ht.1 v Ml lo hv⟩
 ·rename_i l xs;cases e:Nat.beq xs.length l.length with
  |false=>simp_all
  |true=>
   rw[e] at h;cases h;obtain⟨vs,rfl,hx⟩:=hv;exact⟨[],fun _ _=>trivial,fun Ml lo _=>⟨vs,rfl,Vh lo ht hx⟩⟩
 ·rename_i l id;have:=Vi ok h ht;obtain⟨k1,k2,Cs,k3,k4⟩:=this;obtain⟨C,B,hC,hB,e⟩:=hv;have hl:aQ.length=l.length:=by rw[←ht.length,k1];simp
  match Cs,k3 with
  |[C'],k3=>
   have e':C'=C:=by
    have:M.κ id=some C':=k3.1;simp_all
   subst e';refine⟨[C'],fun Ml lo=>?_,fun Ml lo hκ=>⟨C',B,hκ 0 C' rfl,hB,e⟩⟩;have:=k4 Ml lo;simp[N6] at this;rw[List.take_of_length_le (by omega)] at this;exact this
 ·rename_i f bD g ids;cases e:Nat.beq f g with
  |false=>simp_all
  |true=>
   rw[e] at h;have Vj:f=g:=by simp_all
   subst Vj;obtain⟨k1,k2,Cs,k3,k4⟩:=Vi ok h ht;refine⟨Cs,k4,fun Ml lo hκ=>?_⟩;obtain⟨cv,rfl,hc⟩:=hv;refine⟨cv,rfl,?_⟩;have l1:=k3.length;have l2:=hc.length;refine zM.of_get (by simp_all) fun i h1 h2=>?_
   simp;have hi:i<ids.length:=by omega
   have bK:i<Cs.length:=by omega
   obtain⟨C,B,q1,q2,q3⟩:=hc.get i hi h2;have q4:=k3.get i hi bK;simp_all
 ·cases h
theorem Vk {h}:∀{ls ids cs},ug h ls ids=some cs→cs.length=ls.flatten.length
 |[],[],cs,e=>by cases e;rfl
 |l::ls,id::ids,cs,e=>by
  unfold ug at e;split at e
  ·rename_i cells rest h1 h2;cases el:Nat.beq cells.length l.length with
   |false=>simp_all
   |true=>
    rw[el] at e;cases e;have:cells.length=l.length:=by simp_all
    simp[this,Vk h2]
  ·cases e
theorem vSw {h}{s:AS}{a cs}(e:s.get h a=some cs):cs.length=s.cells.length:=by
 unfold AS.get at e;split at e
 ·cases e;rfl
 ·rename_i l xs;cases el:Nat.beq xs.length l.length with
  |false=>simp_all
  |true=>rw[el] at e;cases e;exact Nat.eq_of_beq_eq_true el
 ·rw[Vk e];simp[AS.cells]
 ·rename_i f bD g ids;cases el:Nat.beq f g with
  |false=>simp_all
  |true=>rw[el] at e;exact Vk e
 ·cases e
theorem ySs {M}(ok:Ok M):∀{l as vs cs aQ n},zM (zV M) as vs→sA M.h l as=some cs→zM (Tr M) cs aQ→
  ∃Cs:List qB,(∀Ml,Lo M Ml→zM (xc Ml) Cs (ma l aQ n).2)∧(∀Ml,Lo M Ml→(∀i C,Cs[i]? =some C→Ml.κ (n+i)=some C)→zM (zV Ml) (ma l aQ n).1 vs)
 |[],[],[],cs,aQ,n,_,_,_=>⟨[],fun _ _=>trivial,fun _ _ _=>trivial⟩
 |s::l,a::as,v::vs,cs,aQ,n,hv,h,ht=>by
  unfold sA at h;split at h
  ·rename_i nc rest h1 h2;cases h;have hl:=vSw h1;have pc:=zM.take s.cells.length ht;have nX:=zM.drop s.cells.length ht;rw[←hl,List.take_left,hl] at pc;rw[←hl,List.drop_left,hl] at nX;obtain⟨C1,k1,k2⟩:=vHu ok (n:=n) hv.1 h1 pc;obtain⟨C2,k3,k4⟩:=ySs ok (n:=n+(s.boxes (aQ.take s.cells.length)).length) hv.2 h2 nX;refine⟨C1++C2,fun Ml lo=>(k1 Ml lo).append (k3 Ml lo),fun Ml lo hκ=>⟨k2 Ml lo fun i C hi=>hκ i C ?_,k4 Ml lo fun i C hi=>?_⟩⟩
   ·grind
   ·have hb:=(k1 Ml lo).length;have:=hκ (C1.length+i) C (by grind);grind
  ·cases h
def zK.below (M:zK)(Cs:List qB)(bs:List (List zZ)):zK:={κ:=fun n=>Cs[n]?,F:=fun b=>b<M.H.size,G:=M.G,h:=mb bs,H:=M.H}
theorem zK.below_lo M Cs bs:Lo M (M.below Cs bs):=⟨rfl,rfl,rfl⟩
theorem zK.below_ok {M}(ok:Ok M){Cs bs}(h:zM (xc (M.below Cs bs)) Cs bs):Ok (M.below Cs bs)∧∀b,¬qO (M.below Cs bs) b:=by
 have hr:∀id o,(M.below Cs bs).h id=some o→∃cells,bs[id]? =some cells∧o=.robox cells:=fun id o e=>by
  have e:mb bs id=some o:=e;unfold mb at e;grind
 have Jj:∀b,¬qO (M.below Cs bs) b:=fun b ⟨id,o,C,h1,h2,_,_⟩=>by
  obtain⟨cells,_,rfl⟩:=hr id o h1;cases h2
 refine⟨⟨fun id o e=>?_,fun id e=>?_,fun i j oi oj Ci Cj b _ h1 _ h3 _ _ _ _ _=>?_,by grind,fun b hb=>ok.Flt b (ok.GF b hb),fun b hb=>hb⟩,Jj⟩
 ·obtain⟨cells,hc,rfl⟩:=hr id o e;have bn:id<bs.length:=by
   grind
  have kC:id<Cs.length:=by rw[h.length];omega
  obtain⟨B,vals,ev,q1,q2,q3,q4⟩:=h.get id kC bn;rw[List.getElem?_eq_getElem bn] at hc;cases hc;refine⟨Cs[id],List.getElem?_eq_getElem kC,B,vals,ev,q1,q2,q3,q4,?_⟩;exact(Array.getElem?_eq_some_iff.1 q3).1
 ·have e:mb bs id=none:=e;unfold mb at e;split at e
  ·cases e
  ·rename_i hc;show Cs[id]? =none;rw[List.getElem?_eq_none_iff] at hc⊢;rw[h.length];exact hc
 ·obtain⟨cells,_,rfl⟩:=hr i oi h1;cases h3
theorem vK9 {M}(ok:Ok M){l as vs d}(hv:zM (zV M) as vs)(h:Bb M.h l as=some d):
  ∃Ml:zK,Lo M Ml∧Ml.h=(qb l d).2∧Ok Ml∧(∀b,¬qO Ml b)∧zM (zV Ml) (qb l d).1 vs:=by
 unfold Bb at h;split at h
 ·rename_i cs hg;obtain⟨Cs,h1,h2⟩:=ySs ok (n:=0) hv hg (vDy ok h);have lo:=M.below_lo Cs (ma l (wE (l.flatMap AS.cells) d) 0).2;have:=zK.below_ok ok (h1 _ lo);exact⟨_,lo,rfl,this.1,this.2,h2 _ lo fun i C hi=>by rw[Nat.zero_add];exact hi⟩
 ·cases h
theorem xd {h0}:∀{l cs aQ vs u M},Ok M→jI h0 M.h→zM (zX M) cs vs→gG h0 l cs=some (aQ,u)→
  ∃L:zK,L.H=M.H∧L.h=qK M.h u∧Ok L∧vG M L∧zM (zX L) aQ vs∧jI h0 L.h
 |[],cs,aQ,vs,u,M,ok,hf,hc,h=>by
  cases cs<;>cases h<;>exact⟨M,rfl,rfl,ok,.refl M,hc,hf⟩
 |true::l,[],aQ,vs,u,M,ok,hf,hc,h
 |false::l,[],aQ,vs,u,M,ok,hf,hc,h=>by cases h;exact⟨M,rfl,rfl,ok,.refl M,hc,hf⟩
 |true::l,c::cs,aQ,v::vs,u,M,ok,hf,hc,h=>by
  unfold gG at h;split at h
  ·rename_i c1 u1 nc se e1 e2;cases h;obtain⟨M1,h1,h2,h3,h4,h5,h6,_⟩:=IF ok hf hc.1 e1;obtain⟨M2,k1,k2,k3,k4,k5,k6⟩:=xd h3 h6 (hc.2.mono fun _ _ h=>h.ext h4.ext) e2;exact⟨M2,k1.trans h1,by rw[k2,h2,lC],k3,h4.trans k4,⟨h5.ext k4.ext,k5⟩,k6⟩
  ·cases h
 |false::l,c::cs,aQ,v::vs,u,M,ok,hf,hc,h=>by
  unfold gG at h;split at h
  ·rename_i nc se e2;cases h;obtain⟨M2,k1,k2,k3,k4,k5,k6⟩:=xd ok hf hc.2 e2;exact⟨M2,k1,k2,k3,k4,⟨hc.1.ext k4.ext,k5⟩,k6⟩
  ·cases h
def zK.add (M:zK)(nm:Nat)(o:Obj)(C:qB):zK:={M with κ:=κset M.κ nm C,h:=yJ M.h nm o}
theorem zK.add_ok {M}(ok:Ok M){nm}(aT:M.h nm=none){o C}(hO:yZ (M.add nm o C) o C)(hb:∀b∈C.fp,¬qO M b∧¬M.F b∧b<M.H.size):
  Ok (M.add nm o C)∧yO M (M.add nm o C)∧(∀b,qO (M.add nm o C) b→qO M b∨b∈C.fp):=by
 have x:yO M (M.add nm o C):=⟨fun id D h=>by
  have bp:id≠nm:=fun e=>by rw[e,ok.non nm aT] at h;cases h
  exact⟨D,by show κset M.κ nm _ id=_;rw[κset_ne _ _ bp];exact h,D.le_refl⟩,fun _ h=>h,fun _ h=>h,fun _ _=>rfl,fun _ _=>rfl,fun _ _=>rfl⟩
 refine⟨Ok.build ok x (fun id=>id=nm) (fun id h=>yT _ _ h) (fun id h=>κset_ne _ _ h) (fun _ _ _ _ _ _ _ _ _=>rfl) (fun id o' D h1 h2 h3 h4 b bF=>(ok.own b ⟨id,o',D,h2,h3,h4,bF⟩).1) (Nat.le_refl _)
  (fun id o' e h=>?_) (fun id e h=>?_) (fun id o' D b e h1 h2 h3 h4=>?_) ok.GF ok.Flt,x,fun b bF=>?_⟩
 ·subst e;have e1:(M.add id o C).h id=some o:=yQ _ _ _;rw[e1] at h;cases h;exact⟨_,κset_same _ _ _,hO⟩
 ·have e1:(M.add id o C).h id=some o:=yQ _ _ _;simp_all
 ·subst e;have e1:(M.add id o C).κ id=some C:=κset_same _ _ _;rw[e1] at h3;cases h3;obtain⟨k1,k2,k3⟩:=hb b h4;refine⟨fun j oj Cj hj q1 q2 q3 q4=>k1 ⟨j,oj,Cj,?_,q2,?_,q4⟩,k2,k3⟩
  ·rw[←q1];exact(yT _ _ hj).symm
  ·rw[←q3];exact(κset_ne _ _ hj).symm
 ·obtain⟨id,o',D,h1,h2,h3,h4⟩:=bF;by_cases e:id=nm
  ·have e1:(M.add id o C).κ id=some C:=κset_same _ _ _;simp_all
  ·exact .inl ⟨id,o',D,by rw[←h1];exact(yT _ _ e).symm,h2,by rw[←h3];exact(κset_ne _ _ e).symm,h4⟩
structure Up (L Mc:zK):Prop where
 H:Mc.H=L.H
 G:Mc.G=L.G
theorem vFq {L Mc}(up:Up L Mc){t xs C}(h:yZ L (.arr true t xs) C):yZ Mc (.arr true t xs) C:=by
 obtain⟨h1,h2,h3,h4⟩:=h;refine⟨h1,h2,h3,?_⟩;rw[up.H,up.G];exact h4
theorem Vl {L Mc}(up:Up L Mc){ver xs C}(h:yZ L (.mat ver xs) C):yZ Mc (.mat 0 xs) {C with ver:=0}:=by
 obtain⟨h1,h2⟩:=h;refine⟨rfl,?_⟩;rw[up.H];exact h2
theorem vKd {L Mc}(up:Up L Mc){ver n xs C}(h:yZ L (.pmat ver xs n) C)(hn:xs.length=n):yZ Mc (.mat 0 xs) {C with ver:=0}:=by
 obtain⟨h1,h2,h3,h4,h5,_,h6⟩:=h;refine⟨rfl,by rw[hn];exact h2,h3,h4,h5,?_⟩;rw[up.H];subst hn;simp_all
theorem Vm {L Mc}(up:Up L Mc){xs:List (List Int)}{C}(h:yZ L (.arr true (.sl (.int .i64)) xs) C):yZ Mc (.pmat 0 [] xs.length) {C with ver:=0}:=by
 obtain⟨h1,h2,h3,h4⟩:=h;have hr:=h3 rfl;refine⟨rfl,h1,h2,by simp_all,?_,by simp,?_⟩
 ·simp[qB.fp];grind
 ·cases hB:C.blk with
  |none=>simp_all
  |some B=>
   rw[hB] at h4;obtain⟨vals,e,h5,_,h7,_⟩:=h4;refine⟨vals,e,by rw[up.H];exact h5,by simpa[Ty.size] using h7,by simp⟩
theorem Vn {L Mc}(iR:Ok L)(ok:Ok Mc)(up:Up L Mc){nm}(aT:Mc.h nm=none){r c d}(h:qc L.h r c=some d)
  (hb:∀id∈wH [r] [c],∀C,L.κ id=some C→∀b∈C.fp,¬qO Mc b∧¬Mc.F b∧b<Mc.H.size):
  ∃fc:zK,fc.H=Mc.H∧fc.G=Mc.G∧fc.F=Mc.F∧fc.h=qK Mc.h (sB nm r d).2∧Ok fc∧yO Mc fc∧
   (∀b,qO fc b→qO Mc b∨∃id∈wH [r] [c],∃C,L.κ id=some C∧b∈C.fp)∧∀v,zX L c v→zX fc (sB nm r d).1 v:=by
 have same : (sB nm r d).2 = [] → (∀ v, zX L c v → zX Mc (sB nm r d).1 v) → _ := fun e hv => (⟨Mc,rfl,rfl,rfl,by rw[e];rfl,ok,.refl Mc,by grind,hv⟩:
  ∃fc:zK,fc.H=Mc.H∧fc.G=Mc.G∧fc.F=Mc.F∧fc.h=qK Mc.h (sB nm r d).2∧Ok fc∧yO Mc fc∧
   (∀b,qO fc b→qO Mc b∨∃id∈wH [r] [c],∃C,L.κ id=some C∧b∈C.fp)∧∀v,zX L c v→zX fc (sB nm r d).1 v)
 unfold qc at h;split at h
 ·rename_i k j n;cases e:gz j k with
  |false=>rw[e] at h;cases h
  |true=>
   rw[e] at h;cases h;exact same rfl fun v hv=>by rw[←tB e];exact hv
 ·cases h;exact same rfl fun v hv=>hv
 ·obtain⟨e,hx⟩:=lD h;subst e;subst hx;refine same rfl fun v hv=>?_
  show qF Mc.H Mc.G _ _ _;rw[up.H,up.G];exact hv
 ·cases h;refine same rfl fun v hv=>?_
  rw[show v=.slice none 0 0 from hv];exact Ji
 ·rename_i t id;split at h
  ·rename_i s xs an;obtain⟨e,hx⟩:=lD h;subst e;subst hx;obtain⟨C,hC,hO⟩:=iR.obj id _ an;obtain⟨k1,k2,k3⟩:=zK.add_ok ok aT (o:=.arr true s xs) (C:=C) (vFq (Mc:=Mc.add nm (.arr true s xs) C) ⟨up.H,up.G⟩ hO) (hb id (by simp[wH]) C hC);refine⟨Mc.add nm (.arr true s xs) C,rfl,rfl,rfl,rfl,k1,k2,fun b bF=>(k3 b bF).imp (fun h=>h) fun h=>⟨id,by simp[wH],C,hC,h⟩,fun v hv=>?_⟩;obtain⟨C',aE,hS⟩:=hv;rw[hC] at aE;cases aE;refine⟨C,κset_same _ _ _,?_⟩;show jK Mc.H C 0 C.len v;rw[up.H];exact hS
  ·cases h
 ·rename_i t id n;split at h
  ·rename_i s xs an;obtain⟨e,hx⟩:=lD h;subst e;subst hx;obtain⟨C,hC,hO⟩:=iR.obj id _ an;let C':qB:={C with len:=(xs.take n).length};have tN:yZ (Mc.add nm (.arr true s (xs.take n)) C') (.arr true s (xs.take n)) C':=by
    obtain⟨q1,q2,q3,q4⟩:=vFq (Mc:=Mc.add nm (.arr true s (xs.take n)) C') ⟨up.H,up.G⟩ hO;refine⟨rfl,q2,q3,?_⟩;show match C.blk with
     |none=>_
     |some B=>_
    cases hB:C.blk with
    |none=>rw[hB] at q4;show xs.take n=[];rw[q4];simp
    |some B=>
     rw[hB] at q4;obtain⟨vals,e,r1,r2,r3,r4⟩:=q4;have hle:(xs.take n).length≤xs.length:=by rw[List.length_take];omega
     have:=Nat.mul_le_mul_right s.size hle;refine⟨vals,e,r1,r2,by omega,fun i hi=>?_⟩;rw[List.getElem_take];exact r4 i (by omega)
   obtain⟨k1,k2,k3⟩:=zK.add_ok ok aT (o:=.arr true s (xs.take n)) (C:=C') tN (hb id (by simp[wH]) C hC);refine⟨Mc.add nm (.arr true s (xs.take n)) C',rfl,rfl,rfl,rfl,k1,k2,fun b bF=>(k3 b bF).imp (fun h=>h) fun h=>⟨id,by simp[wH],C,hC,h⟩,fun v hv=>?_⟩;obtain⟨C1,iP,h1,hS,_⟩:=hv;rw[hC] at iP;cases iP;have hl:(xs.take n).length=n:=by rw[List.length_take,←hO.1];omega
   refine⟨C',κset_same _ _ _,?_⟩;show jK Mc.H C' 0 (xs.take n).length v;rw[hl,up.H];exact hS
  ·cases h
 ·rename_i t;cases h;obtain⟨k1,k2,k3⟩:=Mc.nilObj_ok ok aT t false;refine⟨Mc.nilObj nm (kM t false) (l9 t false),rfl,rfl,rfl,rfl,k1,k2,by grind,fun v hv=>?_⟩;rw[show v=.slice none 0 0 from hv];exact⟨_,κset_same _ _ _,none,0,rfl,rfl,rfl,rfl⟩
 ·rename_i id;split at h
  ·rename_i ver xs an;cases h;obtain⟨C,hC,hO⟩:=iR.obj id _ an;obtain⟨k1,k2,k3⟩:=zK.add_ok ok aT (o:=.mat 0 d) (C:={C with ver:=0}) (Vl (Mc:=Mc.add nm (.mat 0 d) {C with ver:=0}) ⟨up.H,up.G⟩ hO) (hb id (by simp[wH]) C hC);refine⟨Mc.add nm (.mat 0 d) {C with ver:=0},rfl,rfl,rfl,rfl,k1,k2,fun b bF=>(k3 b bF).imp (fun h=>h) fun h=>⟨id,by simp[wH],C,hC,h⟩,fun v hv=>?_⟩;obtain⟨C',aE,hS⟩:=hv;rw[hC] at aE;cases aE;refine⟨_,κset_same _ _ _,?_⟩;show jK Mc.H C 0 C.len v;rw[up.H];exact hS
  ·rename_i ver xs n an;obtain⟨hc,h⟩:Nat.beq xs.length n=true∧some xs=some d:=by
    cases e:Nat.beq xs.length n with
    |true=>rw[e] at h;exact⟨rfl,h⟩
    |false=>rw[e] at h;cases h
   cases h;obtain⟨C,hC,hO⟩:=iR.obj id _ an;obtain⟨k1,k2,k3⟩:=zK.add_ok ok aT (o:=.mat 0 d) (C:={C with ver:=0}) (vKd (Mc:=Mc.add nm (.mat 0 d) {C with ver:=0}) ⟨up.H,up.G⟩ hO (Nat.eq_of_beq_eq_true hc)) (hb id (by simp[wH]) C hC);refine⟨Mc.add nm (.mat 0 d) {C with ver:=0},rfl,rfl,rfl,rfl,k1,k2,fun b bF=>(k3 b bF).imp (fun h=>h) fun h=>⟨id,by simp[wH],C,hC,h⟩,fun v hv=>?_⟩;obtain⟨C',aE,hS⟩:=hv;rw[hC] at aE;cases aE;refine⟨_,κset_same _ _ _,?_⟩;show jK Mc.H C 0 C.len v;rw[up.H];exact hS
  ·cases h
 ·cases h;obtain⟨k1,k2,k3⟩:=Mc.nilObj_ok ok aT (.int .i64) true;refine⟨Mc.nilObj nm (kM (.int .i64) true) (l9 (.int .i64) true),rfl,rfl,rfl,rfl,k1,k2,by grind,fun v hv=>?_⟩;rw[show v=.slice none 0 0 from hv];exact⟨_,κset_same _ _ _,none,0,rfl,rfl,rfl,rfl⟩
 ·rename_i id;split at h
  ·rename_i xs an;cases h;obtain⟨C,hC,hO⟩:=iR.obj id _ an;obtain⟨k1,k2,k3⟩:=zK.add_ok ok aT (o:=.pmat 0 [] xs.length) (C:={C with ver:=0}) (Vm (Mc:=Mc.add nm (.pmat 0 [] xs.length) {C with ver:=0}) ⟨up.H,up.G⟩ hO) (hb id (by simp[wH]) C hC);refine⟨Mc.add nm (.pmat 0 [] xs.length) {C with ver:=0},rfl,rfl,rfl,rfl,k1,k2,fun b bF=>(k3 b bF).imp (fun h=>h) fun h=>⟨id,by simp[wH],C,hC,h⟩,fun v hv=>?_⟩;obtain⟨C',aE,hS⟩:=hv;rw[hC] at aE;cases aE;refine⟨_,κset_same _ _ _,?_⟩;show jK Mc.H C 0 C.len v;rw[up.H];exact hS
  ·cases h
 ·cases h;obtain⟨k1,k2,k3⟩:=zK.add_ok ok aT (o:=.pmat 0 [] 0) (C:=⟨none,0,1,0,[]⟩) ⟨rfl,rfl,rfl,rfl,by simp[qB.fp],Nat.le_refl _,rfl⟩ (nofun);refine⟨Mc.add nm (.pmat 0 [] 0) ⟨none,0,1,0,[]⟩,rfl,rfl,rfl,rfl,k1,k2,fun b bF=>(k3 b bF).imp (fun h=>h) nofun,fun v hv=>?_⟩;rw[show v=.slice none 0 0 from hv];exact⟨_,κset_same _ _ _,none,0,rfl,rfl,rfl,rfl⟩
 ·rename_i id;split at h
  ·rename_i di an;cases h;obtain⟨C,hC,hO⟩:=iR.obj id _ an;have tN:yZ (Mc.add nm (.imap d) C) (.imap d) C:=by
    obtain⟨B,es,ck,h1,h2,h3,h4,h5⟩:=hO;refine⟨B,es,ck,h1,h2,?_,h4,h5⟩;show Mc.H[B]? =_;rw[up.H];exact h3
   obtain⟨k1,k2,k3⟩:=zK.add_ok ok aT (o:=.imap d) (C:=C) tN (hb id (by simp[wH]) C hC);refine⟨Mc.add nm (.imap d) C,rfl,rfl,rfl,rfl,k1,k2,fun b bF=>(k3 b bF).imp (fun h=>h) fun h=>⟨id,by simp[wH],C,hC,h⟩,fun v hv=>?_⟩;obtain⟨C',B,aE,hB,e⟩:=hv;rw[hC] at aE;cases aE;exact⟨C,B,κset_same _ _ _,hB,e⟩
  ·cases h
 ·exact same rfl fun v hv=>hv
 ·exact same rfl fun v hv=>hv.one
 ·exact same rfl fun v hv=>hv
 ·cases h
theorem N7 r c l cs:wH (r::l) (c::cs)=wH [r] [c]++wH l cs:=by
 cases r<;>cases c<;>rfl
theorem yQ6 {nm r d n}(h:n≠nm) hh:qK hh (sB nm r d).2 n=hh n:=by
 cases r<;>first|rfl|exact yT _ _ h
theorem Vo {h}:∀{n nm},w9 h nm n=true→∀i,i<n→h (nm+i)=none
 |n+1,nm,e,i,hi=>by
  unfold w9 at e;rw[Bool.and_eq_true] at e;cases i with
  |zero=>
   grind
  |succ i=>rw[←Vo e.2 i (by omega)];grind
theorem Vp {L:zK}(iR:Ok L):∀{l:List RC} {cs:List zZ} {d:RL l} {nm:Nat} {Mc:zK},Ok Mc→Up L Mc→(∀i,i<l.length→Mc.h (nm+i)=none)→kP L.h l cs=some d→(wH l cs).Nodup→
  (∀id∈wH l cs,∃o,L.h id=some o∧o.owned=true)→
  (∀id∈wH l cs,∀C,L.κ id=some C→∀b∈C.fp,¬qO Mc b∧¬Mc.F b∧b<Mc.H.size)→
  ∃fc:zK,fc.H=Mc.H∧fc.G=Mc.G∧fc.F=Mc.F∧fc.h=qK Mc.h (o9 nm l d).2∧Ok fc∧yO Mc fc∧
   (∀b,qO fc b→qO Mc b∨∃id∈wH l cs,∃C,L.κ id=some C∧b∈C.fp)∧∀vs,zM (zX L) cs vs→zM (zX fc) (o9 nm l d).1 vs
 |[],[],d,nm,Mc,ok,up,_,_,_,_,_=>⟨Mc,rfl,rfl,rfl,rfl,ok,.refl Mc,fun b h=>.inl h,fun vs h=>by
  cases vs with
  |nil=>trivial
  |cons _ _=>exact h.elim⟩
 |r::l,c::cs,d,nm,Mc,ok,up,hf,h,dJ,aM,hb=>by
  unfold kP at h;split at h
  ·rename_i x xs e1 e2;cases h;rw[N7] at dJ aM hb;obtain⟨nd1,nd2,nd3⟩:=List.nodup_append.1 dJ;obtain⟨M1,a1,a2,a3,a4,a5,a6,a7,a8⟩:=Vn iR ok up (by have:=hf 0 (by simp);simpa using this) e1 (by grind);have up1:Up L M1:=⟨a1.trans up.H,a2.trans up.G⟩;obtain ⟨M2, b1, b2, b3, b4, b5, b6, b7, b8⟩ := Vp iR (nm := nm + 1) a5 up1 (fun i hi=>by
     rw[a4,yQ6 (by omega)];have:=hf (i+1) (by simp;omega);grind) e2 nd2 (fun id an => aM id (by grind)) (fun id an C hC b D8=>by
     obtain⟨q1,q2,q3⟩:=hb id (List.mem_append_right _ an) C hC b D8;refine⟨fun ho=>?_,by simp_all,by simp_all⟩;rcases a7 b ho with ho|⟨jd,dj,D,hD,Vq⟩
     ·exact q1 ho
     ·have bp:id≠jd:=by grind
      obtain⟨o1,p1,p2⟩:=aM id (by grind);obtain⟨o2,p3,p4⟩:=aM jd (List.mem_append_left _ dj);exact iR.disj id jd o1 o2 C D b bp p1 p3 p2 p4 hC hD D8 Vq)
   refine⟨M2,b1.trans a1,b2.trans a2,b3.trans a3,?_,b5,a6.trans (by simp_all) b6,fun b bF=>?_,fun vs dI=>?_⟩
   ·show M2.h=qK Mc.h ((sB nm r x).2++(o9 (nm+1) l xs).2);rw[lC,←a4];exact b4
   ·rw[N7];grind
   ·cases vs with
    |nil=>exact dI.elim
    |cons v vs=>exact⟨(a8 v dI.1).ext b6,b8 vs dI.2⟩
  ·cases h
 |[],_::_,_,_,_,_,_,_,h,_,_,_=>by cases h
 |_::_,[],_,_,_,_,_,_,h,_,_,_=>by cases h
theorem wQ {α:Type}{c x}{y:α}(h:(bif c then x else none)=some y):c=true∧x=some y:=by
 grind
theorem vGf {M}:∀{l xs cs vs},Vd l xs=some cs→zM (wk M) xs vs→
  cs.length=(l.flatMap (·.2)).length∧∃us:List Value,zM (zX M) cs us∧∀M' aQ,zM (zX M') aQ us→zM (wk M') (Ve l aQ) vs
 |[],[],cs,[],h,_=>by cases h;exact⟨rfl,[],trivial,fun _ _ _=>trivial⟩
 |(b,l)::ls,(g,nc)::rest,cs,v::vs,h,hv=>by
  obtain⟨hc,h⟩:=wQ h;split at h
  ·rename_i r hr;cases h;rw[Bool.and_eq_true] at hc;have hl:nc.length=l.length:=by simp_all
   obtain⟨k1,us,k2,k3⟩:=vGf hr hv.2;refine⟨by simp_all,?_⟩;cases b with
   |true=>
    have hg:g=true:=hc.1;subst hg;obtain⟨ws,rfl,hw⟩:=hv.1;refine⟨ws.toList++us,hw.append k2,fun M' aQ h'=>⟨?_,?_⟩⟩
    ·have h1:=zM.take l.length h';have Vr:=hw.length;rw[show(ws.toList++us).take l.length=ws.toList from by simp_all] at h1;exact⟨ws,rfl,h1⟩
    ·have h1:=zM.drop l.length h';have Vr:=hw.length;simp_all
   |false=>
    have hg:=hc.1;simp  at hg;obtain⟨N8,hg2⟩:=hg;subst N8;have tQ:nc.length=1:=by simp_all
    match nc,tQ with
    |[c],_=>
     have nU:zX M c v:=hv.1;refine⟨v::us,⟨nU,k2⟩,fun M' aQ h'=>?_⟩
     match aQ,h' with
     |c'::Vs,h'=>
      have e:l.length=1:=by omega
      refine⟨?_,?_⟩
      ·rw[e];exact h'.1
      ·rw[e];exact k3 M' Vs h'.2
  ·cases h
 |[],[],_,_::_,_,hv=>hv.elim
theorem vCi {M}{s:RS}{v cs rv}(h:s.get v=some cs)(hv:zV M v rv):
  cs.length=s.cells.length∧∃us:List Value,zM (zX M) cs us∧∀M' aQ,zM (zX M') aQ us→zV M' (s.mk aQ) rv:=by
 unfold RS.get at h;split at h
 ·cases h;refine⟨rfl,[rv],⟨hv,trivial⟩,fun M' aQ h'=>?_⟩
  match aQ,h' with
  |[c'],h'=>exact h'.1
 ·obtain⟨hl,h⟩:=wQ h;cases h;obtain⟨vs,rfl,hx⟩:=hv;exact⟨Nat.eq_of_beq_eq_true hl,vs.toList,hx,fun M' aQ h'=>⟨vs,rfl,h'⟩⟩
 ·obtain⟨vs,rfl,hx⟩:=hv;obtain⟨k1,us,k2,k3⟩:=vGf h hx;exact⟨k1,us,k2,fun M' aQ h'=>⟨vs,rfl,by grind⟩⟩
 ·cases h
theorem vKg {h0 s a a' v u M}(ok:Ok M)(hf:jI h0 M.h)(hv:zV M a v)(h:xa h0 s a=some (a',u)):
  ∃L:zK,L.H=M.H∧L.h=qK M.h u∧Ok L∧vG M L∧zV L a' v∧jI h0 L.h:=by
 unfold xa at h;split at h
 ·rename_i p x;split at h
  ·rename_i y u1 e;cases h;obtain⟨L,h1,h2,h3,h4,h5,h6⟩:=xd (cs:=[x]) (vs:=[v]) ok hf ⟨hv,trivial⟩ e;exact⟨L,h1,h2,h3,h4,h5.1,h6⟩
  ·cases h
 ·split at h
  ·rename_i ys u1 e;cases h;obtain⟨vs,rfl,hx⟩:=hv;obtain⟨L,h1,h2,h3,h4,h5,h6⟩:=xd ok hf hx e;exact⟨L,h1,h2,h3,h4,⟨vs,rfl,h5⟩,h6⟩
  ·cases h
 ·cases h;exact⟨M,rfl,rfl,ok,.refl M,hv,hf⟩
theorem xe.ext {M M'}(x:yO M M'):∀{as vs},zM (zV M) as vs→zM (zV M') as vs:=fun h=>h.mono fun _ _ h=>h.ext x
theorem yUb {h0}:∀{l as fw vs u M},Ok M→jI h0 M.h→zM (zV M) as vs→sC h0 l as=some (fw,u)→
  ∃L:zK,L.H=M.H∧L.h=qK M.h u∧Ok L∧vG M L∧zM (zV L) fw vs∧jI h0 L.h
 |s::l,a::as,fw,v::vs,u,M,ok,hf,hv,h=>by
  unfold sC at h;split at h
  ·rename_i a1 u1 Vt se e1 e2;cases h;obtain⟨M1,h1,h2,h3,h4,h5,h6⟩:=vKg ok hf hv.1 e1;obtain⟨M2,k1,k2,k3,k4,k5,k6⟩:=yUb h3 h6 (xe.ext h4.ext hv.2) e2;exact⟨M2,k1.trans h1,by rw[k2,h2,lC],k3,h4.trans k4,⟨h5.ext k4.ext,k5⟩,k6⟩
  ·cases h
 |[],as,fw,vs,u,M,ok,hf,hv,h=>by
  cases as<;>cases h<;>exact⟨M,rfl,rfl,ok,.refl M,hv,hf⟩
 |s::l,[],fw,vs,u,M,ok,hf,hv,h=>by cases h;exact⟨M,rfl,rfl,ok,.refl M,hv,hf⟩
def zK.over (M L:zK):zK:={κ:=M.κ,F:=fun b=>M.F b∨L.G b,G:=L.G,h:=M.h,H:=L.H}
theorem zK.over_ok {M Ml L}(ok:Ok M)(iR:Ok L)(lo:Lo M Ml)(Jj:∀b,¬qO Ml b)(g:ke Ml L):Ok (M.over L)∧vG M (M.over L):=by
 have bn:∀b,Ml.F b↔b<M.H.size:=fun b=>by rw[lo.F]
 have cV:∀b,b<M.H.size→L.H[b]? =M.H[b]? :=fun b hb=>by rw[g.same b (by grind),lo.H]
 have ee:M.H.size≤L.H.size:=by grind
 have hG:∀b,L.G b→b<M.H.size→M.G b:=fun b hb hs=>by
  rcases g.Gb b hb (by rw[lo.H];exact hs) with h|h
  ·rw[lo.G] at h;exact h
  simp_all
 have kC:∀b,M.F b→b<M.H.size:=ok.Flt;have x:yO M (M.over L):=⟨fun id C h=>⟨C,h,C.le_refl⟩,fun b h=>.inl h,fun b h=>g.G b (by rw[lo.G];exact h),fun b h=>cV b (by grind),fun b h=>cV b (ok.Flt b (ok.GF b h)),fun b h=>Dz (cV b h)⟩;have aM:∀b,qO (M.over L) b→qO M b:=fun b h=>h
 refine⟨⟨fun id o h=>?_,fun id h=>ok.non id h,ok.disj,fun b h=>⟨fun hf=>?_,?_⟩,fun b h=>.inr h,fun b h=>?_⟩,⟨x,ee,fun b hb _=>cV b hb,by grind,fun b h hs=>.inl (hG b h hs),fun b h hs=>?_⟩⟩
 ·obtain⟨C,hC,hO⟩:=ok.obj id o h;exact⟨C,hC,hO.ext x fun ho b hb=>cV b (ok.own b ⟨id,o,C,h,ho,hC,hb⟩).2⟩
 ·have:=ok.own b (aM b h);rcases hf with hf|hf
  ·simp_all
  ·exact this.1 (ok.GF b (by grind))
 ·have h1:=(ok.own b (aM b h)).2;show b<L.H.size;omega
 ·show b<L.H.size;rcases h with h|h
  ·grind
  ·exact iR.Flt b (iR.GF b h)
 ·rcases h with h|h
  ·simp_all
  ·exact .inl (ok.GF b (hG b h hs))
theorem vRh {h0 r c d}(h:qc h0 r c=some d):∀id∈wH [r] [c],∃o,h0 id=some o∧o.owned=true:=by
 unfold qc at h;split at h;all_goals (try (intro id an;simp[wH] at an;done))
 ·intro DY an;have:=List.mem_singleton.1 an;subst this;split at h
  ·exact⟨_,by assumption,rfl⟩
  ·cases h
 ·intro DY an;have:=List.mem_singleton.1 an;subst this;split at h
  ·exact⟨_,by omega,rfl⟩
  ·cases h
 ·rename_i id;intro DY an;have:=List.mem_singleton.1 an;subst this;split at h
  ·exact⟨_,by assumption,rfl⟩
  ·exact⟨_,by omega,rfl⟩
  ·cases h
 ·intro DY an;have:=List.mem_singleton.1 an;subst this;split at h
  ·exact⟨_,by assumption,rfl⟩
  ·cases h
 ·intro DY an;have:=List.mem_singleton.1 an;subst this;split at h
  ·exact⟨_,by assumption,rfl⟩
  ·cases h
 ·cases h
theorem xf {L:zK}:∀{l cs d},kP L.h l cs=some d→∀id∈wH l cs,∃o,L.h id=some o∧o.owned=true
 |r::l,c::cs,d,h,id,an=>by
  unfold kP at h;split at h
  ·rename_i x xs e1 e2;rw[N7] at an;rcases List.mem_append.1 an with an|an
   ·exact vRh e1 id an
   ·exact xf e2 id an
  ·cases h
theorem yJr {E}(hE:gF E)(hS:kb E.sums)(hm:E.P.follows .mixedOrders=true){A k pre na f fn}(hf:E.P.funcs[f]? =some fn)(hL:∀c,fn.body=some c→wO E.P A pre na fn.ntmps c)(cj:∀vs w,(callFunc f vs).run E.P w=.ok (.enter f vs) w)
  {as rs X S pack} {unpack:RL rs.cells→X} (fM:∀d,pack (unpack d)=d) (aO:∀d x,S d=some x→∀Ml vs,zM (zV Ml) (qb as d).1 vs→∃fe,zM (zV Ml) fe vs∧kB E A k pre na fn fe (qb as d).2 (nj rs unpack)=some x)
  {nm args h v u} (hy:yL (pb as rs S pack nm args h) v u):tY E.P f args h v u:=by
 intro M w vs hh hH ok hv;refine .inl ⟨cj vs w,?_⟩;unfold pb at hy;split at hy
 ·exact hy.elim
 rename_i fe u0 Bc;split at hy
 case h_2=>exact hy.elim
 rename_i d hd;obtain⟨hc,hy⟩:=AV hy;rw[Bool.and_eq_true] at hc;obtain⟨x,hx,rfl,rfl⟩:=hy;subst hh;obtain⟨M1,a1,a2,a3,a4,a5,a6⟩:=yUb ok (jI.refl _) hv Bc;rw[←a2] at hd;obtain⟨Ml,lo,b2,b3,b4,b5⟩:=vK9 a3 a5 hd;obtain⟨ad0,Bd,Vu⟩:=aO d x hx Ml _ b5;refine Calls.mono (Vb hE hS hm hf hL Vu b2 (by rw[lo.H,a1];exact hH) b3 Bd) fun e w' he=>?_
 cases e with
 |panicked _=>omega
 |outgrown=>omega
 |returned rv=>
  obtain⟨L0,v0,st,hK,c1,c2,c3,c4,_,c5,c6,c7,c8,_⟩:=he;have hK:Jh st.h rs v0=some (pack x):=by
   unfold nj at hK;grind
  unfold Jh at hK;split at hK
  case h_2=>cases hK
  rename_i cs nY;split at hK
  case h_2=>cases hK
  rename_i aQ u1 Be;obtain⟨dJ,hK⟩:=wQ hK;obtain⟨hlen,us,d1,d2⟩:=vCi nY c5;rw[←c1] at Be hK;obtain⟨L,e1,e2,e3,e4,e5,e6⟩:=xd c3 (jI.refl _) d1 Be;rw[←e2] at hK;have g:ke Ml L:=c4.trans e4.grow;obtain⟨f1,f2⟩:=zK.over_ok a3 e3 lo b4 g;have qd:∀i,i<rs.cells.length→(M1.over L).h (nm+i)=none:=fun i hi=>by
   have h1:=Vo hc.1 i hi;show M1.h (nm+i)=none;rcases a6 (nm+i) with h|⟨own,t,xs,h,_⟩|⟨ver,xs,h,_⟩
   all_goals simp_all
  obtain ⟨Mc, g1, g2, g3, g4, g5, g6, g7, g8⟩ := Vp e3 f1 ⟨rfl, rfl⟩ qd hK (DS dJ) (xf hK) (fun id an C hC b hb=>by
   obtain⟨o,ho,iQ⟩:=xf hK id an;have aM:qO L b:=⟨id,o,C,ho,iQ,hC,hb⟩;have oU:¬b<M1.H.size:=fun bn=>b4 b (g.own b aM (by rw[lo.H];omega))
   refine⟨fun h=>oU (a3.own b h).2,fun h=>?_,(e3.own b aM).2⟩;rcases h with h|h
   ·exact oU (a3.Flt b h)
   ·exact(e3.own b aM).1 (e3.GF b h))
  have Vv:vG M1 Mc:=by
   have aM:∀b,qO Mc b→b<M1.H.size→qO M1 b:=fun b hb bn=>by
    rcases g7 b hb with h|⟨id,an,C,hC,D8⟩
    ·exact h
    ·obtain⟨o,ho,iQ⟩:=xf hK id an;exact absurd (g.own b ⟨id,o,C,ho,iQ,hC,D8⟩ (by rw[lo.H];omega)) (b4 b)
   refine⟨f2.ext.trans f2.size g6,?_,fun b hb hn=>?_,aM,fun b hb bn=>?_,fun b hb bn=>?_⟩
   ·rw[g1];exact f2.size
   ·rw[g1];exact f2.frame b hb hn
   ·rw[g2] at hb;exact f2.Gb b hb bn
   ·rw[g3] at hb;exact f2.Fb b hb bn
  refine⟨Mc,⟨c6,c7,c8,?_,?_,g5,a4.trans Vv⟩,?_⟩
  ·rw[g1];show L.H=_;rw[e1,c2]
  ·rw[lC,←a2];exact g4
  ·exact d2 Mc _ (g8 us e5)
theorem vOc {E}(hE:gF E)(hS:kb E.sums)(hm:E.P.follows .mixedOrders=true){A k pre na f fn}(hf:E.P.funcs[f]? =some fn)(hL:∀c,fn.body=some c→wO E.P A pre na fn.ntmps c)(cj:∀vs w,(callFunc f vs).run E.P w=.ok (.enter f vs) w)
  {as rs X S} {pack:X→RL rs.cells} {unpack} (fM:∀d,pack (unpack d)=d) (aO:∀d,kB E A k pre na fn (qb as d).1 (qb as d).2 (nj rs unpack)=S d)
  {nm args h v u} (hy:yL (pb as rs S pack nm args h) v u):tY E.P f args h v u:=
 yJr hE hS hm hf hL cj fM (fun d x hx _ _ hv=>⟨_,hv,(aO d).trans hx⟩) hy
theorem vQ7 {E}(hE:gF E)(hS:kb E.sums)(hm:E.P.follows .mixedOrders=true){A k pre na f fn}(hf:E.P.funcs[f]? =some fn)(hL:∀c,fn.body=some c→wO E.P A pre na fn.ntmps c)(cj:∀vs w,(callFunc f vs).run E.P w=.ok (.enter f vs) w)
  {sh t rs X} {S:List t.den→Option X} {pack unpack} (fM:∀d,pack (unpack d)=d) (cP:∀x,S []=some x→kB E A k pre na fn [.c .nsl] (mb []) (nj rs unpack)=some x)
  (aO:∀xs x,S xs=some x→kB E A k pre na fn [.c (.nfl sh t xs)] (mb []) (nj rs unpack)=some x)
  {nm args h v u} (hy:yL (pb [.c (.dat sh t)] rs (fun d=>S d.1) pack nm args h) v u):tY E.P f args h v u:=
 yJr hE hS hm hf hL cj fM (fun d x hx Ml vs hv=>by
  obtain⟨xs,_⟩:=d
  match vs,hv with
  |[v],hv=>
   have nU:qF Ml.H (bif sh then Ml.G else Ml.F) (.sl t) xs (fun _=>some v):=hv.1;have pW:=nU;simp[qF] at nU;obtain⟨A',n,c,rfl,hn,hc,h⟩:=nU;cases A' with
   |some a=>exact⟨[.c (.nfl sh t xs)],⟨⟨by simp,pW⟩,trivial⟩,aO xs x hx⟩
   |none=>
    rcases h with⟨rfl,h0⟩|⟨B,o,e,_⟩
    ·have h0:=h0 rfl;subst h0;subst hn;exact⟨[.c .nsl],⟨rfl,trivial⟩,cP x hx⟩
    ·cases e) hy
def yU.orElse:yU→yU→yU
 |.alts [],b=>b
 |a,_=>a
abbrev nZ:=Nat→Nat→List zY→Hp→yU
def fO:List (Nat×nZ)→Nf
 |[],_,_,_,_,_=>.stuck
 |(g,e)::l,k,nm,f,args,h=>bif Nat.beq g f then(e k nm args h).orElse (fO l k nm f args h) else fO l k nm f args h
def yVi (P:Program)(r:Nat×nZ):Prop:=∀k nm args h v u,yL (r.2 k nm args h) v u→tY P r.1 args h v u
def Jk (e:nZ):Prop:=∀k nm (args:List zY) h h',(args.any wW=false→∀id,(id∈args.flatMap yP∨nO nm id=true)→h id=h' id)→(args.any wW=true→h=h')→e k nm args h=e k nm args h'
theorem vNm {a b v u}(h:yL (a.orElse b) v u):yL a v u∨yL b v u:=by
 unfold yU.orElse at h;grind
theorem yI8 {P}:∀{l},(∀r∈l,yVi P r)→yMp P (fO l)
 |[],_=>nofun
 |(g,e)::l,hl=>fun k nm f args h v u hy=>by
  have ih:=yI8 (l:=l) fun r hr=>hl r (by grind)
  unfold fO at hy;cases hg:Nat.beq g f with
  |false=>rw[hg] at hy;exact ih k nm f args h v u hy
  |true=>
   rw[hg] at hy;have:g=f:=by simp_all
   subst this;rcases vNm hy with hy|hy
   ·exact hl (g,e) (by simp) k nm args h v u hy
   ·exact ih k nm g args h v u hy
theorem yTq:∀{l},(∀r∈l,Jk r.2)→kb (fO l)
 |[],_=>fun k nm f args h h' _ _=>rfl
 |(g,e)::l,hl=>fun k nm f args h h' h1 h2=>by
  have ih:=yTq (l:=l) (by grind) k nm f args h h' h1 h2;unfold fO;have he:e k nm args h=e k nm args h':=hl (g,e) (by simp) k nm args h h' h1 h2;rw[ih,he]
section
variable {h h':Hp}
theorem Vw {t c}(hh:∀id∈vQ c,h id=h' id):A9 h t c=A9 h' t c:=by
 have e:=NX hh;unfold A9;grind
theorem yTb {p c}(hh:∀id∈vQ c,h id=h' id):uf h p c=uf h' p c:=by
 have e:=fun t=>Vw (t:=t) hh
 unfold uf;grind
theorem vAi:∀{l cs},(∀id∈cs.flatMap vQ,h id=h' id)→Ba h l cs=Ba h' l cs
 |[],[],_
 |[],_::_,_
 |_::_,[],_=>rfl
 |p::l,c::cs,hh=>by
  simp  at hh;unfold Ba;rw[yTb fun id hi=>hh id (.inl hi),vAi (by grind)]
theorem vSu {ls}:ug h ls []=ug h' ls []:=by
 cases ls<;>rfl
theorem vP0 {s:AS}{a}(hb:wW a=false):s.get h a=s.get h' a:=by
 unfold AS.get;cases s with
 |c p=>grind
 |agg l=>grind
 |ptr l=>
  cases a with
  |c x=>cases x<;>first|rfl|(exact absurd hb (by nofun))
  |_=>rfl
 |fn f bD=>
  cases a with
  |c x=>cases x with
   |fn g ids=>
    cases ids with
    |nil=>dsimp only;rw[vSu]
    |cons _ _=>exact absurd hb (by nofun)
   |_=>rfl
  |_=>rfl
theorem vM4 {s:AS}{a cs}(hb:wW a=false)(e:s.get h a=some cs):∀id∈cs.flatMap vQ,id∈yP a:=by
 unfold AS.get at e;split at e
 ·cases e;intro id an;simp  at an;exact an
 ·obtain⟨_,e⟩:=wQ e;cases e;exact fun id an=>an
 ·exact absurd hb (by nofun)
 ·rename_i f bD g ids;obtain⟨_,e⟩:=wQ e;cases ids with
  |nil=>cases bD with
   |nil=>cases e;simp
   |cons _ _=>cases e
  |cons _ _=>exact absurd hb (by nofun)
 ·cases e
theorem yLs:∀{l as},as.any wW=false→sA h l as=sA h' l as
 |[],[],_
 |[],_::_,_
 |_::_,[],_=>rfl
 |s::l,a::as,hb=>by
  simp only[List.any_cons,Bool.or_eq_false_iff] at hb;unfold sA;rw[vP0 (h:=h) (h':=h') hb.1,yLs hb.2]
theorem yUp:∀{l as cs},as.any wW=false→sA h l as=some cs→∀id∈cs.flatMap vQ,id∈as.flatMap yP
 |[],[],cs,_,e=>by cases e;simp
 |s::l,a::as,cs,hb,e=>by
  simp only[List.any_cons,Bool.or_eq_false_iff] at hb;unfold sA at e;split at e
  ·rename_i c1 rest e1 e2;cases e;intro id an;rw[List.flatMap_append,List.mem_append] at an;rw[List.flatMap_cons,List.mem_append];rcases an with an|an
   ·exact .inl (vM4 hb.1 e1 id an)
   ·exact .inr (yUp hb.2 e2 id an)
  ·cases e
theorem vNt {l as}(hb:as.any wW=false)(hh:∀id∈as.flatMap yP,h id=h' id):Bb h l as=Bb h' l as:=by
 unfold Bb;rw[yLs (h:=h) (h':=h') hb];cases e:sA h' l as with
 |none=>rfl
 |some cs=>exact vAi fun id an=>hh id (yUp hb e id an)
theorem D9 {x}:[x].flatMap vQ=yP (.c x):=by simp[yP]
theorem Vx {c c' u}(e:oR h c=some (c',u)):(∀id∈vQ c',id∈vQ c)∧(wW (.c c')=true→wW (.c c)=true):=by
 cases c with
 |osl id r=>
  unfold oR at e;dsimp only at e;split at e
  ·cases e;exact⟨nofun,nofun⟩
  ·cases r with
   |none=>cases e;exact⟨nofun,nofun⟩
   |some _=>cases e
  ·cases e
 |mrow _ _ _=>cases e
 |_=>cases e;simp
theorem Ea:∀{l cs},(∀id∈cs.flatMap vQ,h id=h' id)→gG h l cs=gG h' l cs
 |[],cs,_=>by rfl
 |true::l,[],_
 |false::l,[],_=>rfl
 |true::l,c::cs,hh=>by
  simp  at hh;unfold gG;rw[yDw fun id hi=>hh id (.inl hi),Ea (by grind)]
 |false::l,c::cs,hh=>by
  unfold gG;rw[Ea (by grind)]
theorem Eb:∀{l cs aQ u},gG h l cs=some (aQ,u)→∀id∈aQ.flatMap vQ,id∈cs.flatMap vQ
 |[],cs,aQ,u,e=>by cases cs<;>cases e<;>exact by simp
 |true::l,[],aQ,u,e
 |false::l,[],aQ,u,e=>by cases e;simp
 |true::l,c::cs,aQ,u,e=>by
  unfold gG at e;split at e
  ·rename_i c1 u1 nc se e1 e2;cases e;intro id an;rw[List.flatMap_cons,List.mem_append] at an⊢;exact an.imp ((Vx e1).1 id) (Eb e2 id)
  ·cases e
 |false::l,c::cs,aQ,u,e=>by
  unfold gG at e;split at e
  ·rename_i nc se e2;cases e;intro id an;rw[List.flatMap_cons,List.mem_append] at an⊢;exact an.imp (by simp) (Eb e2 id)
  ·cases e
theorem vSr {s a}(hh:∀id∈yP a,h id=h' id):xa h s a=xa h' s a:=by
 unfold xa;cases s with
 |c p=>cases a with
  |c x=>
   have:=Ea (h:=h) (h':=h') (l:=[p.isKept]) (cs:=[x]) (by rw[D9];exact hh);simp_all
  |_=>rfl
 |agg l=>cases a with
  |agg xs=>
   have:=Ea (h:=h) (h':=h') (l:=l.map PC.isKept) (cs:=xs) hh;simp_all
  |_=>rfl
 |_=>rfl
theorem vPd {s a a' u}(e:xa h s a=some (a',u)):(∀id∈yP a',id∈yP a)∧(wW a=false→wW a'=false):=by
 unfold xa at e;split at e
 ·rename_i p x;split at e
  ·rename_i y u1 e1;cases e;refine⟨fun id an=>by have:=Eb e1 id (by rw[D9];omega);rwa [D9] at this,fun hb=>?_⟩;cases hk:p.isKept with
   |false=>rw[hk] at e1;cases e1;exact hb
   |true=>
    rw[hk] at e1;unfold gG at e1;split at e1
    ·rename_i c1 u2 nc se e2 e3;cases e1;cases hy:wW (.c y) with
     |false=>rfl
     |true=>rw[(Vx e2).2 hy] at hb;cases hb
    ·cases e1
  ·cases e
 ·split at e
  ·rename_i ys u1 e1;cases e;exact⟨Eb e1,fun _=>rfl⟩
  ·cases e
 simp_all
theorem yJe:∀{l as},(∀id∈as.flatMap yP,h id=h' id)→sC h l as=sC h' l as
 |[],as,_=>by rfl
 |_::_,[],_=>rfl
 |s::l,a::as,hh=>by
  simp  at hh;unfold sC;rw[vSr fun id hi=>hh id (.inl hi),yJe (by grind)]
theorem yYf:∀{l as fw u},sC h l as=some (fw,u)→(∀id∈fw.flatMap yP,id∈as.flatMap yP)∧(as.any wW=false→fw.any wW=false)
 |[],as,fw,u,e=>by cases as<;>cases e<;>exact by simp
 |s::l,[],fw,u,e=>by cases e;simp
 |s::l,a::as,fw,u,e=>by
  unfold sC at e;split at e
  ·rename_i a1 u1 Vt se e1 e2;obtain⟨k1,k2⟩:=vPd e1;obtain⟨k3,k4⟩:=yYf e2;grind
  ·cases e
theorem Vy:∀{n nm},(∀i,i<n→h (nm+i)=h' (nm+i))→w9 h nm n=w9 h' nm n
 |0,_,_=>rfl
 |n+1,nm,hh=>by
  unfold w9;have:=hh 0 (by omega);rw[Nat.add_zero] at this;rw[this,Vy (by grind)]
end
theorem yJq {as rs X}{S:Nat→AD as→Option X}{pack}:Jk fun k nm args h=>pb as rs (S k) pack nm args h:=by
 intro k nm args h h' h1 h2;cases hb:args.any wW with
 |true=>rw[h2 hb]
 |false=>
  have hh:=h1 hb;show pb as rs (S k) pack nm args h=pb as rs (S k) pack nm args h';unfold pb;rw[yJe (h:=h) (h':=h') (by grind)];cases e:sC h' as args with
  |none=>rfl
  |some p=>
   obtain⟨fe,u⟩:=p;obtain⟨k1,k2⟩:=yYf e;dsimp only;rw[vNt (h:=qK h u) (h':=qK h' u) (k2 hb) fun id an=>A3 (by grind)];cases Bb (qK h' u) as fe with
   |none=>rfl
   |some d=>
    cases hle:Nat.ble rs.cells.length 100 with
    |false=>simp
    |true=>
     have hle:=Nat.le_of_ble_eq_true hle;rw [Vy (h := h) (h' := h') fun i hi => hh _ (.inr (by
      simp only[nO,Bool.and_eq_true];exact⟨by simp,by simp[Nat.blt_eq];omega⟩))]
def n9:Code→List Code
 |.seq a b=>n9 a++n9 b
 |.cond _ a b=>n9 a++n9 b
 |.block _ b=>n9 b
 |.loop b=>[b]
 |_=>[]
def zQ (c:Code)(i:Nat):Code:=match(n9 c)[i]? with
 |some b=>b
 |none=>.skip
def zR (fn:Func):Code:=match fn.body with
 |some c=>c
 |none=>.skip
def yUo (P:Program)(A:zW)(pre na nt:Nat)(b:Code):Prop:=(∃L,wi A b=some L∧zS P pre na nt b L)∨(wi A b=none∧wO P A pre na nt b)
theorem vW3 {P A pre na nt}:∀c,(∀b∈n9 c,yUo P A pre na nt b)→wO P A pre na nt c:=by
 intro c
 induction c with
 |seq a b DP DQ=>exact fun h=>⟨DP fun x hx=>h x (List.mem_append_left _ hx),DQ fun x hx=>h x (List.mem_append_right _ hx)⟩
 |cond t a b DP DQ=>exact fun h=>⟨DP fun x hx=>h x (List.mem_append_left _ hx),DQ fun x hx=>h x (List.mem_append_right _ hx)⟩
 |block id b ih=>exact fun h=>ih h
 |loop b ih=>
  intro h;rcases h b (List.mem_cons_self ..) with⟨L,h1,h2⟩|⟨h1,h2⟩
  ·refine⟨by grind,by grind⟩
  ·refine⟨fun L' h3=>?_,fun _=>h2⟩;simp_all
 |_=>exact fun _=>trivial
theorem Jl {P A pre na nt c n}(hn:(n9 c).length=n)(h:∀i,i<n→yUo P A pre na nt (zQ c i)):wO P A pre na nt c:=
 vW3 c fun b hb=>by
  obtain⟨i,hi,rfl⟩:=List.getElem_of_mem hb;have e:zQ c i=(n9 c)[i]:=by
   unfold zQ;grind
  grind
theorem nk {P A pre na nt c n}(hn:(n9 c).length=n)(h:∀i,i<n→∃L,wi A (zQ c i)=some L∧zS P pre na nt (zQ c i) L):wO P A pre na nt c:=
 Jl hn fun i hi=>.inl (h i hi)
theorem vPl {P A pre na nt c}(hn:(n9 c).length=0):wO P A pre na nt c:=nk hn (by simp)
theorem body_loops {P A pre na fn}(h:wO P A pre na fn.ntmps (zR fn)):∀c,fn.body=some c→wO P A pre na fn.ntmps c:=fun c hc=>by
 unfold zR at h;simp_all
theorem Jm {P f fn}(hf:P.funcs[f]? =some fn)(hb:fn.body.isNone=false)(hn:(fn.name== "runtime.NumGoroutine")=false):∀vs w,(callFunc f vs).run P w=.ok (.enter f vs) w:=fun vs w=>by
 have h1:(program).run P w=.ok P w:=rfl;unfold callFunc;simp only[Sem.run_bind,h1,Result.andThen_ok,hf,hn,hb,Bool.false_eq_true,if_false,Sem.run_pure]
abbrev zA (x:Int):Int:=IntKind.wrap .i64 x
abbrev yM (k:IntKind)(x y:Int):Int:=tE (fun _ a b=>a&&&b) k x y
abbrev wG (k:IntKind)(x y:Int):Int:=tE (fun _ a b=>a|||b) k x y
abbrev shl (k:IntKind)(x y:Int):Int:=k.wrap (x*2^(min y.toNat k.bits))
abbrev shr (k:IntKind)(x y:Int):Int:=x.fdiv (2^(min y.toNat k.bits))
abbrev zL (n b:Nat):Bool:=Nat.ble (n*b) 140737488355328&&Nat.ble n 140737488355328
abbrev qe (l c:Int)(b:Nat):Bool:=decide (0≤l)&&decide (l≤c)&&decide (c*(b:Int)≤140737488355328)&&decide (c≤140737488355328)
abbrev wR (lt:Bool)(x y:Int):Int:=bif lt then(bif decide (y<x) then y else x) else(bif decide (y>x) then y else x)
abbrev Vz (xs:List (List Int))(n:Nat):Option (List (List Int)):=
 nj (.c .mat) (fun d=>d.1) (.c (.osl 0 none)) ⟨fun _=>.undef,fun _=>some (.pmat 0 xs n)⟩
theorem vUc xs n:Vz xs n=bif Nat.beq xs.length n then some xs else none:=by
 unfold Vz nj Jh RS.get RS.cells;dsimp only[List.map,RC.isFro,gG,wH,tF,qK];cases h:Nat.beq xs.length n<;>simp[kP,qc,h]
theorem VA {l:List Nat}{p:Nat→Bool}(hl:∀t∈l,p t=true)(t:Nat)(h:l.any (Nat.beq t)=true):p t=true:=by
 simp_all
theorem vNe {P}:IL P (fun _=>false):=nofun
open Go.ChangeShapes Go.WideShapes Go.ChangeAt Go.RowKit
def Jn (f:TypeId→Option Ty):Nat→List (Nat×TypeId)→Option Ty
 |_,[]=>none
 |off,[x]=>bif Nat.beq x.1 off then f x.2 else none
 | off, x :: y :: l => bif Nat.beq x.1 off then (match f x.2 with
  |some a=>(match Jn f (off+a.size) (y::l) with|some b=>some (.pair a b)|none=>none)
  |none=>none) else none
def sD (P:Program):TypeDesc→List (Nat×TypeId)
 |.struct fs=>fs.toList.map fun f=>(f.offset,f.type)
 |.array n e=>(List.range n).map fun i=>(i*P.cellsOf e,e)
 |_=>[]
def pg (P:Program):Nat→TypeId→Option Ty
 |0,_=>none
 |d+1,t=>match P.underlying t with
  |some (.int k)=>bif Nat.beq (P.cellsOf t) 1 then some (.int k) else none
  |some .bool=>bif Nat.beq (P.cellsOf t) 1 then some .bool else none
  |some (.slice e)=>bif Nat.beq (P.cellsOf t) 1&&Nat.ble 1 (P.bytesOf e) then(match pg P d e with|some a=>some (.sl a)|none=>none) else none
  |some x=>match Jn (pg P d) 0 (sD P x) with
   |some a=>bif Nat.beq (P.cellsOf t) a.size then some a else none
   |none=>none
  |none=>none
def Wf:(t:Ty)→t.den→Prop
 |.int k,n=>(Lit.int k n).wf=true
 |.bool,_=>True
 |.sl t,xs=>xs.length≤reachBytes∧∀i (h:i<xs.length),Wf t xs[i]
 |.pair a b,p=>Wf a p.1∧Wf b p.2
theorem VB {P}:∀{d t ty},pg P d t=some ty→P.cellsOf t=ty.size
 |d+1,t,ty,h=>by
  unfold pg at h;split at h
  ·obtain⟨h1,h2⟩:=wQ h;cases h2;exact Nat.eq_of_beq_eq_true h1
  ·obtain⟨h1,h2⟩:=wQ h;cases h2;exact Nat.eq_of_beq_eq_true h1
  ·obtain⟨h1,h2⟩:=wQ h;rw[Bool.and_eq_true] at h1;split at h2
   ·cases h2;exact Nat.eq_of_beq_eq_true h1.1
   ·cases h2
  ·split at h
   ·obtain⟨h1,h2⟩:=wQ h;simp_all
   ·cases h
  ·cases h
section
variable {H:Type} {enc:TypeId×Value→H} {P:Program} {w:World}
abbrev Jo (w:World):Nat→Prop:=fun b=>b<w.heap.size
theorem VC {a n cs}(h:w.cells? 0 a n=some cs):cs.length=n∧∀i,i<n→∃v,cs[i]? =some v∧w.cell? (a.add i)=some v:=by
 have hl:=mapM_some_length h;have hg:=mapM_some_get h;simp at hl;refine⟨hl,fun i hi=>?_⟩;have:=hg i i (by simp[hi]);simp_all
theorem yYg {a v}(h:w.cell? a=some v):a.spot=none∧a.block<w.heap.size∧yS w.heap a.block a.off=some v:=by
 unfold World.cell? at h;cases hb:w.heap[a.block]? with
 |none=>simp_all
 |some o=>
  rw[hb] at h;cases o with
  |cells c e z=>
   dsimp only at h;split at h
   ·cases h
   ·refine⟨by simp_all,?_,?_⟩
    ·grind
    ·unfold yS;simp_all
  |_=>cases h
theorem ySa {α:Type}{p:Nat→α→Prop}:∀n,(∀i,i<n→∃x,p i x)→∃xs:List α,xs.length=n∧∀i h,p i xs[i]
 |0,_=>by simp
 |n+1,h=>by
  obtain⟨xs,h1,h2⟩:=ySa n fun i hi=>h i (by omega)
  obtain⟨x,hx⟩:=h n (by omega);refine⟨xs++[x],by simp[h1],fun i hi=>?_⟩;grind
def wY (l:List Nat):Prop:=l.all (· ≤reachBytes)=true
theorem qg {l m}:wY (l++m)↔wY l∧wY m:=by simp[wY]
theorem yUj {P e}{d:DataW H}:∀{l},wY (DataW.weightsAll P e l)→d∈l→wY (d.weights P e)
 |a::l,h,hd=>by
  have h:=qg.1 h;rcases List.mem_cons.1 hd with rfl|hd
  ·exact h.1
  ·exact yUj h.2 hd
theorem yY5 {P e}:∀{ts} {ds:List (DataW H)},(∀t∈ts,t=e)→wY (DataW.weightsAll P e ds)→wY (DataW.weightsEach P ts ds)
 |t::ts,d::ds,ht,h=>by
  have h:=qg.1 h;rw[ht t (by simp)];exact qg.2 ⟨h.1,yY5 (by grind) h.2⟩
 |[],_,_,_=>by simp[DataW.weightsEach,wY]
 |_::_,[],_,_=>by rfl
def N9 (P:Program)(w:World)(ty:Ty)(cs:List Value):Prop:=∃x:ty.den,cs.length=ty.size∧qF w.heap (Jo w) ty x (fun j=>cs[j]?)∧Wf ty x
theorem vAc {d fuel}(ih:∀t ty cs x,pg P d t=some ty→DataW.trod enc P w 0 (fun _=>true) true fuel t cs=some x→wY (x.1.weights P t)→N9 P w ty cs):
  ∀l off ty (cs:List Value) out,Jn (pg P d) off l=some ty→off+ty.size≤cs.length→
   (l.mapM fun p=>DataW.trod enc P w 0 (fun _=>true) true fuel p.2 ((cs.drop p.1).take (P.cellsOf p.2)))=some out→wY (DataW.weightsEach P (l.map (·.2)) (out.map (·.1)))→N9 P w ty ((cs.drop off).take ty.size)
 |[x],off,ty,cs,out,h,hc,hm,hw=>by
  obtain⟨h1,h2⟩:=wQ h;have ho:x.1=off:=by simpa using h1
  simp only[List.mapM_cons,List.mapM_nil,Option.pure_def,Option.bind_eq_bind,Option.bind_eq_some_iff] at hm;obtain⟨y,hy,_,e,e'⟩:=hm;cases e;cases e';rw[ho,VB h2] at hy;exact ih _ _ _ _ h2 hy (qg.1 hw).1
 |x::y::l,off,ty,cs,out,h,hc,hm,hw=>by
  obtain⟨h1,h2⟩:=wQ h;have ho:x.1=off:=by simpa using h1
  split at h2
  ·rename_i a ha;split at h2
   ·rename_i b hb;cases h2;simp only[Ty.size] at hc⊢;rw[List.mapM_cons] at hm;simp only[Option.pure_def,Option.bind_eq_bind,Option.bind_eq_some_iff] at hm;obtain⟨z,hz,zs,hzs,e⟩:=hm;cases e;rw[ho,VB ha] at hz;have hw:=qg.1 hw;obtain⟨p,p1,p2,p3⟩:=ih _ _ _ _ ha hz hw.1;obtain⟨q,q1,q2,q3⟩:=vAc ih (y::l) (off+a.size) b cs zs hb (by omega) hzs hw.2;refine⟨(p,q),by simp only[List.length_take,List.length_drop,Ty.size];omega,⟨?_,?_⟩,p3,q3⟩
    ·refine vD (fun _ h=>h) (by simp) a p _ _ (fun j hj=>?_) p2;simp only[List.getElem?_take,List.getElem?_drop];rw[if_pos (by omega),if_pos hj]
    grind
   ·cases h2
  ·cases h2
theorem VD:∀d t ty fuel cs x,pg P d t=some ty→DataW.trod enc P w 0 (fun _=>true) true fuel t cs=some x→wY (x.1.weights P t)→N9 P w ty cs
 |0,_,_,_,_,_,h,_,_=>by cases h
 |d+1,t,ty,0,cs,x,_,h,_=>by simp[DataW.trod] at h
 |d+1,t,ty,fuel+1,cs,x,hl,h,hw=>by
  unfold pg at hl;split at hl
  ·rename_i k hu;obtain⟨_,hl⟩:=wQ hl;cases hl;obtain⟨n,rfl,_,ph⟩:=DataW.trod_int hu h;exact⟨n,rfl,rfl,ph⟩
  ·rename_i hu;obtain⟨_,hl⟩:=wQ hl;cases hl;obtain⟨b,rfl,_⟩:=DataW.trod_bool hu h;exact⟨b,rfl,rfl,trivial⟩
  ·rename_i e hu;obtain⟨fJ,hl⟩:=wQ hl;rw[Bool.and_eq_true] at fJ;have fJ:=Nat.le_of_ble_eq_true fJ.2;split at hl
   ·rename_i a ha;cases hl;rcases DataW.trod_slice hu h with⟨rfl,_⟩|⟨ad,len,cap,elems,rest,n,hn,rfl,rfl,_,TO,hm,hel,hg,_,_⟩
    ·refine⟨([]:List a.den),rfl,?_,?_⟩
     ·simp only[qF];exact⟨none,0,0,rfl,rfl,Nat.le_refl _,.inl ⟨trivial,fun _=>rfl⟩⟩
     ·simp only[Wf];exact by simp
    ·unfold DataW.weights at hw;rw[hu] at hw;have hw:wY ([((elems.map (·.1)).length+(rest.map (·.1)).length)*P.bytesOf e]++(DataW.weightsAll P e (elems.map (·.1))++DataW.weightsAll P e (rest.map (·.1)))):=hw;obtain⟨sE,hw⟩:=qg.1 hw;have hw2:=(qg.1 hw).1;have hlen:len≤reachBytes:=by
      simp only[wY,List.all_cons,List.all_nil,Bool.and_true,decide_eq_true_eq,List.length_map] at sE;have:=Nat.mul_le_mul_left (elems.length+rest.length) fJ;omega
     have key:∀i,i<len→∃x:a.den,(qF w.heap (Jo w) a x (fun j=>yS w.heap ad.block (ad.off+i*a.size+j))∧(i=0→ad.spot=none)∧ad.block<w.heap.size)∧Wf a x:=by
      intro i hi;have h1:=hg i hi;have UX:i<elems.length:=by omega
      rw[List.getElem?_eq_getElem UX,Option.bind_eq_some_iff] at h1;obtain⟨cs,nY,htr⟩:=h1;rw[VB ha] at nY;obtain⟨y,y1,y2,y3⟩:=VD d e a n cs _ ha htr (yUj hw2 (by grind));obtain⟨c1,c2⟩:=VC nY;have Bf:∀j,((ad.add (i*a.size)).add j).block=ad.block∧((ad.add (i*a.size)).add j).off=ad.off+i*a.size+j:=by
       intro j;unfold Addr.add;constructor
       ·split<;>split<;>rfl
       ·split<;>split<;>simp_all
      have at0:(i=0→ad.spot=none)∧ad.block<w.heap.size:=by
       obtain⟨v,_,hv⟩:=c2 0 a.size_pos;have h1:=yYg hv;refine⟨fun h0=>?_,by have:=h1.2.1;rwa [(Bf 0).1] at this⟩;have h2:=h1.1;subst h0
       simpa[Addr.add] using h2
      refine⟨y,⟨vD (fun _ h=>h) (fun _ _=>rfl) a y _ _ (fun j hj=>?_) y2,at0⟩,y3⟩;obtain⟨v,v1,v2⟩:=c2 j hj;rw[v1];have h1:=(yYg v2).2.2
      rwa [(Bf j).1,(Bf j).2] at h1
     obtain⟨xs,x1,x2⟩:=ySa len key;refine⟨xs,rfl,?_,?_⟩
     ·simp only[qF];refine⟨some ad,len,cap,rfl,x1.symm,TO,?_⟩;by_cases h0:xs=[]
      ·exact by grind
      ·refine .inr ⟨ad.block,ad.off,?_,?_,fun i hi=>(x2 i hi).1.1⟩
       ·have:=(x2 0 (List.length_pos_iff.2 h0)).1.2.1 rfl;cases ad;simp at this;rw[this]
       ·exact by grind
     ·simp only[Wf];exact by grind
   ·cases hl
  ·rename_i y n1 n2 n3 hu;split at hl
   ·rename_i a ha;obtain⟨ee,hl⟩:=wQ hl;cases hl;have ee:P.cellsOf t=ty.size:=by simpa using ee
    have fin:∀out,cs.length=P.cellsOf t→((sD P y).mapM fun p=>DataW.trod enc P w 0 (fun _=>true) true fuel p.2 ((cs.drop p.1).take (P.cellsOf p.2)))=some out→wY (DataW.weightsEach P ((sD P y).map (·.2)) (out.map (·.1)))→N9 P w ty cs:=by
     intro out hlen kK hw;have:=vAc (fun t' ty' aQ x' h1 h2 h3=>VD d t' ty' fuel aQ x' h1 h2 h3) (sD P y) 0 ty cs out ha (by omega) kK hw
     rwa [List.drop_zero,List.take_of_length_le (by omega)] at this
    unfold DataW.trod at h;rw[hu] at h;cases y with
    |struct fs=>
     dsimp only at h;split at h
     ·rename_i hlen;rw[Option.map_eq_some_iff] at h;obtain⟨out,ho,rfl⟩:=h;unfold DataW.weights at hw;rw[hu] at hw;refine fin out hlen ?_ (by rw[sD,List.map_map];exact hw);simp only[sD,List.mapM_map];exact ho
     ·cases h
    |array n e=>
     dsimp only at h;split at h
     ·rename_i hlen;rw[Option.map_eq_some_iff] at h;obtain⟨out,ho,rfl⟩:=h;unfold DataW.weights at hw;rw[hu] at hw;refine fin out hlen ?_ (yY5 (fun t ht=>by simp[sD] at ht;exact ht.2.symm) hw);simp only[sD,List.mapM_map];exact ho
     ·cases h
    |_=>simp[sD,Jn] at ha
   ·cases hl
  ·cases hl
end
open Go.ChangeShapes Go.WideShapes Go.ChangeAt Go.RowKit
def uh (sh:Bool):Ty→List PC
 |.int k=>[.int k]
 |.bool=>[.bool]
 |.sl t=>[.dat sh t]
 |.pair a b=>uh sh a++uh sh b
def xg:(l m:List PC)→PL l→PL m→PL (l++m)
 |[],_,_,e=>e
 |_::l,m,d,e=>(d.1,xg l m d.2 e)
theorem VE:∀l m d e,wE (l++m) (xg l m d e)=wE l d++wE m e
 |[],_,_,_=>rfl
 |p::l,m,d,e=>by
  show D7 p d.1::wE (l++m) (xg l m d.2 e)=D7 p d.1::(wE l d.2++wE m e);rw[VE l m d.2 e]
def sF sh:(t:Ty)→t.den→PL (uh sh t)
 |.int _,n=>(n,())
 |.bool,b=>(b,())
 |.sl _,xs=>(xs,())
 |.pair a b,p=>xg _ _ (sF sh a p.1) (sF sh b p.2)
def WfP:(p:PC)→p.den→Prop
 |.int k,n=>(Lit.int k n).wf=true
 |.bool,_=>True
 |.dat _ t,xs=>Wf (.sl t) xs
 |.fn _,_=>True
 |.nil,_=>True
 |.nilp,_=>True
def ui:(l:List PC)→PL l→Prop
 |[],_=>True
 |p::l,d=>WfP p d.1∧ui l d.2
theorem VF:∀l m d e,ui l d→ui m e→ui (l++m) (xg l m d e)
 |[],_,_,_,_,h=>h
 |_::l,m,d,e,h,h'=>⟨h.1,VF l m d.2 e h.2 h'⟩
theorem VG sh:∀t x,Wf t x→ui (uh sh t) (sF sh t x)
 |.int _,_,h
 |.bool,_,h
 |.sl _,_,h=>⟨h,trivial⟩
 |.pair a b,p,h=>VF _ _ _ _ (VG sh a p.1 h.1) (VG sh b p.2 h.2)
theorem Oa:∀l d,(wE l d).length=l.length
 |[],_=>rfl
 |p::l,d=>by
  show(wE l d.2).length+1=l.length+1;rw[Oa l d.2]
def M0 (w:World):zK:=⟨fun _=>none,Jo w,Jo w,mb [],w.heap⟩
theorem vWd w:Ok (M0 w) where
 obj:=nofun
 non:=fun _ _=>rfl
 disj:=fun i j oi oj Ci Cj b _ h=>by cases h
 own:=nofun
 GF:=fun _ h=>h
 Flt:=fun _ h=>h
theorem VH sh {w}:∀t x cs,cs.length=t.size→qF w.heap (Jo w) t x (fun j=>cs[j]?)→zM (zX (M0 w)) (wE (uh sh t) (sF sh t x)) cs
 |.int k,n,cs,hl,h=>by
  match cs,hl with
  |[c],_=>
   have e:c=.int k n:=by simpa[qF] using h
   exact⟨e,trivial⟩
 |.bool,b,cs,hl,h=>by
  match cs,hl with
  |[c],_=>
   have e:c=.bool b:=by simpa[qF] using h
   exact⟨e,trivial⟩
 |.sl t,xs,cs,hl,h=>by
  match cs,hl with
  |[c],_=>
   refine⟨?_,trivial⟩;have h':=vD (F':=(bif sh then(M0 w).G else(M0 w).F)) (fun b h=>by cases sh<;>exact h) (fun b _=>rfl) (.sl t) xs (fun j=>[c][j]?) (fun _=>some c) (by grind) h;exact h'
 |.pair a b,p,cs,hl,h=>by
  have dQ:cs.length=a.size+b.size:=hl;have h1:=VH sh a p.1 (cs.take a.size) (by grind) (vD (fun _ h=>h) (by simp) a p.1 _ _ (by grind) h.1);have h2:=VH sh b p.2 (cs.drop a.size) (by grind) (vD (by simp) (fun _ _=>rfl) b p.2 _ _ (by grind) h.2);show zM _ (wE (uh sh a++uh sh b) (xg _ _ (sF sh a p.1) (sF sh b p.2))) cs;rw[VE];have:=zM.append h1 h2;simp_all
def sG (sh : Bool) (P : Program) (t : TypeId) (ty : Ty) : AS := bif eY P t == some true then .agg (uh sh ty) else (match ty with
 |.int k=>.c (.int k)|.bool=>.c .bool|.sl t=>.c (.dat sh t)|.pair a b=>.agg (uh sh (.pair a b)))
def Ob (P:Program):List TypeId→Option (List Ty)
 |[]=>some []
 |t::ts=>match pg P 8 t,Ob P ts with
  |some a,some l=>some (a::l)
  |_,_=>none
def uj (sh:Bool)(P:Program):List TypeId→List Ty→List AS
 |t::ts,a::l=>sG sh P t a::uj sh P ts l
 |_,_=>[]
theorem vRe {P t ty}(h:pg P 8 t=some ty)(ha:(eY P t==some true)=false):(∃k,P.underlying t=some (.int k)∧ty=.int k)∨(P.underlying t=some .bool∧ty=.bool)∨∃e a,P.underlying t=some (.slice e)∧ty=.sl a:=by
 unfold pg at h;split at h
 ·grind
 ·grind
 ·grind
 ·rename_i x _ _ _ hu;split at h
  ·rename_i a hx;unfold eY at ha;rw[hu] at ha;cases x<;>first|(simp[sD,Jn] at hx;done)|(cases ha)
  ·cases h
 ·cases h
section
variable {H:Type} {enc:TypeId×Value→H} {P:Program} {w:World}
theorem VI sh {t ty v d ps base}(hl:pg P 8 t=some ty)(gb:Value.okWide P w .any base t v)(h:DataW.Trod enc P w 0 (fun _=>true) true t v d ps)(hw:wY (d.weights P t)):
  ∃x:PL (sG sh P t ty).cells,(∀n,zV (M0 w) ((sG sh P t ty).mk n (wE _ x)) v)∧(sG sh P t ty).boxes (wE _ x)=[]∧ui _ x:=by
 obtain⟨fuel,hf⟩:=h;obtain⟨x,x1,x2,x3⟩:=VD 8 t ty fuel _ _ hl hf hw;have dv:=VH sh ty x _ x1 x2;have Ec:=VG sh ty x x3;unfold sG;cases ha:(eY P t==some true) with
 |true=>
  refine⟨sF sh ty x,fun n=>?_,rfl,Ec⟩;have sd:eY P t=some true:=by simp_all
  have hv:∃cs,v=.agg cs:=by
   unfold eY at sd;unfold Value.okWide at gb;grind
  obtain⟨cs,rfl⟩:=hv;exact⟨cs,rfl,dv⟩
 |false=>
  rcases vRe hl ha with⟨k,hu,rfl⟩|⟨hu,rfl⟩|⟨e,a,hu,rfl⟩
  ·have hv:∃n,v=.int k n:=by
    simp[Value.okWide,Cell.okWide] at gb;cases v<;>simp_all[Cell.ok]
   obtain⟨n0,rfl⟩:=hv;exact⟨sF sh _ x,fun n=>dv.1,rfl,Ec⟩
  ·have hv:∃b,v=.bool b:=by
    simp[Value.okWide,Cell.okWide] at gb;cases v<;>simp_all[Cell.ok]
   obtain⟨b,rfl⟩:=hv;exact⟨sF sh _ x,fun n=>dv.1,rfl,Ec⟩
  ·obtain⟨ad,len,cap,rfl⟩:=okWide_slice hu gb;exact⟨sF sh _ x,fun n=>dv.1,rfl,Ec⟩
theorem vB1 sh {base}:∀ts tys vs ds ps n,Ob P ts=some tys→(∀(j:Nat) t v,ts[j]? =some t→vs[j]? =some v→Value.okWide P w .any base t v)→
  DataW.TrodAll enc P w 0 (fun _=>true) true ts vs ds ps→wY (DataW.weightsEach P ts ds)→∃x:AD (uj sh P ts tys),zM (zV (M0 w)) (ma (uj sh P ts tys) (wE _ x) n).1 vs∧(ma (uj sh P ts tys) (wE _ x) n).2=[]∧ui _ x
 |[],tys,vs,ds,ps,n,hl,gb,h,_=>by
  match vs,ds,h with
  |[],[],_=>exact⟨(),trivial,rfl,trivial⟩
 |t::ts,tys,vs,ds,ps,n,hl,gb,h,hw=>by
  unfold Ob at hl;split at hl
  ·rename_i a l ha dQ;cases hl
   match vs,ds,h with
   |v::vs,d::ds,h=>
    obtain⟨p,q,h1,h2,_⟩:=h;have hw:=qg.1 hw;obtain⟨x,x1,x2,x3⟩:=VI sh ha (gb 0 t v rfl rfl) h1 hw.1;obtain⟨y,y1,y2,y3⟩:=vB1 sh ts l vs ds q n dQ (fun j t' v' h1 h2=>gb (j+1) t' v' h1 h2) h2 hw.2;refine⟨xg _ _ x y,?_⟩;have e:wE ((uj sh P (t::ts) (a::l)).flatMap AS.cells) (xg _ _ x y)=wE _ x++wE _ y:=VE _ _ _ _;have ht:(wE _ x++wE _ y).take (sG sh P t a).cells.length=wE _ x:=by
     rw[List.take_append_of_le_length (by rw[Oa];omega),List.take_of_length_le (by rw[Oa];omega)]
    have hd:(wE _ x++wE _ y).drop (sG sh P t a).cells.length=wE _ y:=by
     rw[List.drop_append_of_le_length (by rw[Oa];exact by simp),List.drop_of_length_le (by grind),List.nil_append]
    rw[e];have em:ma (uj sh P (t::ts) (a::l)) (wE _ x++wE _ y) n=((sG sh P t a).mk n (wE _ x)::(ma (uj sh P ts l) (wE _ y) n).1,(ma (uj sh P ts l) (wE _ y) n).2):=by
     show((sG sh P t a).mk n _::_,(sG sh P t a).boxes _++_)=_;simp_all
    rw[em];exact⟨⟨x1 n,y1⟩,y2,VF _ _ _ _ x3 y3⟩
  ·cases hl
theorem yTs {us}{gs:List (DataW H)}:∀{ts ds},ts.length=ds.length→wY (DataW.weightsEach P (ts++us) (ds++gs))→wY (DataW.weightsEach P ts ds)
 |[],[],_,_=>by rfl
 |t::ts,d::ds,hl,h=>qg.2 ⟨(qg.1 h).1,yTs (by simp_all) (qg.1 h).2⟩
theorem yFy:∀{ts vs ds ps},DataW.TrodAll enc P w 0 (fun _=>true) true ts vs ds ps→ts.length=ds.length
 |[],[],[],_,_=>rfl
 |_::_,_::_,_::_,_,⟨_,_,_,h,_⟩=>by rw[List.length_cons,List.length_cons,yFy h]
theorem lawArgs sh {base ts tys asp vs ds ps}(hl:Ob P ts=some tys)(has:uj sh P ts tys=asp)
  (gb:∀(j:Nat) t v,ts[j]? =some t→vs[j]? =some v→Value.okWide P w .any base t v) (h:DataW.TrodAll enc P w 0 (fun _=>true) true ts vs ds ps) {us gs} (hw:wY (DataW.weightsEach P (ts++us) (ds++gs))):
  ∃x:AD asp,zM (zV (M0 w)) (ma asp (wE _ x) 0).1 vs∧(ma asp (wE _ x) 0).2=[]∧ui _ x:=by
 subst has;exact vB1 sh ts tys vs ds ps 0 hl gb h (yTs (yFy h) hw)
theorem law_calls {E}(hE:gF E)(hS:kb E.sums)(hm:E.P.follows .mixedOrders=true){A k pre f fn}(hf:E.P.funcs[f]? =some fn)(hL:∀c,fn.body=some c→wO E.P A pre 0 fn.ntmps c)
  {as d unpack} (hup:∀d,unpack d=d.1) (aO:kB E A k pre 0 fn (qb as d).1 (qb as d).2 (nj (.c .bool) unpack)=some true) (hb:(ma as (wE _ d) 0).2=[]) {vs} (hv:zM (zV (M0 w)) (ma as (wE _ d) 0).1 vs.toList):
  Calls E.P f vs w fun e w'=>e=.returned (.bool true)∧Below w.heap.size w w':=by
 have hh:(M0 w).h=(qb as d).2:=by
  show mb []=mb (ma as (wE _ d) 0).2;rw[hb]
 refine Calls.mono (Vb hE hS hm hf hL aO (M:=M0 w) (w:=w) hh rfl (vWd w) hv) fun e w' he=>?_
 cases e with
 |returned rv=>
  obtain⟨M',v,st,hK,_,hH,_,hg,_,hrv,o1,o2,o3,_⟩:=he;refine⟨?_,o1,o2,o3,?_,fun b hb=>?_⟩
  ·unfold nj at hK;split at hK
   ·rename_i r hr;unfold Jh at hr;split at hr
    ·rename_i cs nY;split at hr
     ·rename_i aQ u DH;cases v with
      |c x=>
       cases nY;have e1:aQ=[x]:=by
        simp[RS.cells,RC.isFro,gG] at DH;simp_all
       subst e1;have sj:kP (qK st.h u) [.bool] [x]=some r:=hr;cases x with
       |bool b=>
        have e2:r=(b,()):=by simp[kP,qc] at sj;grind
        have:rv=.bool b:=hrv;grind
       |_=>simp[kP,qc] at sj
      |_=>cases nY
     ·cases hr
    ·cases hr
   ·cases hK
  ·have:=hg.size;rw[hH] at this;exact this
  ·have:=hg.same b hb;rw[hH] at this;exact this
 |_=>simp_all
end
inductive XC where
 |p (c:PC)|own (t:Ty)|mat|map
 |link (j:Nat)
abbrev XC.den:XC→Type
 |.p c=>c.den|.own t=>List t.den|.mat=>List (List Int)|.map=>List (Int×Bool)|.link _=>Unit
def XC.lnk:XC→Option Nat
 |.link j=>some j
 |_=>none
def RC.lnk:RC→Option Nat
 |.link j=>some j
 |_=>none
def sH:List (Option Nat)→List Nat→List zZ→Bool
 |none::l,ids,_::cs=>sH l ids cs
 |some j::l,ids,.ptr id 0::cs=>(match ids[j]? with|some k=>Nat.beq id k|none=>false)&&sH l ids cs
 |some _::_,_,_=>false
 |_,_,_=>true
def Bg:List (Option Nat)→List Nat→List zZ→List zZ
 |none::l,ids,c::cs=>c::Bg l ids cs
 |some j::l,ids,c::cs=>(match ids[j]? with|some id=>.ptr id 0|none=>c)::Bg l ids cs
 |_,_,cs=>cs
def VJ:List zZ→Option Nat
 |[]=>none
 |.ptr id 0::_=>some id
 |_::l=>VJ l
def Jp (h:Hp):Nat→Nat→Option (List Nat)
 |0,_=>none
 |1,id=>some [id]
 |n+2,id=>match D6 h id with
  | some cells => (match VJ cells with
   |some id2=>(match Jp h (n+1) id2 with|some l=>some (id::l)|none=>none)
   |none=>none)
  |none=>none
def mc:Nat→Nat→List Nat
 |_,0=>[]
 |n,m+1=>n::mc (n+1) m
abbrev XL:List XC→Type
 |[]=>Unit
 |c::l=>c.den×XL l
inductive AX where
 |c (x:XC)|agg (l:List PC)|ptr (io:Bool) (l:List XC)|fn (f:Nat) (bD:List (Bool×List XC))
 |chn (ls:List (List XC))
def AX.cells:AX→List XC
 |.c x=>[x]
 |.agg l=>l.map .p
 |.ptr _ l=>l
 |.fn _ bD=>bD.flatMap (·.2)
 |.chn ls=>ls.flatten
def AX.nb:AX→Nat
 |.ptr _ _=>1
 |.fn _ bD=>bD.length
 |.chn ls=>ls.length
 |_=>0
def AX.isChn:AX→Bool
 |.chn _=>true
 |_=>false
def Ed (ls:List (List XC)):List (Bool×List XC):=ls.map fun l=>(true,l)
abbrev XD (l:List AX):Type:=XL (l.flatMap AX.cells)
def AX.looks:AX→Bool
 |.ptr _ _=>true
 |.fn _ _=>true
 |_=>false
def uk (l:List AX)(na:Nat):Bool:=l.zipIdx.all fun p=> !p.1.looks||Nat.blt p.2 na
def Ee (h:Hp)(io:Bool)(id:Nat):Option (List zZ):=match io,h id with
 |true,some (.box true cells)=>some cells
 |false,some (.box _ cells)=>some cells
 |false,some (.robox cells)=>some cells
 |_,_=>none
def kf (h:Hp):List (Bool×List XC)→List Nat→Option (List zZ×List (Bool×Nat))
 |[],[]=>some ([],[])
 |(io,l)::ls,id::ids=>match Ee h io id,kf h ls ids with
  |some cells,some (rest,bs)=>bif Nat.beq cells.length l.length then some (cells++rest,(io,id)::bs) else none
  |_,_=>none
 |_,_=>none
def AX.get (h:Hp):AX→zY→Option (List zZ×List (Bool×Nat))
 |.c _,.c x=>some ([x],[])
 |.agg l,.agg xs=>bif Nat.beq xs.length l.length then some (xs,[]) else none
 |.ptr io l,.c (.ptr id 0)=>kf h [(io,l)] [id]
 |.fn f bD,.c (.fn g ids)=>bif Nat.beq f g then kf h bD ids else none
 |.chn ls,.c (.ptr id 0)=>match Jp h ls.length id with
  |some ids=>kf h (Ed ls) ids
  |none=>none
 |_,_=>none
def kQ (h:Hp):List AX→List zY→Option (List zZ×List (Bool×Nat))
 |[],[]=>some ([],[])
 |s::l,a::as=>match s.get h a,kQ h l as with
  |some (cs,bs),some (aQ,Bh)=>some (cs++aQ,bs++Bh)
  |_,_=>none
 |_,_=>none
def Jq (h:Hp):(x:XC)→zZ→Option x.den
 |.p p,c=>uf h p c
 |.own t,.osl id none=>match h id with
  |some (.arr true s xs)=>iu s t xs
  |_=>none
 |.mat,.osl id none=>match h id with
  |some (.mat _ xs)=>some xs
  |_=>none
 |.map,.map id=>match h id with
  |some (.imap di)=>some di
  |_=>none
 |.link _,.ptr _ 0=>some ()
 |_,_=>none
def qh (h:Hp):(l:List XC)→List zZ→Option (XL l)
 |[],[]=>some ()
 |x::l,c::cs=>match Jq h x c,qh h l cs with
  |some d,some ds=>some (d,ds)
  |_,_=>none
 |_,_=>none
def jT:List XC→List zZ→List Nat
 |.p _::l,_::cs=>jT l cs
 |.link _::l,_::cs=>jT l cs
 |_::l,.osl id _::cs=>id::jT l cs
 |_::l,.map id::cs=>id::jT l cs
 |_::l,_::cs=>jT l cs
 |_,_=>[]
def Jr:List XC→List zZ→List Nat
 |.p _::l,c::cs=>vQ c++Jr l cs
 |_::l,_::cs=>Jr l cs
 |_,_=>[]
def wT:Nat:=500
def iB:(l:List XC)→XL l→Nat→List zZ×List Obj
 |[],_,_=>([],[])
 |.p p::l,d,n=>let r:=iB l d.2 n;(D7 p d.1::r.1,r.2)
 |.own t::l,d,n=>let r:=iB l d.2 (n+1);(.osl n none::r.1,.arr true t d.1::r.2)
 |.mat::l,d,n=>let r:=iB l d.2 (n+1);(.osl n none::r.1,.mat 0 d.1::r.2)
 |.map::l,d,n=>let r:=iB l d.2 (n+1);(.map n::r.1,.imap d.1::r.2)
 |.link j::l,d,n=>let r:=iB l d.2 n;(.ptr j 0::r.1,r.2)
def Js:List (Bool×List XC)→List zZ→List Obj
 |[],_=>[]
 |(io,l)::ls,cs=>(bif io then .box true (cs.take l.length) else .robox (cs.take l.length))::Js ls (cs.drop l.length)
def AX.mk (n:Nat)(cs:List zZ):AX→zY
 |.c _=>match cs with|x::_=>.c x|[]=>.undef
 |.agg _=>.agg cs
 |.ptr _ _=>.c (.ptr n 0)
 |.fn f bD=>.c (.fn f ((List.range bD.length).map (n+·)))
 |.chn _=>.c (.ptr n 0)
def AX.boxes (cs:List zZ):AX→List Obj
 |.ptr io l=>Js [(io,l)] cs
 |.fn _ bD=>Js bD cs
 |.chn ls=>Js (Ed ls) cs
 |_=>[]
def Bi:List AX→List zZ→Nat→List zY×List Obj
 |[],_,_=>([],[])
 |s::l,cs,n=>
  let aq:=cs.take s.cells.length;let bs:=s.boxes aq;let rest:=Bi l (cs.drop s.cells.length) (n+bs.length)
  (s.mk n aq::rest.1,bs++rest.2)
def Jt (bs rows:List Obj):Hp:=fun n=>bif Nat.ble wT n then rows[n-wT]? else bs[n]?
def kR l (d:XD l):List zY×Hp:=
 let r:=iB (l.flatMap AX.cells) d wT;let m:=Bi l r.1 0
 (m.1,Jt m.2 r.2)
def Ju:List (Bool×List XC)→List Nat→Option (List Nat)
 |[],[]=>some []
 |(io,_)::ls,id::ids=>match Ju ls ids with
  |some l=>some (bif io then id::l else l)
  |none=>none
 |_,_=>none
def AX.io (b:Nat):AX→zY→Option (List Nat)
 |.c _,_=>some []
 |.agg _,_=>some []
 |.ptr io l,.c (.ptr id 0)=>Ju [(io,l)] [id]
 |.fn _ bD,.c (.fn _ ids)=>Ju bD ids
 |.chn ls,_=>some (mc b ls.length)
 |_,_=>none
def Oc:List AX→(Nat→zY)→Nat→Nat→Option (List Nat)
 |[],_,_,_=>some []
 |s::l,t,n,b=>match s.io b (t n),Oc l t (n+1) (b+s.nb) with
  |some a,some b=>some (a++b)
  |_,_=>none
def Ef (h:Hp):List (List RC)→List Nat→Option (List zZ)
 |[],[]=>some []
 |o::os,n::ns=>match h n,Ef h os ns with
  |some (.box true cells),some rest=>bif Nat.beq cells.length o.length then some (cells++rest) else none
  |_,_=>none
 |_,_=>none
def VK (h:Hp)(ns:Nat)(cs:List zZ):Option (List Nat):=bif Nat.beq ns 0 then some [] else match VJ cs with
 |some id=>Jp h ns id
 |none=>none
def xh (st:St)(as:List AX)(rs:RS)(os:List (List RC))(ns:Nat)(v:zY):Option (RL (rs.cells++os.flatten)):=
 match Oc as st.t 0 0 with
 |none=>none
 |some io=>match rs.get v with
  |none=>none
  |some cs=>match VK st.h ns cs with
   |none=>none
   |some nw=>match Ef st.h os (io++nw) with
    |none=>none
    | some bs => bif tF (io ++ nw) then (match gG st.h ((rs.cells++os.flatten).map RC.isFro) (cs++bs) with
     |some (cs,u)=>bif tF (wH (rs.cells++os.flatten) cs)&&sH ((rs.cells++os.flatten).map RC.lnk) (io++nw) cs then kP (qK st.h u) (rs.cells++os.flatten) cs else none
     |none=>none) else none
def Jv (as:List AX)(rs:RS)(os:List (List RC))(ns:Nat){X:Type}(unpack:RL (rs.cells++os.flatten)→X)(v:zY)(st:St):Option X:=match xh st as rs os ns v with
 |some d=>some (unpack d)
 |none=>none
def Od (as:List AX)(rs:RS)(os:List (List RC))(ns:Nat)(dw:RS)(dy:List (List RC))(fP:Nat){X Y:Type}(up:RL (rs.cells++os.flatten)→X)(lG:RL (dw.cells++dy.flatten)→Y)(v:zY)(st:St):Option (X⊕Y):=match xh st as rs os ns v with
 |some d=>some (.inl (up d))
 |none=>match xh st as dw dy fP v with
  |some d=>some (.inr (lG d))
  |none=>none
def xi:List (List RC)→List zZ→List (List zZ)
 |[],_=>[]
 |o::os,cs=>cs.take o.length::xi os (cs.drop o.length)
def vW:List (Bool×Nat)→List Nat
 |[]=>[]
 |(true,id)::l=>id::vW l
 |(false,_)::l=>vW l
def Oe:List (Bool×Nat)→List Nat
 |[]=>[]
 |(true,_)::l=>Oe l
 |(false,id)::l=>id::Oe l
def Eg:List Nat→List (List zZ)→vJ
 |id::ids,cs::css=>(id,.box true cs)::Eg ids css
 |_,_=>[]
def qi (ids:List Nat):vJ:=ids.map fun id=>(id,.gone)
def VL (nm:Nat)(rs:RS)(os:List (List RC))(ids:List Nat)(d:RL (rs.cells++os.flatten)):zY×vJ:=
 let r:=o9 nm (rs.cells++os.flatten) d;let cs:=Bg ((rs.cells++os.flatten).map RC.lnk) ids r.1
 (rs.mk (cs.take rs.cells.length),r.2++Eg ids (xi os (cs.drop rs.cells.length)))
def VM (a b:List Nat):Bool:=a.all fun x=> !b.any (Nat.beq x)
def xj (h:Hp):AX→zY→Option (zY×vJ)
 |.c (.p p),.c x=>match gG h [p.isKept] [x] with
  |some ([x],u)=>some (.c x,u)
  |_=>none
 |.agg l,.agg xs=>match gG h (l.map PC.isKept) xs with
  |some (xs,u)=>some (.agg xs,u)
  |none=>none
 |_,a=>some (a,[])
def sJ (h:Hp):List AX→List zY→Option (List zY×vJ)
 |s::l,a::as=>match xj h s a,sJ h l as with
  |some (a,u),some (as,us)=>some (a::as,u++us)
  |_,_=>none
 |_,as=>some (as,[])
def Bj as (nm n:Nat)(args:List zY)(h:Hp):Option (vJ×List Nat×List Nat×XD as):=
 match sJ h as args with
 |none=>none
 |some (args,u)=>match kQ (qK h u) as args with
  |none=>none
  |some (cs,bs)=>match qh (qK h u) (as.flatMap AX.cells) cs with
   |none=>none
   |some d=>
    let rows:=jT (as.flatMap AX.cells) cs;let aq:=vW bs++rows
    bif w9 h nm n&&Nat.ble n 100&&Nat.ble bs.length wT&&tF aq&&VM aq (Jr (as.flatMap AX.cells) cs)&&VM aq (Oe bs)&&sH ((as.flatMap AX.cells).map XC.lnk) (bs.map (·.2)) cs then
     some (u,vW bs,rows,d)
    else none
def Jw (u:vJ)(io rows:List Nat)(rs:RS)(os:List (List RC))(ns nm:Nat)(d:RL (rs.cells++os.flatten)):zY×vJ:=
 let r:=VL nm rs os (io++mc (nm+(rs.cells++os.flatten).length) ns) d
 (r.1,u++(qi rows++r.2))
def sK as (rs:RS)(os:List (List RC))(ns:Nat){X}(S:XD as→Option X)(pack:X→RL (rs.cells++os.flatten))(nm:Nat)(args:List zY)(h:Hp):yU:=
 match Bj as nm ((rs.cells++os.flatten).length+ns) args h with
 |none=>.stuck
 |some (u,io,rows,d)=>.call X (S d) fun r=>Jw u io rows rs os ns nm (pack r)
def um as (rs:RS)(os:List (List RC))(ns:Nat)(dw:RS)(dy:List (List RC))(fP:Nat){X Y}(S:XD as→Option (X⊕Y))(pk:X→RL (rs.cells++os.flatten))(iS:Y→RL (dw.cells++dy.flatten))(nm:Nat)(args:List zY)(h:Hp):yU:=
 match Bj as nm (((rs.cells++os.flatten).length+ns)+((dw.cells++dy.flatten).length+fP)) args h with
 |none=>.stuck
 |some (u,io,rows,d)=>.call2 X Y (S d) (fun r=>Jw u io rows rs os ns nm (pk r)) (fun r=>Jw u io rows dw dy fP nm (iS r))
def lH (M:zK)(aq:List Nat)(b:Nat):Prop:=∃id∈aq,∃C,M.κ id=some C∧b∈C.fp
structure sL (M:zK) (aq:List Nat) (Ml:zK):Prop where
 H:Ml.H=M.H
 F:Ml.F=fun b=>b<M.H.size∧¬lH M aq b
 G:Ml.G=M.G
def oc (M:zK)(aq:List Nat):Prop:=∀id∈aq,∃o,M.h id=some o∧o.owned=true
theorem lH.own {M aq}(ho:oc M aq){b}(h:lH M aq b):qO M b:=by
 obtain⟨id,an,C,hC,hb⟩:=h;obtain⟨o,h1,h2⟩:=ho id an;exact⟨id,o,C,h1,h2,hC,hb⟩
theorem uo {M}(ok:Ok M){aq}(ho:oc M aq){b}(h:M.F b):b<M.H.size∧¬lH M aq b:=⟨ok.Flt b h,fun hh=>(ok.own b (hh.own ho)).1 h⟩
theorem yEz {M M'}(ok:Ok M){aq}(ho:oc M aq){id o}(hn:id∉aq)(hh:M'.h=yJ M.h id o)(hκ:M'.κ=M.κ)(hH:M'.H=M.H)(kG:Ok M'){b}(h:M'.G b):b<M.H.size∧¬lH M aq b:=by
 have hf:=kG.GF b h;refine⟨by have:=kG.Flt b hf;simp_all,fun hd=>?_⟩;obtain⟨jd,hj,C,hC,hb⟩:=hd;obtain⟨q,h1,h2⟩:=ho jd hj;refine(kG.own b ⟨jd,q,C,?_,h2,?_,hb⟩).1 hf
 ·rw[hh,yT _ _ (by grind)];exact h1
 simp_all
theorem VN {M}(ok:Ok M){aq}(ho:oc M aq){c v t xs}(hn:∀id∈vQ c,id∉aq)(hv:zX M c v)(h:kz M.h c=some ⟨t,xs⟩):
  qF M.H (fun b=>b<M.H.size∧¬lH M aq b) (.sl t) xs (fun _=>some v):=by
 unfold kz at h;split at h
 ·rename_i sh s ys;cases h;cases sh with
  |true=>exact vD (fun b hb=>uo ok ho (ok.GF b hb)) (by simp) _ _ _ _ (fun _ _=>rfl) hv
  |false=>exact vD (fun b hb=>uo ok ho hb) (by simp) _ _ _ _ (fun _ _=>rfl) hv
 ·rename_i id r;have pS:id∉aq:=hn id (by simp[vQ]);split at h
  ·rename_i own s ys an;cases h;cases own with
   |false=>
    obtain⟨C,hC,hO⟩:=ok.obj _ _ an;exact vD (fun b hb=>uo ok ho (ok.GF b hb)) (by simp) _ _ _ _ (by simp) (AH hC hO hv)
   |true=>
    obtain⟨M',h1,h2,h3,h4,h5⟩:=yQ9 ok an;obtain⟨C,hC,hO⟩:=h3.obj id _ (by rw[h2];exact yQ _ _ _);have:=AH hC hO (hv.ext h4.ext);exact vD (fun b hb=>yEz ok ho pS h2 h5 h1 h3 hb) (by grind) _ _ _ _ (by simp) this
  ·rename_i ver ys an;cases r with
   |some p=>cases h
   |none=>
    cases h;obtain⟨M',h1,h2,h3,h4,h5⟩:=vFn ok an;obtain⟨C,hC,hO⟩:=h3.obj id _ (by rw[h2];exact yQ _ _ _);have:=AH (r:=none) hC hO (hv.ext h4.ext);exact vD (fun b hb=>yEz ok ho pS h2 h5 h1 h3 hb) (by grind) _ _ _ _ (by simp) this
  ·cases h
 ·rename_i id i ver;have pS:id∉aq:=hn id (by simp[vQ]);split at h
  ·rename_i v' ys an;cases gd:Nat.beq v' ver with
   |false=>rw[gd] at h;cases h
   |true=>
    rw[gd] at h;cases h;have e:v'=ver:=by simpa using gd
    subst e;obtain⟨C,hC,hO⟩:=ok.obj _ _ an;obtain⟨C',aE,cy,_,aS⟩:=hv;rw[hC] at aE;cases aE;obtain⟨rb,rl,wv,ss⟩:=aS hO.1;by_cases hi:i<ys.length
    ·obtain⟨B,pT,v2,k1,k2,k3,k4,k5,k6⟩:=DC hO hi;rw[wv] at k3;cases k3;rw[show ys.getD i []=ys[i] by simp[List.getD,hi]];simp only[qF];cases rb with
     |none=>
      obtain⟨rfl,h0⟩:=ss;grind
     |some R=>
      obtain⟨a,c,rfl,h1,h2,h3⟩:=ss;refine⟨_,_,c,rfl,rfl,h1,?_⟩;by_cases h0:ys[i].length=0
      ·simp_all
      ·have ha:a=0:=by omega
       subst ha;have hR:R∈C.fp:=by
        simp only[qB.fp,List.mem_append,List.mem_filterMap];grind
       refine .inr ⟨R,0,rfl,⟨?_,fun hd=>?_⟩,fun j hj=>?_⟩
       ·have:=k6 R rfl 0 (by omega);unfold yS at this;grind
       ·obtain⟨jd,hj,D,hD,hb⟩:=hd;obtain⟨q,q1,q2⟩:=ho jd hj;exact ok.disj jd id q _ D C R (by grind) q1 an q2 rfl hD hC hb hR
       ·simp only[qF,Ty.size,Nat.zero_add,Nat.mul_one,Nat.add_zero];exact by grind
    ·have:C.rows[i]? =none:=List.getElem?_eq_none (by have:=hO.2.2.2.1;omega);simp_all
  ·cases h
 ·cases h
def TrX (M:zK)(aq:List Nat)(c c':zZ):Prop:=∀v Ml,sL M aq Ml→zX M c v→zX Ml c' v
theorem VO {M}(ok:Ok M){aq}(ho:oc M aq){p c d}(hn:∀id∈vQ c,id∉aq)(h:uf M.h p c=some d):TrX M aq c (D7 p d):=by
 intro v Ml lo hv;unfold uf at h;split at h
 ·rename_i k j n;cases e:gz j k with
  |false=>simp_all
  |true=>rw[e] at h;cases h;rw[←tB e];exact hv
 ·cases h;exact hv
 ·show qF Ml.H Ml.F _ _ _;rw[lo.H,lo.F];unfold A9 at h;split at h
  ·cases h;rw[show v=.slice none 0 0 from hv];exact Ji
  ·split at h
   ·rename_i s ys hr;obtain⟨e,hx⟩:=lD h;subst e;subst hx;exact VN ok ho hn hv hr
   ·cases h
 ·obtain⟨e,hx⟩:=lD h;subst e;subst hx;show qF Ml.H Ml.G _ _ _;rw[lo.H,lo.G];exact hv
 ·cases h;rw[show v=.slice none 0 0 from hv];exact Ji
 ·rename_i f g;cases e:Nat.beq f g with
  |false=>simp_all
  |true=>
   have:f=g:=by simp_all
   subst this;obtain⟨cv,rfl,hc⟩:=hv;refine⟨cv,rfl,?_⟩;generalize cv.toList=l at hc;cases l with
   |nil=>trivial
   |cons _ _=>exact hc.elim
 ·exact hv
 ·exact hv
 ·cases h
def sM (M:zK)(aq:List Nat)(κ:Nat→Option qB)(c c':zZ):Prop:=∀v Ml,sL M aq Ml→Ml.κ=κ→zX M c v→zX Ml c' v
structure VP (M:zK) (id:Nat) (o:Obj) (C:qB):Prop where
 κ:M.κ id=some C
 rep:∀Ml:zK,Ml.H=M.H→Ml.G=M.G→yZ Ml o {C with ver:=0}
 own:o.owned=true
 was:∃q,M.h id=some q∧q.owned=true
theorem vVk {M Ml}(hH:Ml.H=M.H){di C}(h:yZ M (.imap di) C):yZ Ml (.imap di) {C with ver:=0}:=by
 obtain⟨B,es,ck,h1,h2,h3,h4,h5⟩:=h;exact⟨B,es,ck,h1,h2,by simp_all,h4,h5⟩
theorem yVe {j l ids c cs}(h:sH (some j::l) ids (c::cs)=true):∃id,c=.ptr id 0∧ids[j]? =some id∧sH l ids cs=true:=by
 cases c with
 |ptr id off=>
  cases off with
  |zero=>
   have h:((match ids[j]? with|some k=>Nat.beq id k|none=>false)&&sH l ids cs)=true:=h;rw[Bool.and_eq_true] at h;have h1:=h.1;split at h1;all_goals simp_all
  |succ _=>cases h
 |_=>cases h
theorem Eh {M}(ok:Ok M){aq}(ho:oc M aq){κ}:∀{l cs d n ids},qh M.h l cs=some d→sH (l.map XC.lnk) ids cs=true→(∀id∈Jr l cs,id∉aq)→
  (jT l cs).length=(iB l d n).2.length∧(∀(i:Nat) id o,(jT l cs)[i]? =some id→(iB l d n).2[i]? =some o→∃C,VP M id o C)∧
   ((∀i id C,(jT l cs)[i]? =some id→M.κ id=some C→κ (n+i)=some {C with ver:=0})→(∀j id,ids[j]? =some id→κ j=M.κ id)→zM (sM M aq κ) cs (iB l d n).1)
 |[],[],_,n,_,_,_,_=>⟨rfl,nofun,fun _ _=>trivial⟩
 |x::l,c::cs,d,n,ids,h,hl,hn=>by
  unfold qh at h;split at h
  ·rename_i y ys h1 h2;cases h;cases x with
   |p p=>
    have me:∀id∈vQ c,id∉aq:=fun id an=>hn id (List.mem_append_left _ an)
    obtain⟨k1,k2,k3⟩:=Eh ok ho (κ:=κ) (n:=n) (ids:=ids) h2 hl (fun id an=>hn id (List.mem_append_right _ an));exact⟨k1,k2,fun hκ hj=>⟨fun v Ml lo _ hv=>VO ok ho me h1 v Ml lo hv,k3 hκ hj⟩⟩
   |own t=>
    cases c with
    |osl id r=>
     cases r with
     |some _=>cases h1
     |none=>
      have h1:(match M.h id with|some (.arr true s xs)=>iu s t xs|_=>none)=some y:=h1;split at h1
      ·rename_i s xs an;obtain⟨e,hx⟩:=lD h1;subst e;subst hx;obtain⟨C,hC,hO⟩:=ok.obj id _ an;obtain⟨k1,k2,k3⟩:=Eh ok ho (κ:=κ) (n:=n+1) (ids:=ids) h2 hl hn;refine⟨by simp only[jT,iB,List.length_cons,k1],fun i jd o hi lU=>?_,fun hκ hj=>⟨fun v Ml lo hk hv=>?_,k3 (fun i jd D hi hD=>?_) hj⟩⟩
       ·cases i with
        |zero=>
         cases hi;cases lU;refine⟨C,hC,fun Ml e1 e2=>?_,rfl,_,an,rfl⟩;obtain⟨q1,q2,q3,q4⟩:=hO;refine⟨q1,q2,q3,?_⟩;rw[e1,e2];exact q4
        |succ i=>exact k2 i jd o hi lU
       ·obtain⟨D,hD,hS⟩:=hv;rw[hC] at hD;cases hD;refine⟨{C with ver:=0},by rw[hk];exact hκ 0 id C rfl hC,?_⟩;rw[lo.H];exact hS
       ·have:=hκ (i+1) jd D hi hD;rw[←this];congr 1;omega
      ·cases h1
    |_=>cases h1
   |mat=>
    cases c with
    |osl id r=>
     cases r with
     |some _=>cases h1
     |none=>
      have h1:(match M.h id with|some (.mat _ xs)=>some xs|_=>none)=some y:=h1;split at h1
      ·rename_i ver xs an;cases h1;obtain⟨C,hC,hO⟩:=ok.obj id _ an;obtain⟨k1,k2,k3⟩:=Eh ok ho (κ:=κ) (n:=n+1) (ids:=ids) h2 hl hn;refine⟨by simp only[jT,iB,List.length_cons,k1],fun i jd o hi lU=>?_,fun hκ hj=>⟨fun v Ml lo hk hv=>?_,k3 (fun i jd D hi hD=>?_) hj⟩⟩
       ·cases i with
        |zero=>
         cases hi;cases lU;refine⟨C,hC,fun Ml e1 e2=>?_,rfl,_,an,rfl⟩;obtain⟨q1,q2⟩:=hO;refine⟨rfl,?_⟩;rw[e1];exact q2
        |succ i=>exact k2 i jd o hi lU
       ·obtain⟨D,hD,hS⟩:=hv;rw[hC] at hD;cases hD;refine⟨{C with ver:=0},by rw[hk];exact hκ 0 id C rfl hC,?_⟩;show jK Ml.H {C with ver:=0} 0 C.len v;rw[lo.H];exact hS
       ·have:=hκ (i+1) jd D hi hD;rw[←this];congr 1;omega
      ·cases h1
    |_=>cases h1
   |map=>
    cases c with
    |map id=>
     have h1:(match M.h id with|some (.imap di)=>some di|_=>none)=some y:=h1;split at h1
     ·rename_i di an;cases h1;obtain⟨C,hC,hO⟩:=ok.obj id _ an;obtain⟨k1,k2,k3⟩:=Eh ok ho (κ:=κ) (n:=n+1) (ids:=ids) h2 hl hn;refine⟨by simp only[jT,iB,List.length_cons,k1],fun i jd o hi lU=>?_,fun hκ hj=>⟨fun v Ml lo hk hv=>?_,k3 (fun i jd D hi hD=>?_) hj⟩⟩
      ·cases i with
       |zero=>
        cases hi;cases lU;exact⟨C,hC,fun Ml e1 e2=>vVk e1 hO,rfl,_,an,rfl⟩
       |succ i=>exact k2 i jd o hi lU
      ·obtain⟨D,B,hD,hB,e⟩:=hv;rw[hC] at hD;cases hD;exact⟨{C with ver:=0},B,by rw[hk];exact hκ 0 id C rfl hC,hB,e⟩
      ·have:=hκ (i+1) jd D hi hD;rw[←this];congr 1;omega
     ·cases h1
    |_=>cases h1
   |link j=>
    obtain⟨id,rfl,an,dQ⟩:=yVe hl;obtain⟨k1,k2,k3⟩:=Eh ok ho (κ:=κ) (n:=n) (ids:=ids) h2 dQ hn;refine⟨k1,k2,fun hκ hj=>⟨fun v Ml lo hk hv=>?_,k3 hκ hj⟩⟩;obtain⟨C,B,hC,hB,e⟩:=hv;exact⟨C,B,by rw[hk,hj j id an];exact hC,hB,e⟩
  ·cases h
 |[],_::_,_,_,_,h,_,_=>by cases h
 |_::_,[],_,_,_,h,_,_=>by cases h
theorem Jx {M Ml aq}(lo:sL M aq Ml):∀{cs aQ vs},zM (sM M aq Ml.κ) cs aQ→zM (zX M) cs vs→zM (zX Ml) aQ vs
 |[],[],[],_,_=>trivial
 |_::_,_::_,_::_,h,k=>⟨h.1 _ _ lo rfl k.1,Jx lo h.2 k.2⟩
def Ei (aq:List Nat)(bs:List (Bool×Nat)):Prop:=∀b∈bs,(b.1=true→b.2∈aq)∧(b.1=false→b.2∉aq)
theorem vV2 {M}(ok:Ok M){aq}(ho:oc M aq){io id cells}(h:Ee M.h io id=some cells)(hm:(io=true→id∈aq)∧(io=false→id∉aq)):
  ∃C B,M.κ id=some C∧C.blk=some B∧∀Ml bM,sL M aq Ml→zM (sM M aq Ml.κ) cells bM→yZ Ml (bif io then .box true bM else .robox bM) C:=by
 unfold Ee at h;split at h
 ·rename_i cs an;cases h;obtain⟨C,hC,B,vals,e,h1,h2,h3,h4,h5⟩:=ok.obj id _ an;exact⟨C,B,hC,h1,fun Ml bM lo ht=>⟨B,vals,e,h1,h2,by rw[lo.H];exact h3,Jx lo ht h4,by simp⟩⟩
 ·rename_i own cs an;cases h;obtain⟨C,hC,B,vals,e,h1,h2,h3,h4,h5⟩:=ok.obj id _ an;refine⟨C,B,hC,h1,fun Ml bM lo ht=>⟨B,vals,e,h1,h2,by rw[lo.H];exact h3,Jx lo ht h4,?_⟩⟩;rw[lo.F];cases own with
  |false=>exact uo ok ho (ok.GF B (h5 rfl))
  |true=>
   refine⟨by grind,fun hd=>?_⟩;obtain⟨jd,hj,D,hD,hb⟩:=hd;obtain⟨q,q1,q2⟩:=ho jd hj;exact ok.disj jd id q _ D C B (by grind) q1 an q2 rfl hD hC hb (by simp[qB.fp,h1])
 ·rename_i cs an;cases h;obtain⟨C,hC,B,vals,e,h1,h2,h3,h4,h5⟩:=ok.obj id _ an;refine⟨C,B,hC,h1,fun Ml bM lo ht=>⟨B,vals,e,h1,h2,by rw[lo.H];exact h3,Jx lo ht h4,?_⟩⟩;rw[lo.F];exact uo ok ho h5
 ·cases h
def VQ (M:zK)(aq:List Nat)(bs:List (Bool×Nat))(mk:List zZ→List Obj)(cs:List zZ):Prop:=∀(Ml:zK) (aQ:List zZ),sL M aq Ml→zM (sM M aq Ml.κ) cs aQ→
 zM (fun(b:Bool×Nat) o=>∃C B,M.κ b.2=some C∧C.blk=some B∧yZ Ml o C∧o.owned=b.1) bs (mk aQ)
theorem Of {M}(ok:Ok M){aq}(ho:oc M aq):∀{ls ids cs bs},kf M.h ls ids=some (cs,bs)→Ei aq bs→
  cs.length=(ls.flatMap (·.2)).length∧bs=(ls.map (·.1)).zip ids∧ids.length=ls.length∧VQ M aq bs (Js ls) cs
 |[],[],cs,bs,h,_=>by cases h;exact⟨rfl,rfl,rfl,fun _ _ _ _=>trivial⟩
 |(io,l)::ls,id::ids,cs,bs,h,hf=>by
  unfold kf at h;split at h
  ·rename_i cells rest Bh h1 h2;obtain⟨hl,h⟩:=wQ h;cases h;have hl:cells.length=l.length:=Nat.eq_of_beq_eq_true hl;obtain⟨C,B,hC,hB,hO⟩:=vV2 ok ho h1 (hf _ (List.mem_cons_self ..));obtain⟨k1,k2,k3,k4⟩:=Of ok ho h2 fun b hb=>hf b (by grind)
   refine⟨by simp_all,by simp_all,by simp[k3],fun Ml aQ lo ht=>?_⟩;have pc:=zM.take l.length ht;have nX:=zM.drop l.length ht;rw[←hl,List.drop_left] at nX;refine⟨⟨C,B,hC,hB,?_,?_⟩,?_⟩
   ·simp_all
   ·cases io<;>rfl
   ·rw[←hl];exact k4 Ml _ lo nX
  ·cases h
theorem Jy {h}:∀{ls ids cs bs},kf h ls ids=some (cs,bs)→bs.length=ls.length
 |[],[],_,_,e=>by cases e;rfl
 |(io,l)::ls,id::ids,cs,bs,e=>by
  unfold kf at e;split at e
  ·rename_i cells rest Bh h1 h2;obtain⟨_,e⟩:=wQ e;cases e;simp[Jy h2]
  ·cases e
theorem VR {h}{s:AX}{a cs bs}(e:s.get h a=some (cs,bs)):bs.length=s.nb:=by
 unfold AX.get at e;split at e
 ·cases e;rfl
 ·obtain⟨_,e⟩:=wQ e;cases e;rfl
 ·rw[Jy e];rfl
 ·obtain⟨_,e⟩:=wQ e;rw[Jy e];rfl
 ·split at e
  ·rw[Jy e];simp[Ed,AX.nb]
  ·cases e
 ·cases e
theorem VT {h}:∀{n id ids},Jp h n id=some ids→ids.head? =some id∧ids.length=n
 |1,_,_,e=>by cases e;simp
 |n+2,id,ids,e=>by
  unfold Jp at e;split at e
  ·split at e
   ·split at e
    ·rename_i l hl;cases e;exact⟨rfl,by simp[(VT hl).2]⟩
    ·cases e
   ·cases e
  ·cases e
theorem vXq {M}(ok:Ok M){aq}(ho:oc M aq){s:AX}{a v cs bs}(hv:zV M a v)(h:s.get M.h a=some (cs,bs))(hf:Ei aq bs):
  cs.length=s.cells.length∧VQ M aq bs (fun aQ=>s.boxes aQ) cs∧∀Ml aQ n,sL M aq Ml→zM (sM M aq Ml.κ) cs aQ→(∀i b,bs[i]? =some b→Ml.κ (n+i)=M.κ b.2)→zV Ml (s.mk n aQ) v:=by
 unfold AX.get at h;split at h
 ·cases h;refine⟨rfl,fun Ml aQ lo ht=>trivial,fun Ml aQ n lo ht _=>?_⟩
  match aQ,ht with
  |[c'],ht=>exact ht.1 v Ml lo rfl hv
 ·rename_i l xs;obtain⟨hl,h'⟩:=wQ h;cases h';have hl:cs.length=l.length:=Nat.eq_of_beq_eq_true hl;obtain⟨vs,rfl,hx⟩:=hv;exact⟨by simp[AX.cells,hl],fun Ml aQ lo ht=>trivial,fun Ml aQ n lo ht _=>⟨vs,rfl,Jx lo ht hx⟩⟩
 ·rename_i io l id;obtain⟨k1,k2,k3,k4⟩:=Of ok ho h hf;refine⟨by rw[k1];simp[AX.cells],k4,fun Ml aQ n lo ht hκ=>?_⟩;obtain⟨C,B,hC,hB,e⟩:=hv;exact⟨C,B,by have:=hκ 0 (io,id) (by rw[k2];rfl);simp_all,hB,e⟩
 ·rename_i f bD g ids;obtain⟨hg,h'⟩:=wQ h;have Vj:f=g:=Nat.eq_of_beq_eq_true hg;subst Vj;obtain⟨k1,k2,k3,k4⟩:=Of ok ho h' hf;refine⟨by rw[k1];rfl,k4,fun Ml aQ n lo ht hκ=>?_⟩;obtain⟨cv,rfl,hc⟩:=hv;refine⟨cv,rfl,?_⟩;have l2:=hc.length;refine zM.of_get (by simp_all) fun i h1 h2=>?_
  have hi:i<ids.length:=by omega
  obtain⟨C,B,q1,q2,q3⟩:=hc.get i hi h2;have hb:bs[i]? =some ((bD.map (·.1))[i]'(by simp at h1⊢;omega),ids[i]):=by
   grind
  grind
 ·rename_i ls id;split at h
  ·rename_i ids kJ;obtain⟨k1,k2,k3,k4⟩:=Of ok ho h hf;refine⟨by rw[k1];simp[AX.cells,Ed,List.flatMap_map],k4,fun Ml aQ n lo ht hκ=>?_⟩;obtain⟨C,B,hC,hB,e⟩:=hv;have hb:bs[0]? =some (true,id):=by
    obtain⟨h1,h2⟩:=VT kJ;rw[k2];cases ids with
    |nil=>cases h1
    |cons i ids=>
     cases h1;cases ls with
     |nil=>cases k3
     |cons l ls=>rfl
   exact⟨C,B,by grind,hB,e⟩
  ·cases h
 ·cases h
theorem yF4 {M}(ok:Ok M){aq}(ho:oc M aq):∀{l as vs cs bs},zM (zV M) as vs→kQ M.h l as=some (cs,bs)→Ei aq bs→
  cs.length=(l.flatMap AX.cells).length∧(∀n,VQ M aq bs (fun aQ=>(Bi l aQ n).2) cs)∧
   ∀Ml aQ n,sL M aq Ml→zM (sM M aq Ml.κ) cs aQ→(∀i b,bs[i]? =some b→Ml.κ (n+i)=M.κ b.2)→zM (zV Ml) (Bi l aQ n).1 vs
 |[],[],[],cs,bs,_,h,_=>by cases h;exact⟨rfl,fun _ _ _ _ _=>trivial,fun _ _ _ _ _ _=>trivial⟩
 |s::l,a::as,v::vs,cs,bs,hv,h,hf=>by
  unfold kQ at h;split at h
  ·rename_i nc bs1 cs2 bs2 h1 h2;cases h;have hf1:Ei aq bs1:=fun b hb=>hf b (by grind)
   have hf2:Ei aq bs2:=fun b hb=>hf b (by grind)
   obtain⟨k1,k2,k3⟩:=vXq ok ho hv.1 h1 hf1;obtain⟨k4,k5,k6⟩:=yF4 ok ho hv.2 h2 hf2;have cut:∀{κ:Nat→Option qB} {aQ:List zZ},zM (sM M aq κ) (nc++cs2) aQ→zM (sM M aq κ) nc (aQ.take s.cells.length)∧zM (sM M aq κ) cs2 (aQ.drop s.cells.length):=by
    intro κ aQ ht;have pc:=zM.take s.cells.length ht;have nX:=zM.drop s.cells.length ht;simp_all
   refine⟨by simp_all,fun n Ml aQ lo ht=>?_,fun Ml aQ n lo ht hκ=>?_⟩
   ·obtain⟨pc,nX⟩:=cut ht;exact(k2 Ml _ lo pc).append (k5 _ Ml _ lo nX)
   ·obtain⟨pc,nX⟩:=cut ht;have hlen:=(k2 Ml _ lo pc).length;refine⟨k3 Ml _ n lo pc fun i b hb=>hκ i b ?_,k6 Ml _ _ lo nX fun i b hb=>?_⟩
    ·grind
    ·have:=hκ (bs1.length+i) b (by grind);grind
  ·cases h
def κX (M : zK) (bs : List (Bool × Nat)) (rows : List Nat) : Nat → Option qB := fun n => bif Nat.ble wT n then (match rows[n-wT]? with
  |some id=>(M.κ id).map fun C=>{C with ver:=0}
  |none=>none)
 else (match bs[n]? with
  |some b=>M.κ b.2
  |none=>none)
theorem Bk:∀{bs} {i id:Nat},bs[i]? =some (true,id)→id∈vW bs
 |(true,a)::bs,0,id,h=>by cases h;exact List.mem_cons_self ..
 |(true,a)::bs,i+1,id,h=>List.mem_cons_of_mem _ (Bk (bs:=bs) (i:=i) h)
 |(false,a)::bs,i+1,id,h=>Bk (bs:=bs) (i:=i) h
theorem VU:∀{bs} {i j id:Nat},(vW bs).Nodup→bs[i]? =some (true,id)→bs[j]? =some (true,id)→i=j
 |(true,a)::bs,0,0,id,_,_,_=>rfl
 |(true,a)::bs,0,j+1,id,hn,h,k=>by
  cases h;exact absurd (Bk (bs:=bs) (i:=j) k) (List.nodup_cons.1 hn).1
 |(true,a)::bs,i+1,0,id,hn,h,k=>by
  cases k;exact absurd (Bk (bs:=bs) (i:=i) h) (List.nodup_cons.1 hn).1
 |(true,a)::bs,i+1,j+1,id,hn,h,k=>by rw[VU (bs:=bs) (List.nodup_cons.1 hn).2 h k]
 |(false,a)::bs,i+1,j+1,id,hn,h,k=>by rw[VU (bs:=bs) hn h k]
theorem vZn {M}(ok:Ok M){l as vs cs bs}{d:XD l}(hv:zM (zV M) as vs)(hg:kQ M.h l as=some (cs,bs))(hd:qh M.h (l.flatMap AX.cells) cs=some d)
  (dJ:(vW bs++jT (l.flatMap AX.cells) cs).Nodup) (sw:∀id∈Jr (l.flatMap AX.cells) cs,id∉vW bs++jT (l.flatMap AX.cells) cs) (od:∀id∈Oe bs,id∉vW bs++jT (l.flatMap AX.cells) cs) (hlen:bs.length≤wT) (uq:sH ((l.flatMap AX.cells).map XC.lnk) (bs.map (·.2)) cs=true) (ho:oc M (vW bs++jT (l.flatMap AX.cells) cs)):
  ∃Ml:zK,sL M (vW bs++jT (l.flatMap AX.cells) cs) Ml∧Ml.h=(kR l d).2∧Ok Ml∧(∀b,qO Ml b→lH M (vW bs++jT (l.flatMap AX.cells) cs) b)∧zM (zV Ml) (kR l d).1 vs∧Ml.κ=κX M bs (jT (l.flatMap AX.cells) cs):=by
 generalize iC:vW bs++jT (l.flatMap AX.cells) cs=aq at*
 have xk:Ei aq bs:=by
  intro b hb;obtain⟨i,hi,rfl⟩:=List.getElem_of_mem hb;have IC:bs[i]? =some bs[i]:=List.getElem?_eq_getElem hi;refine⟨fun e=>?_,fun e=>?_⟩
  ·rw[←iC];have:bs[i]? =some (true,bs[i].2):=by rw[IC,←e]
   exact List.mem_append_left _ (Bk this)
  ·apply od;clear hg hd dJ sw od hlen ho iC hv uq
   induction bs generalizing i with
   |nil=>exact absurd hi (Nat.not_lt_zero i)
   |cons c bs ih=>
    obtain⟨io,a⟩:=c;cases i with
    |zero=>cases io<;>first|exact List.mem_cons_self .. |cases e
    |succ i=>cases io<;>first|exact List.mem_cons_of_mem _ (by grind)|exact ih i (by simpa using hi) (List.getElem_mem _) (List.getElem?_eq_getElem _) e
 let κ:=κX M bs (jT (l.flatMap AX.cells) cs);obtain⟨k1,k2,k3⟩:=Eh ok ho (κ:=κ) (n:=wT) (ids:=bs.map (·.2)) hd uq sw;have ht : zM (sM M aq κ) cs (iB (l.flatMap AX.cells) d wT).1 := k3 (fun i id C hi hC=>by
  show κX M bs _ (wT+i)=_;unfold κX;rw[Nat.ble_eq_true_of_le (Nat.le_add_right _ _),show wT+i-wT=i by omega,hi];simp[hC]) fun j id hj=>by
  rw[List.getElem?_map] at hj;obtain⟨b,hb,rfl⟩:=Option.map_eq_some_iff.1 hj;have hi:j<bs.length:=by grind
  show κX M bs _ j=_;unfold κX;have:Nat.ble wT j=false:=by
   cases h:Nat.ble wT j with
   |false=>rfl
   |true=>have:=Nat.le_of_ble_eq_true h;omega
  rw[this,hb];rfl
 obtain⟨a1,a2,a3⟩:=yF4 ok ho hv hg xk;let Ml:zK:={κ:=κ,F:=fun b=>b<M.H.size∧¬lH M aq b,G:=M.G,h:=(kR l d).2,H:=M.H};have lo:sL M aq Ml:=⟨rfl,rfl,rfl⟩;have Bl:=a2 0 Ml _ lo ht;have hκbox:∀i b,bs[i]? =some b→Ml.κ (0+i)=M.κ b.2:=fun i b hb=>by
  have hi:i<bs.length:=by grind
  show κX M bs _ (0+i)=_;unfold κX;have:Nat.ble wT (0+i)=false:=by
   cases h:Nat.ble wT (0+i) with
   |false=>rfl
   |true=>have:=Nat.le_of_ble_eq_true h;omega
  rw[this,Nat.zero_add,hb];rfl
 have mf:∀id o,Ml.h id=some o→∃jd C,Ml.κ id=some C∧yZ Ml o C∧(o.owned=true→jd∈aq∧∃D,M.κ jd=some D∧D.fp=C.fp)∧
   ((Nat.ble wT id=true∧(jT (l.flatMap AX.cells) cs)[id-wT]? =some jd)∨(Nat.ble wT id=false∧∃io,bs[id]? =some (io,jd)∧o.owned=io)):=by
  intro id o h;have h:Jt (Bi l (iB (l.flatMap AX.cells) d wT).1 0).2 (iB (l.flatMap AX.cells) d wT).2 id=some o:=h;unfold Jt at h;cases hb:Nat.ble wT id with
  |true=>
   rw[hb] at h;have h:(iB (l.flatMap AX.cells) d wT).2[id-wT]? =some o:=h;have hi:=(List.getElem?_eq_some_iff.1 h).1;have hj:(jT (l.flatMap AX.cells) cs)[id-wT]? =some ((jT (l.flatMap AX.cells) cs)[id-wT]'(by omega)):=by simp
   obtain⟨C,hR⟩:=k2 _ _ _ hj h;refine⟨_,{C with ver:=0},?_,hR.rep Ml rfl rfl,fun _=>⟨?_,C,hR.κ,rfl⟩,.inl ⟨rfl,hj⟩⟩
   ·show κX M bs _ id=_;unfold κX;rw[hb,hj];simp[hR.κ]
   ·rw[←iC];exact by simp
  |false=>
   rw[hb] at h;have hi:=(List.getElem?_eq_some_iff.1 h).1;have VV:id<bs.length:=by rw[Bl.length];exact hi
   have hq:=Bl.get id VV hi;rw[List.getElem?_eq_getElem hi] at h;cases h;obtain⟨C,B,q1,q2,q3,q4⟩:=hq;have IC:bs[id]? =some bs[id]:=List.getElem?_eq_getElem VV;refine⟨bs[id].2,C,?_,q3,fun e=>⟨(xk _ (List.getElem_mem VV)).1 (by rw[←q4];exact e),C,q1,rfl⟩,by grind⟩;have:=hκbox id _ IC;rw[Nat.zero_add] at this;rw[this];exact q1
 have aM:∀b,qO Ml b→lH M aq b:=fun b ⟨id,o,C,h1,h2,h3,h4⟩=>by
  obtain⟨jd,C',q1,_,q3,_⟩:=mf id o h1;rw[h3] at q1;cases q1;obtain⟨p1,D,p2,p3⟩:=q3 h2;exact⟨jd,p1,D,p2,by rw[p3];exact h4⟩
 refine⟨Ml,lo,rfl,⟨fun id o h=>?_,fun id h=>?_,fun i j oi oj Ci Cj b oS h1 h2 h3 h4 h5 h6 h7 h8=>?_,fun b hb=>⟨fun hf=>hf.2 (aM b hb),(ok.own b ((aM b hb).own ho)).2⟩,fun b hb=>uo ok ho (ok.GF b hb),fun b hb=>hb.1⟩,aM,a3 Ml _ 0 lo ht hκbox,rfl⟩
 ·obtain⟨jd,C,q1,q2,_⟩:=mf id o h;exact⟨C,q1,q2⟩
 ·have h:Jt (Bi l (iB (l.flatMap AX.cells) d wT).1 0).2 (iB (l.flatMap AX.cells) d wT).2 id=none:=h;unfold Jt at h;show κX M bs _ id=none;unfold κX;cases hb:Nat.ble wT id with
  |true=>
   rw[hb] at h;have h:(iB (l.flatMap AX.cells) d wT).2[id-wT]? =none:=h;rw[List.getElem?_eq_none_iff,←k1] at h;rw[List.getElem?_eq_none h];rfl
  |false=>
   rw[hb] at h;have h:(Bi l (iB (l.flatMap AX.cells) d wT).1 0).2[id]? =none:=h;rw[List.getElem?_eq_none_iff,←Bl.length] at h;rw[List.getElem?_eq_none h];rfl
 ·obtain⟨ji,Ci',p1,_,p3,p4⟩:=mf i oi h1;obtain⟨jj,Cj',q1,_,q3,q4⟩:=mf j oj h2;rw[h5] at p1;cases p1;rw[h6] at q1;cases q1;obtain⟨p5,Di,p6,p7⟩:=p3 h3;obtain⟨q5,Dj,q6,q7⟩:=q3 h4;obtain⟨oi',r1,r2⟩:=ho ji p5;obtain⟨oj',r3,r4⟩:=ho jj q5;refine ok.disj ji jj oi' oj' Di Dj b (fun e=>?_) r1 r3 r2 r4 p6 q6 (by rw[p7];exact h7) (by rw[q7];exact h8);subst e;rw[←iC] at dJ;obtain⟨n1,n2,n3⟩:=List.nodup_append.1 dJ;rcases p4 with⟨p8,p9⟩|⟨p8,io,p9,ur⟩<;>rcases q4 with⟨q8,q9⟩|⟨q8,io',q9,Og⟩
  ·have:=(List.getElem?_inj (by grind) n2).1 (p9.trans q9.symm);have e1:=Nat.le_of_ble_eq_true p8;have e2:=Nat.le_of_ble_eq_true q8;exact oS (by omega)
  ·rw[h4] at Og;subst Og;exact n3 _ (Bk q9) _ (List.mem_of_getElem? p9) rfl
  ·rw[h3] at ur;subst ur;exact n3 _ (Bk p9) _ (List.mem_of_getElem? q9) rfl
  ·rw[h3] at ur;rw[h4] at Og;subst ur;subst Og;exact oS (VU n1 p9 q9)
theorem xl {n}:∀{ids h},qK h (qi ids) n=if n∈ids then some .gone else h n
 |[],_=>by rfl
 |id::ids,h=>by
  show qK (yJ h id .gone) (qi ids) n=_;rw[xl (ids:=ids)];by_cases e:n=id
  ·subst e;simp[yQ]
  ·rw[yT _ _ e];simp[e]
def zK.overX (M L:zK)(aq:List Nat):zK:={κ:=M.κ,F:=fun b=>M.F b∨L.G b,G:=L.G,h:=qK M.h (qi aq),H:=L.H}
theorem zK.overX_ok {M Ml L aq}(ok:Ok M)(iR:Ok L)(lo:sL M aq Ml)(ho:oc M aq)(hand:∀b,qO Ml b→lH M aq b)(g:ke Ml L):
  Ok (M.overX L aq)∧vG M (M.overX L aq)∧(∀b,qO (M.overX L aq) b→qO M b∧¬lH M aq b):=by
 have cV:∀b,b<M.H.size→¬lH M aq b→L.H[b]? =M.H[b]? :=fun b hb hn=>by rw[g.same b (by rw[lo.F];simp_all),lo.H]
 have ee:M.H.size≤L.H.size:=by have:=g.size;rw[lo.H] at this;exact this
 have hG:∀b,L.G b→b<M.H.size→M.G b∨lH M aq b:=fun b hb hs=>by
  rcases g.Gb b hb (by rw[lo.H];exact hs) with h|h
  ·rw[lo.G] at h;simp_all
  simp_all
 have hsF:∀b,M.F b→L.H[b]? =M.H[b]? :=fun b h=>cV b (uo ok ho h).1 (uo ok ho h).2
 have x:yO M (M.overX L aq):=⟨fun id C h=>⟨C,h,C.le_refl⟩,fun b h=>.inl h,fun b h=>g.G b (by rw[lo.G];exact h),fun b h=>hsF b h,fun b h=>hsF b (ok.GF b h),fun b h=>by
  have:=g.bsz b (by rw[lo.H];exact h);rw[lo.H] at this;exact this⟩
 have mf:∀id o,(M.overX L aq).h id=some o→o.owned=true→id∉aq∧M.h id=some o:=fun id o h iQ=>by
  have h:qK M.h (qi aq) id=some o:=h;rw[xl] at h;by_cases hm:id∈aq
  ·rw[if_pos hm] at h;cases h;cases iQ
  simp_all
 have VW:∀id o C,id∉aq→M.h id=some o→o.owned=true→M.κ id=some C→∀b∈C.fp,¬lH M aq b:=fun id o C hm h iQ hC b hb ⟨jd,hj,D,hD,Vq⟩=>by
  obtain⟨q,q1,q2⟩:=ho jd hj;exact ok.disj id jd o q C D b (by grind) h q1 iQ q2 hC hD hb Vq
 have aM:∀b,qO (M.overX L aq) b→qO M b∧¬lH M aq b:=fun b ⟨id,o,C,h1,h2,h3,h4⟩=>by
  obtain⟨k1,k2⟩:=mf id o h1 h2;exact⟨⟨id,o,C,k2,h2,h3,h4⟩,VW id o C k1 k2 h2 h3 b h4⟩
 refine⟨⟨fun id o h=>?_,fun id h=>?_,fun i j oi oj Ci Cj b oS h1 h2 h3 h4 h5 h6 h7 h8=>?_,fun b h=>⟨fun hf=>?_,?_⟩,fun b h=>.inr h,fun b h=>?_⟩,⟨x,ee,fun b hb hn=>cV b hb fun hh=>hn (hh.own ho),by grind,fun b h hs=>?_,fun b h hs=>?_⟩,aM⟩
 ·have h:qK M.h (qi aq) id=some o:=h;rw[xl] at h;by_cases hm:id∈aq
  ·rw[if_pos hm] at h;cases h;obtain⟨q,q1,q2⟩:=ho id hm;obtain⟨C,hC,_⟩:=ok.obj id q q1;exact⟨C,hC,trivial⟩
  ·rw[if_neg hm] at h;obtain⟨C,hC,hO⟩:=ok.obj id o h;exact⟨C,hC,hO.ext x fun iQ b hb=>cV b (ok.own b ⟨id,o,C,h,iQ,hC,hb⟩).2 (by grind)⟩
 ·have h:qK M.h (qi aq) id=none:=h;rw[xl] at h;by_cases hm:id∈aq
  ·simp_all
  ·rw[if_neg hm] at h;exact ok.non id h
 ·exact ok.disj i j oi oj Ci Cj b oS (mf i oi h1 h3).2 (by grind) h3 h4 h5 h6 h7 h8
 ·obtain⟨k1,k2⟩:=aM b h;have:=ok.own b k1;rcases hf with hf|hf
  ·simp_all
  ·rcases hG b hf this.2 with h|h
   ·exact this.1 (ok.GF b h)
   simp_all
 ·have h1:=(ok.own b (aM b h).1).2;show b<L.H.size;omega
 ·show b<L.H.size;rcases h with h|h
  ·have:=ok.Flt b h;omega
  ·exact iR.Flt b (iR.GF b h)
 ·rcases hG b h hs with h|h
  ·simp_all
  ·exact .inr (h.own ho)
 ·rcases h with h|h
  ·simp_all
  ·rcases hG b h hs with h|h
   ·exact .inl (ok.GF b h)
   ·exact .inr (h.own ho)
def qB.bare (C:qB):qB:={C with ver:=C.ver+1,rows:=[]}
def zK.revive (M:zK)(id:Nat)(C:qB)(cs:List zZ):zK:={M with κ:=κset M.κ id C.bare,h:=yJ M.h id (.box true cs)}
theorem zK.revive_ok {M}(ok:Ok M){id C B vals e cs}(hC:M.κ id=some C)(hB:C.blk=some B)(hH:M.H[B]? =some (.cells vals e (0,0)))(hc:zM (zX M) cs vals.toList)
  (h1:¬qO M B) (h2:¬M.F B):Ok (M.revive id C cs)∧yO M (M.revive id C cs)∧(∀b,qO (M.revive id C cs) b→qO M b∨b=B):=by
 have hκ:(M.revive id C cs).κ id=some C.bare:=κset_same _ _ _;have x:yO M (M.revive id C cs):=⟨fun jd D h=>by
  by_cases e':jd=id
  ·subst e';rw[hC] at h;cases h;exact⟨_,hκ,rfl,rfl,rfl,Nat.le_succ _,fun h=>absurd h (by simp[qB.bare])⟩
  ·exact⟨D,by show κset M.κ id _ jd=_;rw[κset_ne _ _ e'];exact h,D.le_refl⟩,fun _ h=>h,fun _ h=>h,fun _ _=>rfl,fun _ _=>rfl,fun _ _=>rfl⟩
 have sb:C.bare.fp=[B]:=by simp[qB.fp,qB.bare,hB]
 have AY:(M.revive id C cs).h id=some (.box true cs):=yQ _ _ _;refine⟨Ok.build ok x (fun jd=>jd=id) (fun jd h=>yT _ _ h) (fun jd h=>κset_ne _ _ h) (fun _ _ _ _ _ _ _ _ _=>rfl) (fun jd o' D k1 k2 k3 k4 b bF=>(ok.own b ⟨jd,o',D,k2,k3,k4,bF⟩).1) (Nat.le_refl _)
  (fun jd o' e' h=>?_) (fun jd e' h=>?_) (fun jd o' D b e' k1 k2 k3 k4=>?_) ok.GF ok.Flt,x,fun b bF=>?_⟩
 ·subst e';rw[AY] at h;cases h;exact⟨_,hκ,B,vals,e,hB,rfl,hH,hc.mono fun _ _ h=>h.ext x,by simp⟩
 ·simp_all
 ·subst e';rw[hκ] at k3;cases k3;rw[sb,List.mem_singleton] at k4;subst k4;refine⟨fun j oj Cj hj q1 q2 q3 q4=>h1 ⟨j,oj,Cj,?_,q2,?_,q4⟩,h2,(Array.getElem?_eq_some_iff.1 hH).1⟩
  ·rw[←q1];exact(yT _ _ hj).symm
  ·rw[←q3];exact(κset_ne _ _ hj).symm
 ·obtain⟨jd,o',D,k1,k2,k3,k4⟩:=bF;by_cases e':jd=id
  ·simp_all
  ·exact .inl ⟨jd,o',D,by rw[←k1];exact(yT _ _ e').symm,k2,by rw[←k3];exact(κset_ne _ _ e').symm,k4⟩
structure yH6 (M:zK) (id:Nat) (cs:List zZ) (B:Nat):Prop where
 at':∃C,M.κ id=some C∧C.blk=some B
 rep:∃vals e,M.H[B]? =some (.cells vals e (0,0))∧zM (zX M) cs vals.toList
 own:¬qO M B
 F:¬M.F B
def pj (R:Nat→List zZ→Nat→Prop):List Nat→List (List zZ)→List Nat→Prop
 |[],[],[]=>True
 |a::l,b::m,c::n=>R a b c∧pj R l m n
 |_,_,_=>False
theorem pj.mono {R S}:∀{l m n},(∀a b c,c∈n→R a b c→S a b c)→pj R l m n→pj S l m n
 |[],[],[],_,_=>trivial
 |_::_,_::_,_::_,h,k=>⟨h _ _ _ (by simp) k.1,pj.mono (by grind) k.2⟩
theorem vB2:∀{ids css Bs M},Ok M→pj (yH6 M) ids css Bs→Bs.Nodup→
  ∃M':zK,M'.H=M.H∧M'.G=M.G∧M'.F=M.F∧M'.h=qK M.h (Eg ids css)∧Ok M'∧yO M M'∧(∀b,qO M' b→qO M b∨b∈Bs)
 |[],[],[],M,ok,_,_=>⟨M,rfl,rfl,rfl,rfl,ok,.refl M,by simp⟩
 |id::ids,cs::css,B::Bs,M,ok,h,hn=>by
  obtain⟨C,hC,hB⟩:=h.1.at';obtain⟨vals,e,hH,hc⟩:=h.1.rep;obtain⟨k1,k2,k3⟩:=zK.revive_ok ok hC hB hH hc h.1.own h.1.F;obtain⟨n1,n2⟩:=List.nodup_cons.1 hn;obtain ⟨M', a1, a2, a3, a4, a5, a6, a7⟩ := vB2 (M := M.revive id C cs) k1 (pj.mono (fun a b c hcB hb=>by
   refine⟨?_,?_,fun ho=>?_,hb.F⟩
   ·obtain⟨D,q1,q2⟩:=hb.at';obtain⟨D',q3,le⟩:=k2.κ _ _ q1;exact⟨D',q3,le.blk.trans q2⟩
   ·obtain⟨vals,e,q1,q2⟩:=hb.rep;exact⟨vals,e,q1,q2.mono fun _ _ h=>h.ext k2⟩
   ·rcases k3 _ ho with h|h
    ·exact hb.own h
    simp_all) h.2) n2
  exact⟨M',a1,a2,a3,a4,a5,yO.trans (M:=M) (M':=M.revive id C cs) (Nat.le_refl _) k2 a6,by grind⟩
theorem vDc:∀{ids css h h'},ids.length=css.length→(∀n,n∉ids→h n=h' n)→qK h (Eg ids css)=qK h' (Eg ids css)
 |[],[],h,h',_,e=>funext fun n=>e n (by simp)
 |id::ids,cs::css,h,h',hl,e=>vDc (ids:=ids) (css:=css) (by simp_all) fun n hn=>by
   by_cases k:n=id
   ·subst k;rw[yQ,yQ]
   ·rw[yT _ _ k,yT _ _ k];simp_all
theorem vW7 {h0 s a a' v u M}(ok:Ok M)(hf:jI h0 M.h)(hv:zV M a v)(h:xj h0 s a=some (a',u)):
  ∃L:zK,L.H=M.H∧L.h=qK M.h u∧Ok L∧vG M L∧zV L a' v∧jI h0 L.h:=by
 unfold xj at h;split at h
 ·rename_i p x;split at h
  ·rename_i y u1 e;cases h;obtain⟨L,h1,h2,h3,h4,h5,h6⟩:=xd (cs:=[x]) (vs:=[v]) ok hf ⟨hv,trivial⟩ e;exact⟨L,h1,h2,h3,h4,h5.1,h6⟩
  ·cases h
 ·split at h
  ·rename_i ys u1 e;cases h;obtain⟨vs,rfl,hx⟩:=hv;obtain⟨L,h1,h2,h3,h4,h5,h6⟩:=xd ok hf hx e;exact⟨L,h1,h2,h3,h4,⟨vs,rfl,h5⟩,h6⟩
  ·cases h
 ·cases h;exact⟨M,rfl,rfl,ok,.refl M,hv,hf⟩
theorem vAy {h0}:∀{l as fw vs u M},Ok M→jI h0 M.h→zM (zV M) as vs→sJ h0 l as=some (fw,u)→
  ∃L:zK,L.H=M.H∧L.h=qK M.h u∧Ok L∧vG M L∧zM (zV L) fw vs∧jI h0 L.h
 |s::l,a::as,fw,v::vs,u,M,ok,hf,hv,h=>by
  unfold sJ at h;split at h
  ·rename_i a1 u1 Vt se e1 e2;cases h;obtain⟨M1,h1,h2,h3,h4,h5,h6⟩:=vW7 ok hf hv.1 e1;obtain⟨M2,k1,k2,k3,k4,k5,k6⟩:=vAy h3 h6 (xe.ext h4.ext hv.2) e2;exact⟨M2,k1.trans h1,by rw[k2,h2,lC],k3,h4.trans k4,⟨h5.ext k4.ext,k5⟩,k6⟩
  ·cases h
 |[],as,fw,vs,u,M,ok,hf,hv,h=>by
  cases as<;>cases h<;>exact⟨M,rfl,rfl,ok,.refl M,hv,hf⟩
 |s::l,[],fw,vs,u,M,ok,hf,hv,h=>by cases h;exact⟨M,rfl,rfl,ok,.refl M,hv,hf⟩
def mg (M L:zK)(id jd:Nat):Prop:=∃C D B,M.κ id=some C∧C.blk=some B∧L.κ jd=some D∧D.blk=some B
theorem VX {M L}:∀{ls is js out} {us:List Value} {cs bs},kf M.h ls is=some (cs,bs)→Ju ls js=some out→
  zM (fun id u=>∃C B,M.κ id=some C∧C.blk=some B∧u=.pointer (some ⟨B,0,none⟩)) is us→zM (fun id u=>∃C B,L.κ id=some C∧C.blk=some B∧u=.pointer (some ⟨B,0,none⟩)) js us→zM (mg M L) (vW bs) out
 |[],[],[],out,us,cs,bs,h,k,_,_=>by cases h;cases k;exact trivial
 |(io,l)::ls,i::is,j::js,out,u::us,cs,bs,h,k,p,q=>by
  unfold kf at h;split at h
  ·rename_i cells rest Bh h1 h2;obtain⟨_,h⟩:=wQ h;cases h;unfold Ju at k;split at k
   ·rename_i o ho;cases k;have ih:=VX h2 ho p.2 q.2;cases io with
    |false=>exact ih
    |true=>
     obtain⟨C,B,k1,k2,k3⟩:=p.1;obtain⟨D,B',k4,k5,k6⟩:=q.1;rw[k3] at k6;cases k6;exact⟨⟨C,D,B,k1,k2,k4,k5⟩,ih⟩
   ·cases k
  ·cases h
theorem yV5 {M L}:∀{bs n},(∀q∈bs,q.1=true)→(∀i q,bs[i]? =some q→mg M L q.2 (n+i))→zM (mg M L) (vW bs) (mc n bs.length)
 |[],n,_,_=>trivial
 |(true,id)::bs,n,h,k=>⟨k 0 _ rfl,yV5 (by grind) fun i q hq=>by
   have:=k (i+1) q hq;grind⟩
 |(false,id)::bs,n,h,k=>by simp_all
theorem yQu {h}:∀{ls ids cs bs},kf h ls ids=some (cs,bs)→bs.map (·.1)=ls.map (·.1)
 |[],[],_,_,e=>by cases e;rfl
 |(io,l)::ls,id::ids,cs,bs,e=>by
  unfold kf at e;split at e
  ·rename_i cells rest Bh h1 h2;obtain⟨_,e⟩:=wQ e;cases e;simp[yQu h2]
  ·cases e
theorem vU6 {M L}{s:AX}{a b v cs bs out}(h:s.get M.h a=some (cs,bs)){n}(k:s.io n b=some out)(p:zV M a v)(q:s.looks=true→zV L b v)(hk:s.isChn=true→∀i q,bs[i]? =some q→mg M L q.2 (n+i)):zM (mg M L) (vW bs) out:=by
 unfold AX.get at h;split at h
 ·cases h;cases k;exact trivial
 ·obtain⟨_,h'⟩:=wQ h;cases h';cases k;exact trivial
 ·unfold AX.io at k;split at k
  ·rename_i e;cases e
  ·rename_i e;cases e
  ·rename_i io' l' jd e;cases e;exact VX (us:=[v]) h k ⟨p,trivial⟩ ⟨q rfl,trivial⟩
  all_goals simp_all
 ·obtain⟨hg,h'⟩:=wQ h;unfold AX.io at k;split at k
  ·simp_all
  ·simp_all
  ·simp_all
  ·rename_i f' ad1 g' js e;cases e;obtain⟨cv,rfl,hc⟩:=p;obtain⟨cv',e',lV⟩:=q rfl;cases e';exact VX h' k hc lV
  all_goals simp_all
 ·rename_i ls id;split at h
  ·cases k;have h1:=Jy h;have h2:ls.length=bs.length:=by rw[h1];simp[Ed]
   rw[h2];exact yV5 (fun q hq=>by
    have:q.1∈bs.map (·.1):=by grind
    rw[yQu h] at this;exact(by simpa[Ed] using this:_∧_).2) (hk rfl)
  ·cases h
 ·cases h
theorem yVh {M L}:∀{l as vs t n cs bs out m},kQ M.h l as=some (cs,bs)→Oc l t n m=some out→zM (zV M) as vs→(∀i h s,l[i]? =some s→s.looks=true→zV L (t (n+i)) vs[i])→(l.any AX.isChn=true→∀i q,bs[i]? =some q→mg M L q.2 (m+i))→
  zM (mg M L) (vW bs) out
 |[],[],[],t,n,cs,bs,out,m,h,k,_,_,_=>by cases h;cases k;exact trivial
 |s::l,a::as,v::vs,t,n,cs,bs,out,m,h,k,p,q,hk=>by
  unfold kQ at h;split at h
  ·rename_i c1 b1 c2 b2 h1 h2;cases h;unfold Oc at k;split at k
   ·rename_i o1 o2 k1 k2;cases k;have e:∀b1 b2:List (Bool×Nat),vW (b1++b2)=vW b1++vW b2:=fun b1 b2=>by
     induction b1 with
     |nil=>rfl
     |cons x b1 ih=>obtain⟨io,y⟩:=x;cases io<;>simp[vW,ih]
    rw[e];have hnb:=VR h1;refine(vU6 h1 k1 p.1 (q 0 (by simp) s rfl) (by grind)).append (yVh h2 k2 p.2 (fun i hi s' hs hl=>?_) fun hc i q hq=>?_)
    rotate_left
    ·have:=hk (by simp_all) (b1.length+i) q (by grind);grind
    have:=q (i+1) (by simp_all) s' (by simp_all) hl;grind
   ·cases k
  ·cases h
 |[],_::_,_,_,_,_,_,_,_,h,_,_,_,_=>by cases h
theorem vCf {L}(iR:Ok L):∀{os ids bs},Ef L.h os ids=some bs→bs.length=os.flatten.length∧ids.length=os.length∧
  ∃us:List Value,zM (zX L) bs us∧∀{M cs},M.H=L.H→zM (zX M) cs us→pj (fun id cs B=>(∃cells,L.h id=some (.box true cells))∧(∃C,L.κ id=some C∧C.blk=some B∧C.rows=[])∧∃vals e,M.H[B]? =some (.cells vals e (0,0))∧zM (zX M) cs vals.toList) ids (xi os cs) (ids.map fun id=>((L.κ id).bind qB.blk).getD 0)
 |[],[],bs,h=>by cases h;exact⟨rfl,rfl,[],trivial,fun _ _=>trivial⟩
 |o::os,n::ns,bs,h=>by
  unfold Ef at h;split at h
  ·rename_i cells rest h1 h2;obtain⟨hl,h⟩:=wQ h;cases h;obtain⟨C,hC,B,vals,e,q1,q2,q3,q4,_⟩:=iR.obj n _ h1;obtain⟨k1,k2,us,k3,k4⟩:=vCf iR h2;refine⟨by simp_all,by simp[k2],vals.toList++us,q4.append k3,fun{M cs} hH hc=>⟨⟨by grind,⟨C,hC,?_,q2⟩,vals,e,?_,?_⟩,?_⟩⟩
   ·simp_all
   ·simp_all
   ·have h1:=zM.take o.length hc;have Vr:=q4.length;simp_all
   ·have h1:=zM.drop o.length hc;have Vr:=q4.length;simp_all
  ·cases h
theorem vYi {h0 r c d}(h:qc h0 r c=some d):∀id∈wH [r] [c],∀own cells,h0 id≠some (.box own cells):=by
  unfold qc at h;split at h;all_goals (try (intro id an;simp[wH] at an;done))
  all_goals first
    |(done)
    | (intro DY an own cells hb
       have:=List.mem_singleton.1 an;simp_all)
    |(cases h)
theorem yIf {L}:∀{l cs d},kP L l cs=some d→∀id∈wH l cs,∀own cells,L id≠some (.box own cells)
 |r::l,c::cs,d,h,id,an=>by
  unfold kP at h;split at h
  ·rename_i x xs e1 e2;rw[N7] at an;rcases List.mem_append.1 an with an|an
   ·exact vYi e1 id an
   ·exact yIf e2 id an
  ·cases h
theorem yVv:∀a b,vW (a++b)=vW a++vW b
 |[],_=>rfl
 |(true,_)::a,b
 |(false,_)::a,b=>by simp[vW,yVv a b]
theorem Jz {h}:∀{ls is cs bs},kf h ls is=some (cs,bs)→∀id∈vW bs,∃o,h id=some o∧o.owned=true
 |[],[],_,_,e=>by cases e;nofun
 |(io,l)::ls,i::is,cs,bs,e=>by
  unfold kf at e;split at e
  ·rename_i cells rest Bh h1 h2;obtain⟨_,e⟩:=wQ e;cases e;intro id an;cases io with
   |false=>exact Jz h2 id an
   |true=>
    rcases List.mem_cons.1 an with rfl|an
    ·unfold Ee at h1;split at h1
     ·rename_i c hc;exact⟨_,hc,rfl⟩
     all_goals simp_all
    ·exact Jz h2 id an
  ·cases e
theorem vHg {h}{s:AX}{a cs bs}(e:s.get h a=some (cs,bs)):∀id∈vW bs,∃o,h id=some o∧o.owned=true:=by
 unfold AX.get at e;split at e
 ·cases e;nofun
 ·obtain⟨_,e⟩:=wQ e;cases e;nofun
 ·exact Jz e
 ·obtain⟨_,e⟩:=wQ e;exact Jz e
 ·split at e
  ·exact Jz e
  ·cases e
 ·cases e
theorem yIo {h}:∀{l as cs bs},kQ h l as=some (cs,bs)→l.length=as.length∧∀id∈vW bs,∃o,h id=some o∧o.owned=true
 |[],[],_,_,e=>by cases e;exact⟨rfl,nofun⟩
 |s::l,a::as,cs,bs,e=>by
  unfold kQ at e;split at e
  ·rename_i c1 b1 c2 b2 h1 h2;cases e;obtain⟨k1,k2⟩:=yIo h2;refine⟨by simp[k1],fun id an=>?_⟩;rw[yVv] at an;rcases List.mem_append.1 an with an|an
   ·exact vHg h1 id an
   simp_all
  ·cases e
theorem yU0 {h}:∀{l cs d},qh h l cs=some d→∀id∈jT l cs,∃o,h id=some o∧o.owned=true
 |[],[],_,_=>nofun
 |x::l,c::cs,d,e=>by
  unfold qh at e;split at e
  ·rename_i y ys h1 h2;have ih:=yU0 h2;unfold Jq at h1;split at h1
   ·exact ih
   ·intro jd an;rcases List.mem_cons.1 an with rfl|an
    ·split at h1
     ·rename_i s xs hs;exact⟨_,hs,rfl⟩
     ·cases h1
    ·simp_all
   ·intro jd an;rcases List.mem_cons.1 an with rfl|an
    ·split at h1
     ·rename_i s xs hs;exact⟨_,hs,rfl⟩
     ·cases h1
    ·exact ih jd an
   ·intro jd an;rcases List.mem_cons.1 an with rfl|an
    ·split at h1
     ·rename_i xs hs;exact⟨_,hs,rfl⟩
     ·cases h1
    simp_all
   ·exact ih
   ·cases h1
  ·cases e
theorem yNz {a b}(h:VM a b=true):∀id∈b,id∉a:=fun id hb ha=>by
 have h:=List.all_eq_true.1 h id ha;have:b.any (Nat.beq id)=true:=List.any_eq_true.2 ⟨id,hb,by simp⟩;simp_all
theorem vFd:∀os cs,(xi os cs).length=os.length
 |[],_=>rfl
 |_::os,cs=>by simp[xi,vFd os]
theorem ySy {M L}{P:zK→Nat→Prop}{R}:∀{ids js css Bs},zM (mg M L) ids js→pj R js css Bs→pj (fun id cs B=>∃jd,mg M L id jd∧R jd cs B) ids css Bs
 |[],[],[],[],_,_=>trivial
 |_::_,_::_,_::_,_::_,h,k=>⟨⟨_,h.1,k.1⟩,ySy (P:=P) h.2 k.2⟩
theorem zK.gone_ok {M}(ok:Ok M){nm}(aT:M.h nm=none) C:
  Ok (M.add nm .gone C)∧yO M (M.add nm .gone C)∧(∀b,qO (M.add nm .gone C) b→qO M b):=by
 have x:yO M (M.add nm .gone C):=⟨fun id D h=>by
  have bp:id≠nm:=fun e=>by rw[e,ok.non nm aT] at h;cases h
  exact⟨D,by show κset M.κ nm _ id=_;rw[κset_ne _ _ bp];exact h,D.le_refl⟩,fun _ h=>h,fun _ h=>h,fun _ _=>rfl,fun _ _=>rfl,fun _ _=>rfl⟩
 have at':∀o,(M.add nm .gone C).h nm=some o→o=.gone:=fun o h=>by
  have e1:(M.add nm .gone C).h nm=some .gone:=yQ _ _ _;simp_all
 refine⟨Ok.build ok x (fun id=>id=nm) (fun id h=>yT _ _ h) (fun id h=>κset_ne _ _ h) (fun _ _ _ _ _ _ _ _ _=>rfl) (fun id o' D h1 h2 h3 h4 b bF=>(ok.own b ⟨id,o',D,h2,h3,h4,bF⟩).1) (Nat.le_refl _)
  (fun id o' e h=>?_) (fun id e h=>?_) (fun id o' D b e h1 h2 h3 h4=>?_) ok.GF ok.Flt,x,fun b bF=>?_⟩
 ·subst e;rw[at' o' h];exact⟨_,κset_same _ _ _,trivial⟩
 ·have e1:(M.add id .gone C).h id=some .gone:=yQ _ _ _;simp_all
 ·subst e;rw[at' o' h1] at h2;cases h2
 ·obtain⟨id,o',D,h1,h2,h3,h4⟩:=bF;by_cases e:id=nm
  ·subst e;rw[at' o' h1] at h2;cases h2
  ·exact⟨id,o',D,by rw[←h1];exact(yT _ _ e).symm,h2,by rw[←h3];exact(κset_ne _ _ e).symm,h4⟩
theorem yYm:∀{n nm Bs M},Ok M→(∀i,i<n→M.h (nm+i)=none)→Bs.length=n→
  ∃M':zK,M'.H=M.H∧M'.G=M.G∧M'.F=M.F∧M'.h=qK M.h (qi (mc nm n))∧Ok M'∧yO M M'∧(∀b,qO M' b→qO M b)∧zM (fun id B=>∃C,M'.κ id=some C∧C.blk=some B) (mc nm n) Bs
 |0,nm,[],M,ok,_,_=>⟨M,rfl,rfl,rfl,rfl,ok,.refl M,by simp,trivial⟩
 |n+1,nm,B::Bs,M,ok,hf,hl=>by
  obtain⟨k1,k2,k3⟩:=zK.gone_ok ok (hf 0 (by omega)) ⟨some B,0,0,0,[]⟩;obtain ⟨M', a1, a2, a3, a4, a5, a6, a7, a8⟩ := yYm (n := n) (nm := nm + 1) (Bs := Bs) k1 (fun i hi=>by
   have:=hf (i+1) (by omega);rw[show nm+1+i=nm+(i+1) by omega,←this];exact yT _ _ (by omega)) (by simp_all)
  refine⟨M',a1,a2,a3,a4,a5,yO.trans (M:=M) (M':=M.add nm .gone ⟨some B,0,0,0,[]⟩) (Nat.le_refl _) k2 a6,by grind,?_,a8⟩;obtain⟨C,h1,h2⟩:=a6.κ nm _ (κset_same _ _ _);exact⟨C,h1,h2.blk⟩
theorem VY {L M ids js}(hs:zM (mg M L) ids js):∀{l cs ds vs},sH l js cs=true→zM (zX L) cs vs→zM (zX M) ds vs→zM (zX M) (Bg l ids ds) vs
 |[],cs,ds,vs,_,_,hd=>by exact hd
 |none::l,[],[],[],_,_,_=>trivial
 |none::l,c::cs,d::ds,v::vs,h,hc,hd=>⟨hd.1,VY hs (l:=l) h hc.2 hd.2⟩
 |some j::l,c::cs,d::ds,v::vs,h,hc,hd=>by
  obtain⟨id,rfl,an,h'⟩:=yVe h;refine⟨?_,VY hs h' hc.2 hd.2⟩;have hj:=(List.getElem?_eq_some_iff.1 an).1;have hi:j<ids.length:=by rw[hs.length];exact hj
  have:=hs.get j hi hj;rw[(List.getElem?_eq_some_iff.1 an).2] at this;obtain⟨C,D,B,q1,q2,q3,q4⟩:=this;obtain⟨D',B',p1,p2,p3⟩:=hc.1;rw[q3] at p1;cases p1;rw[q4] at p2;cases p2;rw[List.getElem?_eq_getElem hi];exact⟨C,B,q1,q2,p3⟩
 |_,[],_::_,[],_,_,hd=>hd.elim
 |_,_::_,[],[],_,hc,_=>hc.elim
theorem VZ {h ns cs nw}(e:VK h ns cs=some nw):nw.length=ns:=by
 unfold VK at e;cases h0:Nat.beq ns 0 with
 |true=>simp_all
 |false=>
  rw[h0] at e;split at e
  ·exact(VT e).2
  ·cases e
def Oh (w:World)(na:Nat)(chn:Bool)(M:zK)(vs:Array Value)(rv:Value)(w':World)(v:zY)(st:St):Prop:=
 ∃M':zK,M'.h=st.h∧M'.H=w'.heap∧Ok M'∧ke M M'∧(chn=true→gf M M')∧zV M' v rv∧w'.os=w.os∧w'.tape=w.tape∧w'.output=w.output∧(∀t,t<na→zV M' (st.t t) (vs.getD t undef))
theorem yGp {n}:∀{l nm d hh},(∀j,j<l.length→n≠nm+j)→qK hh (o9 nm l d).2 n=hh n
 |[],_,_,_,_=>rfl
 |r::l,nm,d,hh,h=>by
  show qK hh ((sB nm r d.1).2++(o9 (nm+1) l d.2).2) n=_;rw[lC,yGp fun j hj=>by have:=h (j+1) (by simp_all);omega,yQ6 (by have:=h 0 (by simp);omega)]
theorem vL1 {M}(ok:Ok M){io id cells}(h:Ee M.h io id=some cells):∃C B,M.κ id=some C∧C.blk=some B:=by
 have h':D6 M.h id=some cells:=by
  unfold Ee at h;unfold D6;grind
 obtain⟨C,h1,B,_,_,h2,_⟩:=yRk ok h';simp_all
theorem Oi {M}(ok:Ok M):∀{ls is cs bs},kf M.h ls is=some (cs,bs)→∀q∈bs,∃C B,M.κ q.2=some C∧C.blk=some B
 |[],[],_,_,e=>by cases e;simp
 |(io,l)::ls,i::is,cs,bs,e=>by
  unfold kf at e;split at e
  ·rename_i cells rest Bh h1 h2;obtain⟨_,e⟩:=wQ e;cases e;intro q hq;rcases List.mem_cons.1 hq with rfl|hq
   ·exact vL1 ok h1
   ·exact Oi ok h2 q hq
  ·cases e
theorem vDx {M}(ok:Ok M):∀{l as cs bs},kQ M.h l as=some (cs,bs)→∀q∈bs,∃C B,M.κ q.2=some C∧C.blk=some B
 |[],[],_,_,e=>by cases e;simp
 |s::l,a::as,cs,bs,e=>by
  unfold kQ at e;split at e
  ·rename_i c1 b1 c2 b2 h1 h2;cases e;intro q hq;rcases List.mem_append.1 hq with hq|hq
   ·unfold AX.get at h1;split at h1
    ·simp_all
    ·grind
    ·exact Oi ok h1 q hq
    ·obtain⟨_,h1⟩:=wQ h1;exact Oi ok h1 q hq
    ·split at h1
     ·exact Oi ok h1 q hq
     ·cases h1
    ·cases h1
   ·exact vDx ok h2 q hq
  ·cases e
theorem yC1 {L}(ok:Ok L):∀{os ids bs},Ef L.h os ids=some bs→∀j∈ids,∃cells C B,L.h j=some (.box true cells)∧L.κ j=some C∧C.blk=some B
 |[],[],_,_=>by simp
 |o::os,n::ns,bs,h=>by
  unfold Ef at h;split at h
  ·rename_i cells rest h1 h2;intro j hj;rcases List.mem_cons.1 hj with rfl|hj
   ·obtain⟨C,hC,B,vals,e,q1,_⟩:=ok.obj _ _ h1;simp_all
   ·exact yC1 ok h2 j hj
  ·cases h
theorem vCg {L}(ok:Ok L):∀{js:List Nat},js.Nodup→(∀j∈js,∃cells C B,L.h j=some (.box true cells)∧L.κ j=some C∧C.blk=some B)→(js.map fun id=>((L.κ id).bind qB.blk).getD 0).Nodup
 |[],_,_=>by simp
 |a::js,hn,bj=>by
  obtain⟨n1,n2⟩:=List.nodup_cons.1 hn;refine List.nodup_cons.2 ⟨fun mh=>?_,vCg ok n2 (by grind)⟩;obtain⟨j,hj,ql⟩:=List.mem_map.1 mh;obtain⟨c1',C,B,q1,q2,q3⟩:=bj a (by simp);obtain⟨c2',D,B',q4,q5,q6⟩:=bj j (by grind);have ql:((L.κ j).bind qB.blk).getD 0=((L.κ a).bind qB.blk).getD 0:=ql;rw[q2,q5] at ql;have ql:(D.blk.getD 0)=(C.blk.getD 0):=ql;rw[q3,q6] at ql;subst ql;exact ok.disj a j _ _ C D B' (by grind) q1 q4 rfl rfl q2 q5 (by simp[qB.fp,q3]) (by simp[qB.fp,q6])
theorem yNi {na as}(kS:uk as na=true){nm n args h u0 io rows d}(he:Bj as nm n args h=some (u0,io,rows,d)) M w vs (hh:M.h=h)(hH:M.H=w.heap)(ok:Ok M)(hv:zM (zV M) args vs.toList):
  ∃Ml:zK,Ml.h=(kR as d).2∧Ml.H=w.heap∧Ok Ml∧zM (zV Ml) (kR as d).1 vs.toList∧
   ∀rv w' v0 st,Oh w na (as.any AX.isChn) Ml vs rv w' v0 st→∀rs os ns dx,xh st as rs os ns v0=some dx→(rs.cells++os.flatten).length+ns≤n→
    ∃Mf,tX M w (Jw u0 io rows rs os ns nm dx).2 Mf w'∧zV Mf (Jw u0 io rows rs os ns nm dx).1 rv:=by
 unfold Bj at he;split at he
 ·cases he
 rename_i fe u Bc;split at he
 ·cases he
 rename_i cs bs dN;split at he
 ·cases he
 rename_i d' hd;dsimp only at he;obtain⟨hc,he⟩:=nW he;cases he;simp only[Bool.and_eq_true] at hc;obtain⟨⟨⟨⟨⟨⟨oe,cQ⟩,dL⟩,gY⟩,nn⟩,Ej⟩,Ek⟩:=hc;subst hh;obtain⟨M1,a1,a2,a3,a4,a5,a6⟩:=vAy ok (jI.refl _) hv Bc;rw[←a2] at hd dN;obtain⟨ad2,wz⟩:=yIo dN;have aS:=yU0 hd;have eC:oc M1 (vW bs++jT (as.flatMap AX.cells) cs):=fun id an=>(List.mem_append.1 an).elim (wz id) (aS id)
 have V0:=DS gY;obtain⟨Ml,lo,b2,b3,b4,b5,b6⟩:=vZn a3 a5 dN hd V0 (yNz nn) (yNz Ej) (Nat.le_of_ble_eq_true dL) Ek eC;generalize iC:vW bs++jT (as.flatMap AX.cells) cs=aq at*
 refine⟨Ml,b2,by rw[lo.H,a1];exact hH,b3,b5,fun rv w' v0 st ⟨L0,c1,c2,c3,c4,ck,c5,c6,c7,c8,c9⟩ rs os ns dx hK hn=>?_⟩;unfold xh at hK;split at hK
 ·cases hK
 rename_i V1 kJ;split at hK
 ·cases hK
 rename_i ccs nY;split at hK
 ·cases hK
 rename_i nw hnw;split at hK
 ·cases hK
 rename_i bcs uu;obtain⟨JA,Oj⟩:=nW hK;clear hK;split at Oj
 case h_2=>cases Oj
 rename_i aQ u1 Be;obtain⟨dJ,hK⟩:=nW Oj;clear Oj;rw[Bool.and_eq_true] at dJ;obtain⟨dJ,JB⟩:=dJ;have V2:=VZ hnw;obtain⟨hlen,us,d1,d2⟩:=vCi nY c5;rw[←c1] at Be hK uu;obtain⟨js,nf⟩:∃js,js=V1++nw:=⟨_,rfl⟩;rw[←nf] at uu JA JB;obtain⟨k1,k2,Ol,k3,k4⟩:=vCf c3 uu;obtain⟨L,e1,e2,e3,e4,e5,e6⟩:=xd c3 (jI.refl _) (d1.append k3) Be;rw[←e2] at hK;have g:ke Ml L:=c4.trans e4.grow;obtain⟨f1,f2,f3⟩:=zK.overX_ok a3 e3 lo eC b4 g;have cV : zM (mg M1 L0) (vW bs) V1 := yVh dN kJ a5 (fun i hi s hs uq=>by
  have bK:i<vs.size:=by simpa using hi
  have bn:i<na:=by
   have:=List.all_eq_true.1 kS (s,i) (List.mk_mem_zipIdx_iff_getElem?.2 hs);simp only[uq,Bool.not_true,Bool.false_or] at this;exact TC this
  have:=c9 i bn;rw[Nat.zero_add];have e:vs.getD i undef=vs.toList[i]:=by simp[bK]
  rw[←e];exact this) fun np i q hq=>by
   obtain⟨C,B,p1,p2⟩:=vDx a3 dN q (List.mem_of_getElem? hq);have hi:i<bs.length:=(List.getElem?_eq_some_iff.1 hq).1;have hκ:Ml.κ i=some C:=by
    rw[b6];unfold κX;have:Nat.ble wT i=false:=by
     cases h:Nat.ble wT i with
     |false=>rfl
     |true=>have h1:=Nat.le_of_ble_eq_true h;have h2:=Nat.le_of_ble_eq_true dL;omega
    rw[this,hq];exact p1
   obtain⟨C',p3,p4⟩:=ck np i C hκ;rw[Nat.zero_add];exact⟨C,C',B,p1,p2,p3,p4.trans p2⟩
 have qm:∀i,i<n→(M1.overX L aq).h (nm+i)=none:=fun i hi=>by
  have h1:=Vo oe i hi;have h2:M1.h (nm+i)=none:=by
   rw[a2];rcases a6 (nm+i) with h|⟨own,t,xs,h,_⟩|⟨ver,xs,h,_⟩
   ·rw[a2] at h;rw[h];exact h1
   ·rw[h1] at h;cases h
   ·rw[h1] at h;cases h
  show qK M1.h (qi aq) (nm+i)=none;rw[xl,if_neg,h2];intro mh;obtain⟨o,ho,_⟩:=eC _ mh;rw[h2] at ho;cases ho
 have qd:∀i,i<(rs.cells++os.flatten).length→(M1.overX L aq).h (nm+i)=none:=fun i hi=>qm i (by omega)
 have uv:∀b,qO L b→b<M1.H.size→lH M1 aq b:=fun b hb bn=>b4 b (g.own b hb (by rw[lo.H];exact bn))
 have xm:∀b,qO L b→¬(M1.overX L aq).F b:=fun b hb h=>by
  rcases h with h|h
  ·exact(uo a3 eC h).2 (uv b hb (a3.Flt b h))
  ·exact(e3.own b hb).1 (e3.GF b h)
 have xn:∀b,qO L b→¬qO (M1.overX L aq) b:=fun b hb h=>by
  obtain⟨q1,q2⟩:=f3 b h;exact q2 (uv b hb (a3.own b q1).2)
 obtain ⟨Mc, g1, g2, g3, g4, g5, g6, g7, g8⟩ := Vp e3 f1 ⟨rfl, rfl⟩ qd hK (DS dJ) (xf hK) (fun id an C hC b hb=>by
  obtain⟨o,ho,iQ⟩:=xf hK id an;have aM:qO L b:=⟨id,o,C,ho,iQ,hC,hb⟩;exact⟨xn b aM,xm b aM,(e3.own b aM).2⟩)
 obtain ⟨Mg, n1, n2, n3, n4, n5, n6, n7, n8⟩ := yYm (n := ns) (nm := nm + (rs.cells ++ os.flatten).length) (Bs := nw.map fun id => ((L0.κ id).bind qB.blk).getD 0) g5 (fun i hi=>by
  rw[g4,yGp (fun j hj=>by omega),Nat.add_assoc];exact qm _ (by omega)) (by simp[V2])
 have qn:∀j∈js,∃cells C B,L0.h j=some (.box true cells)∧L0.κ j=some C∧C.blk=some B:=yC1 c3 uu;have Om:yO M1 Mg:=(f2.ext.trans f2.size g6).trans (by rw[g1];exact f2.size) n6;have DX:zM (mg Mg L0) (vW bs) V1:=cV.mono fun id jd hq=>by
  obtain⟨C,D,B,q1,q2,q3,q4⟩:=hq;obtain⟨C',p3,le⟩:=Om.κ id C q1;exact⟨C',D,B,p3,le.blk.trans q2,q3,q4⟩
 have El:zM (mg Mg L0) (mc (nm+(rs.cells++os.flatten).length) ns) nw:=by
  have hl8:=n8.length;rw[List.length_map] at hl8;refine zM.of_get hl8 fun i h1 h2=>?_
  obtain⟨C,q1,q2⟩:=n8.get i h1 (by simpa using h2);obtain⟨cells,D,B,p1,p2,p3⟩:=qn nw[i] (by rw[nf];exact List.mem_append_right _ (List.getElem_mem _));refine⟨C,D,B,q1,?_,p2,p3⟩;rw[q2,List.getElem_map,p2];show some (D.blk.getD 0)=_;rw[p3];rfl
 have mi:zM (mg Mg L0) (vW bs++mc (nm+(rs.cells++os.flatten).length) ns) js:=by
  rw[nf];exact DX.append El
 have uw:zM (mg Mg L) (vW bs++mc (nm+(rs.cells++os.flatten).length) ns) js:=mi.mono fun id jd hq=>by
  obtain⟨C,D,B,q1,q2,q3,q4⟩:=hq;obtain⟨D',p3,le⟩:=e4.ext.κ jd D q3;exact⟨C,D',B,q1,q2,p3,le.blk.trans q4⟩
 have Bm:=VY uw JB e5 ((g8 _ e5).mono fun _ _ h=>h.ext n6);obtain⟨G,hG⟩:∃G,G=Bg ((rs.cells++os.flatten).map RC.lnk) (vW bs++mc (nm+(rs.cells++os.flatten).length) ns) (o9 nm (rs.cells++os.flatten) dx).1:=⟨_,rfl⟩;rw[←hG] at Bm;have DK:us.length=rs.cells.length:=by rw[←d1.length,hlen]
 have hgr:zM (zX Mg) (G.take rs.cells.length) us:=by
  have:=zM.take rs.cells.length Bm
  rwa [show(us++Ol).take rs.cells.length=us from by rw[←DK,List.take_left]] at this
 have hgb:zM (zX Mg) (G.drop rs.cells.length) Ol:=by
  have:=zM.drop rs.cells.length Bm
  rwa [show(us++Ol).drop rs.cells.length=Ol from by rw[←DK,List.drop_left]] at this
 have hHc:Mg.H=L0.H:=by rw[n1,g1];exact e1
 have JC:=ySy (P:=fun _ _=>True) mi (k4 hHc hgb);have xo:∀jd B,(∃cells,L0.h jd=some (.box true cells))→(∃C,L0.κ jd=some C∧C.blk=some B)→∃cells C,L.h jd=some (.box true cells)∧L.κ jd=some C∧B∈C.fp:=fun jd B ⟨cells,q1⟩ ⟨C,q2,q3⟩=>by
  obtain⟨C',q4,le⟩:=e4.ext.κ jd C q2;refine⟨cells,C',?_,q4,?_⟩
  ·rcases e6 jd with h|⟨own,t,xs,h,_⟩|⟨ver,xs,h,_⟩
   ·rw[h,q1]
   ·rw[q1] at h;cases h
   ·rw[q1] at h;cases h
  ·have:C'.blk=some B:=le.blk.trans q3;simp[qB.fp,this]
 have JD:∀b,b∈(js.map fun id=>((L0.κ id).bind qB.blk).getD 0)→qO L b:=fun b hb=>by
  obtain⟨j,hj,rfl⟩:=List.mem_map.1 hb;obtain⟨cells,C,B,q1,q2,q3⟩:=qn j hj;obtain⟨bM,D,p4,p5,p6⟩:=xo j B ⟨cells,q1⟩ ⟨C,q2,q3⟩;have e:((L0.κ j).bind qB.blk).getD 0=B:=by rw[q2];show C.blk.getD 0=B;rw[q3];rfl
  rw[e];exact⟨j,_,D,p4,rfl,p5,p6⟩
 have Bn : pj (yH6 Mg) (vW bs ++ mc (nm + (rs.cells ++ os.flatten).length) ns) (xi os (G.drop rs.cells.length)) (js.map fun id => ((L0.κ id).bind qB.blk).getD 0) := pj.mono (fun id css B _ ⟨jd,q1,q2,⟨D0,q3,q3b,_⟩,q4⟩=>by
  obtain⟨C,D1,B',p1,p2,p3,p3b⟩:=q1;rw[q3] at p3;cases p3;rw[q3b] at p3b;cases p3b;obtain⟨cells,D,p4,p5,p6⟩:=xo jd B q2 ⟨_,q3,q3b⟩;have aM:qO L B:=⟨jd,_,D,p4,rfl,p5,p6⟩;refine⟨⟨C,p1,p2⟩,q4,fun ho=>?_,?_⟩
  ·rcases g7 B (n7 B ho) with h|⟨kd,Bo,D',p7,p8⟩
   ·exact xn B aM h
   ·obtain⟨o,p9,ur⟩:=xf hK kd Bo;refine e3.disj jd kd _ o D D' B (fun e=>?_) p4 p9 rfl ur p5 p7 p6 p8;exact yIf hK kd Bo true cells (by rw[←e];exact p4)
  ·rw[n3,g3];exact xm B aM) JC
 have hBs:(js.map fun id=>((L0.κ id).bind qB.blk).getD 0).Nodup:=vCg c3 (DS JA) qn;obtain⟨Mf,r1,r2,r3,r4,r5,r6,r7⟩:=vB2 n5 Bn hBs;have Vv:vG M1 Mf:=by
  have aM:∀b,qO Mf b→b<M1.H.size→qO M1 b:=fun b hb bn=>by
   rcases r7 b hb with hb|hb
   ·rcases g7 b (n7 b hb) with h|⟨id,an,C,hC,D8⟩
    ·exact(f3 b h).1
    ·obtain⟨o,ho,iQ⟩:=xf hK id an;exact(uv b ⟨id,o,C,ho,iQ,hC,D8⟩ bn).own eC
   ·exact(uv b (JD b hb) bn).own eC
  have N8:Mf.H=(M1.overX L aq).H:=r1.trans (n1.trans g1);refine⟨Om.trans ?_ r6,?_,fun b hb hn=>?_,aM,fun b hb bn=>?_,fun b hb bn=>?_⟩
  ·rw[n1,g1];exact f2.size
  ·rw[N8];exact f2.size
  ·rw[N8];exact f2.frame b hb hn
  ·rw[r2,n2,g2] at hb;exact f2.Gb b hb bn
  ·rw[r3,n3,g3] at hb;exact f2.Fb b hb bn
 have qo:(vW bs++mc (nm+(rs.cells++os.flatten).length) ns).length=(xi os (G.drop rs.cells.length)).length:=by
  rw[vFd,mi.length,k2]
 refine⟨Mf,⟨c6,c7,c8,?_,?_,r5,a4.trans Vv⟩,?_⟩
 ·rw[r1,n1,g1];show L.H=_;rw[e1,c2]
 ·rw[r4,n4,g4];show _=qK M.h (u0++(qi (jT (as.flatMap AX.cells) cs)++((o9 nm (rs.cells++os.flatten) dx).2++Eg (vW bs++mc (nm+(rs.cells++os.flatten).length) ns) (xi os ((Bg ((rs.cells++os.flatten).map RC.lnk) (vW bs++mc (nm+(rs.cells++os.flatten).length) ns) (o9 nm (rs.cells++os.flatten) dx).1).drop rs.cells.length)))));rw[←hG,lC,lC,lC,←a2];refine vDc qo fun m hm=>?_
  rw[List.mem_append,not_or] at hm;rw[xl,if_neg hm.2];refine A3 ?_;show qK M1.h (qi aq) m=_;rw[xl,xl,←iC];simp[hm.1]
 ·show zV Mf (rs.mk ((Bg ((rs.cells++os.flatten).map RC.lnk) (vW bs++mc (nm+(rs.cells++os.flatten).length) ns) (o9 nm (rs.cells++os.flatten) dx).1).take rs.cells.length)) rv;rw[←hG];exact d2 Mf _ (hgr.mono fun _ _ h=>h.ext r6)
theorem yHe {P na f}(cj:∀vs w,(callFunc f vs).run P w=.ok (.enter f vs) w)
  {as rs os ns X} {S:XD as→Option X} {pack unpack} (fM:∀d,pack (unpack d)=d) (kS:uk as na=true)
  (mj:∀d x,S d=some x→∀M w vs,M.h=(kR as d).2→M.H=w.heap→Ok M→zM (zV M) (kR as d).1 vs.toList→Calls P f vs w fun
   |.returned rv,w'=>∃(v:zY) (st:St),Jv as rs os ns unpack v st=some x∧Oh w na (as.any AX.isChn) M vs rv w' v st
   |_,_=>False)
  {nm args h v u} (hy:yL (sK as rs os ns S pack nm args h) v u):tY P f args h v u:=by
 intro M w vs hh hH ok hv;refine .inl ⟨cj vs w,?_⟩;unfold sK at hy;split at hy
 ·exact hy.elim
 rename_i u0 io rows d he;obtain⟨x,hx,rfl,rfl⟩:=hy;obtain⟨Ml,b1,b2,b3,b4,b5⟩:=yNi kS he M w vs hh hH ok hv;refine Calls.mono (mj d x hx Ml w vs b1 b2 b3 b4) fun e w' hl=>?_
 cases e with
 |panicked _=>omega
 |outgrown=>omega
 |returned rv=>
  obtain⟨v0,st,hK,hl⟩:=hl;have hK:xh st as rs os ns v0=some (pack x):=by
   unfold Jv at hK;grind
  grind
theorem vGs {P na f}(cj:∀vs w,(callFunc f vs).run P w=.ok (.enter f vs) w)
  {as rs dw os dy ns fP X Y} {S:XD as→Option (X⊕Y)} {pk up iS lG}
  (fM:∀d,pk (up d)=d) (og:∀d,iS (lG d)=d) (kS:uk as na=true)
  (mj:∀d x,S d=some x→∀M w vs,M.h=(kR as d).2→M.H=w.heap→Ok M→zM (zV M) (kR as d).1 vs.toList→Calls P f vs w fun
   |.returned rv,w'=>∃(v:zY) (st:St),Od as rs os ns dw dy fP up lG v st=some x∧Oh w na (as.any AX.isChn) M vs rv w' v st
   |_,_=>False)
  {nm args h v u} (hy:yL (um as rs os ns dw dy fP S pk iS nm args h) v u):tY P f args h v u:=by
 intro M w vs hh hH ok hv;refine .inl ⟨cj vs w,?_⟩;unfold um at hy;split at hy
 ·exact hy.elim
 rename_i u0 io rows d he;obtain⟨Ml,b1,b2,b3,b4,b5⟩:=yNi kS he M w vs hh hH ok hv;rcases hy with⟨x,hx,rfl,rfl⟩|⟨x,hx,rfl,rfl⟩<;>
 ·refine Calls.mono (mj d _ hx Ml w vs b1 b2 b3 b4) fun e w' hl=>?_
  cases e with
  |panicked _=>omega
  |outgrown=>omega
  |returned rv=>
   obtain⟨v0,st,hK,hl⟩:=hl;unfold Od at hK;grind
theorem yS3 {E}(hE:gF E)(hS:kb E.sums)(hm:E.P.follows .mixedOrders=true){A k pre na f fn}(hf:E.P.funcs[f]? =some fn)(hL:∀c,fn.body=some c→wO E.P A pre na fn.ntmps c){chn}(np:(!chn||A.loops.isEmpty)=true)
  {R K} {x:R} {args h} (aO:kB E A k pre na fn args h K=some x) {M w vs} (h1:M.h=h) (h2:M.H=w.heap) (h3:Ok M) (h4:zM (zV M) args vs.toList):
  Calls E.P f vs w fun
   |.returned rv,w'=>∃(v:zY) (st:St),K v st=some x∧Oh w na chn M vs rv w' v st
   |_,_=>False:=by
 refine Calls.mono (Vb hE hS hm hf hL aO h1 h2 h3 h4) fun e w' hl=>?_
 cases e with
 |panicked _=>omega
 |outgrown=>omega
 |returned rv=>
  obtain⟨M',v,st,a1,a2,a3,a4,a5,a6,a7,a8,a9,JE,JF⟩:=hl;refine⟨v,st,a1,M',a2,a3,a4,a5,fun hc=>a6 ?_,a7,a8,a9,JE,JF⟩;simp_all
theorem vN8 {E}(hE:gF E)(hS:kb E.sums)(hm:E.P.follows .mixedOrders=true){A k pre na f fn}(hf:E.P.funcs[f]? =some fn)(hL:∀c,fn.body=some c→wO E.P A pre na fn.ntmps c)(cj:∀vs w,(callFunc f vs).run E.P w=.ok (.enter f vs) w)
  {as rs os ns X} {S:XD as→Option X} {pack unpack} (fM:∀d,pack (unpack d)=d) (kS:uk as na=true) (np:(!as.any AX.isChn||A.loops.isEmpty)=true)
  (aO:∀d,kB E A k pre na fn (kR as d).1 (kR as d).2 (Jv as rs os ns unpack)=S d)
  {nm args h v u} (hy:yL (sK as rs os ns S pack nm args h) v u):tY E.P f args h v u:=
 yHe cj fM kS (fun d x hx M w vs h1 h2 h3 h4=>yS3 hE hS hm hf hL np ((aO d).trans hx) h1 h2 h3 h4) hy
theorem vMp {E}(hE:gF E)(hS:kb E.sums)(hm:E.P.follows .mixedOrders=true){A k pre na f fn}(hf:E.P.funcs[f]? =some fn)(hL:∀c,fn.body=some c→wO E.P A pre na fn.ntmps c)(cj:∀vs w,(callFunc f vs).run E.P w=.ok (.enter f vs) w)
  {as rs dw os dy ns fP X Y} {S:XD as→Option (X⊕Y)} {pk up iS lG}
  (fM:∀d,pk (up d)=d) (og:∀d,iS (lG d)=d) (kS:uk as na=true) (np:(!as.any AX.isChn||A.loops.isEmpty)=true)
  (aO:∀d,kB E A k pre na fn (kR as d).1 (kR as d).2 (Od as rs os ns dw dy fP up lG)=S d)
  {nm args h v u} (hy:yL (um as rs os ns dw dy fP S pk iS nm args h) v u):tY E.P f args h v u:=
 vGs cj fM og kS (fun d x hx M w vs h1 h2 h3 h4=>yS3 hE hS hm hf hL np ((aO d).trans hx) h1 h2 h3 h4) hy
section
variable {h h':Hp}
theorem vN1 {x c}(hh:∀id∈vQ c,h id=h' id):Jq h x c=Jq h' x c:=by
 unfold Jq;split
 ·exact yTb hh
 ·rename_i id;rw[hh id (by simp[vQ])]
 ·rename_i id;rw[hh id (by simp[vQ])]
 ·rename_i id;rw[hh id (by simp[vQ])]
 ·rfl
 ·rfl
theorem yXq:∀{l cs},(∀id∈cs.flatMap vQ,h id=h' id)→qh h l cs=qh h' l cs
 |[],[],_
 |[],_::_,_
 |_::_,[],_=>rfl
 |p::l,c::cs,hh=>by
  simp  at hh;unfold qh;rw[vN1 fun id hi=>hh id (.inl hi),yXq (by grind)]
theorem vY4 {ls}:kf h ls []=kf h' ls []:=by
 cases ls<;>rfl
theorem vHt {s:AX}{a}(hb:wW a=false):s.get h a=s.get h' a:=by
 unfold AX.get;cases s with
 |c p=>grind
 |agg l=>grind
 |ptr io l=>
  cases a with
  |c x=>cases x<;>first|rfl|(exact absurd hb (by simp[wW]))
  |_=>rfl
 |fn f bD=>
  cases a with
  |c x=>cases x with
   |fn g ids=>
    cases ids with
    |nil=>dsimp only;rw[vY4]
    |cons _ _=>exact absurd hb (by nofun)
   |_=>rfl
  |_=>rfl
 |chn ls=>
  cases a with
  |c x=>cases x<;>first|rfl|(exact absurd hb (by nofun))
  |_=>rfl
theorem vJp {s:AX}{a cs bs}(hb:wW a=false)(e:s.get h a=some (cs,bs)):∀id∈cs.flatMap vQ,id∈yP a:=by
 unfold AX.get at e;split at e
 ·cases e;intro id an;simp  at an;exact an
 ·obtain⟨_,e⟩:=wQ e;cases e;exact fun id an=>an
 ·exact absurd hb (by nofun)
 ·rename_i f bD g ids;obtain⟨_,e⟩:=wQ e;cases ids with
  |nil=>cases bD with
   |nil=>cases e;simp
   |cons _ _=>cases e
  |cons _ _=>exact absurd hb (by nofun)
 ·exact absurd hb (by nofun)
 ·cases e
theorem yId:∀{l as},as.any wW=false→kQ h l as=kQ h' l as
 |[],[],_
 |[],_::_,_
 |_::_,[],_=>rfl
 |s::l,a::as,hb=>by
  simp only[List.any_cons,Bool.or_eq_false_iff] at hb;unfold kQ;rw[vHt (h:=h) (h':=h') hb.1,yId hb.2]
theorem yRn:∀{l as cs bs},as.any wW=false→kQ h l as=some (cs,bs)→∀id∈cs.flatMap vQ,id∈as.flatMap yP
 |[],[],cs,bs,_,e=>by cases e;simp
 |s::l,a::as,cs,bs,hb,e=>by
  simp only[List.any_cons,Bool.or_eq_false_iff] at hb;unfold kQ at e;split at e
  ·rename_i c1 b1 c2 b2 e1 e2;cases e;intro id an;rw[List.flatMap_append,List.mem_append] at an;rw[List.flatMap_cons,List.mem_append];rcases an with an|an
   ·exact .inl (vJp hb.1 e1 id an)
   ·exact .inr (yRn hb.2 e2 id an)
  ·cases e
theorem vIa {s a}(hh:∀id∈yP a,h id=h' id):xj h s a=xj h' s a:=by
 unfold xj;split
 ·rename_i p x;have:=Ea (h:=h) (h':=h') (l:=[p.isKept]) (cs:=[x]) (by rw[D9];exact hh);simp_all
 ·rename_i l xs;have:=Ea (h:=h) (h':=h') (l:=l.map PC.isKept) (cs:=xs) hh;simp_all
 ·rfl
theorem V3 {s a a' u}(e:xj h s a=some (a',u)):(∀id∈yP a',id∈yP a)∧(wW a=false→wW a'=false):=by
 unfold xj at e;split at e
 ·rename_i p x;split at e
  ·rename_i y u1 e1;cases e;refine⟨fun id an=>by have:=Eb e1 id (by rw[D9];omega);rwa [D9] at this,fun hb=>?_⟩;cases hk:p.isKept with
   |false=>rw[hk] at e1;cases e1;exact hb
   |true=>
    rw[hk] at e1;unfold gG at e1;split at e1
    ·rename_i c1 u2 nc se e2 e3;cases e1;cases hy:wW (.c y) with
     |false=>rfl
     |true=>rw[(Vx e2).2 hy] at hb;cases hb
    ·cases e1
  ·cases e
 ·split at e
  ·rename_i ys u1 e1;cases e;exact⟨Eb e1,fun _=>rfl⟩
  ·cases e
 simp_all
theorem vBm:∀{l as},(∀id∈as.flatMap yP,h id=h' id)→sJ h l as=sJ h' l as
 |[],as,_=>by rfl
 |_::_,[],_=>rfl
 |s::l,a::as,hh=>by
  simp  at hh;unfold sJ;rw[vIa fun id hi=>hh id (.inl hi),vBm (by grind)]
theorem vEa:∀{l as fw u},sJ h l as=some (fw,u)→(∀id∈fw.flatMap yP,id∈as.flatMap yP)∧(as.any wW=false→fw.any wW=false)
 |[],as,fw,u,e=>by cases as<;>cases e<;>exact by simp
 |s::l,[],fw,u,e=>by cases e;simp
 |s::l,a::as,fw,u,e=>by
  unfold sJ at e;split at e
  ·rename_i a1 u1 Vt se e1 e2;obtain⟨k1,k2⟩:=V3 e1;obtain⟨k3,k4⟩:=vEa e2;grind
  ·cases e
theorem yWt {as nm n args}(h1:args.any wW=false→∀id,(id∈args.flatMap yP∨nO nm id=true)→h id=h' id)(h2:args.any wW=true→h=h'):Bj as nm n args h=Bj as nm n args h':=by
 cases hb:args.any wW with
 |true=>rw[h2 hb]
 |false=>
  have hh:=h1 hb;unfold Bj;rw[vBm (h:=h) (h':=h') (by grind)];cases e:sJ h' as args with
  |none=>rfl
  |some p=>
   obtain⟨fe,u⟩:=p;obtain⟨k1,k2⟩:=vEa e;dsimp only;rw[yId (h:=qK h u) (h':=qK h' u) (k2 hb)];cases e2:kQ (qK h' u) as fe with
   |none=>rfl
   |some q=>
    obtain⟨cs,bs⟩:=q;dsimp only;rw[yXq (h:=qK h u) (h':=qK h' u) fun id an=>A3 (hh id (.inl (k1 id (yRn (k2 hb) e2 id an))))];cases qh (qK h' u) (as.flatMap AX.cells) cs with
    |none=>rfl
    |some d=>
     cases hle:Nat.ble n 100 with
     |false=>simp
     |true=>
      have hle:=Nat.le_of_ble_eq_true hle;rw [Vy (h := h) (h' := h') fun i hi => hh _ (.inr (by
       simp only[nO,Bool.and_eq_true];exact⟨by simp,by simp[Nat.blt_eq];omega⟩))]
end
theorem yKy {as rs os ns X}{S:Nat→XD as→Option X}{pack}:Jk fun k nm args h=>sK as rs os ns (S k) pack nm args h:=by
 intro k nm args h h' h1 h2;show sK as rs os ns (S k) pack nm args h=sK as rs os ns (S k) pack nm args h';unfold sK;rw[yWt h1 h2]
theorem vS4 {as rs dw os dy ns fP X Y}{S:Nat→XD as→Option (X⊕Y)}{pk iS}:Jk fun k nm args h=>um as rs os ns dw dy fP (S k) pk iS nm args h:=by
 intro k nm args h h' h1 h2;show um as rs os ns dw dy fP (S k) pk iS nm args h=um as rs os ns dw dy fP (S k) pk iS nm args h';unfold um;rw[yWt h1 h2]
structure zD (P:Program) (r:Nat×nZ):Prop where
 ok:yVi P r
 loc:Jk r.2
def Em (P:Program):List (Nat×nZ)→Prop
 |[]=>True
 |r::l=>zD P r∧Em P l
theorem Em.all {P}:∀{l},Em P l→∀r∈l,zD P r
 |a::l,h,r,hr=>by
  rcases List.mem_cons.1 hr with rfl|hr
  ·exact h.1
  ·exact Em.all h.2 r hr
structure jS (E:Env):Prop where
 ok:gF E
 loc:kb E.sums
 ord:E.P.follows .mixedOrders=true
theorem On {P l eqT}(he:IL P eqT)(hm:P.follows .mixedOrders=true)(h:Em P l):jS ⟨P,eqT,fO l⟩:=
 ⟨⟨he,yI8 fun r hr=>(h.all r hr).ok⟩,yTq fun r hr=>(h.all r hr).loc,hm⟩
theorem oh {P l}(hm:P.follows .mixedOrders=true)(h:Em P l):jS ⟨P,fun _=>false,fO l⟩:=On vNe hm h
theorem loops1 {P A pre na nt c L}(h:zS P pre na nt (zQ c 0) L)(hn:(n9 c).length=1:=by kernel_rfl) (hl:wi A (zQ c 0)=some L:=by kernel_rfl):wO P A pre na nt c:=
 nk hn (by grind)
theorem zF {P A pre na nt c}(hn:(n9 c).length=0:=by kernel_rfl):wO P A pre na nt c:=vPl hn
def yE7 (E:Env)(A:zW)(na nt:Nat)(b:Code) ins outs {X Y:Type}(mT:wa outs→X)(c:Y→rW ins→Option X)(bf:Nat→Y→Y):Prop:=
 ∀k rec d,c (bf k rec) d=Nr (1000+iz) ins d fun st=>kA E A k 1000 na nt b st (vCv 1000 ins outs mT (c rec))
abbrev V4 (X:Type):=Nat→X→(R:Type)→(Ex→St→Option R)→Option R
theorem vK1 {E A na nt b ins outs X Y mT c bf}(hE:jS E)(hs:yE7 E A na nt b ins outs mT c bf)(f:Nat→Nat→Y)(elim:V4 X)
  (hX:∀o R K,elim (1000+iz) (mT o) R K=Dx (1000+iz) outs o K) (hL:wO E.P A 1000 na nt b) (h0:∀k d,c (f k 0) d=none:=by intros;rfl) (h1:∀k n,f k (n+1)=bf k (f k n):=by intros;rfl):
  zS E.P 1000 na nt b ⟨ins,outs,X,fun k d=>c (f k k) d,elim⟩:=
 vS3 hE.ok hE.loc hE.ord hL mT elim hX (fun k n d=>c (f k n) d) h0 (fun k n d=>by rw[h1];exact hs k (f k n) d)
def V5 (E:Env)(A:zW)(na:Nat)(fn:Func) as (rs:RS){X}(up:RL rs.cells→X)(S:Nat→AD as→Option X):Prop:=
 ∀k d,kB E A k 1000 na fn (qb as d).1 (qb as d).2 (nj rs up)=S k d
def yM9 (E:Env)(A:zW)(na:Nat)(fn:Func) as (rs:RS)(os:List (List RC))(ns:Nat){X}(up:RL (rs.cells++os.flatten)→X)(S:Nat→XD as→Option X):Prop:=
 ∀k d,kB E A k 1000 na fn (kR as d).1 (kR as d).2 (Jv as rs os ns up)=S k d
def yYu (E:Env)(A:zW)(na:Nat)(fn:Func) as (rs:RS)(os:List (List RC))(ns:Nat)(dw:RS)(dy:List (List RC))(fP:Nat){X Y}(up:RL (rs.cells++os.flatten)→X)(lG:RL (dw.cells++dy.flatten)→Y)(S:Nat→XD as→Option (X⊕Y)):Prop:=
 ∀k d,kB E A k 1000 na fn (kR as d).1 (kR as d).2 (Od as rs os ns dw dy fP up lG)=S k d
theorem vX8 {E A na f fn as rs X S pack}{unpack:RL rs.cells→X}(hE:jS E)(aO:V5 E A na fn as rs unpack S)(hL:wO E.P A 1000 na fn.ntmps (zR fn))
  (hf:E.P.funcs[f]? =some fn:=by kernel_rfl) (hb:fn.body.isNone=false:=by kernel_rfl) (hn:(fn.name== "runtime.NumGoroutine")=false:=by kernel_rfl) (fM:∀d,pack (unpack d)=d:=by intro d;rfl):
  zD E.P (f,fun k nm args h=>pb as rs (S k) pack nm args h):=
 ⟨fun k _ _ _ _ _ hy=>vOc hE.ok hE.loc hE.ord hf (body_loops hL) (Jm hf hb hn) fM (aO k) hy,yJq⟩
theorem vIb {E A na f fn as rs os ns X}{S:Nat→XD as→Option X}{pack unpack}(hE:jS E)(aO:yM9 E A na fn as rs os ns unpack S)
  (hL:wO E.P A 1000 na fn.ntmps (zR fn)) (hf:E.P.funcs[f]? =some fn:=by kernel_rfl) (hb:fn.body.isNone=false:=by kernel_rfl) (hn:(fn.name== "runtime.NumGoroutine")=false:=by kernel_rfl) (kS:uk as na=true:=by kernel_rfl) (np:(!as.any AX.isChn||A.loops.isEmpty)=true:=by kernel_rfl) (fM:∀d,pack (unpack d)=d:=by intro d;rfl):
  zD E.P (f,fun k nm args h=>sK as rs os ns (S k) pack nm args h):=
 ⟨fun k _ _ _ _ _ hy=>vN8 hE.ok hE.loc hE.ord hf (body_loops hL) (Jm hf hb hn) fM kS np (aO k) hy,yKy⟩
theorem vXd {E A na f fn as rs dw os dy ns fP X Y}{S:Nat→XD as→Option (X⊕Y)}{pk up iS lG}(hE:jS E)
  (aO:yYu E A na fn as rs os ns dw dy fP up lG S)
  (hL:wO E.P A 1000 na fn.ntmps (zR fn)) (hf:E.P.funcs[f]? =some fn:=by kernel_rfl) (hb:fn.body.isNone=false:=by kernel_rfl) (hn:(fn.name== "runtime.NumGoroutine")=false:=by kernel_rfl) (kS:uk as na=true:=by kernel_rfl) (np:(!as.any AX.isChn||A.loops.isEmpty)=true:=by kernel_rfl) (fM:∀d,pk (up d)=d:=by intro d;rfl) (og:∀d,iS (lG d)=d:=by intro d;rfl):
  zD E.P (f,fun k nm args h=>um as rs os ns dw dy fP (S k) pk iS nm args h):=
 ⟨fun k _ _ _ _ _ hy=>vMp hE.ok hE.loc hE.ord hf (body_loops hL) (Jm hf hb hn) fM og kS np (aO k) hy,vS4⟩
theorem V6 {E A na f fn sh t rs X}{S:Nat→List t.den→Option X}{pack unpack}(hE:jS E)(cP:∀k,kB E A k 1000 na fn [.c .nsl] (mb []) (nj rs unpack)=S k [])
  (aO:∀k xs,kB E A k 1000 na fn [.c (.nfl sh t xs)] (mb []) (nj rs unpack)=S k xs) (hL:wO E.P A 1000 na fn.ntmps (zR fn)) (hf:E.P.funcs[f]? =some fn:=by kernel_rfl) (hb:fn.body.isNone=false:=by kernel_rfl) (hn:(fn.name== "runtime.NumGoroutine")=false:=by kernel_rfl) (fM:∀d,pack (unpack d)=d:=by intro d;rfl):
  zD E.P (f,fun k nm args h=>pb [.c (.dat sh t)] rs (fun d=>S k d.1) pack nm args h):=
 ⟨fun k _ _ _ _ _ hy=>vQ7 hE.ok hE.loc hE.ord hf (body_loops hL) (Jm hf hb hn) fM (fun x hx=>(cP k).trans hx) (by grind) hy,yJq⟩
def En (k:Nat)(a b c:Int):Option (Int×Int):=
 bif decide (c=0) then some (Int.ofNat ((a.toNat+b.toNat+0)%18446744073709551616),Int.ofNat ((a.toNat+b.toNat+0)/18446744073709551616)) else none
def Oo:nZ:=fun k nm args h=>match args with
 |[.c (.int .u64 a),.c (.int .u64 b),.c (.int .u64 c)]=>.call (Int×Int) (En k a b c) (fun r=>(.tup [(false,[.int .u64 r.1]),(false,[.int .u64 r.2])],[]))
 |_=>.stuck
theorem vI7 {P} a b w:
  (add64Entry #[.int .u64 a,.int .u64 b,.int .u64 0]).run P w=.ok (.tuple #[.int .u64 (Int.ofNat ((a.toNat+b.toNat+0)%18446744073709551616)),.int .u64 (Int.ofNat ((a.toNat+b.toNat+0)/18446744073709551616))]) w:=rfl
theorem V7 {P f fn}(hf:P.funcs[f]? =some fn:=by kernel_rfl) (qp:(fn.name== "runtime.NumGoroutine")=false:=by kernel_rfl) (hb:fn.body.isNone=true:=by kernel_rfl)
  (hn:Extern.findNext fn=none:=by kernel_rfl) (he:Extern.find fn=some add64Entry:=by kernel_rfl):
  zD P (f,Oo):=by
 refine⟨fun k nm args h v u hy=>?_,fun _ _ _ _ _ _ _=>rfl⟩;intro M w vs hh hH ok hv;refine .inr ?_;replace hy:yL (Oo k nm args h) v u:=hy;unfold Oo at hy;split at hy
 ·rename_i a b c;obtain⟨x,hx,rfl,rfl⟩:=hy
  match hl:vs.toList,hv with
  |[v1,v2,v3],hv=>
   obtain⟨h1,h2,h3,_⟩:=hv;cases h1;cases h2;cases h3;obtain rfl:vs=#[.int .u64 a,.int .u64 b,.int .u64 c]:=by grind
   obtain⟨hc,hx⟩:=wQ hx;cases hx;have hc:c=0:=by simp_all
   subst hc;refine⟨.tuple #[.int .u64 (Int.ofNat ((a.toNat+b.toNat+0)%18446744073709551616)),.int .u64 (Int.ofNat ((a.toNat+b.toNat+0)/18446744073709551616))],w,M,?_,⟨rfl,rfl,rfl,hH,rfl,ok,.refl M⟩,?_⟩
   ·rw[run_callFunc_extern hf qp hb hn he,vI7 a b w];rfl
   ·exact⟨#[.int .u64 (Int.ofNat ((a.toNat+b.toNat+0)%18446744073709551616)),.int .u64 (Int.ofNat ((a.toNat+b.toNat+0)/18446744073709551616))],rfl,rfl,rfl,trivial⟩
 ·exact hy.elim
end Go.Ab
