/- part 2 -/
import Derived.Test.YthpehdcmpldloaaGreatGiAbB
import Derived.ProofKit
import Derived.Below
import Derived.Carry
import Derived.Laws.Externs
set_option linter.unusedVariables false
set_option linter.unusedSimpArgs false
set_option linter.unusedSectionVars false
namespace Go.Ab
def Ex.toExit:Ex→Exit
 |.normal=>.normal
 |.ret=>.ret
 |.exit id=>.exit id
def yKb {P Q c}(I:Nat→Act→World→Prop)(round:∀n a w,I n a w→c.wp P (Exit.then (fun a' w'=>∃m,m<n∧I m a' w') Q) a w){n a w}(h₀:I n a w):(Code.loop c).wp P Q a w:=by
 intro b k cs;have key:∀n a w,I n a w→∃e a' w',Q e a' w'∧Arrives P (lone (b.at a (.code c::.inLoop c::k)) cs w) b k cs e a' w':=by
  intro n
  induction n using Nat.strongRecOn with
  |_ n ih=>
   intro a w hI;obtain⟨e,a₁,w₁,hq,kK⟩:=round n a w hI b (.inLoop c::k) cs;cases e with
   |normal=>
    obtain⟨m,hm,hI₁⟩:=hq;obtain⟨e₂,a₂,w₂,hq₂,harr₂⟩:=ih m hm a₁ w₁ hI₁;exact⟨e₂,a₂,w₂,hq₂,.of_steps (Steps.trans kK (.one step_inLoop)) harr₂⟩
   |exit id=>exact⟨_,a₁,w₁,hq,.pass (x:=.inLoop c) rfl (by simp) kK⟩
   |goto l=>exact⟨_,a₁,w₁,hq,.pass (x:=.inLoop c) rfl (by simp) kK⟩
   |ret=>exact⟨_,a₁,w₁,hq,.pass (x:=.inLoop c) rfl (fun _ _=>.inl (by simp)) kK⟩
   |panic ch=>exact⟨_,a₁,w₁,hq,.pass (x:=.inLoop c) rfl (fun _ _=>.inl (by simp)) kK⟩
   |outgrown=>exact⟨_,a₁,w₁,hq,.pass (x:=.inLoop c) rfl (by simp) kK⟩
 obtain⟨e,a',w',hq,kK⟩:=key n a w h₀;exact⟨e,a',w',hq,.of_steps (.one step_loop) kK⟩
def N2 (tmps:Array Value):ResultVar→Sem Value
 |.tmp t=>pure (tmps.getD t undef)
 |.cell c t=>do loadVar t (←asAddr (tmps.getD c undef))
def A5 (base:Nat):(l:List (Ex×zE))→vy l→Ex×St
 |[],d=>(.normal,⟨fun _=>.undef,fun _=>none⟩)
 |[p],d=>(p.1,zN base p.2 d)
 |p::q::l,d=>match d with
  |.inl d=>(p.1,zN base p.2 d)
  |.inr d=>A5 base (q::l) d
def yNj {R base K}{out:R}:∀{l d},Du base l d K=some out→K (A5 base l d).1 (A5 base l d).2=some out
 |[p],_,h
 |p::q::l,.inl d,h=>h
 |p::q::l,.inr d,h=>yNj (l:=q::l) h
def Jc (base:Nat):(l:List zE)→rT l→St
 |[],_=>⟨fun _=>.undef,fun _=>none⟩
 |[S],d=>zN base S d
 |S::T::l,d=>match d with
  |.inl d=>zN base S d
  |.inr d=>Jc base (T::l) d
def yL7 {R base K}{out:R}:∀{l d},No base l d K=some out→K (Jc base l d)=some out
 |[S],_,h
 |S::T::l,.inl d,h=>h
 |S::T::l,.inr d,h=>yL7 (l:=T::l) h
def zS (P:Program)(pre na nt:Nat)(b:Code)(L:zT):Prop:=∀k d x,L.sum k d=some x→∀(a0:Nat→Value) (M0:zK) (w0:World) (a:Act) (w:World) (Q:Exit→Act→World→Prop),
 vZ false na nt a0 M0 w0 (Jc (pre+iw) L.ins d) a w→
 (∀(o:vy L.outs) a' w',(∀R K,L.elim (pre+iw) x R K=Du (pre+iw) L.outs o K)→vZ false na nt a0 M0 w0 (A5 (pre+iw) L.outs o).2 a' w'→Q (A5 (pre+iw) L.outs o).1.toExit a' w')→
 (Code.loop b).wp P Q a w
def wR (P:Program)(A:zW)(pre na nt:Nat):Code→Prop
 |.seq a b=>wR P A pre na nt a∧wR P A pre na nt b
 |.cond _ a b=>wR P A pre na nt a∧wR P A pre na nt b
 |.block _ b=>wR P A pre na nt b
 |.loop b=>(∀L,wc A b=some L→zS P pre na nt b L)∧(wc A b=none→wR P A pre na nt b)
 |_=>True
def yHd {A c b st}(h:st.ev c=.c (.bool b)):Np A c b st=st:=by
 unfold Np;split
 ·rw[UP h]
 ·rfl
section
variable {nl:Bool} {E:Env} {A:zW} {k pre na nt:Nat} {a0:Nat→Value} {R:Type} {M0:zK} {w0:World} {out:R}
def Vc {a w st}(r:vZ false na nt a0 M0 w0 st a w):∀{l x},Dt pre l st=some x→vZ false na nt a0 M0 w0 (Jc (pre+iw) l x) a w
 |[S],x,h=>N1 r h
 |S::T::l,x,h=>by
  unfold Dt at h;split at h
  ·rename_i d hd;cases h;exact N1 r hd
  ·split at h
   ·rename_i d hd;cases h;exact Vc r (l:=T::l) hd
   ·cases h
def yXh (hE:gC E)(hS:j7 E.sums)(hm:E.P.follows .mixedOrders=true)(NN:nl=true→A.loops=[]):∀c,wR E.P A pre na nt c→∀st K a w Q,kx E A k pre na nt c st K=some out→vZ nl na nt a0 M0 w0 st a w→
  (∀e bN a' w',vZ nl na nt a0 M0 w0 bN a' w'→K e bN=some out→Q e.toExit a' w')→c.wp E.P Q a w:=by
 intro c
 induction c with
 |skip=>exact fun _ st K a w Q h r hK=>wp_skip (hK .normal st a w r h)
 |region id ops draw=>
  intro _ st K a w Q h r hK;cases draw with
  |true=>
   cases he:Iw ops with
   |false=>simp only[kx,he] at h;cases h
   |true=>
    simp only[kx,he] at h;exact U4 hE hS hm he h r fun bN a' w' r' h'=>hK .normal bN a' w' r' h'
  |false=>
   have:=vB4 hE (Q:=Q) _ _ _ _ a w (by grind) h r fun bN a' w' r' h'=>hK .normal bN a' w' r' h'
   refine wp_region ?_;have e:(ops.toList.zipIdx.map fun p=>(p.2,p.1)).map (·.1)=List.range ops.size:=by
    rw[List.map_map];have e2:((fun x:Nat×Oper=>x.1)∘fun p:Oper×Nat=>(p.2,p.1))=Prod.snd:=rfl;rw[e2,List.zipIdx_map_snd,←List.range_eq_range'];simp
   simp_all
 |seq x y Vd Ve=>
  intro hL st K a w Q h r hK;simp only[kx] at h;refine wp_seq (Vd hL.1 st _ a w _ h r fun e bN a' w' r' h'=>?_);cases e with
  |normal=>exact Ve hL.2 bN K a' w' Q h' r' hK
  |ret=>exact hK .ret bN a' w' r' h'
  |exit id=>exact hK (.exit id) bN a' w' r' h'
 |cond c x y Vd Ve=>
  intro hL st K a w Q h r hK;simp only[kx] at h;split at h
  ·rename_i t ht;obtain⟨M,_,_,_,_,hv⟩:=r.ex;have hc:=yLv hv c;rw[ht] at hc;refine wp_cond (t:=t) hc ?_;cases t with
   |true=>
    rw[yHd ht,cond_true] at h;exact Vd hL.1 st K a w Q h r hK
   |false=>
    rw[yHd ht,cond_false] at h;exact Ve hL.2 st K a w Q h r hK
  ·cases h
 |block id b ih=>
  intro hL st K a w Q h r hK;simp only[kx] at h;refine wp_block (ih hL st _ a w _ h r fun e bN a' w' r' h'=>?_);cases e with
  |normal=>exact hK .normal bN a' w' r' h'
  |ret=>exact hK .ret bN a' w' r' h'
  |exit i=>
   show if i=id then Q .normal a' w' else Q (.exit i) a' w'
   dsimp only at h';cases e:Nat.beq i id with
   |true=>
    rw[e] at h';rw[if_pos (by simpa using e)];exact hK .normal bN a' w' r' h'
   |false=>
    rw[e] at h';rw[if_neg (fun e'=>by simp_all)];exact hK (.exit i) bN a' w' r' h'
 |loop b ih=>
  intro hL st K a w Q h r hK;simp only[kx] at h;split at h
  ·rename_i hN;refine yKb (fun n a w=>∃st,vZ nl na nt a0 M0 w0 st a w∧Te (kx E A k pre na nt b) n st K=some out) (fun n a w ⟨st,r,hi⟩=>?_) ⟨st,r,h⟩;cases n with
   |zero=>cases hi
   |succ n=>
    refine ih (hL.2 hN) st _ a w _ hi r fun e bN a' w' r' h'=>?_
    cases e with
    |normal=>exact⟨n,by simp,bN,r',h'⟩
    |ret=>exact hK .ret bN a' w' r' h'
    |exit id=>exact hK (.exit id) bN a' w' r' h'
  ·rename_i L hN;split at h
   ·cases h
   ·rename_i d hd;obtain⟨x,hx,h⟩:=Option.bind_eq_some_iff.1 h;cases nl with
    |true=>
     unfold wc at hN;grind
    |false=>exact hL.1 L hN k d x hx a0 M0 w0 a w Q (Vc r hd) fun o a' w' ho r'=>hK _ _ a' w' r' (yNj (by simp_all))
 |exit id=>exact fun _ st K a w Q h r hK=>wp_exit (hK (.exit id) st a w r h)
 |ret=>exact fun _ st K a w Q h r hK=>wp_ret (hK .ret st a w r h)
 |_=>nofun
def yHv {a b}(h:S8 a b=true):a=b:=by
 cases a<;>cases b<;>first|rfl|(cases h)|skip
 rw[Nat.eq_of_beq_eq_true h]
def yX4 {a w st e}(r:vZ false na nt a0 M0 w0 st a w):∀{l x},Iy pre l e st=some x→(A5 (pre+iw) l x).1=e∧vZ false na nt a0 M0 w0 (A5 (pre+iw) l x).2 a w
 |[p],x,h=>by
  obtain⟨he,h⟩:=nT h;exact⟨yHv he,N1 r h⟩
 |p::q::l,x,h=>by
  unfold Iy at h;split at h
  ·rename_i d hd;cases h;obtain⟨he,hd⟩:=nT hd;exact⟨yHv he,N1 r hd⟩
  ·split at h
   ·rename_i d hd;cases h;exact yX4 r (l:=q::l) hd
   ·cases h
def vNy (hE:gC E)(hS:j7 E.sums)(hm:E.P.follows .mixedOrders=true){b ins outs}(hL:wR E.P A pre na nt b){X} mQ elim (hX:∀o R K,elim (pre+iw) (mQ o) R K=Du (pre+iw) outs o K)
  (rec:Nat→Nat→rT ins→Option X) (h0:∀k d,rec k 0 d=none)
  (aK:∀k n d,rec k (n+1) d=No (pre+iw) ins d fun st=>kx E A k pre na nt b st (yIc pre ins outs mQ (rec k n))):zS E.P pre na nt b ⟨ins,outs,X,fun k d=>rec k k d,elim⟩:=by
 intro k d x hx a0 M0 w0 a w Q r hQ;refine yKb (fun n a w=>∃d,vZ false na nt a0 M0 w0 (Jc (pre+iw) ins d) a w∧rec k n d=some x) (fun n a w ⟨d,r,hi⟩=>?_) ⟨d,r,hx⟩;cases n with
 |zero=>simp_all
 |succ n=>
  rw[aK k n d] at hi;refine yXh hE hS hm (by simp) b hL _ _ a w _ (yL7 hi) r fun e bN a' w' r' h'=>?_
  have out:∀e,(match Iy pre outs e bN with|some o=>some (mQ o)|none=>none)=some x→Q e.toExit a' w':=fun e h'=>by
   split at h'
   ·rename_i o ho;obtain⟨h1,h2⟩:=yX4 (pre:=pre) r' ho;grind
   ·cases h'
  cases e with
  |normal=>
   have h':(match Dt pre ins bN with|some d=>rec k n d|none=>none)=some x:=h';split at h'
   ·rename_i d' hd;exact⟨n,by simp,d',Vc r' hd,h'⟩
   ·cases h'
  |ret=>exact out .ret h'
  |exit id=>exact out (.exit id) h'
def vQ3 fn tmps:results fn tmps=(do let vs←fn.results.mapM (N2 tmps);pure (if h:vs.size=1 then vs[0] else .tuple vs)):=rfl
def Vf (hE:gC E)(hS:j7 E.sums)(hm:E.P.follows .mixedOrders=true){st}{a:Act}{w x v M}(hM:M.h=st.h)(hH:M.H=w.heap)(ok:Ok M)(ht:∀t,zV M (st.t t) (a.tmps.getD t undef))(h:wg E st x=some v):
  ∃rv,(N2 a.tmps x).run E.P w=.ok rv w∧zV M v rv:=by
 unfold wg at h;split at h
 ·rename_i t;cases h;exact⟨_,rfl,ht t⟩
 ·rename_i c t;split at h
  ·rename_i id off hc;split at h
   ·split at h
    ·rename_i vs fm;have hv:=ht c;rw[hc] at hv;obtain⟨C,B,hC,hB,e⟩:=hv;obtain⟨C',aD,hO⟩:=ok.obj id _ (by rw[hM];omega);rw[hC] at aD;cases aD;obtain⟨B',kC,aF⟩:=yX6 hO;rw[hB] at kC;cases kC;obtain⟨rv2,nS,dr⟩:∃rv,(loadVar t ⟨B,0+off,none⟩).run E.P w=.ok rv w∧zV M v rv:=yZ2 ok hH aF fm h;refine⟨rv2,?_,dr⟩;simp  at nS;unfold N2;dsimp only;rw[e];simp[asAddr,nS]
    ·cases h
   ·cases h
  ·cases h
def vYh {M v p rv}(h:Dv v=some p)(hv:zV M v rv):wh M p rv:=by
 unfold Dv at h;split at h
 ·cases h;exact hv
 ·cases h;exact hv
 ·cases h
def yQr {M}:∀{vs xs rs},zM (fun a b=>Dv a=some b) vs xs→zM (zV M) vs rs→zM (wh M) xs rs
 |[],[],[],_,_=>trivial
 |_::_,_::_,_::_,h,k=>⟨vYh h.1 k.1,yQr h.2 k.2⟩
def yX8 {st}:∀(l:List ResultVar) xs,l.mapM (fun r=>(wg E st r).bind Dv)=some xs→∃vs,l.mapM (wg E st)=some vs∧vs.mapM Dv=some xs
 |[],xs,h=>by simp_all
 |x::l,xs,h=>by
  simp only[List.mapM_cons,Option.bind_eq_bind,Option.bind_eq_some_iff] at h;obtain⟨p,⟨v,h1,h2⟩,ps,h3,h4⟩:=h;obtain⟨vs,k1,k2⟩:=yX8 l ps h3;simp_all
def vZe (hE:gC E)(hS:j7 E.sums)(hm:E.P.follows .mixedOrders=true){fn st}{a:Act}{w v M}(hM:M.h=st.h)(hH:M.H=w.heap)(ok:Ok M)(ht:∀t,zV M (st.t t) (a.tmps.getD t undef))(h:Nq E fn st=some v):
  ∃rv,(results fn a.tmps).run E.P w=.ok rv w∧zV M v rv:=by
 have one:=fun x v=>Vf hE hS hm (x:=x) (v:=v) hM hH ok ht
 have key:∀(l:List ResultVar) (vs:List zX),l.mapM (wg E st)=some vs→∃rs:List Value,(l.mapM (N2 a.tmps)).run E.P w=.ok rs w∧zM (zV M) vs rs:=by
  intro l
  induction l with
  |nil=>exact fun vs h=>by simp at h;subst h;exact⟨[],rfl,trivial⟩
  |cons x l ih=>
   intro vs h;simp[Option.bind_eq_some_iff] at h;obtain⟨v,h1,TJ,h2,h3⟩:=h;cases h3;obtain⟨rv,k1,k2⟩:=one x v h1;obtain⟨rs,k3,k4⟩:=ih TJ h2;refine⟨rv::rs,?_,k2,k4⟩;simp_all
 have run:∀(vs:List zX),fn.results.toList.mapM (wg E st)=some vs→∃rs:List Value,(results fn a.tmps).run E.P w=.ok (if h:rs.length=1 then rs[0] else .tuple rs.toArray) w∧zM (zV M) vs rs:=fun vs h=>by
  obtain⟨rs,k1,k2⟩:=key _ vs h;refine⟨rs,?_,k2⟩;rw[vQ3,Array.mapM_eq_mapM_toList];simp_all
 unfold Nq at h;split at h
 ·cases h;obtain⟨rs,k1,k2⟩:=run [] (by simp_all);cases rs with
  |cons _ _=>exact k2.elim
  |nil=>exact⟨_,k1,#[],rfl,trivial⟩
 ·obtain⟨rs,k1,k2⟩:=run [v] (by simp_all)
  match rs,k2 with
  |[r],k2=>exact⟨_,k1,k2.1⟩
 ·split at h
  ·rename_i xs I2;cases h;obtain⟨vs,k1,k2⟩:=yX8 _ _ I2;obtain⟨rs,r1,r2⟩:=run vs k1;have hlen:rs.length≠1:=fun e=>by
    have e1:=r2.length;have e2:=(I1 _ _ _ k1).length;have h3:fn.results.toList.length=1:=by omega
    match hl:fn.results.toList,h3 with
    |[x],_=>simp_all
   rw[dif_neg hlen] at r1;exact⟨_,r1,rs.toArray,rfl,yQr (I1 _ _ _ k2) r2⟩
  ·cases h
def Vg (hE:gC E)(hS:j7 E.sums)(hm:E.P.follows .mixedOrders=true){f fn}(hf:E.P.funcs[f]? =some fn)(hL:∀c,fn.body=some c→wR E.P A pre na fn.ntmps c){args h K}(aN:ky E A k pre na fn args h K=some out){M w vs}(hh:M.h=h)(hH:M.H=w.heap)(ok:Ok M)
  (hv:zM (zV M) args vs.toList):Calls E.P f vs w fun
   |.returned rv,w'=>∃(M':zK) (v:zX) (st:St),K v st=some out∧M'.h=st.h∧M'.H=w'.heap∧Ok M'∧j8 M M'∧(A.loops=[]→ga M M')∧zV M' v rv∧w'.os=w.os∧w'.tape=w.tape∧w'.output=w.output∧
     (∀t,t<na→zV M' (st.t t) (vs.getD t undef))
   |_,_=>False:=by
 unfold ky at aN;cases hb:fn.body with
 |none=>simp_all
 |some c=>
  rw[hb] at aN;dsimp only at aN;cases hle:Nat.ble args.length fn.ntmps with
  |false=>simp_all
  |true=>
   rw[hle] at aN;rw[cond_true] at aN;have hl:=hv.length;have hle:args.length≤fn.ntmps:=Nat.le_of_ble_eq_true hle;have dX:vs.size≤fn.ntmps:=by simp at hl;omega
   have Jd:∀t,zV M (Nr args t) ((vs++Array.replicate (fn.ntmps-vs.size) undef).getD t undef):=fun t=>by
    unfold Nr;by_cases ht:t<args.length
    ·have Vh:t<vs.size:=by simp at hl;omega
     have:=hv.get t ht (by simpa using Vh);simp only[List.getD_eq_getElem?_getD,List.getElem?_eq_getElem ht,Option.getD_some];simp only[Array.getD_eq_getD_getElem?,Array.getElem?_append_left Vh,Array.getElem?_eq_getElem Vh,Option.getD_some]
     simpa using this
    ·simp only[List.getD_eq_getElem?_getD,List.getElem?_eq_none (Nat.not_lt.1 ht),Option.getD_none];show _=undef;simp;grind
   have r:vZ A.loops.isEmpty na fn.ntmps (fun t=>(vs++Array.replicate (fn.ntmps-vs.size) undef).getD t undef) M w {t:=Nr args,h:=h} {tmps:=vs++Array.replicate (fn.ntmps-vs.size) undef,defers:=[]} w:=
    ⟨⟨M,hh,hH,ok,⟨.refl M,fun _ _ C h=>⟨C,h,rfl⟩⟩,Jd⟩,rfl,by simp;omega,rfl,rfl,rfl,fun _ _=>rfl⟩
   refine calls_of_wp hf hb (yXh hE hS hm (by simp) c (hL c hb) _ _ _ _ _ aN r fun e bN a' w' r' hK=>?_);obtain⟨M',q1,q2,q3,q4,q5⟩:=r'.ex;have fin:∀v,Nq E fn bN=some v→K v bN=some out→a'.defers=[]∧∃rv,(results fn a'.tmps).run E.P w'=.ok rv w'∧∃(M':zK) (v:zX) (st:St),K v st=some out∧M'.h=st.h∧M'.H=w'.heap∧Ok M'∧j8 M M'∧(A.loops=[]→ga M M')∧zV M' v rv∧w'.os=w.os∧w'.tape=w.tape∧w'.output=w.output∧
     (∀t,t<na→zV M' (st.t t) (vs.getD t undef)):=fun v kL hK=>by
    obtain⟨rv,k1,k2⟩:=vZe hE hS hm q1 q2 q3 q5 kL;refine⟨r'.defers,rv,k1,M',v,bN,hK,q1,q2,q3,q4.g,fun h=>q4.k (by grind),k2,r'.os,r'.tape,r'.output,fun t ht=>?_⟩;have:=q5 t;rw[r'.keep t ht] at this;have e:(vs++Array.replicate (fn.ntmps-vs.size) undef).getD t undef=vs.getD t undef:=by
     by_cases h1:t<vs.size
     ·simp[Array.getD_eq_getD_getElem?,Array.getElem?_append_left h1]
     ·simp;grind
    simp_all
   cases e with
   |exit id=>cases hK
   |normal=>
    dsimp only at hK;split at hK
    ·rename_i v kL;exact fin v kL hK
    ·cases hK
   |ret=>
    dsimp only at hK;split at hK
    ·rename_i v kL;exact fin v kL hK
    ·cases hK
end
inductive PC where
 |int (k:IntKind)|bool|dat (sh:Bool) (t:Ty)|fn (f:Nat)
 |nil|nilp
abbrev PC.den:PC→Type
 |.int _=>Int|.bool=>Bool|.dat _ t=>List t.den|.fn _=>Unit|.nil=>Unit|.nilp=>Unit
abbrev PL:List PC→Type
 |[]=>Unit
 |p::l=>p.den×PL l
inductive AS where
 |c (p:PC)|agg (l:List PC)|ptr (l:List PC)|fn (f:Nat) (bC:List (List PC))
def AS.cells:AS→List PC
 |.c p=>[p]
 |.agg l=>l
 |.ptr l=>l
 |.fn _ bC=>bC.flatten
abbrev AD (l:List AS):Type:=PL (l.flatMap AS.cells)
def A6 (h:Hp)(t:Ty):zZ→Option (List t.den)
 |.nsl=>some []
 |c=>match ku h c with
  |some ⟨s,xs⟩=>im s t xs
  |none=>none
def uc (h:Hp):(p:PC)→zZ→Option p.den
 |.int k,.int j n=>bif gw j k then some n else none
 |.bool,.bool b=>some b
 |.dat false t,c=>A6 h t c
 |.dat true t,.fsl true s xs=>im s t xs
 |.dat true t,.nsl=>some []
 |.fn f,.fn g []=>bif Nat.beq f g then some () else none
 |.nil,.nsl=>some ()
 |.nilp,.nilp=>some ()
 |_,_=>none
def A7 (h:Hp):(l:List PC)→List zZ→Option (PL l)
 |[],[]=>some ()
 |p::l,c::cs=>match uc h p c,A7 h l cs with
  |some d,some ds=>some (d,ds)
  |_,_=>none
 |_,_=>none
def DZ (h:Hp)(id:Nat):Option (List zZ):=match h id with
 |some (.box _ cells)=>some cells
 |some (.robox cells)=>some cells
 |_=>none
def ud (h:Hp):List (List PC)→List Nat→Option (List zZ)
 |[],[]=>some []
 |l::ls,id::ids=>match DZ h id,ud h ls ids with
  |some cells,some rest=>bif Nat.beq cells.length l.length then some (cells++rest) else none
  |_,_=>none
 |_,_=>none
def AS.get (h:Hp):AS→zX→Option (List zZ)
 |.c _,.c x=>some [x]
 |.agg l,.agg xs=>bif Nat.beq xs.length l.length then some xs else none
 |.ptr l,.c (.ptr id 0)=>ud h [l] [id]
 |.fn f bC,.c (.fn g ids)=>bif Nat.beq f g then ud h bC ids else none
 |_,_=>none
def su (h:Hp):List AS→List zX→Option (List zZ)
 |[],[]=>some []
 |s::l,a::as=>match s.get h a,su h l as with
  |some cs,some rest=>some (cs++rest)
  |_,_=>none
 |_,_=>none
def A8 (h:Hp) l (as:List zX):Option (AD l):=match su h l as with
 |some cs=>A7 h (l.flatMap AS.cells) cs
 |none=>none
def D4:(p:PC)→p.den→zZ
 |.int k,n=>.int k n
 |.bool,b=>.bool b
 |.dat sh t,xs=>.fsl sh t xs
 |.fn f,_=>.fn f []
 |.nil,_=>.nsl
 |.nilp,_=>.nilp
def wD:(l:List PC)→PL l→List zZ
 |[],_=>[]
 |p::l,d=>D4 p d.1::wD l d.2
def N3:List (List PC)→List zZ→List (List zZ)
 |[],_=>[]
 |l::ls,cs=>cs.take l.length::N3 ls (cs.drop l.length)
def AS.mk (n:Nat)(cs:List zZ):AS→zX
 |.c _=>match cs with|x::_=>.c x|[]=>.undef
 |.agg _=>.agg cs
 |.ptr _=>.c (.ptr n 0)
 |.fn f bC=>.c (.fn f ((List.range bC.length).map (n+·)))
def AS.boxes (cs:List zZ):AS→List (List zZ)
 |.ptr _=>[cs]
 |.fn _ bC=>N3 bC cs
 |_=>[]
def lY:List AS→List zZ→Nat→List zX×List (List zZ)
 |[],_,_=>([],[])
 |s::l,cs,n=>
  let aq:=cs.take s.cells.length;let bs:=s.boxes aq;let rest:=lY l (cs.drop s.cells.length) (n+bs.length)
  (s.mk n aq::rest.1,bs++rest.2)
def lZ (bs:List (List zZ)):Hp:=fun n=>match bs[n]? with
 |some cells=>some (.robox cells)
 |none=>none
def pY l (d:AD l):List zX×Hp:=
 let r:=lY l (wD (l.flatMap AS.cells) d) 0
 (r.1,lZ r.2)
inductive RC where
 |int (k:IntKind)|bool|fro (t:Ty)|own (t:Ty)|mat
 |jun
 |map
 |nilp|link (j:Nat)|nil
abbrev RC.den:RC→Type
 |.int _=>Int|.bool=>Bool|.fro t=>List t.den|.own t=>List t.den|.mat=>List (List Int)|.jun=>Nat|.map=>List (Int×Bool)|.nilp=>Unit|.link _=>Unit|.nil=>Unit
abbrev RL:List RC→Type
 |[]=>Unit
 |r::l=>r.den×RL l
inductive RS where
 |c (r:RC)|agg (l:List RC)|tup (l:List (Bool×List RC))
def RS.cells:RS→List RC
 |.c r=>[r]
 |.agg l=>l
 |.tup l=>l.flatMap (·.2)
def Vi:List (Bool×List RC)→List (Bool×List zZ)→Option (List zZ)
 |[],[]=>some []
 | (b, l) :: ls, (g, cs) :: rest => bif (bif b then g else !g && Nat.beq cs.length 1) && Nat.beq cs.length l.length then (match Vi ls rest with
   |some r=>some (cs++r)
   |none=>none) else none
 |_,_=>none
def RS.get:RS→zX→Option (List zZ)
 |.c _,.c x=>some [x]
 |.agg l,.agg xs=>bif Nat.beq xs.length l.length then some xs else none
 |.tup l,.tup xs=>Vi l xs
 |_,_=>none
def Vj:List (Bool×List RC)→List zZ→List (Bool×List zZ)
 |[],_=>[]
 |(b,l)::ls,cs=>(b,cs.take l.length)::Vj ls (cs.drop l.length)
def RS.mk (cs:List zZ):RS→zX
 |.c _=>match cs with|x::_=>.c x|[]=>.undef
 |.agg _=>.agg cs
 |.tup l=>.tup (Vj l cs)
def gD (h:Hp):List Bool→List zZ→Option (List zZ×vL)
 |true::l,c::cs=>match oO h c,gD h l cs with
  |some (c,u),some (cs,us)=>some (c::cs,u++us)
  |_,_=>none
 |false::l,c::cs=>match gD h l cs with
  |some (cs,us)=>some (c::cs,us)
  |none=>none
 |_,cs=>some (cs,[])
def RC.isFro:RC→Bool
 |.fro _=>true
 |_=>false
def PC.isKept:PC→Bool
 |.dat true _=>true
 |_=>false
def pZ (h:Hp):(r:RC)→zZ→Option r.den
 |.int k,.int j n=>bif gw j k then some n else none
 |.bool,.bool b=>some b
 |.fro t,.fsl true s xs=>im s t xs
 |.fro t,.nsl=>some []
 |.own t,.osl id none=>match h id with
  |some (.arr true s xs)=>im s t xs
  |_=>none
 |.own t,.osl id (some (0,n))=>match h id with
  |some (.arr true s xs)=>im s t (xs.take n)
  |_=>none
 |.own t,.nsl=>some []
 |.mat,.osl id none=>match h id with
  |some (.mat _ xs)=>some xs
  |some (.pmat _ xs n)=>bif Nat.beq xs.length n then some xs else none
  |_=>none
 |.mat,.nsl=>some []
 |.jun,.osl id none=>match h id with
  |some (.arr true (.sl (.int .i64)) xs)=>some xs.length
  |_=>none
 |.jun,.nsl=>some 0
 |.map,.map id=>match h id with
  |some (.imap de)=>some de
  |_=>none
 |.nilp,.nilp=>some ()
 |.link _,.ptr _ 0=>some ()
 |.nil,.nsl=>some ()
 |_,_=>none
def kM (h:Hp):(l:List RC)→List zZ→Option (RL l)
 |[],[]=>some ()
 |r::l,c::cs=>match pZ h r c,kM h l cs with
  |some d,some ds=>some (d,ds)
  |_,_=>none
 |_,_=>none
def wK:List RC→List zZ→List Nat
 |.own _::l,.osl id _::cs=>id::wK l cs
 |.mat::l,.osl id _::cs=>id::wK l cs
 |.jun::l,.osl id _::cs=>id::wK l cs
 |.map::l,.map id::cs=>id::wK l cs
 |_::l,_::cs=>wK l cs
 |_,_=>[]
def Je (h:Hp)(s:RS)(v:zX):Option (RL s.cells):=match s.get v with
 |some cs=>match gD h (s.cells.map RC.isFro) cs with
  |some (cs,u)=>bif tC (wK s.cells cs) then kM (qK h u) s.cells cs else none
  |none=>none
 |none=>none
def ng (rs:RS){X:Type}(unpack:RL rs.cells→X)(v:zX)(st:St):Option X:=match Je st.h rs v with
 |some d=>some (unpack d)
 |none=>none
def sv (nm:Nat):(r:RC)→r.den→zZ×vL
 |.int k,n=>(.int k n,[])
 |.bool,b=>(.bool b,[])
 |.fro t,xs=>(.fsl true t xs,[])
 |.own t,xs=>(.osl nm none,[(nm,.arr true t xs)])
 |.mat,xs=>(.osl nm none,[(nm,.mat 0 xs)])
 |.jun,n=>(.osl nm none,[(nm,.pmat 0 [] n)])
 |.map,de=>(.map nm,[(nm,.imap de)])
 |.nilp,_=>(.nilp,[])
 |.link _,_=>(.undef,[])
 |.nil,_=>(.nsl,[])
def oZ (nm:Nat):(l:List RC)→RL l→List zZ×vL
 |[],_=>([],[])
 |r::l,d=>
  let x:=sv nm r d.1;let y:=oZ (nm+1) l d.2
  (x.1::y.1,x.2++y.2)
def yOn (nm:Nat)(s:RS)(d:RL s.cells):zX×vL:=
 let r:=oZ nm s.cells d
 (s.mk r.1,r.2)
def w6 (h:Hp):Nat→Nat→Bool
 |_,0=>true
 |nm,n+1=>(match h nm with|none=>true|some _=>false)&&w6 h (nm+1) n
def w7 (h:Hp):AS→zX→Option (zX×vL)
 |.c p,.c x=>match gD h [p.isKept] [x] with
  |some ([x],u)=>some (.c x,u)
  |_=>none
 |.agg l,.agg xs=>match gD h (l.map PC.isKept) xs with
  |some (xs,u)=>some (.agg xs,u)
  |none=>none
 |_,a=>some (a,[])
def sw (h:Hp):List AS→List zX→Option (List zX×vL)
 |s::l,a::as=>match w7 h s a,sw h l as with
  |some (a,u),some (as,us)=>some (a::as,u++us)
  |_,_=>none
 |_,as=>some (as,[])
def o0 as (rs:RS){X}(S:AD as→Option X)(pack:X→RL rs.cells)(nm:Nat)(args:List zX)(h:Hp):yU:=
 match sw h as args with
 |none=>.stuck
 |some (args,u)=>match A8 (qK h u) as args with
  |some d=>bif w6 h nm rs.cells.length&&Nat.ble rs.cells.length 100 then .call X (S d) (fun r=>((yOn nm rs (pack r)).1,u++(yOn nm rs (pack r)).2)) else .stuck
  |none=>.stuck
structure Lo (M Ml:zK):Prop where
 H:Ml.H=M.H
 F:Ml.F=fun b=>b<M.H.size
 G:Ml.G=M.G
def Vk {M M':zK}(ok:Ok M')(hH:M'.H=M.H){t}{xs:List t.den}{v}(h:qF M'.H M'.G (.sl t) xs (fun _=>some v)):qF M.H (fun b=>b<M.H.size) (.sl t) xs (fun _=>some v):=by
 refine vE (fun b hb=>?_) (by grind) _ _ _ _ (by simp) h;have:=ok.Flt b (ok.GF b hb);simp_all
def vJq {M}(ok:Ok M){c v t xs}(hv:zY M c v)(h:ku M.h c=some ⟨t,xs⟩):qF M.H (fun b=>b<M.H.size) (.sl t) xs (fun _=>some v):=by
 unfold ku at h;split at h
 ·rename_i sh s ys;cases h;cases sh with
  |true=>exact vE (fun b hb=>ok.Flt b (ok.GF b hb)) (by simp) _ _ _ _ (fun _ _=>rfl) hv
  |false=>exact vE (fun b hb=>ok.Flt b hb) (by simp) _ _ _ _ (fun _ _=>rfl) hv
 ·rename_i id r;split at h
  ·rename_i own s ys an;cases h;cases own with
   |false=>
    obtain⟨C,hC,hO⟩:=ok.obj _ _ an;exact Vk ok rfl (AE hC hO hv)
   |true=>
    obtain⟨M',h1,h2,h3,h4⟩:=ySn ok an;obtain⟨C,hC,hO⟩:=h3.obj id _ (by rw[h2];exact yO _ _ _);exact Vk h3 h1 (AE hC hO (hv.ext h4.ext))
  ·rename_i ver ys an;cases r with
   |some p=>cases h
   |none=>
    cases h;obtain⟨M',h1,h2,h3,h4⟩:=yVq ok an;obtain⟨C,hC,hO⟩:=h3.obj id _ (by rw[h2];exact yO _ _ _);exact Vk h3 h1 (AE (r:=none) hC hO (hv.ext h4.ext))
  ·cases h
 ·rename_i id i ver;split at h
  ·rename_i v' ys an;cases fZ:Nat.beq v' ver with
   |false=>simp_all
   |true=>
    rw[fZ] at h;cases h;have e:v'=ver:=by simpa using fZ
    subst e;obtain⟨C,hC,hO⟩:=ok.obj _ _ an;obtain⟨C',aD,cq,_,aR⟩:=hv;rw[hC] at aD;cases aD;obtain⟨rb,rl,wo,sn⟩:=aR hO.1;by_cases hi:i<ys.length
    ·obtain⟨B,pQ,v2,k1,k2,k3,k4,k5,k6⟩:=Dz hO hi;rw[wo] at k3;cases k3;rw[show ys.getD i []=ys[i] by simp_all];simp only[qF];cases rb with
     |none=>
      obtain⟨rfl,h0⟩:=sn;grind
     |some R=>
      obtain⟨a,c,rfl,h1,h2,h3⟩:=sn;refine⟨_,_,c,rfl,rfl,h1,?_⟩;by_cases h0:ys[i].length=0
      ·simp_all
      ·have ha:a=0:=by omega
       subst ha;refine .inr ⟨R,0,rfl,?_,fun j hj=>?_⟩
       ·have:=k6 R rfl 0 (by omega);unfold yT at this;grind
       ·simp only[Ty.size];simp_all
    ·have:C.rows[i]? =none:=List.getElem?_eq_none (by have:=hO.2.2.2.1;omega);simp_all
  ·cases h
 ·cases h
def Jf {H F t}:qF H F (.sl t) ([]:List t.den) (fun _=>some (.slice none 0 0)):=⟨none,0,0,rfl,rfl,by simp,by simp⟩
def Vl {M}(ok:Ok M){c v t xs}(hv:zY M c v)(h:A6 M.h t c=some xs):qF M.H (fun b=>b<M.H.size) (.sl t) xs (fun _=>some v):=by
 unfold A6 at h;split at h
 ·cases h;rw[show v=.slice none 0 0 from hv];exact Jf
 ·split at h
  ·rename_i s ys hr;obtain⟨e,hx⟩:=lA h;subst e;subst hx;exact vJq ok hv hr
  ·cases h
def Tr (M:zK)(c c':zZ):Prop:=∀v Ml,Lo M Ml→zY M c v→zY Ml c' v
def Vm {M}(ok:Ok M){p c d}(h:uc M.h p c=some d):Tr M c (D4 p d):=by
 intro v Ml lo hv;unfold uc at h;split at h
 ·rename_i k j n;cases e:gw j k with
  |false=>simp_all
  |true=>rw[e] at h;cases h;rw[←tx e];exact hv
 ·cases h;exact hv
 ·have:=Vl ok hv h;show qF Ml.H Ml.F _ _ _;rw[lo.H,lo.F];omega
 ·obtain⟨e,hx⟩:=lA h;subst e;subst hx;show qF Ml.H Ml.G _ _ _;rw[lo.H,lo.G];exact hv
 ·cases h;rw[show v=.slice none 0 0 from hv];exact Jf
 ·rename_i f g;cases e:Nat.beq f g with
  |false=>simp_all
  |true=>
   have:f=g:=by simp_all
   subst this;obtain⟨cv,rfl,hc⟩:=hv;refine⟨cv,rfl,?_⟩;generalize cv.toList=l at hc;cases l with
   |nil=>trivial
   |cons _ _=>exact hc.elim
 ·exact hv
 ·exact hv
 ·cases h
def yM3 {M}(ok:Ok M):∀{l cs d},A7 M.h l cs=some d→zM (Tr M) cs (wD l d)
 |[],[],_,_=>trivial
 |p::l,c::cs,d,h=>by
  unfold A7 at h;split at h
  ·rename_i x xs h1 h2;cases h;exact⟨Vm ok h1,yM3 ok h2⟩
  ·cases h
def Vn {M Ml}(lo:Lo M Ml):∀{cs aP vs},zM (Tr M) cs aP→zM (zY M) cs vs→zM (zY Ml) aP vs
 |[],[],[],_,_=>trivial
 |_::_,_::_,_::_,h,k=>⟨h.1 _ _ lo k.1,Vn lo h.2 k.2⟩
def w8 (M:zK)(C:qB)(cells:List zZ):Prop:=∃B vals e,C.blk=some B∧C.rows=[]∧M.H[B]? =some (.cells vals e (0,0))∧zM (zY M) cells vals.toList
def yLs {M}(ok:Ok M){id cells}(h:DZ M.h id=some cells):∃C,M.κ id=some C∧w8 M C cells:=by
 unfold DZ at h;split at h
 ·rename_i own cs an;cases h;obtain⟨C,hC,B,vals,e,h1,h2,h3,h4,_⟩:=ok.obj id _ an;exact⟨C,hC,B,vals,e,h1,h2,h3,h4⟩
 ·rename_i cs an;cases h;obtain⟨C,hC,B,vals,e,h1,h2,h3,h4,_⟩:=ok.obj id _ an;exact⟨C,hC,B,vals,e,h1,h2,h3,h4⟩
 ·cases h
def w8.tr {M Ml}(lo:Lo M Ml){C cs aP}(h:w8 M C cs)(ht:zM (Tr M) cs aP):w8 Ml C aP:=by
 obtain⟨B,vals,e,h1,h2,h3,h4⟩:=h;exact⟨B,vals,e,h1,h2,by rw[lo.H];exact h3,Vn lo ht h4⟩
def Vo {M}(ok:Ok M):∀{ls ids cs aP},ud M.h ls ids=some cs→zM (Tr M) cs aP→cs.length=ls.flatten.length∧ids.length=ls.length∧
  ∃Cs:List qB,zM (fun id C=>M.κ id=some C) ids Cs∧∀Ml,Lo M Ml→zM (w8 Ml) Cs (N3 ls aP)
 |[],[],cs,aP,h,ht=>by cases h;exact⟨rfl,rfl,[],trivial,fun _ _=>trivial⟩
 |l::ls,id::ids,cs,aP,h,ht=>by
  unfold ud at h;split at h
  ·rename_i cells rest h1 h2;obtain⟨hl,h⟩:cells.length=l.length∧cells++rest=cs:=by
    cases e:Nat.beq cells.length l.length with
    |false=>simp_all
    |true=>simp_all
   subst h;have o6:=zM.take l.length ht;have nU:=zM.drop l.length ht;rw[←hl,List.take_left] at o6;rw[←hl,List.drop_left] at nU;obtain⟨C,hC,hB⟩:=yLs ok h1;obtain⟨k1,k2,Cs,k3,k4⟩:=Vo ok h2 nU;refine⟨by simp_all,by simp[k2],C::Cs,⟨hC,k3⟩,fun Ml lo=>⟨?_,?_⟩⟩
   ·rw[←hl];exact hB.tr lo o6
   simp_all
  ·cases h
def vN2 {M}(ok:Ok M){s:AS}{a v cs aP n}(hv:zV M a v)(h:s.get M.h a=some cs)(ht:zM (Tr M) cs aP):
  ∃Cs:List qB,(∀Ml,Lo M Ml→zM (w8 Ml) Cs (s.boxes aP))∧(∀Ml,Lo M Ml→(∀i C,Cs[i]? =some C→Ml.κ (n+i)=some C)→zV Ml (s.mk n aP) v):=by
 unfold AS.get at h;split at h
 ·cases h
  match aP,ht with
  |[c'],ht=>exact⟨[],fun _ _=>trivial,fun Ml lo _=>ht.1 v Ml lo hv⟩
 ·rename_i l xs;cases e:Nat.beq xs.length l.length with
  |false=>simp_all
  |true=>
   rw[e] at h;cases h;obtain⟨vs,rfl,hx⟩:=hv;exact⟨[],fun _ _=>trivial,fun Ml lo _=>⟨vs,rfl,Vn lo ht hx⟩⟩
 ·rename_i l id;have:=Vo ok h ht;obtain⟨k1,k2,Cs,k3,k4⟩:=this;obtain⟨C,B,hC,hB,e⟩:=hv;have hl:aP.length=l.length:=by rw[←ht.length,k1];simp
  match Cs,k3 with
  |[C'],k3=>
   have e':C'=C:=by
    have:M.κ id=some C':=k3.1;simp_all
   subst e';refine⟨[C'],fun Ml lo=>?_,fun Ml lo hκ=>⟨C',B,hκ 0 C' rfl,hB,e⟩⟩;have:=k4 Ml lo;simp[N3] at this;rw[List.take_of_length_le (by omega)] at this;exact this
 ·rename_i f bC g ids;cases e:Nat.beq f g with
  |false=>simp_all
  |true=>
   rw[e] at h;have Vp:f=g:=by simp_all
   subst Vp;obtain⟨k1,k2,Cs,k3,k4⟩:=Vo ok h ht;refine⟨Cs,k4,fun Ml lo hκ=>?_⟩;obtain⟨cv,rfl,hc⟩:=hv;refine⟨cv,rfl,?_⟩;have l1:=k3.length;have l2:=hc.length;refine zM.of_get (by simp_all) fun i h1 h2=>?_
   simp;have hi:i<ids.length:=by omega
   have bJ:i<Cs.length:=by omega
   obtain⟨C,B,q1,q2,q3⟩:=hc.get i hi h2;have q4:=k3.get i hi bJ;simp_all
 ·cases h
def Vq {h}:∀{ls ids cs},ud h ls ids=some cs→cs.length=ls.flatten.length
 |[],[],cs,e=>by cases e;rfl
 |l::ls,id::ids,cs,e=>by
  unfold ud at e;split at e
  ·rename_i cells rest h1 h2;cases el:Nat.beq cells.length l.length with
   |false=>simp_all
   |true=>
    rw[el] at e;cases e;have:cells.length=l.length:=by simp_all
    simp[this,Vq h2]
  ·cases e
def vIj {h}{s:AS}{a cs}(e:s.get h a=some cs):cs.length=s.cells.length:=by
 unfold AS.get at e;split at e
 ·cases e;rfl
 ·rename_i l xs;cases el:Nat.beq xs.length l.length with
  |false=>simp_all
  |true=>rw[el] at e;cases e;exact Nat.eq_of_beq_eq_true el
 ·rw[Vq e];simp[AS.cells]
 ·rename_i f bC g ids;cases el:Nat.beq f g with
  |false=>simp_all
  |true=>rw[el] at e;exact Vq e
 ·cases e
def yU6 {M}(ok:Ok M):∀{l as vs cs aP n},zM (zV M) as vs→su M.h l as=some cs→zM (Tr M) cs aP→
  ∃Cs:List qB,(∀Ml,Lo M Ml→zM (w8 Ml) Cs (lY l aP n).2)∧(∀Ml,Lo M Ml→(∀i C,Cs[i]? =some C→Ml.κ (n+i)=some C)→zM (zV Ml) (lY l aP n).1 vs)
 |[],[],[],cs,aP,n,_,_,_=>⟨[],fun _ _=>trivial,fun _ _ _=>trivial⟩
 |s::l,a::as,v::vs,cs,aP,n,hv,h,ht=>by
  unfold su at h;split at h
  ·rename_i mX rest h1 h2;cases h;have hl:=vIj h1;have o6:=zM.take s.cells.length ht;have nU:=zM.drop s.cells.length ht;rw[←hl,List.take_left,hl] at o6;rw[←hl,List.drop_left,hl] at nU;obtain⟨C1,k1,k2⟩:=vN2 ok (n:=n) hv.1 h1 o6;obtain⟨C2,k3,k4⟩:=yU6 ok (n:=n+(s.boxes (aP.take s.cells.length)).length) hv.2 h2 nU;refine⟨C1++C2,fun Ml lo=>(k1 Ml lo).append (k3 Ml lo),fun Ml lo hκ=>⟨k2 Ml lo fun i C hi=>hκ i C ?_,k4 Ml lo fun i C hi=>?_⟩⟩
   ·grind
   ·have hb:=(k1 Ml lo).length;have:=hκ (C1.length+i) C (by grind);grind
  ·cases h
def zK.below (M:zK)(Cs:List qB)(bs:List (List zZ)):zK:={κ:=fun n=>Cs[n]?,F:=fun b=>b<M.H.size,G:=M.G,h:=lZ bs,H:=M.H}
def zK.below_lo M Cs bs:Lo M (M.below Cs bs):=⟨rfl,rfl,rfl⟩
def zK.below_ok {M}(ok:Ok M){Cs bs}(h:zM (w8 (M.below Cs bs)) Cs bs):Ok (M.below Cs bs)∧∀b,¬qO (M.below Cs bs) b:=by
 have hr:∀id o,(M.below Cs bs).h id=some o→∃cells,bs[id]? =some cells∧o=.robox cells:=fun id o e=>by
  have e:lZ bs id=some o:=e;unfold lZ at e;grind
 have Jg:∀b,¬qO (M.below Cs bs) b:=fun b ⟨id,o,C,h1,h2,_,_⟩=>by
  obtain⟨cells,_,rfl⟩:=hr id o h1;cases h2
 refine⟨⟨fun id o e=>?_,fun id e=>?_,fun i j oi oj Ci Cj b _ h1 _ h3 _ _ _ _ _=>?_,by grind,fun b hb=>ok.Flt b (ok.GF b hb),fun b hb=>hb⟩,Jg⟩
 ·obtain⟨cells,hc,rfl⟩:=hr id o e;have bm:id<bs.length:=by
   grind
  have kz:id<Cs.length:=by rw[h.length];omega
  obtain⟨B,vals,ev,q1,q2,q3,q4⟩:=h.get id kz bm;rw[List.getElem?_eq_getElem bm] at hc;cases hc;refine⟨Cs[id],List.getElem?_eq_getElem kz,B,vals,ev,q1,q2,q3,q4,?_⟩;exact(Array.getElem?_eq_some_iff.1 q3).1
 ·have e:lZ bs id=none:=e;unfold lZ at e;split at e
  ·cases e
  ·rename_i hc;show Cs[id]? =none;rw[List.getElem?_eq_none_iff] at hc⊢;rw[h.length];exact hc
 ·obtain⟨cells,_,rfl⟩:=hr i oi h1;cases h3
def vS5 {M}(ok:Ok M){l as vs d}(hv:zM (zV M) as vs)(h:A8 M.h l as=some d):
  ∃Ml:zK,Lo M Ml∧Ml.h=(pY l d).2∧Ok Ml∧(∀b,¬qO Ml b)∧zM (zV Ml) (pY l d).1 vs:=by
 unfold A8 at h;split at h
 ·rename_i cs hg;obtain⟨Cs,h1,h2⟩:=yU6 ok (n:=0) hv hg (yM3 ok h);have lo:=M.below_lo Cs (lY l (wD (l.flatMap AS.cells) d) 0).2;have:=zK.below_ok ok (h1 _ lo);exact⟨_,lo,rfl,this.1,this.2,h2 _ lo fun i C hi=>by rw[Nat.zero_add];exact hi⟩
 ·cases h
def w9 {h0}:∀{l cs aP vs u M},Ok M→jH h0 M.h→zM (zY M) cs vs→gD h0 l cs=some (aP,u)→
  ∃L:zK,L.H=M.H∧L.h=qK M.h u∧Ok L∧vG M L∧zM (zY L) aP vs∧jH h0 L.h
 |[],cs,aP,vs,u,M,ok,hf,hc,h=>by
  cases cs<;>cases h<;>exact⟨M,rfl,rfl,ok,.refl M,hc,hf⟩
 |true::l,[],aP,vs,u,M,ok,hf,hc,h
 |false::l,[],aP,vs,u,M,ok,hf,hc,h=>by cases h;exact⟨M,rfl,rfl,ok,.refl M,hc,hf⟩
 |true::l,c::cs,aP,v::vs,u,M,ok,hf,hc,h=>by
  unfold gD at h;split at h
  ·rename_i c1 u1 mX rZ e1 e2;cases h;obtain⟨M1,h1,h2,h3,h4,h5,h6,_⟩:=IC ok hf hc.1 e1;obtain⟨M2,k1,k2,k3,k4,k5,k6⟩:=w9 h3 h6 (hc.2.mono fun _ _ h=>h.ext h4.ext) e2;exact⟨M2,k1.trans h1,by rw[k2,h2,lz],k3,h4.trans k4,⟨h5.ext k4.ext,k5⟩,k6⟩
  ·cases h
 |false::l,c::cs,aP,v::vs,u,M,ok,hf,hc,h=>by
  unfold gD at h;split at h
  ·rename_i mX rZ e2;cases h;obtain⟨M2,k1,k2,k3,k4,k5,k6⟩:=w9 ok hf hc.2 e2;exact⟨M2,k1,k2,k3,k4,⟨hc.1.ext k4.ext,k5⟩,k6⟩
  ·cases h
def zK.add (M:zK)(nm:Nat)(o:Obj)(C:qB):zK:={M with κ:=κset M.κ nm C,h:=yG M.h nm o}
def zK.add_ok {M}(ok:Ok M){nm}(aS:M.h nm=none){o C}(hO:vB (M.add nm o C) o C)(hb:∀b∈C.fp,¬qO M b∧¬M.F b∧b<M.H.size):
  Ok (M.add nm o C)∧yQ M (M.add nm o C)∧(∀b,qO (M.add nm o C) b→qO M b∨b∈C.fp):=by
 have x:yQ M (M.add nm o C):=⟨fun id D h=>by
  have bo:id≠nm:=fun e=>by rw[e,ok.non nm aS] at h;cases h
  exact⟨D,by show κset M.κ nm _ id=_;rw[κset_ne _ _ bo];exact h,D.le_refl⟩,fun _ h=>h,fun _ h=>h,fun _ _=>rfl,fun _ _=>rfl,fun _ _=>rfl⟩
 refine⟨Ok.build ok x (fun id=>id=nm) (fun id h=>yS _ _ h) (fun id h=>κset_ne _ _ h) (fun _ _ _ _ _ _ _ _ _=>rfl) (fun id o' D h1 h2 h3 h4 b bE=>(ok.own b ⟨id,o',D,h2,h3,h4,bE⟩).1) (Nat.le_refl _)
  (fun id o' e h=>?_) (fun id e h=>?_) (fun id o' D b e h1 h2 h3 h4=>?_) ok.GF ok.Flt,x,fun b bE=>?_⟩
 ·subst e;have e1:(M.add id o C).h id=some o:=yO _ _ _;rw[e1] at h;cases h;exact⟨_,κset_same _ _ _,hO⟩
 ·have e1:(M.add id o C).h id=some o:=yO _ _ _;simp_all
 ·subst e;have e1:(M.add id o C).κ id=some C:=κset_same _ _ _;rw[e1] at h3;cases h3;obtain⟨k1,k2,k3⟩:=hb b h4;refine⟨fun j oj Cj hj q1 q2 q3 q4=>k1 ⟨j,oj,Cj,?_,q2,?_,q4⟩,k2,k3⟩
  ·rw[←q1];exact(yS _ _ hj).symm
  ·rw[←q3];exact(κset_ne _ _ hj).symm
 ·obtain⟨id,o',D,h1,h2,h3,h4⟩:=bE;by_cases e:id=nm
  ·have e1:(M.add id o C).κ id=some C:=κset_same _ _ _;simp_all
  ·exact .inl ⟨id,o',D,by rw[←h1];exact(yS _ _ e).symm,h2,by rw[←h3];exact(κset_ne _ _ e).symm,h4⟩
structure Up (L Mc:zK):Prop where
 H:Mc.H=L.H
 G:Mc.G=L.G
def vBs {L Mc}(up:Up L Mc){t xs C}(h:vB L (.arr true t xs) C):vB Mc (.arr true t xs) C:=by
 obtain⟨h1,h2,h3,h4⟩:=h;refine⟨h1,h2,h3,?_⟩;rw[up.H,up.G];exact h4
def vN6 {L Mc}(up:Up L Mc){ver xs C}(h:vB L (.mat ver xs) C):vB Mc (.mat 0 xs) {C with ver:=0}:=by
 obtain⟨h1,h2⟩:=h;refine⟨rfl,?_⟩;rw[up.H];exact h2
def vNf {L Mc}(up:Up L Mc){ver n xs C}(h:vB L (.pmat ver xs n) C)(hn:xs.length=n):vB Mc (.mat 0 xs) {C with ver:=0}:=by
 obtain⟨h1,h2,h3,h4,h5,_,h6⟩:=h;refine⟨rfl,by rw[hn];exact h2,h3,h4,h5,?_⟩;rw[up.H];subst hn;simp_all
def vYk {L Mc}(up:Up L Mc){xs:List (List Int)}{C}(h:vB L (.arr true (.sl (.int .i64)) xs) C):vB Mc (.pmat 0 [] xs.length) {C with ver:=0}:=by
 obtain⟨h1,h2,h3,h4⟩:=h;have hr:=h3 rfl;refine⟨rfl,h1,h2,by simp_all,?_,by simp,?_⟩
 ·simp[qB.fp];grind
 ·cases hB:C.blk with
  |none=>simp_all
  |some B=>
   rw[hB] at h4;obtain⟨vals,e,h5,_,h7,_⟩:=h4;refine⟨vals,e,by rw[up.H];exact h5,by simpa[Ty.size] using h7,by simp⟩
def vHe {L Mc}(iO:Ok L)(ok:Ok Mc)(up:Up L Mc){nm}(aS:Mc.h nm=none){r c d}(h:pZ L.h r c=some d)
  (hb:∀id∈wK [r] [c],∀C,L.κ id=some C→∀b∈C.fp,¬qO Mc b∧¬Mc.F b∧b<Mc.H.size):
  ∃eY:zK,eY.H=Mc.H∧eY.G=Mc.G∧eY.F=Mc.F∧eY.h=qK Mc.h (sv nm r d).2∧Ok eY∧yQ Mc eY∧
   (∀b,qO eY b→qO Mc b∨∃id∈wK [r] [c],∃C,L.κ id=some C∧b∈C.fp)∧∀v,zY L c v→zY eY (sv nm r d).1 v:=by
 have same : (sv nm r d).2 = [] → (∀ v, zY L c v → zY Mc (sv nm r d).1 v) → _ := fun e hv => (⟨Mc,rfl,rfl,rfl,by rw[e];rfl,ok,.refl Mc,by grind,hv⟩:
  ∃eY:zK,eY.H=Mc.H∧eY.G=Mc.G∧eY.F=Mc.F∧eY.h=qK Mc.h (sv nm r d).2∧Ok eY∧yQ Mc eY∧
   (∀b,qO eY b→qO Mc b∨∃id∈wK [r] [c],∃C,L.κ id=some C∧b∈C.fp)∧∀v,zY L c v→zY eY (sv nm r d).1 v)
 unfold pZ at h;split at h
 ·rename_i k j n;cases e:gw j k with
  |false=>rw[e] at h;cases h
  |true=>
   rw[e] at h;cases h;exact same rfl fun v hv=>by rw[←tx e];exact hv
 ·cases h;exact same rfl fun v hv=>hv
 ·obtain⟨e,hx⟩:=lA h;subst e;subst hx;refine same rfl fun v hv=>?_
  show qF Mc.H Mc.G _ _ _;rw[up.H,up.G];exact hv
 ·cases h;refine same rfl fun v hv=>?_
  rw[show v=.slice none 0 0 from hv];exact Jf
 ·rename_i t id;split at h
  ·rename_i s xs an;obtain⟨e,hx⟩:=lA h;subst e;subst hx;obtain⟨C,hC,hO⟩:=iO.obj id _ an;obtain⟨k1,k2,k3⟩:=zK.add_ok ok aS (o:=.arr true s xs) (C:=C) (vBs (Mc:=Mc.add nm (.arr true s xs) C) ⟨up.H,up.G⟩ hO) (hb id (by simp[wK]) C hC);refine⟨Mc.add nm (.arr true s xs) C,rfl,rfl,rfl,rfl,k1,k2,fun b bE=>(k3 b bE).imp (fun h=>h) fun h=>⟨id,by simp[wK],C,hC,h⟩,fun v hv=>?_⟩;obtain⟨C',aD,hS⟩:=hv;rw[hC] at aD;cases aD;refine⟨C,κset_same _ _ _,?_⟩;show jG Mc.H C 0 C.len v;rw[up.H];exact hS
  ·cases h
 ·rename_i t id n;split at h
  ·rename_i s xs an;obtain⟨e,hx⟩:=lA h;subst e;subst hx;obtain⟨C,hC,hO⟩:=iO.obj id _ an;let C':qB:={C with len:=(xs.take n).length};have tK:vB (Mc.add nm (.arr true s (xs.take n)) C') (.arr true s (xs.take n)) C':=by
    obtain⟨q1,q2,q3,q4⟩:=vBs (Mc:=Mc.add nm (.arr true s (xs.take n)) C') ⟨up.H,up.G⟩ hO;refine⟨rfl,q2,q3,?_⟩;show match C.blk with
     |none=>_
     |some B=>_
    cases hB:C.blk with
    |none=>rw[hB] at q4;show xs.take n=[];rw[q4];simp
    |some B=>
     rw[hB] at q4;obtain⟨vals,e,r1,r2,r3,r4⟩:=q4;have hle:(xs.take n).length≤xs.length:=by rw[List.length_take];omega
     have:=Nat.mul_le_mul_right s.size hle;refine⟨vals,e,r1,r2,by omega,fun i hi=>?_⟩;rw[List.getElem_take];exact r4 i (by omega)
   obtain⟨k1,k2,k3⟩:=zK.add_ok ok aS (o:=.arr true s (xs.take n)) (C:=C') tK (hb id (by simp[wK]) C hC);refine⟨Mc.add nm (.arr true s (xs.take n)) C',rfl,rfl,rfl,rfl,k1,k2,fun b bE=>(k3 b bE).imp (fun h=>h) fun h=>⟨id,by simp[wK],C,hC,h⟩,fun v hv=>?_⟩;obtain⟨C1,iM,h1,hS,_⟩:=hv;rw[hC] at iM;cases iM;have hl:(xs.take n).length=n:=by rw[List.length_take,←hO.1];omega
   refine⟨C',κset_same _ _ _,?_⟩;show jG Mc.H C' 0 (xs.take n).length v;rw[hl,up.H];exact hS
  ·cases h
 ·rename_i t;cases h;obtain⟨k1,k2,k3⟩:=Mc.nilObj_ok ok aS t false;refine⟨Mc.nilObj nm (kJ t false) (lX t false),rfl,rfl,rfl,rfl,k1,k2,by grind,fun v hv=>?_⟩;rw[show v=.slice none 0 0 from hv];exact⟨_,κset_same _ _ _,none,0,rfl,rfl,rfl,rfl⟩
 ·rename_i id;split at h
  ·rename_i ver xs an;cases h;obtain⟨C,hC,hO⟩:=iO.obj id _ an;obtain⟨k1,k2,k3⟩:=zK.add_ok ok aS (o:=.mat 0 d) (C:={C with ver:=0}) (vN6 (Mc:=Mc.add nm (.mat 0 d) {C with ver:=0}) ⟨up.H,up.G⟩ hO) (hb id (by simp[wK]) C hC);refine⟨Mc.add nm (.mat 0 d) {C with ver:=0},rfl,rfl,rfl,rfl,k1,k2,fun b bE=>(k3 b bE).imp (fun h=>h) fun h=>⟨id,by simp[wK],C,hC,h⟩,fun v hv=>?_⟩;obtain⟨C',aD,hS⟩:=hv;rw[hC] at aD;cases aD;refine⟨_,κset_same _ _ _,?_⟩;show jG Mc.H C 0 C.len v;rw[up.H];exact hS
  ·rename_i ver xs n an;obtain⟨hc,h⟩:Nat.beq xs.length n=true∧some xs=some d:=by
    cases e:Nat.beq xs.length n with
    |true=>rw[e] at h;exact⟨rfl,h⟩
    |false=>rw[e] at h;cases h
   cases h;obtain⟨C,hC,hO⟩:=iO.obj id _ an;obtain⟨k1,k2,k3⟩:=zK.add_ok ok aS (o:=.mat 0 d) (C:={C with ver:=0}) (vNf (Mc:=Mc.add nm (.mat 0 d) {C with ver:=0}) ⟨up.H,up.G⟩ hO (Nat.eq_of_beq_eq_true hc)) (hb id (by simp[wK]) C hC);refine⟨Mc.add nm (.mat 0 d) {C with ver:=0},rfl,rfl,rfl,rfl,k1,k2,fun b bE=>(k3 b bE).imp (fun h=>h) fun h=>⟨id,by simp[wK],C,hC,h⟩,fun v hv=>?_⟩;obtain⟨C',aD,hS⟩:=hv;rw[hC] at aD;cases aD;refine⟨_,κset_same _ _ _,?_⟩;show jG Mc.H C 0 C.len v;rw[up.H];exact hS
  ·cases h
 ·cases h;obtain⟨k1,k2,k3⟩:=Mc.nilObj_ok ok aS (.int .i64) true;refine⟨Mc.nilObj nm (kJ (.int .i64) true) (lX (.int .i64) true),rfl,rfl,rfl,rfl,k1,k2,by grind,fun v hv=>?_⟩;rw[show v=.slice none 0 0 from hv];exact⟨_,κset_same _ _ _,none,0,rfl,rfl,rfl,rfl⟩
 ·rename_i id;split at h
  ·rename_i xs an;cases h;obtain⟨C,hC,hO⟩:=iO.obj id _ an;obtain⟨k1,k2,k3⟩:=zK.add_ok ok aS (o:=.pmat 0 [] xs.length) (C:={C with ver:=0}) (vYk (Mc:=Mc.add nm (.pmat 0 [] xs.length) {C with ver:=0}) ⟨up.H,up.G⟩ hO) (hb id (by simp[wK]) C hC);refine⟨Mc.add nm (.pmat 0 [] xs.length) {C with ver:=0},rfl,rfl,rfl,rfl,k1,k2,fun b bE=>(k3 b bE).imp (fun h=>h) fun h=>⟨id,by simp[wK],C,hC,h⟩,fun v hv=>?_⟩;obtain⟨C',aD,hS⟩:=hv;rw[hC] at aD;cases aD;refine⟨_,κset_same _ _ _,?_⟩;show jG Mc.H C 0 C.len v;rw[up.H];exact hS
  ·cases h
 ·cases h;obtain⟨k1,k2,k3⟩:=zK.add_ok ok aS (o:=.pmat 0 [] 0) (C:=⟨none,0,1,0,[]⟩) ⟨rfl,rfl,rfl,rfl,by simp[qB.fp],Nat.le_refl _,rfl⟩ (nofun);refine⟨Mc.add nm (.pmat 0 [] 0) ⟨none,0,1,0,[]⟩,rfl,rfl,rfl,rfl,k1,k2,fun b bE=>(k3 b bE).imp (fun h=>h) nofun,fun v hv=>?_⟩;rw[show v=.slice none 0 0 from hv];exact⟨_,κset_same _ _ _,none,0,rfl,rfl,rfl,rfl⟩
 ·rename_i id;split at h
  ·rename_i de an;cases h;obtain⟨C,hC,hO⟩:=iO.obj id _ an;have tK:vB (Mc.add nm (.imap d) C) (.imap d) C:=by
    obtain⟨B,es,ck,h1,h2,h3,h4,h5⟩:=hO;refine⟨B,es,ck,h1,h2,?_,h4,h5⟩;show Mc.H[B]? =_;rw[up.H];exact h3
   obtain⟨k1,k2,k3⟩:=zK.add_ok ok aS (o:=.imap d) (C:=C) tK (hb id (by simp[wK]) C hC);refine⟨Mc.add nm (.imap d) C,rfl,rfl,rfl,rfl,k1,k2,fun b bE=>(k3 b bE).imp (fun h=>h) fun h=>⟨id,by simp[wK],C,hC,h⟩,fun v hv=>?_⟩;obtain⟨C',B,aD,hB,e⟩:=hv;rw[hC] at aD;cases aD;exact⟨C,B,κset_same _ _ _,hB,e⟩
  ·cases h
 ·exact same rfl fun v hv=>hv
 ·exact same rfl fun v hv=>hv.one
 ·exact same rfl fun v hv=>hv
 ·cases h
def N4 r c l cs:wK (r::l) (c::cs)=wK [r] [c]++wK l cs:=by
 cases r<;>cases c<;>rfl
def yH0 {nm r d n}(h:n≠nm) hh:qK hh (sv nm r d).2 n=hh n:=by
 cases r<;>first|rfl|exact yS _ _ h
def Vr {h}:∀{n nm},w6 h nm n=true→∀i,i<n→h (nm+i)=none
 |n+1,nm,e,i,hi=>by
  unfold w6 at e;rw[Bool.and_eq_true] at e;cases i with
  |zero=>
   grind
  |succ i=>rw[←Vr e.2 i (by omega)];grind
def Vs {L:zK}(iO:Ok L):∀{l:List RC} {cs:List zZ} {d:RL l} {nm:Nat} {Mc:zK},Ok Mc→Up L Mc→(∀i,i<l.length→Mc.h (nm+i)=none)→kM L.h l cs=some d→(wK l cs).Nodup→
  (∀id∈wK l cs,∃o,L.h id=some o∧o.owned=true)→
  (∀id∈wK l cs,∀C,L.κ id=some C→∀b∈C.fp,¬qO Mc b∧¬Mc.F b∧b<Mc.H.size)→
  ∃eY:zK,eY.H=Mc.H∧eY.G=Mc.G∧eY.F=Mc.F∧eY.h=qK Mc.h (oZ nm l d).2∧Ok eY∧yQ Mc eY∧
   (∀b,qO eY b→qO Mc b∨∃id∈wK l cs,∃C,L.κ id=some C∧b∈C.fp)∧∀vs,zM (zY L) cs vs→zM (zY eY) (oZ nm l d).1 vs
 |[],[],d,nm,Mc,ok,up,_,_,_,_,_=>⟨Mc,rfl,rfl,rfl,rfl,ok,.refl Mc,fun b h=>.inl h,fun vs h=>by
  cases vs with
  |nil=>trivial
  |cons _ _=>exact h.elim⟩
 |r::l,c::cs,d,nm,Mc,ok,up,hf,h,dG,aL,hb=>by
  unfold kM at h;split at h
  ·rename_i x xs e1 e2;cases h;rw[N4] at dG aL hb;obtain⟨nd1,nd2,nd3⟩:=List.nodup_append.1 dG;obtain⟨M1,a1,a2,a3,a4,a5,a6,a7,a8⟩:=vHe iO ok up (by have:=hf 0 (by simp);simpa using this) e1 (by grind);have up1:Up L M1:=⟨a1.trans up.H,a2.trans up.G⟩;obtain ⟨M2, b1, b2, b3, b4, b5, b6, b7, b8⟩ := Vs iO (nm := nm + 1) a5 up1 (fun i hi=>by
     rw[a4,yH0 (by omega)];have:=hf (i+1) (by simp;omega);grind) e2 nd2 (fun id an => aL id (by grind)) (fun id an C hC b D5=>by
     obtain⟨q1,q2,q3⟩:=hb id (List.mem_append_right _ an) C hC b D5;refine⟨fun ho=>?_,by simp_all,by simp_all⟩;rcases a7 b ho with ho|⟨jd,df,D,hD,Vt⟩
     ·exact q1 ho
     ·have bo:id≠jd:=by grind
      obtain⟨o1,p1,p2⟩:=aL id (by grind);obtain⟨o2,p3,p4⟩:=aL jd (List.mem_append_left _ df);exact iO.disj id jd o1 o2 C D b bo p1 p3 p2 p4 hC hD D5 Vt)
   refine⟨M2,b1.trans a1,b2.trans a2,b3.trans a3,?_,b5,a6.trans (by simp_all) b6,fun b bE=>?_,fun vs dF=>?_⟩
   ·show M2.h=qK Mc.h ((sv nm r x).2++(oZ (nm+1) l xs).2);rw[lz,←a4];exact b4
   ·rw[N4];grind
   ·cases vs with
    |nil=>exact dF.elim
    |cons v vs=>exact⟨(a8 v dF.1).ext b6,b8 vs dF.2⟩
  ·cases h
 |[],_::_,_,_,_,_,_,_,h,_,_,_=>by cases h
 |_::_,[],_,_,_,_,_,_,h,_,_,_=>by cases h
def wQ {α:Type}{c x}{y:α}(h:(bif c then x else none)=some y):c=true∧x=some y:=by
 grind
def yXu {M}:∀{l xs cs vs},Vi l xs=some cs→zM (wh M) xs vs→
  cs.length=(l.flatMap (·.2)).length∧∃us:List Value,zM (zY M) cs us∧∀M' aP,zM (zY M') aP us→zM (wh M') (Vj l aP) vs
 |[],[],cs,[],h,_=>by cases h;exact⟨rfl,[],trivial,fun _ _ _=>trivial⟩
 |(b,l)::ls,(g,mX)::rest,cs,v::vs,h,hv=>by
  obtain⟨hc,h⟩:=wQ h;split at h
  ·rename_i r hr;cases h;rw[Bool.and_eq_true] at hc;have hl:mX.length=l.length:=by simp_all
   obtain⟨k1,us,k2,k3⟩:=yXu hr hv.2;refine⟨by simp_all,?_⟩;cases b with
   |true=>
    have hg:g=true:=hc.1;subst hg;obtain⟨ws,rfl,hw⟩:=hv.1;refine⟨ws.toList++us,hw.append k2,fun M' aP h'=>⟨?_,?_⟩⟩
    ·have h1:=zM.take l.length h';have Vu:=hw.length;rw[show(ws.toList++us).take l.length=ws.toList from by simp_all] at h1;exact⟨ws,rfl,h1⟩
    ·have h1:=zM.drop l.length h';have Vu:=hw.length;simp_all
   |false=>
    have hg:=hc.1;simp  at hg;obtain⟨N5,hg2⟩:=hg;subst N5;have tN:mX.length=1:=by simp_all
    match mX,tN with
    |[c],_=>
     have nR:zY M c v:=hv.1;refine⟨v::us,⟨nR,k2⟩,fun M' aP h'=>?_⟩
     match aP,h' with
     |c'::Vv,h'=>
      have e:l.length=1:=by omega
      refine⟨?_,?_⟩
      ·rw[e];exact h'.1
      ·rw[e];exact k3 M' Vv h'.2
  ·cases h
 |[],[],_,_::_,_,hv=>hv.elim
def vBn {M}{s:RS}{v cs rv}(h:s.get v=some cs)(hv:zV M v rv):
  cs.length=s.cells.length∧∃us:List Value,zM (zY M) cs us∧∀M' aP,zM (zY M') aP us→zV M' (s.mk aP) rv:=by
 unfold RS.get at h;split at h
 ·cases h;refine⟨rfl,[rv],⟨hv,trivial⟩,fun M' aP h'=>?_⟩
  match aP,h' with
  |[c'],h'=>exact h'.1
 ·obtain⟨hl,h⟩:=wQ h;cases h;obtain⟨vs,rfl,hx⟩:=hv;exact⟨Nat.eq_of_beq_eq_true hl,vs.toList,hx,fun M' aP h'=>⟨vs,rfl,h'⟩⟩
 ·obtain⟨vs,rfl,hx⟩:=hv;obtain⟨k1,us,k2,k3⟩:=yXu h hx;exact⟨k1,us,k2,fun M' aP h'=>⟨vs,rfl,by grind⟩⟩
 ·cases h
def vO7 {h0 s a a' v u M}(ok:Ok M)(hf:jH h0 M.h)(hv:zV M a v)(h:w7 h0 s a=some (a',u)):
  ∃L:zK,L.H=M.H∧L.h=qK M.h u∧Ok L∧vG M L∧zV L a' v∧jH h0 L.h:=by
 unfold w7 at h;split at h
 ·rename_i p x;split at h
  ·rename_i y u1 e;cases h;obtain⟨L,h1,h2,h3,h4,h5,h6⟩:=w9 (cs:=[x]) (vs:=[v]) ok hf ⟨hv,trivial⟩ e;exact⟨L,h1,h2,h3,h4,h5.1,h6⟩
  ·cases h
 ·split at h
  ·rename_i ys u1 e;cases h;obtain⟨vs,rfl,hx⟩:=hv;obtain⟨L,h1,h2,h3,h4,h5,h6⟩:=w9 ok hf hx e;exact⟨L,h1,h2,h3,h4,⟨vs,rfl,h5⟩,h6⟩
  ·cases h
 ·cases h;exact⟨M,rfl,rfl,ok,.refl M,hv,hf⟩
def xa.ext {M M'}(x:yQ M M'):∀{as vs},zM (zV M) as vs→zM (zV M') as vs:=fun h=>h.mono fun _ _ h=>h.ext x
def yUw {h0}:∀{l as fq vs u M},Ok M→jH h0 M.h→zM (zV M) as vs→sw h0 l as=some (fq,u)→
  ∃L:zK,L.H=M.H∧L.h=qK M.h u∧Ok L∧vG M L∧zM (zV L) fq vs∧jH h0 L.h
 |s::l,a::as,fq,v::vs,u,M,ok,hf,hv,h=>by
  unfold sw at h;split at h
  ·rename_i a1 u1 Vw rZ e1 e2;cases h;obtain⟨M1,h1,h2,h3,h4,h5,h6⟩:=vO7 ok hf hv.1 e1;obtain⟨M2,k1,k2,k3,k4,k5,k6⟩:=yUw h3 h6 (xa.ext h4.ext hv.2) e2;exact⟨M2,k1.trans h1,by rw[k2,h2,lz],k3,h4.trans k4,⟨h5.ext k4.ext,k5⟩,k6⟩
  ·cases h
 |[],as,fq,vs,u,M,ok,hf,hv,h=>by
  cases as<;>cases h<;>exact⟨M,rfl,rfl,ok,.refl M,hv,hf⟩
 |s::l,[],fq,vs,u,M,ok,hf,hv,h=>by cases h;exact⟨M,rfl,rfl,ok,.refl M,hv,hf⟩
def zK.over (M L:zK):zK:={κ:=M.κ,F:=fun b=>M.F b∨L.G b,G:=L.G,h:=M.h,H:=L.H}
def zK.over_ok {M Ml L}(ok:Ok M)(iO:Ok L)(lo:Lo M Ml)(Jg:∀b,¬qO Ml b)(g:j8 Ml L):Ok (M.over L)∧vG M (M.over L):=by
 have bm:∀b,Ml.F b↔b<M.H.size:=fun b=>by rw[lo.F]
 have cS:∀b,b<M.H.size→L.H[b]? =M.H[b]? :=fun b hb=>by rw[g.same b (by grind),lo.H]
 have dX:M.H.size≤L.H.size:=by grind
 have hG:∀b,L.G b→b<M.H.size→M.G b:=fun b hb hs=>by
  rcases g.Gb b hb (by rw[lo.H];exact hs) with h|h
  ·rw[lo.G] at h;exact h
  simp_all
 have kz:∀b,M.F b→b<M.H.size:=ok.Flt;have x:yQ M (M.over L):=⟨fun id C h=>⟨C,h,C.le_refl⟩,fun b h=>.inl h,fun b h=>g.G b (by rw[lo.G];exact h),fun b h=>cS b (by grind),fun b h=>cS b (ok.Flt b (ok.GF b h)),fun b h=>Dw (cS b h)⟩;have aL:∀b,qO (M.over L) b→qO M b:=fun b h=>h
 refine⟨⟨fun id o h=>?_,fun id h=>ok.non id h,ok.disj,fun b h=>⟨fun hf=>?_,?_⟩,fun b h=>.inr h,fun b h=>?_⟩,⟨x,dX,fun b hb _=>cS b hb,by grind,fun b h hs=>.inl (hG b h hs),fun b h hs=>?_⟩⟩
 ·obtain⟨C,hC,hO⟩:=ok.obj id o h;exact⟨C,hC,hO.ext x fun ho b hb=>cS b (ok.own b ⟨id,o,C,h,ho,hC,hb⟩).2⟩
 ·have:=ok.own b (aL b h);rcases hf with hf|hf
  ·simp_all
  ·exact this.1 (ok.GF b (by grind))
 ·have h1:=(ok.own b (aL b h)).2;show b<L.H.size;omega
 ·show b<L.H.size;rcases h with h|h
  ·grind
  ·exact iO.Flt b (iO.GF b h)
 ·rcases h with h|h
  ·simp_all
  ·exact .inl (ok.GF b (hG b h hs))
def vY1 {h0 r c d}(h:pZ h0 r c=some d):∀id∈wK [r] [c],∃o,h0 id=some o∧o.owned=true:=by
 unfold pZ at h;split at h;all_goals (try (intro id an;simp[wK] at an;done))
 ·intro DV an;have:=List.mem_singleton.1 an;subst this;split at h
  ·exact⟨_,by assumption,rfl⟩
  ·cases h
 ·intro DV an;have:=List.mem_singleton.1 an;subst this;split at h
  ·exact⟨_,by omega,rfl⟩
  ·cases h
 ·rename_i id;intro DV an;have:=List.mem_singleton.1 an;subst this;split at h
  ·exact⟨_,by assumption,rfl⟩
  ·exact⟨_,by omega,rfl⟩
  ·cases h
 ·intro DV an;have:=List.mem_singleton.1 an;subst this;split at h
  ·exact⟨_,by assumption,rfl⟩
  ·cases h
 ·intro DV an;have:=List.mem_singleton.1 an;subst this;split at h
  ·exact⟨_,by assumption,rfl⟩
  ·cases h
 ·cases h
def xc {L:zK}:∀{l cs d},kM L.h l cs=some d→∀id∈wK l cs,∃o,L.h id=some o∧o.owned=true
 |r::l,c::cs,d,h,id,an=>by
  unfold kM at h;split at h
  ·rename_i x xs e1 e2;rw[N4] at an;rcases List.mem_append.1 an with an|an
   ·exact vY1 e1 id an
   ·exact xc e2 id an
  ·cases h
def yH4 {E}(hE:gC E)(hS:j7 E.sums)(hm:E.P.follows .mixedOrders=true){A k pre na f fn}(hf:E.P.funcs[f]? =some fn)(hL:∀c,fn.body=some c→wR E.P A pre na fn.ntmps c)(cd:∀vs w,(callFunc f vs).run E.P w=.ok (.enter f vs) w)
  {as rs X S pack} {unpack:RL rs.cells→X} (fJ:∀d,pack (unpack d)=d) (aN:∀d x,S d=some x→∀Ml vs,zM (zV Ml) (pY as d).1 vs→∃eZ,zM (zV Ml) eZ vs∧ky E A k pre na fn eZ (pY as d).2 (ng rs unpack)=some x)
  {nm args h v u} (hy:yL (o0 as rs S pack nm args h) v u):tV E.P f args h v u:=by
 intro M w vs hh hH ok hv;refine .inl ⟨cd vs w,?_⟩;unfold o0 at hy;split at hy
 ·exact hy.elim
 rename_i eZ u0 A9;split at hy
 case h_2=>exact hy.elim
 rename_i d hd;obtain⟨hc,hy⟩:=AR hy;rw[Bool.and_eq_true] at hc;obtain⟨x,hx,rfl,rfl⟩:=hy;subst hh;obtain⟨M1,a1,a2,a3,a4,a5,a6⟩:=yUw ok (jH.refl _) hv A9;rw[←a2] at hd;obtain⟨Ml,lo,b2,b3,b4,b5⟩:=vS5 a3 a5 hd;obtain⟨ad0,Ba,Vx⟩:=aN d x hx Ml _ b5;refine Calls.mono (Vg hE hS hm hf hL Vx b2 (by rw[lo.H,a1];exact hH) b3 Ba) fun e w' he=>?_
 cases e with
 |panicked _=>omega
 |outgrown=>omega
 |returned rv=>
  obtain⟨L0,v0,st,hK,c1,c2,c3,c4,_,c5,c6,c7,c8,_⟩:=he;have hK:Je st.h rs v0=some (pack x):=by
   unfold ng at hK;grind
  unfold Je at hK;split at hK
  case h_2=>cases hK
  rename_i cs nV;split at hK
  case h_2=>cases hK
  rename_i aP u1 Bb;obtain⟨dG,hK⟩:=wQ hK;obtain⟨hlen,us,d1,d2⟩:=vBn nV c5;rw[←c1] at Bb hK;obtain⟨L,e1,e2,e3,e4,e5,e6⟩:=w9 c3 (jH.refl _) d1 Bb;rw[←e2] at hK;have g:j8 Ml L:=c4.trans e4.grow;obtain⟨f1,f2⟩:=zK.over_ok a3 e3 lo b4 g;have qa:∀i,i<rs.cells.length→(M1.over L).h (nm+i)=none:=fun i hi=>by
   have h1:=Vr hc.1 i hi;show M1.h (nm+i)=none;rcases a6 (nm+i) with h|⟨own,t,xs,h,_⟩|⟨ver,xs,h,_⟩
   all_goals simp_all
  obtain ⟨Mc, g1, g2, g3, g4, g5, g6, g7, g8⟩ := Vs e3 f1 ⟨rfl, rfl⟩ qa hK (DP dG) (xc hK) (fun id an C hC b hb=>by
   obtain⟨o,ho,iN⟩:=xc hK id an;have aL:qO L b:=⟨id,o,C,ho,iN,hC,hb⟩;have oR:¬b<M1.H.size:=fun bm=>b4 b (g.own b aL (by rw[lo.H];omega))
   refine⟨fun h=>oR (a3.own b h).2,fun h=>?_,(e3.own b aL).2⟩;rcases h with h|h
   ·exact oR (a3.Flt b h)
   ·exact(e3.own b aL).1 (e3.GF b h))
  have Vy:vG M1 Mc:=by
   have aL:∀b,qO Mc b→b<M1.H.size→qO M1 b:=fun b hb bm=>by
    rcases g7 b hb with h|⟨id,an,C,hC,D5⟩
    ·exact h
    ·obtain⟨o,ho,iN⟩:=xc hK id an;exact absurd (g.own b ⟨id,o,C,ho,iN,hC,D5⟩ (by rw[lo.H];omega)) (b4 b)
   refine⟨f2.ext.trans f2.size g6,?_,fun b hb hn=>?_,aL,fun b hb bm=>?_,fun b hb bm=>?_⟩
   ·rw[g1];exact f2.size
   ·rw[g1];exact f2.frame b hb hn
   ·rw[g2] at hb;exact f2.Gb b hb bm
   ·rw[g3] at hb;exact f2.Fb b hb bm
  refine⟨Mc,⟨c6,c7,c8,?_,?_,g5,a4.trans Vy⟩,?_⟩
  ·rw[g1];show L.H=_;rw[e1,c2]
  ·rw[lz,←a2];exact g4
  ·exact d2 Mc _ (g8 us e5)
def vJw {E}(hE:gC E)(hS:j7 E.sums)(hm:E.P.follows .mixedOrders=true){A k pre na f fn}(hf:E.P.funcs[f]? =some fn)(hL:∀c,fn.body=some c→wR E.P A pre na fn.ntmps c)(cd:∀vs w,(callFunc f vs).run E.P w=.ok (.enter f vs) w)
  {as rs X S} {pack:X→RL rs.cells} {unpack} (fJ:∀d,pack (unpack d)=d) (aN:∀d,ky E A k pre na fn (pY as d).1 (pY as d).2 (ng rs unpack)=S d)
  {nm args h v u} (hy:yL (o0 as rs S pack nm args h) v u):tV E.P f args h v u:=
 yH4 hE hS hm hf hL cd fJ (fun d x hx _ _ hv=>⟨_,hv,(aN d).trans hx⟩) hy
def vIu {E}(hE:gC E)(hS:j7 E.sums)(hm:E.P.follows .mixedOrders=true){A k pre na f fn}(hf:E.P.funcs[f]? =some fn)(hL:∀c,fn.body=some c→wR E.P A pre na fn.ntmps c)(cd:∀vs w,(callFunc f vs).run E.P w=.ok (.enter f vs) w)
  {sh t rs X} {S:List t.den→Option X} {pack unpack} (fJ:∀d,pack (unpack d)=d) (cM:∀x,S []=some x→ky E A k pre na fn [.c .nsl] (lZ []) (ng rs unpack)=some x)
  (aN:∀xs x,S xs=some x→ky E A k pre na fn [.c (.nfl sh t xs)] (lZ []) (ng rs unpack)=some x)
  {nm args h v u} (hy:yL (o0 [.c (.dat sh t)] rs (fun d=>S d.1) pack nm args h) v u):tV E.P f args h v u:=
 yH4 hE hS hm hf hL cd fJ (fun d x hx Ml vs hv=>by
  obtain⟨xs,_⟩:=d
  match vs,hv with
  |[v],hv=>
   have nR:qF Ml.H (bif sh then Ml.G else Ml.F) (.sl t) xs (fun _=>some v):=hv.1;have pT:=nR;simp[qF] at nR;obtain⟨A',n,c,rfl,hn,hc,h⟩:=nR;cases A' with
   |some a=>exact⟨[.c (.nfl sh t xs)],⟨⟨by simp,pT⟩,trivial⟩,aN xs x hx⟩
   |none=>
    rcases h with⟨rfl,h0⟩|⟨B,o,e,_⟩
    ·have h0:=h0 rfl;subst h0;subst hn;exact⟨[.c .nsl],⟨rfl,trivial⟩,cM x hx⟩
    ·cases e) hy
def yU.orElse:yU→yU→yU
 |.alts [],b=>b
 |a,_=>a
abbrev nW:=Nat→Nat→List zX→Hp→yU
def fK:List (Nat×nW)→Nb
 |[],_,_,_,_,_=>.stuck
 |(g,e)::l,k,nm,f,args,h=>bif Nat.beq g f then(e k nm args h).orElse (fK l k nm f args h) else fK l k nm f args h
def yS7 (P:Program)(r:Nat×nW):Prop:=∀k nm args h v u,yL (r.2 k nm args h) v u→tV P r.1 args h v u
def Jh (e:nW):Prop:=∀k nm (args:List zX) h h',(args.any wW=false→∀id,(id∈args.flatMap yP∨nL nm id=true)→h id=h' id)→(args.any wW=true→h=h')→e k nm args h=e k nm args h'
def vTm {a b v u}(h:yL (a.orElse b) v u):yL a v u∨yL b v u:=by
 unfold yU.orElse at h;grind
def yR4 {P}:∀{l},(∀r∈l,yS7 P r)→vDd P (fK l)
 |[],_=>nofun
 |(g,e)::l,hl=>fun k nm f args h v u hy=>by
  have ih:=yR4 (l:=l) fun r hr=>hl r (by grind)
  unfold fK at hy;cases hg:Nat.beq g f with
  |false=>rw[hg] at hy;exact ih k nm f args h v u hy
  |true=>
   rw[hg] at hy;have:g=f:=by simp_all
   subst this;rcases vTm hy with hy|hy
   ·exact hl (g,e) (by simp) k nm args h v u hy
   ·exact ih k nm g args h v u hy
def yDe:∀{l},(∀r∈l,Jh r.2)→j7 (fK l)
 |[],_=>fun k nm f args h h' _ _=>rfl
 |(g,e)::l,hl=>fun k nm f args h h' h1 h2=>by
  have ih:=yDe (l:=l) (by grind) k nm f args h h' h1 h2;unfold fK;have he:e k nm args h=e k nm args h':=hl (g,e) (by simp) k nm args h h' h1 h2;rw[ih,he]
section
variable {h h':Hp}
def Vz {t c}(hh:∀id∈vQ c,h id=h' id):A6 h t c=A6 h' t c:=by
 have e:=NU hh;unfold A6;grind
def yFv {p c}(hh:∀id∈vQ c,h id=h' id):uc h p c=uc h' p c:=by
 have e:=fun t=>Vz (t:=t) hh
 unfold uc;grind
def vAm:∀{l cs},(∀id∈cs.flatMap vQ,h id=h' id)→A7 h l cs=A7 h' l cs
 |[],[],_
 |[],_::_,_
 |_::_,[],_=>rfl
 |p::l,c::cs,hh=>by
  simp  at hh;unfold A7;rw[yFv fun id hi=>hh id (.inl hi),vAm (by grind)]
def vVi {ls}:ud h ls []=ud h' ls []:=by
 cases ls<;>rfl
def vQp {s:AS}{a}(hb:wW a=false):s.get h a=s.get h' a:=by
 unfold AS.get;cases s with
 |c p=>grind
 |agg l=>grind
 |ptr l=>
  cases a with
  |c x=>cases x<;>first|rfl|(exact absurd hb (by nofun))
  |_=>rfl
 |fn f bC=>
  cases a with
  |c x=>cases x with
   |fn g ids=>
    cases ids with
    |nil=>dsimp only;rw[vVi]
    |cons _ _=>exact absurd hb (by nofun)
   |_=>rfl
  |_=>rfl
def vOr {s:AS}{a cs}(hb:wW a=false)(e:s.get h a=some cs):∀id∈cs.flatMap vQ,id∈yP a:=by
 unfold AS.get at e;split at e
 ·cases e;intro id an;simp  at an;exact an
 ·obtain⟨_,e⟩:=wQ e;cases e;exact fun id an=>an
 ·exact absurd hb (by nofun)
 ·rename_i f bC g ids;obtain⟨_,e⟩:=wQ e;cases ids with
  |nil=>cases bC with
   |nil=>cases e;simp
   |cons _ _=>cases e
  |cons _ _=>exact absurd hb (by nofun)
 ·cases e
def yO1:∀{l as},as.any wW=false→su h l as=su h' l as
 |[],[],_
 |[],_::_,_
 |_::_,[],_=>rfl
 |s::l,a::as,hb=>by
  simp only[List.any_cons,Bool.or_eq_false_iff] at hb;unfold su;rw[vQp (h:=h) (h':=h') hb.1,yO1 hb.2]
def yVo:∀{l as cs},as.any wW=false→su h l as=some cs→∀id∈cs.flatMap vQ,id∈as.flatMap yP
 |[],[],cs,_,e=>by cases e;simp
 |s::l,a::as,cs,hb,e=>by
  simp only[List.any_cons,Bool.or_eq_false_iff] at hb;unfold su at e;split at e
  ·rename_i c1 rest e1 e2;cases e;intro id an;rw[List.flatMap_append,List.mem_append] at an;rw[List.flatMap_cons,List.mem_append];rcases an with an|an
   ·exact .inl (vOr hb.1 e1 id an)
   ·exact .inr (yVo hb.2 e2 id an)
  ·cases e
def VA {l as}(hb:as.any wW=false)(hh:∀id∈as.flatMap yP,h id=h' id):A8 h l as=A8 h' l as:=by
 unfold A8;rw[yO1 (h:=h) (h':=h') hb];cases e:su h' l as with
 |none=>rfl
 |some cs=>exact vAm fun id an=>hh id (yVo hb e id an)
def D6 {x}:[x].flatMap vQ=yP (.c x):=by simp[yP]
def VB {c c' u}(e:oO h c=some (c',u)):(∀id∈vQ c',id∈vQ c)∧(wW (.c c')=true→wW (.c c)=true):=by
 cases c with
 |osl id r=>
  unfold oO at e;dsimp only at e;split at e
  ·cases e;exact⟨nofun,nofun⟩
  ·cases r with
   |none=>cases e;exact⟨nofun,nofun⟩
   |some _=>cases e
  ·cases e
 |mrow _ _ _=>cases e
 |_=>cases e;simp
def D7:∀{l cs},(∀id∈cs.flatMap vQ,h id=h' id)→gD h l cs=gD h' l cs
 |[],cs,_=>by rfl
 |true::l,[],_
 |false::l,[],_=>rfl
 |true::l,c::cs,hh=>by
  simp  at hh;unfold gD;rw[yOa fun id hi=>hh id (.inl hi),D7 (by grind)]
 |false::l,c::cs,hh=>by
  unfold gD;rw[D7 (by grind)]
def D8:∀{l cs aP u},gD h l cs=some (aP,u)→∀id∈aP.flatMap vQ,id∈cs.flatMap vQ
 |[],cs,aP,u,e=>by cases cs<;>cases e<;>exact by simp
 |true::l,[],aP,u,e
 |false::l,[],aP,u,e=>by cases e;simp
 |true::l,c::cs,aP,u,e=>by
  unfold gD at e;split at e
  ·rename_i c1 u1 mX rZ e1 e2;cases e;intro id an;rw[List.flatMap_cons,List.mem_append] at an⊢;exact an.imp ((VB e1).1 id) (D8 e2 id)
  ·cases e
 |false::l,c::cs,aP,u,e=>by
  unfold gD at e;split at e
  ·rename_i mX rZ e2;cases e;intro id an;rw[List.flatMap_cons,List.mem_append] at an⊢;exact an.imp (by simp) (D8 e2 id)
  ·cases e
def vLj {s a}(hh:∀id∈yP a,h id=h' id):w7 h s a=w7 h' s a:=by
 unfold w7;cases s with
 |c p=>cases a with
  |c x=>
   have:=D7 (h:=h) (h':=h') (l:=[p.isKept]) (cs:=[x]) (by rw[D6];exact hh);simp_all
  |_=>rfl
 |agg l=>cases a with
  |agg xs=>
   have:=D7 (h:=h) (h':=h') (l:=l.map PC.isKept) (cs:=xs) hh;simp_all
  |_=>rfl
 |_=>rfl
def vGs {s a a' u}(e:w7 h s a=some (a',u)):(∀id∈yP a',id∈yP a)∧(wW a=false→wW a'=false):=by
 unfold w7 at e;split at e
 ·rename_i p x;split at e
  ·rename_i y u1 e1;cases e;refine⟨fun id an=>by have:=D8 e1 id (by rw[D6];omega);rwa [D6] at this,fun hb=>?_⟩;cases hk:p.isKept with
   |false=>rw[hk] at e1;cases e1;exact hb
   |true=>
    rw[hk] at e1;unfold gD at e1;split at e1
    ·rename_i c1 u2 mX rZ e2 e3;cases e1;cases hy:wW (.c y) with
     |false=>rfl
     |true=>rw[(VB e2).2 hy] at hb;cases hb
    ·cases e1
  ·cases e
 ·split at e
  ·rename_i ys u1 e1;cases e;exact⟨D8 e1,fun _=>rfl⟩
  ·cases e
 simp_all
def yOt:∀{l as},(∀id∈as.flatMap yP,h id=h' id)→sw h l as=sw h' l as
 |[],as,_=>by rfl
 |_::_,[],_=>rfl
 |s::l,a::as,hh=>by
  simp  at hh;unfold sw;rw[vLj fun id hi=>hh id (.inl hi),yOt (by grind)]
def yJ5:∀{l as fq u},sw h l as=some (fq,u)→(∀id∈fq.flatMap yP,id∈as.flatMap yP)∧(as.any wW=false→fq.any wW=false)
 |[],as,fq,u,e=>by cases as<;>cases e<;>exact by simp
 |s::l,[],fq,u,e=>by cases e;simp
 |s::l,a::as,fq,u,e=>by
  unfold sw at e;split at e
  ·rename_i a1 u1 Vw rZ e1 e2;obtain⟨k1,k2⟩:=vGs e1;obtain⟨k3,k4⟩:=yJ5 e2;grind
  ·cases e
def VC:∀{n nm},(∀i,i<n→h (nm+i)=h' (nm+i))→w6 h nm n=w6 h' nm n
 |0,_,_=>rfl
 |n+1,nm,hh=>by
  unfold w6;have:=hh 0 (by omega);rw[Nat.add_zero] at this;rw[this,VC (by grind)]
end
def vEa {as rs X}{S:Nat→AD as→Option X}{pack}:Jh fun k nm args h=>o0 as rs (S k) pack nm args h:=by
 intro k nm args h h' h1 h2;cases hb:args.any wW with
 |true=>rw[h2 hb]
 |false=>
  have hh:=h1 hb;show o0 as rs (S k) pack nm args h=o0 as rs (S k) pack nm args h';unfold o0;rw[yOt (h:=h) (h':=h') (by grind)];cases e:sw h' as args with
  |none=>rfl
  |some p=>
   obtain⟨eZ,u⟩:=p;obtain⟨k1,k2⟩:=yJ5 e;dsimp only;rw[VA (h:=qK h u) (h':=qK h' u) (k2 hb) fun id an=>AZ (by grind)];cases A8 (qK h' u) as eZ with
   |none=>rfl
   |some d=>
    cases hle:Nat.ble rs.cells.length 100 with
    |false=>simp
    |true=>
     have hle:=Nat.le_of_ble_eq_true hle;rw [VC (h := h) (h' := h') fun i hi => hh _ (.inr (by
      simp only[nL,Bool.and_eq_true];exact⟨by simp,by simp[Nat.blt_eq];omega⟩))]
def nX:Code→List Code
 |.seq a b=>nX a++nX b
 |.cond _ a b=>nX a++nX b
 |.block _ b=>nX b
 |.loop b=>[b]
 |_=>[]
def zQ (c:Code)(i:Nat):Code:=match(nX c)[i]? with
 |some b=>b
 |none=>.skip
def zR (fn:Func):Code:=match fn.body with
 |some c=>c
 |none=>.skip
def yTh (P:Program)(A:zW)(pre na nt:Nat)(b:Code):Prop:=(∃L,wc A b=some L∧zS P pre na nt b L)∨(wc A b=none∧wR P A pre na nt b)
def VD {P A pre na nt}:∀c,(∀b∈nX c,yTh P A pre na nt b)→wR P A pre na nt c:=by
 intro c
 induction c with
 |seq a b DM DN=>exact fun h=>⟨DM fun x hx=>h x (List.mem_append_left _ hx),DN fun x hx=>h x (List.mem_append_right _ hx)⟩
 |cond t a b DM DN=>exact fun h=>⟨DM fun x hx=>h x (List.mem_append_left _ hx),DN fun x hx=>h x (List.mem_append_right _ hx)⟩
 |block id b ih=>exact fun h=>ih h
 |loop b ih=>
  intro h;rcases h b (List.mem_cons_self ..) with⟨L,h1,h2⟩|⟨h1,h2⟩
  ·refine⟨by grind,by grind⟩
  ·refine⟨fun L' h3=>?_,fun _=>h2⟩;simp_all
 |_=>exact fun _=>trivial
def Ji {P A pre na nt c n}(hn:(nX c).length=n)(h:∀i,i<n→yTh P A pre na nt (zQ c i)):wR P A pre na nt c:=
 VD c fun b hb=>by
  obtain⟨i,hi,rfl⟩:=List.getElem_of_mem hb;have e:zQ c i=(nX c)[i]:=by
   unfold zQ;grind
  grind
def nh {P A pre na nt c n}(hn:(nX c).length=n)(h:∀i,i<n→∃L,wc A (zQ c i)=some L∧zS P pre na nt (zQ c i) L):wR P A pre na nt c:=
 Ji hn fun i hi=>.inl (h i hi)
def vGx {P A pre na nt c}(hn:(nX c).length=0):wR P A pre na nt c:=nh hn (by simp)
def body_loops {P A pre na fn}(h:wR P A pre na fn.ntmps (zR fn)):∀c,fn.body=some c→wR P A pre na fn.ntmps c:=fun c hc=>by
 unfold zR at h;simp_all
def Jj {P f fn}(hf:P.funcs[f]? =some fn)(hb:fn.body.isNone=false)(hn:(fn.name== "runtime.NumGoroutine")=false):∀vs w,(callFunc f vs).run P w=.ok (.enter f vs) w:=fun vs w=>by
 have h1:(program).run P w=.ok P w:=rfl;unfold callFunc;simp only[Sem.run_bind,h1,Result.andThen_ok,hf,hn,hb,Bool.false_eq_true,if_false,Sem.run_pure]
abbrev zA (x:Int):Int:=IntKind.wrap .i64 x
abbrev yN (k:IntKind)(x y:Int):Int:=tB (fun _ a b=>a&&&b) k x y
abbrev wM (k:IntKind)(x y:Int):Int:=tB (fun _ a b=>a|||b) k x y
abbrev shl (k:IntKind)(x y:Int):Int:=k.wrap (x*2^(min y.toNat k.bits))
abbrev shr (k:IntKind)(x y:Int):Int:=x.fdiv (2^(min y.toNat k.bits))
abbrev zL (n b:Nat):Bool:=Nat.ble (n*b) 140737488355328&&Nat.ble n 140737488355328
abbrev qb (l c:Int)(b:Nat):Bool:=decide (0≤l)&&decide (l≤c)&&decide (c*(b:Int)≤140737488355328)&&decide (c≤140737488355328)
abbrev wN (lt:Bool)(x y:Int):Int:=bif lt then(bif decide (y<x) then y else x) else(bif decide (y>x) then y else x)
abbrev VE (xs:List (List Int))(n:Nat):Option (List (List Int)):=
 ng (.c .mat) (fun d=>d.1) (.c (.osl 0 none)) ⟨fun _=>.undef,fun _=>some (.pmat 0 xs n)⟩
def VF xs n:VE xs n=bif Nat.beq xs.length n then some xs else none:=by
 unfold VE ng Je RS.get RS.cells;dsimp only[List.map,RC.isFro,gD,wK,tC,qK];cases h:Nat.beq xs.length n<;>simp[kM,pZ,h]
def VG {l:List Nat}{p:Nat→Bool}(hl:∀t∈l,p t=true)(t:Nat)(h:l.any (Nat.beq t)=true):p t=true:=by
 simp_all
def vMi {P}:II P (fun _=>false):=nofun
open Go.ChangeShapes Go.WideShapes Go.ChangeAt Go.RowKit
def Jk (f:TypeId→Option Ty):Nat→List (Nat×TypeId)→Option Ty
 |_,[]=>none
 |off,[x]=>bif Nat.beq x.1 off then f x.2 else none
 | off, x :: y :: l => bif Nat.beq x.1 off then (match f x.2 with
  |some a=>(match Jk f (off+a.size) (y::l) with|some b=>some (.pair a b)|none=>none)
  |none=>none) else none
def sA (P:Program):TypeDesc→List (Nat×TypeId)
 |.struct fs=>fs.toList.map fun f=>(f.offset,f.type)
 |.array n e=>(List.range n).map fun i=>(i*P.cellsOf e,e)
 |_=>[]
def o9 (P:Program):Nat→TypeId→Option Ty
 |0,_=>none
 |d+1,t=>match P.underlying t with
  |some (.int k)=>bif Nat.beq (P.cellsOf t) 1 then some (.int k) else none
  |some .bool=>bif Nat.beq (P.cellsOf t) 1 then some .bool else none
  |some (.slice e)=>bif Nat.beq (P.cellsOf t) 1&&Nat.ble 1 (P.bytesOf e) then(match o9 P d e with|some a=>some (.sl a)|none=>none) else none
  |some x=>match Jk (o9 P d) 0 (sA P x) with
   |some a=>bif Nat.beq (P.cellsOf t) a.size then some a else none
   |none=>none
  |none=>none
def Wf:(t:Ty)→t.den→Prop
 |.int k,n=>(Lit.int k n).wf=true
 |.bool,_=>True
 |.sl t,xs=>xs.length≤reachBytes∧∀i (h:i<xs.length),Wf t xs[i]
 |.pair a b,p=>Wf a p.1∧Wf b p.2
def VH {P}:∀{d t ty},o9 P d t=some ty→P.cellsOf t=ty.size
 |d+1,t,ty,h=>by
  unfold o9 at h;split at h
  ·obtain⟨h1,h2⟩:=wQ h;cases h2;exact Nat.eq_of_beq_eq_true h1
  ·obtain⟨h1,h2⟩:=wQ h;cases h2;exact Nat.eq_of_beq_eq_true h1
  ·obtain⟨h1,h2⟩:=wQ h;rw[Bool.and_eq_true] at h1;split at h2
   ·cases h2;exact Nat.eq_of_beq_eq_true h1.1
   ·cases h2
  ·split at h
   ·obtain⟨h1,h2⟩:=wQ h;simp_all
   ·cases h
  ·cases h
section
variable {H:Type} {enc:TypeId×Value→H} {P:Program} {w:World}
abbrev Jl (w:World):Nat→Prop:=fun b=>b<w.heap.size
def vWv {a n cs}(h:w.cells? 0 a n=some cs):cs.length=n∧∀i,i<n→∃v,cs[i]? =some v∧w.cell? (a.add i)=some v:=by
 have hl:=mapM_some_length h;have hg:=mapM_some_get h;simp at hl;refine⟨hl,fun i hi=>?_⟩;have:=hg i i (by simp[hi]);simp_all
def yRw {a v}(h:w.cell? a=some v):a.spot=none∧a.block<w.heap.size∧yT w.heap a.block a.off=some v:=by
 unfold World.cell? at h;cases hb:w.heap[a.block]? with
 |none=>simp_all
 |some o=>
  rw[hb] at h;cases o with
  |cells c e z=>
   dsimp only at h;split at h
   ·cases h
   ·refine⟨by simp_all,?_,?_⟩
    ·grind
    ·unfold yT;simp_all
  |_=>cases h
def vAl {α:Type}{p:Nat→α→Prop}:∀n,(∀i,i<n→∃x,p i x)→∃xs:List α,xs.length=n∧∀i h,p i xs[i]
 |0,_=>by simp
 |n+1,h=>by
  obtain⟨xs,h1,h2⟩:=vAl n fun i hi=>h i (by omega)
  obtain⟨x,hx⟩:=h n (by omega);refine⟨xs++[x],by simp[h1],fun i hi=>?_⟩;grind
def wZ (l:List Nat):Prop:=l.all (· ≤reachBytes)=true
def qc {l m}:wZ (l++m)↔wZ l∧wZ m:=by simp[wZ]
def yIe {P e}{d:DataW H}:∀{l},wZ (DataW.weightsAll P e l)→d∈l→wZ (d.weights P e)
 |a::l,h,hd=>by
  have h:=qc.1 h;rcases List.mem_cons.1 hd with rfl|hd
  ·exact h.1
  ·exact yIe h.2 hd
def yZ0 {P e}:∀{ts} {ds:List (DataW H)},(∀t∈ts,t=e)→wZ (DataW.weightsAll P e ds)→wZ (DataW.weightsEach P ts ds)
 |t::ts,d::ds,ht,h=>by
  have h:=qc.1 h;rw[ht t (by simp)];exact qc.2 ⟨h.1,yZ0 (by grind) h.2⟩
 |[],_,_,_=>by simp[DataW.weightsEach,wZ]
 |_::_,[],_,_=>by rfl
def N6 (P:Program)(w:World)(ty:Ty)(cs:List Value):Prop:=∃x:ty.den,cs.length=ty.size∧qF w.heap (Jl w) ty x (fun j=>cs[j]?)∧Wf ty x
def yD1 {d fuel}(ih:∀t ty cs x,o9 P d t=some ty→DataW.trod enc P w 0 (fun _=>true) true fuel t cs=some x→wZ (x.1.weights P t)→N6 P w ty cs):
  ∀l off ty (cs:List Value) out,Jk (o9 P d) off l=some ty→off+ty.size≤cs.length→
   (l.mapM fun p=>DataW.trod enc P w 0 (fun _=>true) true fuel p.2 ((cs.drop p.1).take (P.cellsOf p.2)))=some out→wZ (DataW.weightsEach P (l.map (·.2)) (out.map (·.1)))→N6 P w ty ((cs.drop off).take ty.size)
 |[x],off,ty,cs,out,h,hc,hm,hw=>by
  obtain⟨h1,h2⟩:=wQ h;have ho:x.1=off:=by simpa using h1
  simp only[List.mapM_cons,List.mapM_nil,Option.pure_def,Option.bind_eq_bind,Option.bind_eq_some_iff] at hm;obtain⟨y,hy,_,e,e'⟩:=hm;cases e;cases e';rw[ho,VH h2] at hy;exact ih _ _ _ _ h2 hy (qc.1 hw).1
 |x::y::l,off,ty,cs,out,h,hc,hm,hw=>by
  obtain⟨h1,h2⟩:=wQ h;have ho:x.1=off:=by simpa using h1
  split at h2
  ·rename_i a ha;split at h2
   ·rename_i b hb;cases h2;simp only[Ty.size] at hc⊢;rw[List.mapM_cons] at hm;simp only[Option.pure_def,Option.bind_eq_bind,Option.bind_eq_some_iff] at hm;obtain⟨z,hz,zs,hzs,e⟩:=hm;cases e;rw[ho,VH ha] at hz;have hw:=qc.1 hw;obtain⟨p,p1,p2,p3⟩:=ih _ _ _ _ ha hz hw.1;obtain⟨q,q1,q2,q3⟩:=yD1 ih (y::l) (off+a.size) b cs zs hb (by omega) hzs hw.2;refine⟨(p,q),by simp only[List.length_take,List.length_drop,Ty.size];omega,⟨?_,?_⟩,p3,q3⟩
    ·refine vE (fun _ h=>h) (by simp) a p _ _ (fun j hj=>?_) p2;simp only[List.getElem?_take,List.getElem?_drop];rw[if_pos (by omega),if_pos hj]
    grind
   ·cases h2
  ·cases h2
def VI:∀d t ty fuel cs x,o9 P d t=some ty→DataW.trod enc P w 0 (fun _=>true) true fuel t cs=some x→wZ (x.1.weights P t)→N6 P w ty cs
 |0,_,_,_,_,_,h,_,_=>by cases h
 |d+1,t,ty,0,cs,x,_,h,_=>by simp[DataW.trod] at h
 |d+1,t,ty,fuel+1,cs,x,hl,h,hw=>by
  unfold o9 at hl;split at hl
  ·rename_i k hu;obtain⟨_,hl⟩:=wQ hl;cases hl;obtain⟨n,rfl,_,pb⟩:=DataW.trod_int hu h;exact⟨n,rfl,rfl,pb⟩
  ·rename_i hu;obtain⟨_,hl⟩:=wQ hl;cases hl;obtain⟨b,rfl,_⟩:=DataW.trod_bool hu h;exact⟨b,rfl,rfl,trivial⟩
  ·rename_i e hu;obtain⟨fG,hl⟩:=wQ hl;rw[Bool.and_eq_true] at fG;have fG:=Nat.le_of_ble_eq_true fG.2;split at hl
   ·rename_i a ha;cases hl;rcases DataW.trod_slice hu h with⟨rfl,_⟩|⟨ad,len,cap,elems,rest,n,hn,rfl,rfl,_,TK,hm,hel,hg,_,_⟩
    ·refine⟨([]:List a.den),rfl,?_,?_⟩
     ·simp only[qF];exact⟨none,0,0,rfl,rfl,Nat.le_refl _,.inl ⟨trivial,fun _=>rfl⟩⟩
     ·simp only[Wf];exact by simp
    ·unfold DataW.weights at hw;rw[hu] at hw;have hw:wZ ([((elems.map (·.1)).length+(rest.map (·.1)).length)*P.bytesOf e]++(DataW.weightsAll P e (elems.map (·.1))++DataW.weightsAll P e (rest.map (·.1)))):=hw;obtain⟨sB,hw⟩:=qc.1 hw;have hw2:=(qc.1 hw).1;have hlen:len≤reachBytes:=by
      simp only[wZ,List.all_cons,List.all_nil,Bool.and_true,decide_eq_true_eq,List.length_map] at sB;have:=Nat.mul_le_mul_left (elems.length+rest.length) fG;omega
     have key:∀i,i<len→∃x:a.den,(qF w.heap (Jl w) a x (fun j=>yT w.heap ad.block (ad.off+i*a.size+j))∧(i=0→ad.spot=none)∧ad.block<w.heap.size)∧Wf a x:=by
      intro i hi;have h1:=hg i hi;have U0:i<elems.length:=by omega
      rw[List.getElem?_eq_getElem U0,Option.bind_eq_some_iff] at h1;obtain⟨cs,nV,htr⟩:=h1;rw[VH ha] at nV;obtain⟨y,y1,y2,y3⟩:=VI d e a n cs _ ha htr (yIe hw2 (by grind));obtain⟨c1,c2⟩:=vWv nV;have Bc:∀j,((ad.add (i*a.size)).add j).block=ad.block∧((ad.add (i*a.size)).add j).off=ad.off+i*a.size+j:=by
       intro j;unfold Addr.add;constructor
       ·split<;>split<;>rfl
       ·split<;>split<;>simp_all
      have at0:(i=0→ad.spot=none)∧ad.block<w.heap.size:=by
       obtain⟨v,_,hv⟩:=c2 0 a.size_pos;have h1:=yRw hv;refine⟨fun h0=>?_,by have:=h1.2.1;rwa [(Bc 0).1] at this⟩;have h2:=h1.1;subst h0
       simpa[Addr.add] using h2
      refine⟨y,⟨vE (fun _ h=>h) (fun _ _=>rfl) a y _ _ (fun j hj=>?_) y2,at0⟩,y3⟩;obtain⟨v,v1,v2⟩:=c2 j hj;rw[v1];have h1:=(yRw v2).2.2
      rwa [(Bc j).1,(Bc j).2] at h1
     obtain⟨xs,x1,x2⟩:=vAl len key;refine⟨xs,rfl,?_,?_⟩
     ·simp only[qF];refine⟨some ad,len,cap,rfl,x1.symm,TK,?_⟩;by_cases h0:xs=[]
      ·exact by grind
      ·refine .inr ⟨ad.block,ad.off,?_,?_,fun i hi=>(x2 i hi).1.1⟩
       ·have:=(x2 0 (List.length_pos_iff.2 h0)).1.2.1 rfl;cases ad;simp at this;rw[this]
       ·exact by grind
     ·simp only[Wf];exact by grind
   ·cases hl
  ·rename_i y n1 n2 n3 hu;split at hl
   ·rename_i a ha;obtain⟨dX,hl⟩:=wQ hl;cases hl;have dX:P.cellsOf t=ty.size:=by simpa using dX
    have fin:∀out,cs.length=P.cellsOf t→((sA P y).mapM fun p=>DataW.trod enc P w 0 (fun _=>true) true fuel p.2 ((cs.drop p.1).take (P.cellsOf p.2)))=some out→wZ (DataW.weightsEach P ((sA P y).map (·.2)) (out.map (·.1)))→N6 P w ty cs:=by
     intro out hlen kH hw;have:=yD1 (fun t' ty' aP x' h1 h2 h3=>VI d t' ty' fuel aP x' h1 h2 h3) (sA P y) 0 ty cs out ha (by omega) kH hw
     rwa [List.drop_zero,List.take_of_length_le (by omega)] at this
    unfold DataW.trod at h;rw[hu] at h;cases y with
    |struct fs=>
     dsimp only at h;split at h
     ·rename_i hlen;rw[Option.map_eq_some_iff] at h;obtain⟨out,ho,rfl⟩:=h;unfold DataW.weights at hw;rw[hu] at hw;refine fin out hlen ?_ (by rw[sA,List.map_map];exact hw);simp only[sA,List.mapM_map];exact ho
     ·cases h
    |array n e=>
     dsimp only at h;split at h
     ·rename_i hlen;rw[Option.map_eq_some_iff] at h;obtain⟨out,ho,rfl⟩:=h;unfold DataW.weights at hw;rw[hu] at hw;refine fin out hlen ?_ (yZ0 (fun t ht=>by simp[sA] at ht;exact ht.2.symm) hw);simp only[sA,List.mapM_map];exact ho
     ·cases h
    |_=>simp[sA,Jk] at ha
   ·cases hl
  ·cases hl
end
open Go.ChangeShapes Go.WideShapes Go.ChangeAt Go.RowKit
def ue (sh:Bool):Ty→List PC
 |.int k=>[.int k]
 |.bool=>[.bool]
 |.sl t=>[.dat sh t]
 |.pair a b=>ue sh a++ue sh b
def xd:(l m:List PC)→PL l→PL m→PL (l++m)
 |[],_,_,e=>e
 |_::l,m,d,e=>(d.1,xd l m d.2 e)
def VJ:∀l m d e,wD (l++m) (xd l m d e)=wD l d++wD m e
 |[],_,_,_=>rfl
 |p::l,m,d,e=>by
  show D4 p d.1::wD (l++m) (xd l m d.2 e)=D4 p d.1::(wD l d.2++wD m e);rw[VJ l m d.2 e]
def sC sh:(t:Ty)→t.den→PL (ue sh t)
 |.int _,n=>(n,())
 |.bool,b=>(b,())
 |.sl _,xs=>(xs,())
 |.pair a b,p=>xd _ _ (sC sh a p.1) (sC sh b p.2)
def WfP:(p:PC)→p.den→Prop
 |.int k,n=>(Lit.int k n).wf=true
 |.bool,_=>True
 |.dat _ t,xs=>Wf (.sl t) xs
 |.fn _,_=>True
 |.nil,_=>True
 |.nilp,_=>True
def uf:(l:List PC)→PL l→Prop
 |[],_=>True
 |p::l,d=>WfP p d.1∧uf l d.2
def VK:∀l m d e,uf l d→uf m e→uf (l++m) (xd l m d e)
 |[],_,_,_,_,h=>h
 |_::l,m,d,e,h,h'=>⟨h.1,VK l m d.2 e h.2 h'⟩
def VL sh:∀t x,Wf t x→uf (ue sh t) (sC sh t x)
 |.int _,_,h
 |.bool,_,h
 |.sl _,_,h=>⟨h,trivial⟩
 |.pair a b,p,h=>VK _ _ _ _ (VL sh a p.1 h.1) (VL sh b p.2 h.2)
def N7:∀l d,(wD l d).length=l.length
 |[],_=>rfl
 |p::l,d=>by
  show(wD l d.2).length+1=l.length+1;rw[N7 l d.2]
def M0 (w:World):zK:=⟨fun _=>none,Jl w,Jl w,lZ [],w.heap⟩
def vO9 w:Ok (M0 w) where
 obj:=nofun
 non:=fun _ _=>rfl
 disj:=fun i j oi oj Ci Cj b _ h=>by cases h
 own:=nofun
 GF:=fun _ h=>h
 Flt:=fun _ h=>h
def VM sh {w}:∀t x cs,cs.length=t.size→qF w.heap (Jl w) t x (fun j=>cs[j]?)→zM (zY (M0 w)) (wD (ue sh t) (sC sh t x)) cs
 |.int k,n,cs,hl,h=>by
  match cs,hl with
  |[c],_=>
   have e:c=.int k n:=by simpa[qF] using h
   exact⟨e,trivial⟩
 |.bool,b,cs,hl,h=>by
  match cs,hl with
  |[c],_=>
   have e:c=.bool b:=by simpa[qF] using h
   exact⟨e,trivial⟩
 |.sl t,xs,cs,hl,h=>by
  match cs,hl with
  |[c],_=>
   refine⟨?_,trivial⟩;have h':=vE (F':=(bif sh then(M0 w).G else(M0 w).F)) (fun b h=>by cases sh<;>exact h) (fun b _=>rfl) (.sl t) xs (fun j=>[c][j]?) (fun _=>some c) (by grind) h;exact h'
 |.pair a b,p,cs,hl,h=>by
  have dN:cs.length=a.size+b.size:=hl;have h1:=VM sh a p.1 (cs.take a.size) (by grind) (vE (fun _ h=>h) (by simp) a p.1 _ _ (by grind) h.1);have h2:=VM sh b p.2 (cs.drop a.size) (by grind) (vE (by simp) (fun _ _=>rfl) b p.2 _ _ (by grind) h.2);show zM _ (wD (ue sh a++ue sh b) (xd _ _ (sC sh a p.1) (sC sh b p.2))) cs;rw[VJ];have:=zM.append h1 h2;simp_all
def sD (sh : Bool) (P : Program) (t : TypeId) (ty : Ty) : AS := bif eQ P t == some true then .agg (ue sh ty) else (match ty with
 |.int k=>.c (.int k)|.bool=>.c .bool|.sl t=>.c (.dat sh t)|.pair a b=>.agg (ue sh (.pair a b)))
def N8 (P:Program):List TypeId→Option (List Ty)
 |[]=>some []
 |t::ts=>match o9 P 8 t,N8 P ts with
  |some a,some l=>some (a::l)
  |_,_=>none
def ug (sh:Bool)(P:Program):List TypeId→List Ty→List AS
 |t::ts,a::l=>sD sh P t a::ug sh P ts l
 |_,_=>[]
def VN {P t ty}(h:o9 P 8 t=some ty)(ha:(eQ P t==some true)=false):(∃k,P.underlying t=some (.int k)∧ty=.int k)∨(P.underlying t=some .bool∧ty=.bool)∨∃e a,P.underlying t=some (.slice e)∧ty=.sl a:=by
 unfold o9 at h;split at h
 ·grind
 ·grind
 ·grind
 ·rename_i x _ _ _ hu;split at h
  ·rename_i a hx;unfold eQ at ha;rw[hu] at ha;cases x<;>first|(simp[sA,Jk] at hx;done)|(cases ha)
  ·cases h
 ·cases h
section
variable {H:Type} {enc:TypeId×Value→H} {P:Program} {w:World}
def vXl sh {t ty v d ps base}(hl:o9 P 8 t=some ty)(fY:Value.okWide P w .any base t v)(h:DataW.Trod enc P w 0 (fun _=>true) true t v d ps)(hw:wZ (d.weights P t)):
  ∃x:PL (sD sh P t ty).cells,(∀n,zV (M0 w) ((sD sh P t ty).mk n (wD _ x)) v)∧(sD sh P t ty).boxes (wD _ x)=[]∧uf _ x:=by
 obtain⟨fuel,hf⟩:=h;obtain⟨x,x1,x2,x3⟩:=VI 8 t ty fuel _ _ hl hf hw;have dr:=VM sh ty x _ x1 x2;have D9:=VL sh ty x x3;unfold sD;cases ha:(eQ P t==some true) with
 |true=>
  refine⟨sC sh ty x,fun n=>?_,rfl,D9⟩;have rY:eQ P t=some true:=by simp_all
  have hv:∃cs,v=.agg cs:=by
   unfold eQ at rY;unfold Value.okWide at fY;grind
  obtain⟨cs,rfl⟩:=hv;exact⟨cs,rfl,dr⟩
 |false=>
  rcases VN hl ha with⟨k,hu,rfl⟩|⟨hu,rfl⟩|⟨e,a,hu,rfl⟩
  ·have hv:∃n,v=.int k n:=by
    simp[Value.okWide,Cell.okWide] at fY;cases v<;>simp_all[Cell.ok]
   obtain⟨n0,rfl⟩:=hv;exact⟨sC sh _ x,fun n=>dr.1,rfl,D9⟩
  ·have hv:∃b,v=.bool b:=by
    simp[Value.okWide,Cell.okWide] at fY;cases v<;>simp_all[Cell.ok]
   obtain⟨b,rfl⟩:=hv;exact⟨sC sh _ x,fun n=>dr.1,rfl,D9⟩
  ·obtain⟨ad,len,cap,rfl⟩:=okWide_slice hu fY;exact⟨sC sh _ x,fun n=>dr.1,rfl,D9⟩
def yU1 sh {base}:∀ts tys vs ds ps n,N8 P ts=some tys→(∀(j:Nat) t v,ts[j]? =some t→vs[j]? =some v→Value.okWide P w .any base t v)→
  DataW.TrodAll enc P w 0 (fun _=>true) true ts vs ds ps→wZ (DataW.weightsEach P ts ds)→∃x:AD (ug sh P ts tys),zM (zV (M0 w)) (lY (ug sh P ts tys) (wD _ x) n).1 vs∧(lY (ug sh P ts tys) (wD _ x) n).2=[]∧uf _ x
 |[],tys,vs,ds,ps,n,hl,fY,h,_=>by
  match vs,ds,h with
  |[],[],_=>exact⟨(),trivial,rfl,trivial⟩
 |t::ts,tys,vs,ds,ps,n,hl,fY,h,hw=>by
  unfold N8 at hl;split at hl
  ·rename_i a l ha dN;cases hl
   match vs,ds,h with
   |v::vs,d::ds,h=>
    obtain⟨p,q,h1,h2,_⟩:=h;have hw:=qc.1 hw;obtain⟨x,x1,x2,x3⟩:=vXl sh ha (fY 0 t v rfl rfl) h1 hw.1;obtain⟨y,y1,y2,y3⟩:=yU1 sh ts l vs ds q n dN (fun j t' v' h1 h2=>fY (j+1) t' v' h1 h2) h2 hw.2;refine⟨xd _ _ x y,?_⟩;have e:wD ((ug sh P (t::ts) (a::l)).flatMap AS.cells) (xd _ _ x y)=wD _ x++wD _ y:=VJ _ _ _ _;have ht:(wD _ x++wD _ y).take (sD sh P t a).cells.length=wD _ x:=by
     rw[List.take_append_of_le_length (by rw[N7];omega),List.take_of_length_le (by rw[N7];omega)]
    have hd:(wD _ x++wD _ y).drop (sD sh P t a).cells.length=wD _ y:=by
     rw[List.drop_append_of_le_length (by rw[N7];exact by simp),List.drop_of_length_le (by grind),List.nil_append]
    rw[e];have em:lY (ug sh P (t::ts) (a::l)) (wD _ x++wD _ y) n=((sD sh P t a).mk n (wD _ x)::(lY (ug sh P ts l) (wD _ y) n).1,(lY (ug sh P ts l) (wD _ y) n).2):=by
     show((sD sh P t a).mk n _::_,(sD sh P t a).boxes _++_)=_;simp_all
    rw[em];exact⟨⟨x1 n,y1⟩,y2,VK _ _ _ _ x3 y3⟩
  ·cases hl
def yZ1 {us}{gs:List (DataW H)}:∀{ts ds},ts.length=ds.length→wZ (DataW.weightsEach P (ts++us) (ds++gs))→wZ (DataW.weightsEach P ts ds)
 |[],[],_,_=>by rfl
 |t::ts,d::ds,hl,h=>qc.2 ⟨(qc.1 h).1,yZ1 (by simp_all) (qc.1 h).2⟩
def vCn:∀{ts vs ds ps},DataW.TrodAll enc P w 0 (fun _=>true) true ts vs ds ps→ts.length=ds.length
 |[],[],[],_,_=>rfl
 |_::_,_::_,_::_,_,⟨_,_,_,h,_⟩=>by rw[List.length_cons,List.length_cons,vCn h]
def lawArgs sh {base ts tys asp vs ds ps}(hl:N8 P ts=some tys)(has:ug sh P ts tys=asp)
  (fY:∀(j:Nat) t v,ts[j]? =some t→vs[j]? =some v→Value.okWide P w .any base t v) (h:DataW.TrodAll enc P w 0 (fun _=>true) true ts vs ds ps) {us gs} (hw:wZ (DataW.weightsEach P (ts++us) (ds++gs))):
  ∃x:AD asp,zM (zV (M0 w)) (lY asp (wD _ x) 0).1 vs∧(lY asp (wD _ x) 0).2=[]∧uf _ x:=by
 subst has;exact yU1 sh ts tys vs ds ps 0 hl fY h (yZ1 (vCn h) hw)
def law_calls {E}(hE:gC E)(hS:j7 E.sums)(hm:E.P.follows .mixedOrders=true){A k pre f fn}(hf:E.P.funcs[f]? =some fn)(hL:∀c,fn.body=some c→wR E.P A pre 0 fn.ntmps c)
  {as d unpack} (hup:∀d,unpack d=d.1) (aN:ky E A k pre 0 fn (pY as d).1 (pY as d).2 (ng (.c .bool) unpack)=some true) (hb:(lY as (wD _ d) 0).2=[]) {vs} (hv:zM (zV (M0 w)) (lY as (wD _ d) 0).1 vs.toList):
  Calls E.P f vs w fun e w'=>e=.returned (.bool true)∧Below w.heap.size w w':=by
 have hh:(M0 w).h=(pY as d).2:=by
  show lZ []=lZ (lY as (wD _ d) 0).2;rw[hb]
 refine Calls.mono (Vg hE hS hm hf hL aN (M:=M0 w) (w:=w) hh rfl (vO9 w) hv) fun e w' he=>?_
 cases e with
 |returned rv=>
  obtain⟨M',v,st,hK,_,hH,_,hg,_,hrv,o1,o2,o3,_⟩:=he;refine⟨?_,o1,o2,o3,?_,fun b hb=>?_⟩
  ·unfold ng at hK;split at hK
   ·rename_i r hr;unfold Je at hr;split at hr
    ·rename_i cs nV;split at hr
     ·rename_i aP u DE;cases v with
      |c x=>
       cases nV;have e1:aP=[x]:=by
        simp[RS.cells,RC.isFro,gD] at DE;simp_all
       subst e1;have sf:kM (qK st.h u) [.bool] [x]=some r:=hr;cases x with
       |bool b=>
        have e2:r=(b,()):=by simp[kM,pZ] at sf;grind
        have:rv=.bool b:=hrv;grind
       |_=>simp[kM,pZ] at sf
      |_=>cases nV
     ·cases hr
    ·cases hr
   ·cases hK
  ·have:=hg.size;rw[hH] at this;exact this
  ·have:=hg.same b hb;rw[hH] at this;exact this
 |_=>simp_all
end
inductive XC where
 |p (c:PC)|own (t:Ty)|mat|map
 |link (j:Nat)
abbrev XC.den:XC→Type
 |.p c=>c.den|.own t=>List t.den|.mat=>List (List Int)|.map=>List (Int×Bool)|.link _=>Unit
def XC.lnk:XC→Option Nat
 |.link j=>some j
 |_=>none
def RC.lnk:RC→Option Nat
 |.link j=>some j
 |_=>none
def sE:List (Option Nat)→List Nat→List zZ→Bool
 |none::l,ids,_::cs=>sE l ids cs
 |some j::l,ids,.ptr id 0::cs=>(match ids[j]? with|some k=>Nat.beq id k|none=>false)&&sE l ids cs
 |some _::_,_,_=>false
 |_,_,_=>true
def Bd:List (Option Nat)→List Nat→List zZ→List zZ
 |none::l,ids,c::cs=>c::Bd l ids cs
 |some j::l,ids,c::cs=>(match ids[j]? with|some id=>.ptr id 0|none=>c)::Bd l ids cs
 |_,_,cs=>cs
def VO:List zZ→Option Nat
 |[]=>none
 |.ptr id 0::_=>some id
 |_::l=>VO l
def Jm (h:Hp):Nat→Nat→Option (List Nat)
 |0,_=>none
 |1,id=>some [id]
 |n+2,id=>match DZ h id with
  | some cells => (match VO cells with
   |some id2=>(match Jm h (n+1) id2 with|some l=>some (id::l)|none=>none)
   |none=>none)
  |none=>none
def l9:Nat→Nat→List Nat
 |_,0=>[]
 |n,m+1=>n::l9 (n+1) m
abbrev XL:List XC→Type
 |[]=>Unit
 |c::l=>c.den×XL l
inductive AX where
 |c (x:XC)|agg (l:List PC)|ptr (io:Bool) (l:List XC)|fn (f:Nat) (bC:List (Bool×List XC))
 |chn (ls:List (List XC))
def AX.cells:AX→List XC
 |.c x=>[x]
 |.agg l=>l.map .p
 |.ptr _ l=>l
 |.fn _ bC=>bC.flatMap (·.2)
 |.chn ls=>ls.flatten
def AX.nb:AX→Nat
 |.ptr _ _=>1
 |.fn _ bC=>bC.length
 |.chn ls=>ls.length
 |_=>0
def AX.isChn:AX→Bool
 |.chn _=>true
 |_=>false
def Ea (ls:List (List XC)):List (Bool×List XC):=ls.map fun l=>(true,l)
abbrev XD (l:List AX):Type:=XL (l.flatMap AX.cells)
def AX.looks:AX→Bool
 |.ptr _ _=>true
 |.fn _ _=>true
 |_=>false
def uh (l:List AX)(na:Nat):Bool:=l.zipIdx.all fun p=> !p.1.looks||Nat.blt p.2 na
def Eb (h:Hp)(io:Bool)(id:Nat):Option (List zZ):=match io,h id with
 |true,some (.box true cells)=>some cells
 |false,some (.box _ cells)=>some cells
 |false,some (.robox cells)=>some cells
 |_,_=>none
def ka (h:Hp):List (Bool×List XC)→List Nat→Option (List zZ×List (Bool×Nat))
 |[],[]=>some ([],[])
 |(io,l)::ls,id::ids=>match Eb h io id,ka h ls ids with
  |some cells,some (rest,bs)=>bif Nat.beq cells.length l.length then some (cells++rest,(io,id)::bs) else none
  |_,_=>none
 |_,_=>none
def AX.get (h:Hp):AX→zX→Option (List zZ×List (Bool×Nat))
 |.c _,.c x=>some ([x],[])
 |.agg l,.agg xs=>bif Nat.beq xs.length l.length then some (xs,[]) else none
 |.ptr io l,.c (.ptr id 0)=>ka h [(io,l)] [id]
 |.fn f bC,.c (.fn g ids)=>bif Nat.beq f g then ka h bC ids else none
 |.chn ls,.c (.ptr id 0)=>match Jm h ls.length id with
  |some ids=>ka h (Ea ls) ids
  |none=>none
 |_,_=>none
def kN (h:Hp):List AX→List zX→Option (List zZ×List (Bool×Nat))
 |[],[]=>some ([],[])
 |s::l,a::as=>match s.get h a,kN h l as with
  |some (cs,bs),some (aP,Be)=>some (cs++aP,bs++Be)
  |_,_=>none
 |_,_=>none
def Jn (h:Hp):(x:XC)→zZ→Option x.den
 |.p p,c=>uc h p c
 |.own t,.osl id none=>match h id with
  |some (.arr true s xs)=>im s t xs
  |_=>none
 |.mat,.osl id none=>match h id with
  |some (.mat _ xs)=>some xs
  |_=>none
 |.map,.map id=>match h id with
  |some (.imap de)=>some de
  |_=>none
 |.link _,.ptr _ 0=>some ()
 |_,_=>none
def qd (h:Hp):(l:List XC)→List zZ→Option (XL l)
 |[],[]=>some ()
 |x::l,c::cs=>match Jn h x c,qd h l cs with
  |some d,some ds=>some (d,ds)
  |_,_=>none
 |_,_=>none
def jW:List XC→List zZ→List Nat
 |.p _::l,_::cs=>jW l cs
 |.link _::l,_::cs=>jW l cs
 |_::l,.osl id _::cs=>id::jW l cs
 |_::l,.map id::cs=>id::jW l cs
 |_::l,_::cs=>jW l cs
 |_,_=>[]
def Jo:List XC→List zZ→List Nat
 |.p _::l,c::cs=>vQ c++Jo l cs
 |_::l,_::cs=>Jo l cs
 |_,_=>[]
def wU:Nat:=500
def iy:(l:List XC)→XL l→Nat→List zZ×List Obj
 |[],_,_=>([],[])
 |.p p::l,d,n=>let r:=iy l d.2 n;(D4 p d.1::r.1,r.2)
 |.own t::l,d,n=>let r:=iy l d.2 (n+1);(.osl n none::r.1,.arr true t d.1::r.2)
 |.mat::l,d,n=>let r:=iy l d.2 (n+1);(.osl n none::r.1,.mat 0 d.1::r.2)
 |.map::l,d,n=>let r:=iy l d.2 (n+1);(.map n::r.1,.imap d.1::r.2)
 |.link j::l,d,n=>let r:=iy l d.2 n;(.ptr j 0::r.1,r.2)
def Jp:List (Bool×List XC)→List zZ→List Obj
 |[],_=>[]
 |(io,l)::ls,cs=>(bif io then .box true (cs.take l.length) else .robox (cs.take l.length))::Jp ls (cs.drop l.length)
def AX.mk (n:Nat)(cs:List zZ):AX→zX
 |.c _=>match cs with|x::_=>.c x|[]=>.undef
 |.agg _=>.agg cs
 |.ptr _ _=>.c (.ptr n 0)
 |.fn f bC=>.c (.fn f ((List.range bC.length).map (n+·)))
 |.chn _=>.c (.ptr n 0)
def AX.boxes (cs:List zZ):AX→List Obj
 |.ptr io l=>Jp [(io,l)] cs
 |.fn _ bC=>Jp bC cs
 |.chn ls=>Jp (Ea ls) cs
 |_=>[]
def Bf:List AX→List zZ→Nat→List zX×List Obj
 |[],_,_=>([],[])
 |s::l,cs,n=>
  let aq:=cs.take s.cells.length;let bs:=s.boxes aq;let rest:=Bf l (cs.drop s.cells.length) (n+bs.length)
  (s.mk n aq::rest.1,bs++rest.2)
def Jq (bs rows:List Obj):Hp:=fun n=>bif Nat.ble wU n then rows[n-wU]? else bs[n]?
def kO l (d:XD l):List zX×Hp:=
 let r:=iy (l.flatMap AX.cells) d wU;let m:=Bf l r.1 0
 (m.1,Jq m.2 r.2)
def Jr:List (Bool×List XC)→List Nat→Option (List Nat)
 |[],[]=>some []
 |(io,_)::ls,id::ids=>match Jr ls ids with
  |some l=>some (bif io then id::l else l)
  |none=>none
 |_,_=>none
def AX.io (b:Nat):AX→zX→Option (List Nat)
 |.c _,_=>some []
 |.agg _,_=>some []
 |.ptr io l,.c (.ptr id 0)=>Jr [(io,l)] [id]
 |.fn _ bC,.c (.fn _ ids)=>Jr bC ids
 |.chn ls,_=>some (l9 b ls.length)
 |_,_=>none
def N9:List AX→(Nat→zX)→Nat→Nat→Option (List Nat)
 |[],_,_,_=>some []
 |s::l,t,n,b=>match s.io b (t n),N9 l t (n+1) (b+s.nb) with
  |some a,some b=>some (a++b)
  |_,_=>none
def Ec (h:Hp):List (List RC)→List Nat→Option (List zZ)
 |[],[]=>some []
 |o::os,n::ns=>match h n,Ec h os ns with
  |some (.box true cells),some rest=>bif Nat.beq cells.length o.length then some (cells++rest) else none
  |_,_=>none
 |_,_=>none
def VP (h:Hp)(ns:Nat)(cs:List zZ):Option (List Nat):=bif Nat.beq ns 0 then some [] else match VO cs with
 |some id=>Jm h ns id
 |none=>none
def xe (st:St)(as:List AX)(rs:RS)(os:List (List RC))(ns:Nat)(v:zX):Option (RL (rs.cells++os.flatten)):=
 match N9 as st.t 0 0 with
 |none=>none
 |some io=>match rs.get v with
  |none=>none
  |some cs=>match VP st.h ns cs with
   |none=>none
   |some nw=>match Ec st.h os (io++nw) with
    |none=>none
    | some bs => bif tC (io ++ nw) then (match gD st.h ((rs.cells++os.flatten).map RC.isFro) (cs++bs) with
     |some (cs,u)=>bif tC (wK (rs.cells++os.flatten) cs)&&sE ((rs.cells++os.flatten).map RC.lnk) (io++nw) cs then kM (qK st.h u) (rs.cells++os.flatten) cs else none
     |none=>none) else none
def Js (as:List AX)(rs:RS)(os:List (List RC))(ns:Nat){X:Type}(unpack:RL (rs.cells++os.flatten)→X)(v:zX)(st:St):Option X:=match xe st as rs os ns v with
 |some d=>some (unpack d)
 |none=>none
def Oa (as:List AX)(rs:RS)(os:List (List RC))(ns:Nat)(dt:RS)(du:List (List RC))(fL:Nat){X Y:Type}(up:RL (rs.cells++os.flatten)→X)(lD:RL (dt.cells++du.flatten)→Y)(v:zX)(st:St):Option (X⊕Y):=match xe st as rs os ns v with
 |some d=>some (.inl (up d))
 |none=>match xe st as dt du fL v with
  |some d=>some (.inr (lD d))
  |none=>none
def xf:List (List RC)→List zZ→List (List zZ)
 |[],_=>[]
 |o::os,cs=>cs.take o.length::xf os (cs.drop o.length)
def vW:List (Bool×Nat)→List Nat
 |[]=>[]
 |(true,id)::l=>id::vW l
 |(false,_)::l=>vW l
def Ob:List (Bool×Nat)→List Nat
 |[]=>[]
 |(true,_)::l=>Ob l
 |(false,id)::l=>id::Ob l
def Ed:List Nat→List (List zZ)→vL
 |id::ids,cs::css=>(id,.box true cs)::Ed ids css
 |_,_=>[]
def qe (ids:List Nat):vL:=ids.map fun id=>(id,.gone)
def vLg (nm:Nat)(rs:RS)(os:List (List RC))(ids:List Nat)(d:RL (rs.cells++os.flatten)):zX×vL:=
 let r:=oZ nm (rs.cells++os.flatten) d;let cs:=Bd ((rs.cells++os.flatten).map RC.lnk) ids r.1
 (rs.mk (cs.take rs.cells.length),r.2++Ed ids (xf os (cs.drop rs.cells.length)))
def VQ (a b:List Nat):Bool:=a.all fun x=> !b.any (Nat.beq x)
def xg (h:Hp):AX→zX→Option (zX×vL)
 |.c (.p p),.c x=>match gD h [p.isKept] [x] with
  |some ([x],u)=>some (.c x,u)
  |_=>none
 |.agg l,.agg xs=>match gD h (l.map PC.isKept) xs with
  |some (xs,u)=>some (.agg xs,u)
  |none=>none
 |_,a=>some (a,[])
def sF (h:Hp):List AX→List zX→Option (List zX×vL)
 |s::l,a::as=>match xg h s a,sF h l as with
  |some (a,u),some (as,us)=>some (a::as,u++us)
  |_,_=>none
 |_,as=>some (as,[])
def Bg as (nm n:Nat)(args:List zX)(h:Hp):Option (vL×List Nat×List Nat×XD as):=
 match sF h as args with
 |none=>none
 |some (args,u)=>match kN (qK h u) as args with
  |none=>none
  |some (cs,bs)=>match qd (qK h u) (as.flatMap AX.cells) cs with
   |none=>none
   |some d=>
    let rows:=jW (as.flatMap AX.cells) cs;let aq:=vW bs++rows
    bif w6 h nm n&&Nat.ble n 100&&Nat.ble bs.length wU&&tC aq&&VQ aq (Jo (as.flatMap AX.cells) cs)&&VQ aq (Ob bs)&&sE ((as.flatMap AX.cells).map XC.lnk) (bs.map (·.2)) cs then
     some (u,vW bs,rows,d)
    else none
def Jt (u:vL)(io rows:List Nat)(rs:RS)(os:List (List RC))(ns nm:Nat)(d:RL (rs.cells++os.flatten)):zX×vL:=
 let r:=vLg nm rs os (io++l9 (nm+(rs.cells++os.flatten).length) ns) d
 (r.1,u++(qe rows++r.2))
def sG as (rs:RS)(os:List (List RC))(ns:Nat){X}(S:XD as→Option X)(pack:X→RL (rs.cells++os.flatten))(nm:Nat)(args:List zX)(h:Hp):yU:=
 match Bg as nm ((rs.cells++os.flatten).length+ns) args h with
 |none=>.stuck
 |some (u,io,rows,d)=>.call X (S d) fun r=>Jt u io rows rs os ns nm (pack r)
def ui as (rs:RS)(os:List (List RC))(ns:Nat)(dt:RS)(du:List (List RC))(fL:Nat){X Y}(S:XD as→Option (X⊕Y))(pk:X→RL (rs.cells++os.flatten))(iP:Y→RL (dt.cells++du.flatten))(nm:Nat)(args:List zX)(h:Hp):yU:=
 match Bg as nm (((rs.cells++os.flatten).length+ns)+((dt.cells++du.flatten).length+fL)) args h with
 |none=>.stuck
 |some (u,io,rows,d)=>.call2 X Y (S d) (fun r=>Jt u io rows rs os ns nm (pk r)) (fun r=>Jt u io rows dt du fL nm (iP r))
def lE (M:zK)(aq:List Nat)(b:Nat):Prop:=∃id∈aq,∃C,M.κ id=some C∧b∈C.fp
structure sH (M:zK) (aq:List Nat) (Ml:zK):Prop where
 H:Ml.H=M.H
 F:Ml.F=fun b=>b<M.H.size∧¬lE M aq b
 G:Ml.G=M.G
def nY (M:zK)(aq:List Nat):Prop:=∀id∈aq,∃o,M.h id=some o∧o.owned=true
def lE.own {M aq}(ho:nY M aq){b}(h:lE M aq b):qO M b:=by
 obtain⟨id,an,C,hC,hb⟩:=h;obtain⟨o,h1,h2⟩:=ho id an;exact⟨id,o,C,h1,h2,hC,hb⟩
def uj {M}(ok:Ok M){aq}(ho:nY M aq){b}(h:M.F b):b<M.H.size∧¬lE M aq b:=⟨ok.Flt b h,fun hh=>(ok.own b (hh.own ho)).1 h⟩
def vFc {M M'}(ok:Ok M){aq}(ho:nY M aq){id o}(hn:id∉aq)(hh:M'.h=yG M.h id o)(hκ:M'.κ=M.κ)(hH:M'.H=M.H)(kD:Ok M'){b}(h:M'.G b):b<M.H.size∧¬lE M aq b:=by
 have hf:=kD.GF b h;refine⟨by have:=kD.Flt b hf;simp_all,fun hd=>?_⟩;obtain⟨jd,hj,C,hC,hb⟩:=hd;obtain⟨q,h1,h2⟩:=ho jd hj;refine(kD.own b ⟨jd,q,C,?_,h2,?_,hb⟩).1 hf
 ·rw[hh,yS _ _ (by grind)];exact h1
 simp_all
def vJ0 {M}(ok:Ok M){aq}(ho:nY M aq){c v t xs}(hn:∀id∈vQ c,id∉aq)(hv:zY M c v)(h:ku M.h c=some ⟨t,xs⟩):
  qF M.H (fun b=>b<M.H.size∧¬lE M aq b) (.sl t) xs (fun _=>some v):=by
 unfold ku at h;split at h
 ·rename_i sh s ys;cases h;cases sh with
  |true=>exact vE (fun b hb=>uj ok ho (ok.GF b hb)) (by simp) _ _ _ _ (fun _ _=>rfl) hv
  |false=>exact vE (fun b hb=>uj ok ho hb) (by simp) _ _ _ _ (fun _ _=>rfl) hv
 ·rename_i id r;have pP:id∉aq:=hn id (by simp[vQ]);split at h
  ·rename_i own s ys an;cases h;cases own with
   |false=>
    obtain⟨C,hC,hO⟩:=ok.obj _ _ an;exact vE (fun b hb=>uj ok ho (ok.GF b hb)) (by simp) _ _ _ _ (by simp) (AE hC hO hv)
   |true=>
    obtain⟨M',h1,h2,h3,h4,h5⟩:=vFb ok an;obtain⟨C,hC,hO⟩:=h3.obj id _ (by rw[h2];exact yO _ _ _);have:=AE hC hO (hv.ext h4.ext);exact vE (fun b hb=>vFc ok ho pP h2 h5 h1 h3 hb) (by grind) _ _ _ _ (by simp) this
  ·rename_i ver ys an;cases r with
   |some p=>cases h
   |none=>
    cases h;obtain⟨M',h1,h2,h3,h4,h5⟩:=yDl ok an;obtain⟨C,hC,hO⟩:=h3.obj id _ (by rw[h2];exact yO _ _ _);have:=AE (r:=none) hC hO (hv.ext h4.ext);exact vE (fun b hb=>vFc ok ho pP h2 h5 h1 h3 hb) (by grind) _ _ _ _ (by simp) this
  ·cases h
 ·rename_i id i ver;have pP:id∉aq:=hn id (by simp[vQ]);split at h
  ·rename_i v' ys an;cases fZ:Nat.beq v' ver with
   |false=>rw[fZ] at h;cases h
   |true=>
    rw[fZ] at h;cases h;have e:v'=ver:=by simpa using fZ
    subst e;obtain⟨C,hC,hO⟩:=ok.obj _ _ an;obtain⟨C',aD,cq,_,aR⟩:=hv;rw[hC] at aD;cases aD;obtain⟨rb,rl,wo,sn⟩:=aR hO.1;by_cases hi:i<ys.length
    ·obtain⟨B,pQ,v2,k1,k2,k3,k4,k5,k6⟩:=Dz hO hi;rw[wo] at k3;cases k3;rw[show ys.getD i []=ys[i] by simp[List.getD,hi]];simp only[qF];cases rb with
     |none=>
      obtain⟨rfl,h0⟩:=sn;grind
     |some R=>
      obtain⟨a,c,rfl,h1,h2,h3⟩:=sn;refine⟨_,_,c,rfl,rfl,h1,?_⟩;by_cases h0:ys[i].length=0
      ·simp_all
      ·have ha:a=0:=by omega
       subst ha;have hR:R∈C.fp:=by
        simp only[qB.fp,List.mem_append,List.mem_filterMap];grind
       refine .inr ⟨R,0,rfl,⟨?_,fun hd=>?_⟩,fun j hj=>?_⟩
       ·have:=k6 R rfl 0 (by omega);unfold yT at this;grind
       ·obtain⟨jd,hj,D,hD,hb⟩:=hd;obtain⟨q,q1,q2⟩:=ho jd hj;exact ok.disj jd id q _ D C R (by grind) q1 an q2 rfl hD hC hb hR
       ·simp only[qF,Ty.size,Nat.zero_add,Nat.mul_one,Nat.add_zero];exact by grind
    ·have:C.rows[i]? =none:=List.getElem?_eq_none (by have:=hO.2.2.2.1;omega);simp_all
  ·cases h
 ·cases h
def TrX (M:zK)(aq:List Nat)(c c':zZ):Prop:=∀v Ml,sH M aq Ml→zY M c v→zY Ml c' v
def VR {M}(ok:Ok M){aq}(ho:nY M aq){p c d}(hn:∀id∈vQ c,id∉aq)(h:uc M.h p c=some d):TrX M aq c (D4 p d):=by
 intro v Ml lo hv;unfold uc at h;split at h
 ·rename_i k j n;cases e:gw j k with
  |false=>simp_all
  |true=>rw[e] at h;cases h;rw[←tx e];exact hv
 ·cases h;exact hv
 ·show qF Ml.H Ml.F _ _ _;rw[lo.H,lo.F];unfold A6 at h;split at h
  ·cases h;rw[show v=.slice none 0 0 from hv];exact Jf
  ·split at h
   ·rename_i s ys hr;obtain⟨e,hx⟩:=lA h;subst e;subst hx;exact vJ0 ok ho hn hv hr
   ·cases h
 ·obtain⟨e,hx⟩:=lA h;subst e;subst hx;show qF Ml.H Ml.G _ _ _;rw[lo.H,lo.G];exact hv
 ·cases h;rw[show v=.slice none 0 0 from hv];exact Jf
 ·rename_i f g;cases e:Nat.beq f g with
  |false=>simp_all
  |true=>
   have:f=g:=by simp_all
   subst this;obtain⟨cv,rfl,hc⟩:=hv;refine⟨cv,rfl,?_⟩;generalize cv.toList=l at hc;cases l with
   |nil=>trivial
   |cons _ _=>exact hc.elim
 ·exact hv
 ·exact hv
 ·cases h
def sJ (M:zK)(aq:List Nat)(κ:Nat→Option qB)(c c':zZ):Prop:=∀v Ml,sH M aq Ml→Ml.κ=κ→zY M c v→zY Ml c' v
structure vZs (M:zK) (id:Nat) (o:Obj) (C:qB):Prop where
 κ:M.κ id=some C
 rep:∀Ml:zK,Ml.H=M.H→Ml.G=M.G→vB Ml o {C with ver:=0}
 own:o.owned=true
 was:∃q,M.h id=some q∧q.owned=true
def VT {M Ml}(hH:Ml.H=M.H){de C}(h:vB M (.imap de) C):vB Ml (.imap de) {C with ver:=0}:=by
 obtain⟨B,es,ck,h1,h2,h3,h4,h5⟩:=h;exact⟨B,es,ck,h1,h2,by simp_all,h4,h5⟩
def yHq {j l ids c cs}(h:sE (some j::l) ids (c::cs)=true):∃id,c=.ptr id 0∧ids[j]? =some id∧sE l ids cs=true:=by
 cases c with
 |ptr id off=>
  cases off with
  |zero=>
   have h:((match ids[j]? with|some k=>Nat.beq id k|none=>false)&&sE l ids cs)=true:=h;rw[Bool.and_eq_true] at h;have h1:=h.1;split at h1;all_goals simp_all
  |succ _=>cases h
 |_=>cases h
def Ee {M}(ok:Ok M){aq}(ho:nY M aq){κ}:∀{l cs d n ids},qd M.h l cs=some d→sE (l.map XC.lnk) ids cs=true→(∀id∈Jo l cs,id∉aq)→
  (jW l cs).length=(iy l d n).2.length∧(∀(i:Nat) id o,(jW l cs)[i]? =some id→(iy l d n).2[i]? =some o→∃C,vZs M id o C)∧
   ((∀i id C,(jW l cs)[i]? =some id→M.κ id=some C→κ (n+i)=some {C with ver:=0})→(∀j id,ids[j]? =some id→κ j=M.κ id)→zM (sJ M aq κ) cs (iy l d n).1)
 |[],[],_,n,_,_,_,_=>⟨rfl,nofun,fun _ _=>trivial⟩
 |x::l,c::cs,d,n,ids,h,hl,hn=>by
  unfold qd at h;split at h
  ·rename_i y ys h1 h2;cases h;cases x with
   |p p=>
    have ma:∀id∈vQ c,id∉aq:=fun id an=>hn id (List.mem_append_left _ an)
    obtain⟨k1,k2,k3⟩:=Ee ok ho (κ:=κ) (n:=n) (ids:=ids) h2 hl (fun id an=>hn id (List.mem_append_right _ an));exact⟨k1,k2,fun hκ hj=>⟨fun v Ml lo _ hv=>VR ok ho ma h1 v Ml lo hv,k3 hκ hj⟩⟩
   |own t=>
    cases c with
    |osl id r=>
     cases r with
     |some _=>cases h1
     |none=>
      have h1:(match M.h id with|some (.arr true s xs)=>im s t xs|_=>none)=some y:=h1;split at h1
      ·rename_i s xs an;obtain⟨e,hx⟩:=lA h1;subst e;subst hx;obtain⟨C,hC,hO⟩:=ok.obj id _ an;obtain⟨k1,k2,k3⟩:=Ee ok ho (κ:=κ) (n:=n+1) (ids:=ids) h2 hl hn;refine⟨by simp only[jW,iy,List.length_cons,k1],fun i jd o hi lR=>?_,fun hκ hj=>⟨fun v Ml lo hk hv=>?_,k3 (fun i jd D hi hD=>?_) hj⟩⟩
       ·cases i with
        |zero=>
         cases hi;cases lR;refine⟨C,hC,fun Ml e1 e2=>?_,rfl,_,an,rfl⟩;obtain⟨q1,q2,q3,q4⟩:=hO;refine⟨q1,q2,q3,?_⟩;rw[e1,e2];exact q4
        |succ i=>exact k2 i jd o hi lR
       ·obtain⟨D,hD,hS⟩:=hv;rw[hC] at hD;cases hD;refine⟨{C with ver:=0},by rw[hk];exact hκ 0 id C rfl hC,?_⟩;rw[lo.H];exact hS
       ·have:=hκ (i+1) jd D hi hD;rw[←this];congr 1;omega
      ·cases h1
    |_=>cases h1
   |mat=>
    cases c with
    |osl id r=>
     cases r with
     |some _=>cases h1
     |none=>
      have h1:(match M.h id with|some (.mat _ xs)=>some xs|_=>none)=some y:=h1;split at h1
      ·rename_i ver xs an;cases h1;obtain⟨C,hC,hO⟩:=ok.obj id _ an;obtain⟨k1,k2,k3⟩:=Ee ok ho (κ:=κ) (n:=n+1) (ids:=ids) h2 hl hn;refine⟨by simp only[jW,iy,List.length_cons,k1],fun i jd o hi lR=>?_,fun hκ hj=>⟨fun v Ml lo hk hv=>?_,k3 (fun i jd D hi hD=>?_) hj⟩⟩
       ·cases i with
        |zero=>
         cases hi;cases lR;refine⟨C,hC,fun Ml e1 e2=>?_,rfl,_,an,rfl⟩;obtain⟨q1,q2⟩:=hO;refine⟨rfl,?_⟩;rw[e1];exact q2
        |succ i=>exact k2 i jd o hi lR
       ·obtain⟨D,hD,hS⟩:=hv;rw[hC] at hD;cases hD;refine⟨{C with ver:=0},by rw[hk];exact hκ 0 id C rfl hC,?_⟩;show jG Ml.H {C with ver:=0} 0 C.len v;rw[lo.H];exact hS
       ·have:=hκ (i+1) jd D hi hD;rw[←this];congr 1;omega
      ·cases h1
    |_=>cases h1
   |map=>
    cases c with
    |map id=>
     have h1:(match M.h id with|some (.imap de)=>some de|_=>none)=some y:=h1;split at h1
     ·rename_i de an;cases h1;obtain⟨C,hC,hO⟩:=ok.obj id _ an;obtain⟨k1,k2,k3⟩:=Ee ok ho (κ:=κ) (n:=n+1) (ids:=ids) h2 hl hn;refine⟨by simp only[jW,iy,List.length_cons,k1],fun i jd o hi lR=>?_,fun hκ hj=>⟨fun v Ml lo hk hv=>?_,k3 (fun i jd D hi hD=>?_) hj⟩⟩
      ·cases i with
       |zero=>
        cases hi;cases lR;exact⟨C,hC,fun Ml e1 e2=>VT e1 hO,rfl,_,an,rfl⟩
       |succ i=>exact k2 i jd o hi lR
      ·obtain⟨D,B,hD,hB,e⟩:=hv;rw[hC] at hD;cases hD;exact⟨{C with ver:=0},B,by rw[hk];exact hκ 0 id C rfl hC,hB,e⟩
      ·have:=hκ (i+1) jd D hi hD;rw[←this];congr 1;omega
     ·cases h1
    |_=>cases h1
   |link j=>
    obtain⟨id,rfl,an,dN⟩:=yHq hl;obtain⟨k1,k2,k3⟩:=Ee ok ho (κ:=κ) (n:=n) (ids:=ids) h2 dN hn;refine⟨k1,k2,fun hκ hj=>⟨fun v Ml lo hk hv=>?_,k3 hκ hj⟩⟩;obtain⟨C,B,hC,hB,e⟩:=hv;exact⟨C,B,by rw[hk,hj j id an];exact hC,hB,e⟩
  ·cases h
 |[],_::_,_,_,_,h,_,_=>by cases h
 |_::_,[],_,_,_,h,_,_=>by cases h
def Ju {M Ml aq}(lo:sH M aq Ml):∀{cs aP vs},zM (sJ M aq Ml.κ) cs aP→zM (zY M) cs vs→zM (zY Ml) aP vs
 |[],[],[],_,_=>trivial
 |_::_,_::_,_::_,h,k=>⟨h.1 _ _ lo rfl k.1,Ju lo h.2 k.2⟩
def Ef (aq:List Nat)(bs:List (Bool×Nat)):Prop:=∀b∈bs,(b.1=true→b.2∈aq)∧(b.1=false→b.2∉aq)
def VU {M}(ok:Ok M){aq}(ho:nY M aq){io id cells}(h:Eb M.h io id=some cells)(hm:(io=true→id∈aq)∧(io=false→id∉aq)):
  ∃C B,M.κ id=some C∧C.blk=some B∧∀Ml bK,sH M aq Ml→zM (sJ M aq Ml.κ) cells bK→vB Ml (bif io then .box true bK else .robox bK) C:=by
 unfold Eb at h;split at h
 ·rename_i cs an;cases h;obtain⟨C,hC,B,vals,e,h1,h2,h3,h4,h5⟩:=ok.obj id _ an;exact⟨C,B,hC,h1,fun Ml bK lo ht=>⟨B,vals,e,h1,h2,by rw[lo.H];exact h3,Ju lo ht h4,by simp⟩⟩
 ·rename_i own cs an;cases h;obtain⟨C,hC,B,vals,e,h1,h2,h3,h4,h5⟩:=ok.obj id _ an;refine⟨C,B,hC,h1,fun Ml bK lo ht=>⟨B,vals,e,h1,h2,by rw[lo.H];exact h3,Ju lo ht h4,?_⟩⟩;rw[lo.F];cases own with
  |false=>exact uj ok ho (ok.GF B (h5 rfl))
  |true=>
   refine⟨by grind,fun hd=>?_⟩;obtain⟨jd,hj,D,hD,hb⟩:=hd;obtain⟨q,q1,q2⟩:=ho jd hj;exact ok.disj jd id q _ D C B (by grind) q1 an q2 rfl hD hC hb (by simp[qB.fp,h1])
 ·rename_i cs an;cases h;obtain⟨C,hC,B,vals,e,h1,h2,h3,h4,h5⟩:=ok.obj id _ an;refine⟨C,B,hC,h1,fun Ml bK lo ht=>⟨B,vals,e,h1,h2,by rw[lo.H];exact h3,Ju lo ht h4,?_⟩⟩;rw[lo.F];exact uj ok ho h5
 ·cases h
def VV (M:zK)(aq:List Nat)(bs:List (Bool×Nat))(mk:List zZ→List Obj)(cs:List zZ):Prop:=∀(Ml:zK) (aP:List zZ),sH M aq Ml→zM (sJ M aq Ml.κ) cs aP→
 zM (fun(b:Bool×Nat) o=>∃C B,M.κ b.2=some C∧C.blk=some B∧vB Ml o C∧o.owned=b.1) bs (mk aP)
def Oc {M}(ok:Ok M){aq}(ho:nY M aq):∀{ls ids cs bs},ka M.h ls ids=some (cs,bs)→Ef aq bs→
  cs.length=(ls.flatMap (·.2)).length∧bs=(ls.map (·.1)).zip ids∧ids.length=ls.length∧VV M aq bs (Jp ls) cs
 |[],[],cs,bs,h,_=>by cases h;exact⟨rfl,rfl,rfl,fun _ _ _ _=>trivial⟩
 |(io,l)::ls,id::ids,cs,bs,h,hf=>by
  unfold ka at h;split at h
  ·rename_i cells rest Be h1 h2;obtain⟨hl,h⟩:=wQ h;cases h;have hl:cells.length=l.length:=Nat.eq_of_beq_eq_true hl;obtain⟨C,B,hC,hB,hO⟩:=VU ok ho h1 (hf _ (List.mem_cons_self ..));obtain⟨k1,k2,k3,k4⟩:=Oc ok ho h2 fun b hb=>hf b (by grind)
   refine⟨by simp_all,by simp_all,by simp[k3],fun Ml aP lo ht=>?_⟩;have o6:=zM.take l.length ht;have nU:=zM.drop l.length ht;rw[←hl,List.drop_left] at nU;refine⟨⟨C,B,hC,hB,?_,?_⟩,?_⟩
   ·simp_all
   ·cases io<;>rfl
   ·rw[←hl];exact k4 Ml _ lo nU
  ·cases h
def Jv {h}:∀{ls ids cs bs},ka h ls ids=some (cs,bs)→bs.length=ls.length
 |[],[],_,_,e=>by cases e;rfl
 |(io,l)::ls,id::ids,cs,bs,e=>by
  unfold ka at e;split at e
  ·rename_i cells rest Be h1 h2;obtain⟨_,e⟩:=wQ e;cases e;simp[Jv h2]
  ·cases e
def vTx {h}{s:AX}{a cs bs}(e:s.get h a=some (cs,bs)):bs.length=s.nb:=by
 unfold AX.get at e;split at e
 ·cases e;rfl
 ·obtain⟨_,e⟩:=wQ e;cases e;rfl
 ·rw[Jv e];rfl
 ·obtain⟨_,e⟩:=wQ e;rw[Jv e];rfl
 ·split at e
  ·rw[Jv e];simp[Ea,AX.nb]
  ·cases e
 ·cases e
def VW {h}:∀{n id ids},Jm h n id=some ids→ids.head? =some id∧ids.length=n
 |1,_,_,e=>by cases e;simp
 |n+2,id,ids,e=>by
  unfold Jm at e;split at e
  ·split at e
   ·split at e
    ·rename_i l hl;cases e;exact⟨rfl,by simp[(VW hl).2]⟩
    ·cases e
   ·cases e
  ·cases e
def vTo {M}(ok:Ok M){aq}(ho:nY M aq){s:AX}{a v cs bs}(hv:zV M a v)(h:s.get M.h a=some (cs,bs))(hf:Ef aq bs):
  cs.length=s.cells.length∧VV M aq bs (fun aP=>s.boxes aP) cs∧∀Ml aP n,sH M aq Ml→zM (sJ M aq Ml.κ) cs aP→(∀i b,bs[i]? =some b→Ml.κ (n+i)=M.κ b.2)→zV Ml (s.mk n aP) v:=by
 unfold AX.get at h;split at h
 ·cases h;refine⟨rfl,fun Ml aP lo ht=>trivial,fun Ml aP n lo ht _=>?_⟩
  match aP,ht with
  |[c'],ht=>exact ht.1 v Ml lo rfl hv
 ·rename_i l xs;obtain⟨hl,h'⟩:=wQ h;cases h';have hl:cs.length=l.length:=Nat.eq_of_beq_eq_true hl;obtain⟨vs,rfl,hx⟩:=hv;exact⟨by simp[AX.cells,hl],fun Ml aP lo ht=>trivial,fun Ml aP n lo ht _=>⟨vs,rfl,Ju lo ht hx⟩⟩
 ·rename_i io l id;obtain⟨k1,k2,k3,k4⟩:=Oc ok ho h hf;refine⟨by rw[k1];simp[AX.cells],k4,fun Ml aP n lo ht hκ=>?_⟩;obtain⟨C,B,hC,hB,e⟩:=hv;exact⟨C,B,by have:=hκ 0 (io,id) (by rw[k2];rfl);simp_all,hB,e⟩
 ·rename_i f bC g ids;obtain⟨hg,h'⟩:=wQ h;have Vp:f=g:=Nat.eq_of_beq_eq_true hg;subst Vp;obtain⟨k1,k2,k3,k4⟩:=Oc ok ho h' hf;refine⟨by rw[k1];rfl,k4,fun Ml aP n lo ht hκ=>?_⟩;obtain⟨cv,rfl,hc⟩:=hv;refine⟨cv,rfl,?_⟩;have l2:=hc.length;refine zM.of_get (by simp_all) fun i h1 h2=>?_
  have hi:i<ids.length:=by omega
  obtain⟨C,B,q1,q2,q3⟩:=hc.get i hi h2;have hb:bs[i]? =some ((bC.map (·.1))[i]'(by simp at h1⊢;omega),ids[i]):=by
   grind
  grind
 ·rename_i ls id;split at h
  ·rename_i ids kG;obtain⟨k1,k2,k3,k4⟩:=Oc ok ho h hf;refine⟨by rw[k1];simp[AX.cells,Ea,List.flatMap_map],k4,fun Ml aP n lo ht hκ=>?_⟩;obtain⟨C,B,hC,hB,e⟩:=hv;have hb:bs[0]? =some (true,id):=by
    obtain⟨h1,h2⟩:=VW kG;rw[k2];cases ids with
    |nil=>cases h1
    |cons i ids=>
     cases h1;cases ls with
     |nil=>cases k3
     |cons l ls=>rfl
   exact⟨C,B,by grind,hB,e⟩
  ·cases h
 ·cases h
def yD8 {M}(ok:Ok M){aq}(ho:nY M aq):∀{l as vs cs bs},zM (zV M) as vs→kN M.h l as=some (cs,bs)→Ef aq bs→
  cs.length=(l.flatMap AX.cells).length∧(∀n,VV M aq bs (fun aP=>(Bf l aP n).2) cs)∧
   ∀Ml aP n,sH M aq Ml→zM (sJ M aq Ml.κ) cs aP→(∀i b,bs[i]? =some b→Ml.κ (n+i)=M.κ b.2)→zM (zV Ml) (Bf l aP n).1 vs
 |[],[],[],cs,bs,_,h,_=>by cases h;exact⟨rfl,fun _ _ _ _ _=>trivial,fun _ _ _ _ _ _=>trivial⟩
 |s::l,a::as,v::vs,cs,bs,hv,h,hf=>by
  unfold kN at h;split at h
  ·rename_i mX bs1 cs2 bs2 h1 h2;cases h;have hf1:Ef aq bs1:=fun b hb=>hf b (by grind)
   have hf2:Ef aq bs2:=fun b hb=>hf b (by grind)
   obtain⟨k1,k2,k3⟩:=vTo ok ho hv.1 h1 hf1;obtain⟨k4,k5,k6⟩:=yD8 ok ho hv.2 h2 hf2;have cut:∀{κ:Nat→Option qB} {aP:List zZ},zM (sJ M aq κ) (mX++cs2) aP→zM (sJ M aq κ) mX (aP.take s.cells.length)∧zM (sJ M aq κ) cs2 (aP.drop s.cells.length):=by
    intro κ aP ht;have o6:=zM.take s.cells.length ht;have nU:=zM.drop s.cells.length ht;simp_all
   refine⟨by simp_all,fun n Ml aP lo ht=>?_,fun Ml aP n lo ht hκ=>?_⟩
   ·obtain⟨o6,nU⟩:=cut ht;exact(k2 Ml _ lo o6).append (k5 _ Ml _ lo nU)
   ·obtain⟨o6,nU⟩:=cut ht;have hlen:=(k2 Ml _ lo o6).length;refine⟨k3 Ml _ n lo o6 fun i b hb=>hκ i b ?_,k6 Ml _ _ lo nU fun i b hb=>?_⟩
    ·grind
    ·have:=hκ (bs1.length+i) b (by grind);grind
  ·cases h
def κX (M : zK) (bs : List (Bool × Nat)) (rows : List Nat) : Nat → Option qB := fun n => bif Nat.ble wU n then (match rows[n-wU]? with
  |some id=>(M.κ id).map fun C=>{C with ver:=0}
  |none=>none)
 else (match bs[n]? with
  |some b=>M.κ b.2
  |none=>none)
def Bh:∀{bs} {i id:Nat},bs[i]? =some (true,id)→id∈vW bs
 |(true,a)::bs,0,id,h=>by cases h;exact List.mem_cons_self ..
 |(true,a)::bs,i+1,id,h=>List.mem_cons_of_mem _ (Bh (bs:=bs) (i:=i) h)
 |(false,a)::bs,i+1,id,h=>Bh (bs:=bs) (i:=i) h
def VX:∀{bs} {i j id:Nat},(vW bs).Nodup→bs[i]? =some (true,id)→bs[j]? =some (true,id)→i=j
 |(true,a)::bs,0,0,id,_,_,_=>rfl
 |(true,a)::bs,0,j+1,id,hn,h,k=>by
  cases h;exact absurd (Bh (bs:=bs) (i:=j) k) (List.nodup_cons.1 hn).1
 |(true,a)::bs,i+1,0,id,hn,h,k=>by
  cases k;exact absurd (Bh (bs:=bs) (i:=i) h) (List.nodup_cons.1 hn).1
 |(true,a)::bs,i+1,j+1,id,hn,h,k=>by rw[VX (bs:=bs) (List.nodup_cons.1 hn).2 h k]
 |(false,a)::bs,i+1,j+1,id,hn,h,k=>by rw[VX (bs:=bs) hn h k]
def vP9 {M}(ok:Ok M){l as vs cs bs}{d:XD l}(hv:zM (zV M) as vs)(hg:kN M.h l as=some (cs,bs))(hd:qd M.h (l.flatMap AX.cells) cs=some d)
  (dG:(vW bs++jW (l.flatMap AX.cells) cs).Nodup) (ss:∀id∈Jo (l.flatMap AX.cells) cs,id∉vW bs++jW (l.flatMap AX.cells) cs) (nZ:∀id∈Ob bs,id∉vW bs++jW (l.flatMap AX.cells) cs) (hlen:bs.length≤wU) (uk:sE ((l.flatMap AX.cells).map XC.lnk) (bs.map (·.2)) cs=true) (ho:nY M (vW bs++jW (l.flatMap AX.cells) cs)):
  ∃Ml:zK,sH M (vW bs++jW (l.flatMap AX.cells) cs) Ml∧Ml.h=(kO l d).2∧Ok Ml∧(∀b,qO Ml b→lE M (vW bs++jW (l.flatMap AX.cells) cs) b)∧zM (zV Ml) (kO l d).1 vs∧Ml.κ=κX M bs (jW (l.flatMap AX.cells) cs):=by
 generalize iz:vW bs++jW (l.flatMap AX.cells) cs=aq at*
 have xh:Ef aq bs:=by
  intro b hb;obtain⟨i,hi,rfl⟩:=List.getElem_of_mem hb;have Iz:bs[i]? =some bs[i]:=List.getElem?_eq_getElem hi;refine⟨fun e=>?_,fun e=>?_⟩
  ·rw[←iz];have:bs[i]? =some (true,bs[i].2):=by rw[Iz,←e]
   exact List.mem_append_left _ (Bh this)
  ·apply nZ;clear hg hd dG ss nZ hlen ho iz hv uk
   induction bs generalizing i with
   |nil=>exact absurd hi (Nat.not_lt_zero i)
   |cons c bs ih=>
    obtain⟨io,a⟩:=c;cases i with
    |zero=>cases io<;>first|exact List.mem_cons_self .. |cases e
    |succ i=>cases io<;>first|exact List.mem_cons_of_mem _ (by grind)|exact ih i (by simpa using hi) (List.getElem_mem _) (List.getElem?_eq_getElem _) e
 let κ:=κX M bs (jW (l.flatMap AX.cells) cs);obtain⟨k1,k2,k3⟩:=Ee ok ho (κ:=κ) (n:=wU) (ids:=bs.map (·.2)) hd uk ss;have ht : zM (sJ M aq κ) cs (iy (l.flatMap AX.cells) d wU).1 := k3 (fun i id C hi hC=>by
  show κX M bs _ (wU+i)=_;unfold κX;rw[Nat.ble_eq_true_of_le (Nat.le_add_right _ _),show wU+i-wU=i by omega,hi];simp[hC]) fun j id hj=>by
  rw[List.getElem?_map] at hj;obtain⟨b,hb,rfl⟩:=Option.map_eq_some_iff.1 hj;have hi:j<bs.length:=by grind
  show κX M bs _ j=_;unfold κX;have:Nat.ble wU j=false:=by
   cases h:Nat.ble wU j with
   |false=>rfl
   |true=>have:=Nat.le_of_ble_eq_true h;omega
  rw[this,hb];rfl
 obtain⟨a1,a2,a3⟩:=yD8 ok ho hv hg xh;let Ml:zK:={κ:=κ,F:=fun b=>b<M.H.size∧¬lE M aq b,G:=M.G,h:=(kO l d).2,H:=M.H};have lo:sH M aq Ml:=⟨rfl,rfl,rfl⟩;have Bi:=a2 0 Ml _ lo ht;have hκbox:∀i b,bs[i]? =some b→Ml.κ (0+i)=M.κ b.2:=fun i b hb=>by
  have hi:i<bs.length:=by grind
  show κX M bs _ (0+i)=_;unfold κX;have:Nat.ble wU (0+i)=false:=by
   cases h:Nat.ble wU (0+i) with
   |false=>rfl
   |true=>have:=Nat.le_of_ble_eq_true h;omega
  rw[this,Nat.zero_add,hb];rfl
 have mb:∀id o,Ml.h id=some o→∃jd C,Ml.κ id=some C∧vB Ml o C∧(o.owned=true→jd∈aq∧∃D,M.κ jd=some D∧D.fp=C.fp)∧
   ((Nat.ble wU id=true∧(jW (l.flatMap AX.cells) cs)[id-wU]? =some jd)∨(Nat.ble wU id=false∧∃io,bs[id]? =some (io,jd)∧o.owned=io)):=by
  intro id o h;have h:Jq (Bf l (iy (l.flatMap AX.cells) d wU).1 0).2 (iy (l.flatMap AX.cells) d wU).2 id=some o:=h;unfold Jq at h;cases hb:Nat.ble wU id with
  |true=>
   rw[hb] at h;have h:(iy (l.flatMap AX.cells) d wU).2[id-wU]? =some o:=h;have hi:=(List.getElem?_eq_some_iff.1 h).1;have hj:(jW (l.flatMap AX.cells) cs)[id-wU]? =some ((jW (l.flatMap AX.cells) cs)[id-wU]'(by omega)):=by simp
   obtain⟨C,hR⟩:=k2 _ _ _ hj h;refine⟨_,{C with ver:=0},?_,hR.rep Ml rfl rfl,fun _=>⟨?_,C,hR.κ,rfl⟩,.inl ⟨rfl,hj⟩⟩
   ·show κX M bs _ id=_;unfold κX;rw[hb,hj];simp[hR.κ]
   ·rw[←iz];exact by simp
  |false=>
   rw[hb] at h;have hi:=(List.getElem?_eq_some_iff.1 h).1;have VY:id<bs.length:=by rw[Bi.length];exact hi
   have hq:=Bi.get id VY hi;rw[List.getElem?_eq_getElem hi] at h;cases h;obtain⟨C,B,q1,q2,q3,q4⟩:=hq;have Iz:bs[id]? =some bs[id]:=List.getElem?_eq_getElem VY;refine⟨bs[id].2,C,?_,q3,fun e=>⟨(xh _ (List.getElem_mem VY)).1 (by rw[←q4];exact e),C,q1,rfl⟩,by grind⟩;have:=hκbox id _ Iz;rw[Nat.zero_add] at this;rw[this];exact q1
 have aL:∀b,qO Ml b→lE M aq b:=fun b ⟨id,o,C,h1,h2,h3,h4⟩=>by
  obtain⟨jd,C',q1,_,q3,_⟩:=mb id o h1;rw[h3] at q1;cases q1;obtain⟨p1,D,p2,p3⟩:=q3 h2;exact⟨jd,p1,D,p2,by rw[p3];exact h4⟩
 refine⟨Ml,lo,rfl,⟨fun id o h=>?_,fun id h=>?_,fun i j oi oj Ci Cj b oP h1 h2 h3 h4 h5 h6 h7 h8=>?_,fun b hb=>⟨fun hf=>hf.2 (aL b hb),(ok.own b ((aL b hb).own ho)).2⟩,fun b hb=>uj ok ho (ok.GF b hb),fun b hb=>hb.1⟩,aL,a3 Ml _ 0 lo ht hκbox,rfl⟩
 ·obtain⟨jd,C,q1,q2,_⟩:=mb id o h;exact⟨C,q1,q2⟩
 ·have h:Jq (Bf l (iy (l.flatMap AX.cells) d wU).1 0).2 (iy (l.flatMap AX.cells) d wU).2 id=none:=h;unfold Jq at h;show κX M bs _ id=none;unfold κX;cases hb:Nat.ble wU id with
  |true=>
   rw[hb] at h;have h:(iy (l.flatMap AX.cells) d wU).2[id-wU]? =none:=h;rw[List.getElem?_eq_none_iff,←k1] at h;rw[List.getElem?_eq_none h];rfl
  |false=>
   rw[hb] at h;have h:(Bf l (iy (l.flatMap AX.cells) d wU).1 0).2[id]? =none:=h;rw[List.getElem?_eq_none_iff,←Bi.length] at h;rw[List.getElem?_eq_none h];rfl
 ·obtain⟨ji,Ci',p1,_,p3,p4⟩:=mb i oi h1;obtain⟨jj,Cj',q1,_,q3,q4⟩:=mb j oj h2;rw[h5] at p1;cases p1;rw[h6] at q1;cases q1;obtain⟨p5,Di,p6,p7⟩:=p3 h3;obtain⟨q5,Dj,q6,q7⟩:=q3 h4;obtain⟨oi',r1,r2⟩:=ho ji p5;obtain⟨oj',r3,r4⟩:=ho jj q5;refine ok.disj ji jj oi' oj' Di Dj b (fun e=>?_) r1 r3 r2 r4 p6 q6 (by rw[p7];exact h7) (by rw[q7];exact h8);subst e;rw[←iz] at dG;obtain⟨n1,n2,n3⟩:=List.nodup_append.1 dG;rcases p4 with⟨p8,p9⟩|⟨p8,io,p9,um⟩<;>rcases q4 with⟨q8,q9⟩|⟨q8,io',q9,Od⟩
  ·have:=(List.getElem?_inj (by grind) n2).1 (p9.trans q9.symm);have e1:=Nat.le_of_ble_eq_true p8;have e2:=Nat.le_of_ble_eq_true q8;exact oP (by omega)
  ·rw[h4] at Od;subst Od;exact n3 _ (Bh q9) _ (List.mem_of_getElem? p9) rfl
  ·rw[h3] at um;subst um;exact n3 _ (Bh p9) _ (List.mem_of_getElem? q9) rfl
  ·rw[h3] at um;rw[h4] at Od;subst um;subst Od;exact oP (VX n1 p9 q9)
def xi {n}:∀{ids h},qK h (qe ids) n=if n∈ids then some .gone else h n
 |[],_=>by rfl
 |id::ids,h=>by
  show qK (yG h id .gone) (qe ids) n=_;rw[xi (ids:=ids)];by_cases e:n=id
  ·subst e;simp[yO]
  ·rw[yS _ _ e];simp[e]
def zK.overX (M L:zK)(aq:List Nat):zK:={κ:=M.κ,F:=fun b=>M.F b∨L.G b,G:=L.G,h:=qK M.h (qe aq),H:=L.H}
def zK.overX_ok {M Ml L aq}(ok:Ok M)(iO:Ok L)(lo:sH M aq Ml)(ho:nY M aq)(hand:∀b,qO Ml b→lE M aq b)(g:j8 Ml L):
  Ok (M.overX L aq)∧vG M (M.overX L aq)∧(∀b,qO (M.overX L aq) b→qO M b∧¬lE M aq b):=by
 have cS:∀b,b<M.H.size→¬lE M aq b→L.H[b]? =M.H[b]? :=fun b hb hn=>by rw[g.same b (by rw[lo.F];simp_all),lo.H]
 have dX:M.H.size≤L.H.size:=by have:=g.size;rw[lo.H] at this;exact this
 have hG:∀b,L.G b→b<M.H.size→M.G b∨lE M aq b:=fun b hb hs=>by
  rcases g.Gb b hb (by rw[lo.H];exact hs) with h|h
  ·rw[lo.G] at h;simp_all
  simp_all
 have hsF:∀b,M.F b→L.H[b]? =M.H[b]? :=fun b h=>cS b (uj ok ho h).1 (uj ok ho h).2
 have x:yQ M (M.overX L aq):=⟨fun id C h=>⟨C,h,C.le_refl⟩,fun b h=>.inl h,fun b h=>g.G b (by rw[lo.G];exact h),fun b h=>hsF b h,fun b h=>hsF b (ok.GF b h),fun b h=>by
  have:=g.bsz b (by rw[lo.H];exact h);rw[lo.H] at this;exact this⟩
 have mb:∀id o,(M.overX L aq).h id=some o→o.owned=true→id∉aq∧M.h id=some o:=fun id o h iN=>by
  have h:qK M.h (qe aq) id=some o:=h;rw[xi] at h;by_cases hm:id∈aq
  ·rw[if_pos hm] at h;cases h;cases iN
  simp_all
 have VZ:∀id o C,id∉aq→M.h id=some o→o.owned=true→M.κ id=some C→∀b∈C.fp,¬lE M aq b:=fun id o C hm h iN hC b hb ⟨jd,hj,D,hD,Vt⟩=>by
  obtain⟨q,q1,q2⟩:=ho jd hj;exact ok.disj id jd o q C D b (by grind) h q1 iN q2 hC hD hb Vt
 have aL:∀b,qO (M.overX L aq) b→qO M b∧¬lE M aq b:=fun b ⟨id,o,C,h1,h2,h3,h4⟩=>by
  obtain⟨k1,k2⟩:=mb id o h1 h2;exact⟨⟨id,o,C,k2,h2,h3,h4⟩,VZ id o C k1 k2 h2 h3 b h4⟩
 refine⟨⟨fun id o h=>?_,fun id h=>?_,fun i j oi oj Ci Cj b oP h1 h2 h3 h4 h5 h6 h7 h8=>?_,fun b h=>⟨fun hf=>?_,?_⟩,fun b h=>.inr h,fun b h=>?_⟩,⟨x,dX,fun b hb hn=>cS b hb fun hh=>hn (hh.own ho),by grind,fun b h hs=>?_,fun b h hs=>?_⟩,aL⟩
 ·have h:qK M.h (qe aq) id=some o:=h;rw[xi] at h;by_cases hm:id∈aq
  ·rw[if_pos hm] at h;cases h;obtain⟨q,q1,q2⟩:=ho id hm;obtain⟨C,hC,_⟩:=ok.obj id q q1;exact⟨C,hC,trivial⟩
  ·rw[if_neg hm] at h;obtain⟨C,hC,hO⟩:=ok.obj id o h;exact⟨C,hC,hO.ext x fun iN b hb=>cS b (ok.own b ⟨id,o,C,h,iN,hC,hb⟩).2 (by grind)⟩
 ·have h:qK M.h (qe aq) id=none:=h;rw[xi] at h;by_cases hm:id∈aq
  ·simp_all
  ·rw[if_neg hm] at h;exact ok.non id h
 ·exact ok.disj i j oi oj Ci Cj b oP (mb i oi h1 h3).2 (by grind) h3 h4 h5 h6 h7 h8
 ·obtain⟨k1,k2⟩:=aL b h;have:=ok.own b k1;rcases hf with hf|hf
  ·simp_all
  ·rcases hG b hf this.2 with h|h
   ·exact this.1 (ok.GF b h)
   simp_all
 ·have h1:=(ok.own b (aL b h).1).2;show b<L.H.size;omega
 ·show b<L.H.size;rcases h with h|h
  ·have:=ok.Flt b h;omega
  ·exact iO.Flt b (iO.GF b h)
 ·rcases hG b h hs with h|h
  ·simp_all
  ·exact .inr (h.own ho)
 ·rcases h with h|h
  ·simp_all
  ·rcases hG b h hs with h|h
   ·exact .inl (ok.GF b h)
   ·exact .inr (h.own ho)
def qB.bare (C:qB):qB:={C with ver:=C.ver+1,rows:=[]}
def zK.revive (M:zK)(id:Nat)(C:qB)(cs:List zZ):zK:={M with κ:=κset M.κ id C.bare,h:=yG M.h id (.box true cs)}
def zK.revive_ok {M}(ok:Ok M){id C B vals e cs}(hC:M.κ id=some C)(hB:C.blk=some B)(hH:M.H[B]? =some (.cells vals e (0,0)))(hc:zM (zY M) cs vals.toList)
  (h1:¬qO M B) (h2:¬M.F B):Ok (M.revive id C cs)∧yQ M (M.revive id C cs)∧(∀b,qO (M.revive id C cs) b→qO M b∨b=B):=by
 have hκ:(M.revive id C cs).κ id=some C.bare:=κset_same _ _ _;have x:yQ M (M.revive id C cs):=⟨fun jd D h=>by
  by_cases e':jd=id
  ·subst e';rw[hC] at h;cases h;exact⟨_,hκ,rfl,rfl,rfl,Nat.le_succ _,fun h=>absurd h (by simp[qB.bare])⟩
  ·exact⟨D,by show κset M.κ id _ jd=_;rw[κset_ne _ _ e'];exact h,D.le_refl⟩,fun _ h=>h,fun _ h=>h,fun _ _=>rfl,fun _ _=>rfl,fun _ _=>rfl⟩
 have rW:C.bare.fp=[B]:=by simp[qB.fp,qB.bare,hB]
 have AU:(M.revive id C cs).h id=some (.box true cs):=yO _ _ _;refine⟨Ok.build ok x (fun jd=>jd=id) (fun jd h=>yS _ _ h) (fun jd h=>κset_ne _ _ h) (fun _ _ _ _ _ _ _ _ _=>rfl) (fun jd o' D k1 k2 k3 k4 b bE=>(ok.own b ⟨jd,o',D,k2,k3,k4,bE⟩).1) (Nat.le_refl _)
  (fun jd o' e' h=>?_) (fun jd e' h=>?_) (fun jd o' D b e' k1 k2 k3 k4=>?_) ok.GF ok.Flt,x,fun b bE=>?_⟩
 ·subst e';rw[AU] at h;cases h;exact⟨_,hκ,B,vals,e,hB,rfl,hH,hc.mono fun _ _ h=>h.ext x,by simp⟩
 ·simp_all
 ·subst e';rw[hκ] at k3;cases k3;rw[rW,List.mem_singleton] at k4;subst k4;refine⟨fun j oj Cj hj q1 q2 q3 q4=>h1 ⟨j,oj,Cj,?_,q2,?_,q4⟩,h2,(Array.getElem?_eq_some_iff.1 hH).1⟩
  ·rw[←q1];exact(yS _ _ hj).symm
  ·rw[←q3];exact(κset_ne _ _ hj).symm
 ·obtain⟨jd,o',D,k1,k2,k3,k4⟩:=bE;by_cases e':jd=id
  ·simp_all
  ·exact .inl ⟨jd,o',D,by rw[←k1];exact(yS _ _ e').symm,k2,by rw[←k3];exact(κset_ne _ _ e').symm,k4⟩
structure vCy (M:zK) (id:Nat) (cs:List zZ) (B:Nat):Prop where
 at':∃C,M.κ id=some C∧C.blk=some B
 rep:∃vals e,M.H[B]? =some (.cells vals e (0,0))∧zM (zY M) cs vals.toList
 own:¬qO M B
 F:¬M.F B
def pc (R:Nat→List zZ→Nat→Prop):List Nat→List (List zZ)→List Nat→Prop
 |[],[],[]=>True
 |a::l,b::m,c::n=>R a b c∧pc R l m n
 |_,_,_=>False
def pc.mono {R S}:∀{l m n},(∀a b c,c∈n→R a b c→S a b c)→pc R l m n→pc S l m n
 |[],[],[],_,_=>trivial
 |_::_,_::_,_::_,h,k=>⟨h _ _ _ (by simp) k.1,pc.mono (by grind) k.2⟩
def vDu:∀{ids css Bs M},Ok M→pc (vCy M) ids css Bs→Bs.Nodup→
  ∃M':zK,M'.H=M.H∧M'.G=M.G∧M'.F=M.F∧M'.h=qK M.h (Ed ids css)∧Ok M'∧yQ M M'∧(∀b,qO M' b→qO M b∨b∈Bs)
 |[],[],[],M,ok,_,_=>⟨M,rfl,rfl,rfl,rfl,ok,.refl M,by simp⟩
 |id::ids,cs::css,B::Bs,M,ok,h,hn=>by
  obtain⟨C,hC,hB⟩:=h.1.at';obtain⟨vals,e,hH,hc⟩:=h.1.rep;obtain⟨k1,k2,k3⟩:=zK.revive_ok ok hC hB hH hc h.1.own h.1.F;obtain⟨n1,n2⟩:=List.nodup_cons.1 hn;obtain ⟨M', a1, a2, a3, a4, a5, a6, a7⟩ := vDu (M := M.revive id C cs) k1 (pc.mono (fun a b c hcB hb=>by
   refine⟨?_,?_,fun ho=>?_,hb.F⟩
   ·obtain⟨D,q1,q2⟩:=hb.at';obtain⟨D',q3,le⟩:=k2.κ _ _ q1;exact⟨D',q3,le.blk.trans q2⟩
   ·obtain⟨vals,e,q1,q2⟩:=hb.rep;exact⟨vals,e,q1,q2.mono fun _ _ h=>h.ext k2⟩
   ·rcases k3 _ ho with h|h
    ·exact hb.own h
    simp_all) h.2) n2
  exact⟨M',a1,a2,a3,a4,a5,yQ.trans (M:=M) (M':=M.revive id C cs) (Nat.le_refl _) k2 a6,by grind⟩
def yEd:∀{ids css h h'},ids.length=css.length→(∀n,n∉ids→h n=h' n)→qK h (Ed ids css)=qK h' (Ed ids css)
 |[],[],h,h',_,e=>funext fun n=>e n (by simp)
 |id::ids,cs::css,h,h',hl,e=>yEd (ids:=ids) (css:=css) (by simp_all) fun n hn=>by
   by_cases k:n=id
   ·subst k;rw[yO,yO]
   ·rw[yS _ _ k,yS _ _ k];simp_all
def vQi {h0 s a a' v u M}(ok:Ok M)(hf:jH h0 M.h)(hv:zV M a v)(h:xg h0 s a=some (a',u)):
  ∃L:zK,L.H=M.H∧L.h=qK M.h u∧Ok L∧vG M L∧zV L a' v∧jH h0 L.h:=by
 unfold xg at h;split at h
 ·rename_i p x;split at h
  ·rename_i y u1 e;cases h;obtain⟨L,h1,h2,h3,h4,h5,h6⟩:=w9 (cs:=[x]) (vs:=[v]) ok hf ⟨hv,trivial⟩ e;exact⟨L,h1,h2,h3,h4,h5.1,h6⟩
  ·cases h
 ·split at h
  ·rename_i ys u1 e;cases h;obtain⟨vs,rfl,hx⟩:=hv;obtain⟨L,h1,h2,h3,h4,h5,h6⟩:=w9 ok hf hx e;exact⟨L,h1,h2,h3,h4,⟨vs,rfl,h5⟩,h6⟩
  ·cases h
 ·cases h;exact⟨M,rfl,rfl,ok,.refl M,hv,hf⟩
def yVd {h0}:∀{l as fq vs u M},Ok M→jH h0 M.h→zM (zV M) as vs→sF h0 l as=some (fq,u)→
  ∃L:zK,L.H=M.H∧L.h=qK M.h u∧Ok L∧vG M L∧zM (zV L) fq vs∧jH h0 L.h
 |s::l,a::as,fq,v::vs,u,M,ok,hf,hv,h=>by
  unfold sF at h;split at h
  ·rename_i a1 u1 Vw rZ e1 e2;cases h;obtain⟨M1,h1,h2,h3,h4,h5,h6⟩:=vQi ok hf hv.1 e1;obtain⟨M2,k1,k2,k3,k4,k5,k6⟩:=yVd h3 h6 (xa.ext h4.ext hv.2) e2;exact⟨M2,k1.trans h1,by rw[k2,h2,lz],k3,h4.trans k4,⟨h5.ext k4.ext,k5⟩,k6⟩
  ·cases h
 |[],as,fq,vs,u,M,ok,hf,hv,h=>by
  cases as<;>cases h<;>exact⟨M,rfl,rfl,ok,.refl M,hv,hf⟩
 |s::l,[],fq,vs,u,M,ok,hf,hv,h=>by cases h;exact⟨M,rfl,rfl,ok,.refl M,hv,hf⟩
def mc (M L:zK)(id jd:Nat):Prop:=∃C D B,M.κ id=some C∧C.blk=some B∧L.κ jd=some D∧D.blk=some B
def V0 {M L}:∀{ls is js out} {us:List Value} {cs bs},ka M.h ls is=some (cs,bs)→Jr ls js=some out→
  zM (fun id u=>∃C B,M.κ id=some C∧C.blk=some B∧u=.pointer (some ⟨B,0,none⟩)) is us→zM (fun id u=>∃C B,L.κ id=some C∧C.blk=some B∧u=.pointer (some ⟨B,0,none⟩)) js us→zM (mc M L) (vW bs) out
 |[],[],[],out,us,cs,bs,h,k,_,_=>by cases h;cases k;exact trivial
 |(io,l)::ls,i::is,j::js,out,u::us,cs,bs,h,k,p,q=>by
  unfold ka at h;split at h
  ·rename_i cells rest Be h1 h2;obtain⟨_,h⟩:=wQ h;cases h;unfold Jr at k;split at k
   ·rename_i o ho;cases k;have ih:=V0 h2 ho p.2 q.2;cases io with
    |false=>exact ih
    |true=>
     obtain⟨C,B,k1,k2,k3⟩:=p.1;obtain⟨D,B',k4,k5,k6⟩:=q.1;rw[k3] at k6;cases k6;exact⟨⟨C,D,B,k1,k2,k4,k5⟩,ih⟩
   ·cases k
  ·cases h
def yD4 {M L}:∀{bs n},(∀q∈bs,q.1=true)→(∀i q,bs[i]? =some q→mc M L q.2 (n+i))→zM (mc M L) (vW bs) (l9 n bs.length)
 |[],n,_,_=>trivial
 |(true,id)::bs,n,h,k=>⟨k 0 _ rfl,yD4 (by grind) fun i q hq=>by
   have:=k (i+1) q hq;grind⟩
 |(false,id)::bs,n,h,k=>by simp_all
def yJm {h}:∀{ls ids cs bs},ka h ls ids=some (cs,bs)→bs.map (·.1)=ls.map (·.1)
 |[],[],_,_,e=>by cases e;rfl
 |(io,l)::ls,id::ids,cs,bs,e=>by
  unfold ka at e;split at e
  ·rename_i cells rest Be h1 h2;obtain⟨_,e⟩:=wQ e;cases e;simp[yJm h2]
  ·cases e
def V1 {M L}{s:AX}{a b v cs bs out}(h:s.get M.h a=some (cs,bs)){n}(k:s.io n b=some out)(p:zV M a v)(q:s.looks=true→zV L b v)(hk:s.isChn=true→∀i q,bs[i]? =some q→mc M L q.2 (n+i)):zM (mc M L) (vW bs) out:=by
 unfold AX.get at h;split at h
 ·cases h;cases k;exact trivial
 ·obtain⟨_,h'⟩:=wQ h;cases h';cases k;exact trivial
 ·unfold AX.io at k;split at k
  ·rename_i e;cases e
  ·rename_i e;cases e
  ·rename_i io' l' jd e;cases e;exact V0 (us:=[v]) h k ⟨p,trivial⟩ ⟨q rfl,trivial⟩
  all_goals simp_all
 ·obtain⟨hg,h'⟩:=wQ h;unfold AX.io at k;split at k
  ·simp_all
  ·simp_all
  ·simp_all
  ·rename_i f' ad1 g' js e;cases e;obtain⟨cv,rfl,hc⟩:=p;obtain⟨cv',e',lS⟩:=q rfl;cases e';exact V0 h' k hc lS
  all_goals simp_all
 ·rename_i ls id;split at h
  ·cases k;have h1:=Jv h;have h2:ls.length=bs.length:=by rw[h1];simp[Ea]
   rw[h2];exact yD4 (fun q hq=>by
    have:q.1∈bs.map (·.1):=by grind
    rw[yJm h] at this;exact(by simpa[Ea] using this:_∧_).2) (hk rfl)
  ·cases h
 ·cases h
def yKt {M L}:∀{l as vs t n cs bs out m},kN M.h l as=some (cs,bs)→N9 l t n m=some out→zM (zV M) as vs→(∀i h s,l[i]? =some s→s.looks=true→zV L (t (n+i)) vs[i])→(l.any AX.isChn=true→∀i q,bs[i]? =some q→mc M L q.2 (m+i))→
  zM (mc M L) (vW bs) out
 |[],[],[],t,n,cs,bs,out,m,h,k,_,_,_=>by cases h;cases k;exact trivial
 |s::l,a::as,v::vs,t,n,cs,bs,out,m,h,k,p,q,hk=>by
  unfold kN at h;split at h
  ·rename_i c1 b1 c2 b2 h1 h2;cases h;unfold N9 at k;split at k
   ·rename_i o1 o2 k1 k2;cases k;have e:∀b1 b2:List (Bool×Nat),vW (b1++b2)=vW b1++vW b2:=fun b1 b2=>by
     induction b1 with
     |nil=>rfl
     |cons x b1 ih=>obtain⟨io,y⟩:=x;cases io<;>simp[vW,ih]
    rw[e];have hnb:=vTx h1;refine(V1 h1 k1 p.1 (q 0 (by simp) s rfl) (by grind)).append (yKt h2 k2 p.2 (fun i hi s' hs hl=>?_) fun hc i q hq=>?_)
    rotate_left
    ·have:=hk (by simp_all) (b1.length+i) q (by grind);grind
    have:=q (i+1) (by simp_all) s' (by simp_all) hl;grind
   ·cases k
  ·cases h
 |[],_::_,_,_,_,_,_,_,_,h,_,_,_,_=>by cases h
def yWc {L}(iO:Ok L):∀{os ids bs},Ec L.h os ids=some bs→bs.length=os.flatten.length∧ids.length=os.length∧
  ∃us:List Value,zM (zY L) bs us∧∀{M cs},M.H=L.H→zM (zY M) cs us→pc (fun id cs B=>(∃cells,L.h id=some (.box true cells))∧(∃C,L.κ id=some C∧C.blk=some B∧C.rows=[])∧∃vals e,M.H[B]? =some (.cells vals e (0,0))∧zM (zY M) cs vals.toList) ids (xf os cs) (ids.map fun id=>((L.κ id).bind qB.blk).getD 0)
 |[],[],bs,h=>by cases h;exact⟨rfl,rfl,[],trivial,fun _ _=>trivial⟩
 |o::os,n::ns,bs,h=>by
  unfold Ec at h;split at h
  ·rename_i cells rest h1 h2;obtain⟨hl,h⟩:=wQ h;cases h;obtain⟨C,hC,B,vals,e,q1,q2,q3,q4,_⟩:=iO.obj n _ h1;obtain⟨k1,k2,us,k3,k4⟩:=yWc iO h2;refine⟨by simp_all,by simp[k2],vals.toList++us,q4.append k3,fun{M cs} hH hc=>⟨⟨by grind,⟨C,hC,?_,q2⟩,vals,e,?_,?_⟩,?_⟩⟩
   ·simp_all
   ·simp_all
   ·have h1:=zM.take o.length hc;have Vu:=q4.length;simp_all
   ·have h1:=zM.drop o.length hc;have Vu:=q4.length;simp_all
  ·cases h
def vKo {h0 r c d}(h:pZ h0 r c=some d):∀id∈wK [r] [c],∀own cells,h0 id≠some (.box own cells):=by
  unfold pZ at h;split at h;all_goals (try (intro id an;simp[wK] at an;done))
  all_goals first
    |(done)
    | (intro DV an own cells hb
       have:=List.mem_singleton.1 an;simp_all)
    |(cases h)
def yF0 {L}:∀{l cs d},kM L l cs=some d→∀id∈wK l cs,∀own cells,L id≠some (.box own cells)
 |r::l,c::cs,d,h,id,an=>by
  unfold kM at h;split at h
  ·rename_i x xs e1 e2;rw[N4] at an;rcases List.mem_append.1 an with an|an
   ·exact vKo e1 id an
   ·exact yF0 e2 id an
  ·cases h
def ySg:∀a b,vW (a++b)=vW a++vW b
 |[],_=>rfl
 |(true,_)::a,b
 |(false,_)::a,b=>by simp[vW,ySg a b]
def Jw {h}:∀{ls is cs bs},ka h ls is=some (cs,bs)→∀id∈vW bs,∃o,h id=some o∧o.owned=true
 |[],[],_,_,e=>by cases e;nofun
 |(io,l)::ls,i::is,cs,bs,e=>by
  unfold ka at e;split at e
  ·rename_i cells rest Be h1 h2;obtain⟨_,e⟩:=wQ e;cases e;intro id an;cases io with
   |false=>exact Jw h2 id an
   |true=>
    rcases List.mem_cons.1 an with rfl|an
    ·unfold Eb at h1;split at h1
     ·rename_i c hc;exact⟨_,hc,rfl⟩
     all_goals simp_all
    ·exact Jw h2 id an
  ·cases e
def V2 {h}{s:AX}{a cs bs}(e:s.get h a=some (cs,bs)):∀id∈vW bs,∃o,h id=some o∧o.owned=true:=by
 unfold AX.get at e;split at e
 ·cases e;nofun
 ·obtain⟨_,e⟩:=wQ e;cases e;nofun
 ·exact Jw e
 ·obtain⟨_,e⟩:=wQ e;exact Jw e
 ·split at e
  ·exact Jw e
  ·cases e
 ·cases e
def vBl {h}:∀{l as cs bs},kN h l as=some (cs,bs)→l.length=as.length∧∀id∈vW bs,∃o,h id=some o∧o.owned=true
 |[],[],_,_,e=>by cases e;exact⟨rfl,nofun⟩
 |s::l,a::as,cs,bs,e=>by
  unfold kN at e;split at e
  ·rename_i c1 b1 c2 b2 h1 h2;cases e;obtain⟨k1,k2⟩:=vBl h2;refine⟨by simp[k1],fun id an=>?_⟩;rw[ySg] at an;rcases List.mem_append.1 an with an|an
   ·exact V2 h1 id an
   simp_all
  ·cases e
def yCz {h}:∀{l cs d},qd h l cs=some d→∀id∈jW l cs,∃o,h id=some o∧o.owned=true
 |[],[],_,_=>nofun
 |x::l,c::cs,d,e=>by
  unfold qd at e;split at e
  ·rename_i y ys h1 h2;have ih:=yCz h2;unfold Jn at h1;split at h1
   ·exact ih
   ·intro jd an;rcases List.mem_cons.1 an with rfl|an
    ·split at h1
     ·rename_i s xs hs;exact⟨_,hs,rfl⟩
     ·cases h1
    ·simp_all
   ·intro jd an;rcases List.mem_cons.1 an with rfl|an
    ·split at h1
     ·rename_i s xs hs;exact⟨_,hs,rfl⟩
     ·cases h1
    ·exact ih jd an
   ·intro jd an;rcases List.mem_cons.1 an with rfl|an
    ·split at h1
     ·rename_i xs hs;exact⟨_,hs,rfl⟩
     ·cases h1
    simp_all
   ·exact ih
   ·cases h1
  ·cases e
def yEa {a b}(h:VQ a b=true):∀id∈b,id∉a:=fun id hb ha=>by
 have h:=List.all_eq_true.1 h id ha;have:b.any (Nat.beq id)=true:=List.any_eq_true.2 ⟨id,hb,by simp⟩;simp_all
def yP2:∀os cs,(xf os cs).length=os.length
 |[],_=>rfl
 |_::os,cs=>by simp[xf,yP2 os]
def yLg {M L}{P:zK→Nat→Prop}{R}:∀{ids js css Bs},zM (mc M L) ids js→pc R js css Bs→pc (fun id cs B=>∃jd,mc M L id jd∧R jd cs B) ids css Bs
 |[],[],[],[],_,_=>trivial
 |_::_,_::_,_::_,_::_,h,k=>⟨⟨_,h.1,k.1⟩,yLg (P:=P) h.2 k.2⟩
def zK.gone_ok {M}(ok:Ok M){nm}(aS:M.h nm=none) C:
  Ok (M.add nm .gone C)∧yQ M (M.add nm .gone C)∧(∀b,qO (M.add nm .gone C) b→qO M b):=by
 have x:yQ M (M.add nm .gone C):=⟨fun id D h=>by
  have bo:id≠nm:=fun e=>by rw[e,ok.non nm aS] at h;cases h
  exact⟨D,by show κset M.κ nm _ id=_;rw[κset_ne _ _ bo];exact h,D.le_refl⟩,fun _ h=>h,fun _ h=>h,fun _ _=>rfl,fun _ _=>rfl,fun _ _=>rfl⟩
 have at':∀o,(M.add nm .gone C).h nm=some o→o=.gone:=fun o h=>by
  have e1:(M.add nm .gone C).h nm=some .gone:=yO _ _ _;simp_all
 refine⟨Ok.build ok x (fun id=>id=nm) (fun id h=>yS _ _ h) (fun id h=>κset_ne _ _ h) (fun _ _ _ _ _ _ _ _ _=>rfl) (fun id o' D h1 h2 h3 h4 b bE=>(ok.own b ⟨id,o',D,h2,h3,h4,bE⟩).1) (Nat.le_refl _)
  (fun id o' e h=>?_) (fun id e h=>?_) (fun id o' D b e h1 h2 h3 h4=>?_) ok.GF ok.Flt,x,fun b bE=>?_⟩
 ·subst e;rw[at' o' h];exact⟨_,κset_same _ _ _,trivial⟩
 ·have e1:(M.add id .gone C).h id=some .gone:=yO _ _ _;simp_all
 ·subst e;rw[at' o' h1] at h2;cases h2
 ·obtain⟨id,o',D,h1,h2,h3,h4⟩:=bE;by_cases e:id=nm
  ·subst e;rw[at' o' h1] at h2;cases h2
  ·exact⟨id,o',D,by rw[←h1];exact(yS _ _ e).symm,h2,by rw[←h3];exact(κset_ne _ _ e).symm,h4⟩
def vAp:∀{n nm Bs M},Ok M→(∀i,i<n→M.h (nm+i)=none)→Bs.length=n→
  ∃M':zK,M'.H=M.H∧M'.G=M.G∧M'.F=M.F∧M'.h=qK M.h (qe (l9 nm n))∧Ok M'∧yQ M M'∧(∀b,qO M' b→qO M b)∧zM (fun id B=>∃C,M'.κ id=some C∧C.blk=some B) (l9 nm n) Bs
 |0,nm,[],M,ok,_,_=>⟨M,rfl,rfl,rfl,rfl,ok,.refl M,by simp,trivial⟩
 |n+1,nm,B::Bs,M,ok,hf,hl=>by
  obtain⟨k1,k2,k3⟩:=zK.gone_ok ok (hf 0 (by omega)) ⟨some B,0,0,0,[]⟩;obtain ⟨M', a1, a2, a3, a4, a5, a6, a7, a8⟩ := vAp (n := n) (nm := nm + 1) (Bs := Bs) k1 (fun i hi=>by
   have:=hf (i+1) (by omega);rw[show nm+1+i=nm+(i+1) by omega,←this];exact yS _ _ (by omega)) (by simp_all)
  refine⟨M',a1,a2,a3,a4,a5,yQ.trans (M:=M) (M':=M.add nm .gone ⟨some B,0,0,0,[]⟩) (Nat.le_refl _) k2 a6,by grind,?_,a8⟩;obtain⟨C,h1,h2⟩:=a6.κ nm _ (κset_same _ _ _);exact⟨C,h1,h2.blk⟩
def V3 {L M ids js}(hs:zM (mc M L) ids js):∀{l cs ds vs},sE l js cs=true→zM (zY L) cs vs→zM (zY M) ds vs→zM (zY M) (Bd l ids ds) vs
 |[],cs,ds,vs,_,_,hd=>by exact hd
 |none::l,[],[],[],_,_,_=>trivial
 |none::l,c::cs,d::ds,v::vs,h,hc,hd=>⟨hd.1,V3 hs (l:=l) h hc.2 hd.2⟩
 |some j::l,c::cs,d::ds,v::vs,h,hc,hd=>by
  obtain⟨id,rfl,an,h'⟩:=yHq h;refine⟨?_,V3 hs h' hc.2 hd.2⟩;have hj:=(List.getElem?_eq_some_iff.1 an).1;have hi:j<ids.length:=by rw[hs.length];exact hj
  have:=hs.get j hi hj;rw[(List.getElem?_eq_some_iff.1 an).2] at this;obtain⟨C,D,B,q1,q2,q3,q4⟩:=this;obtain⟨D',B',p1,p2,p3⟩:=hc.1;rw[q3] at p1;cases p1;rw[q4] at p2;cases p2;rw[List.getElem?_eq_getElem hi];exact⟨C,B,q1,q2,p3⟩
 |_,[],_::_,[],_,_,hd=>hd.elim
 |_,_::_,[],[],_,hc,_=>hc.elim
def vH7 {h ns cs nw}(e:VP h ns cs=some nw):nw.length=ns:=by
 unfold VP at e;cases h0:Nat.beq ns 0 with
 |true=>simp_all
 |false=>
  rw[h0] at e;split at e
  ·exact(VW e).2
  ·cases e
def Oe (w:World)(na:Nat)(chn:Bool)(M:zK)(vs:Array Value)(rv:Value)(w':World)(v:zX)(st:St):Prop:=
 ∃M':zK,M'.h=st.h∧M'.H=w'.heap∧Ok M'∧j8 M M'∧(chn=true→ga M M')∧zV M' v rv∧w'.os=w.os∧w'.tape=w.tape∧w'.output=w.output∧(∀t,t<na→zV M' (st.t t) (vs.getD t undef))
def vB9 {n}:∀{l nm d hh},(∀j,j<l.length→n≠nm+j)→qK hh (oZ nm l d).2 n=hh n
 |[],_,_,_,_=>rfl
 |r::l,nm,d,hh,h=>by
  show qK hh ((sv nm r d.1).2++(oZ (nm+1) l d.2).2) n=_;rw[lz,vB9 fun j hj=>by have:=h (j+1) (by simp_all);omega,yH0 (by have:=h 0 (by simp);omega)]
def vKt {M}(ok:Ok M){io id cells}(h:Eb M.h io id=some cells):∃C B,M.κ id=some C∧C.blk=some B:=by
 have h':DZ M.h id=some cells:=by
  unfold Eb at h;unfold DZ;grind
 obtain⟨C,h1,B,_,_,h2,_⟩:=yLs ok h';simp_all
def Of {M}(ok:Ok M):∀{ls is cs bs},ka M.h ls is=some (cs,bs)→∀q∈bs,∃C B,M.κ q.2=some C∧C.blk=some B
 |[],[],_,_,e=>by cases e;simp
 |(io,l)::ls,i::is,cs,bs,e=>by
  unfold ka at e;split at e
  ·rename_i cells rest Be h1 h2;obtain⟨_,e⟩:=wQ e;cases e;intro q hq;rcases List.mem_cons.1 hq with rfl|hq
   ·exact vKt ok h1
   ·exact Of ok h2 q hq
  ·cases e
def yMv {M}(ok:Ok M):∀{l as cs bs},kN M.h l as=some (cs,bs)→∀q∈bs,∃C B,M.κ q.2=some C∧C.blk=some B
 |[],[],_,_,e=>by cases e;simp
 |s::l,a::as,cs,bs,e=>by
  unfold kN at e;split at e
  ·rename_i c1 b1 c2 b2 h1 h2;cases e;intro q hq;rcases List.mem_append.1 hq with hq|hq
   ·unfold AX.get at h1;split at h1
    ·simp_all
    ·grind
    ·exact Of ok h1 q hq
    ·obtain⟨_,h1⟩:=wQ h1;exact Of ok h1 q hq
    ·split at h1
     ·exact Of ok h1 q hq
     ·cases h1
    ·cases h1
   ·exact yMv ok h2 q hq
  ·cases e
def vFl {L}(ok:Ok L):∀{os ids bs},Ec L.h os ids=some bs→∀j∈ids,∃cells C B,L.h j=some (.box true cells)∧L.κ j=some C∧C.blk=some B
 |[],[],_,_=>by simp
 |o::os,n::ns,bs,h=>by
  unfold Ec at h;split at h
  ·rename_i cells rest h1 h2;intro j hj;rcases List.mem_cons.1 hj with rfl|hj
   ·obtain⟨C,hC,B,vals,e,q1,_⟩:=ok.obj _ _ h1;simp_all
   ·exact vFl ok h2 j hj
  ·cases h
def yW7 {L}(ok:Ok L):∀{js:List Nat},js.Nodup→(∀j∈js,∃cells C B,L.h j=some (.box true cells)∧L.κ j=some C∧C.blk=some B)→(js.map fun id=>((L.κ id).bind qB.blk).getD 0).Nodup
 |[],_,_=>by simp
 |a::js,hn,bh=>by
  obtain⟨n1,n2⟩:=List.nodup_cons.1 hn;refine List.nodup_cons.2 ⟨fun me=>?_,yW7 ok n2 (by grind)⟩;obtain⟨j,hj,qg⟩:=List.mem_map.1 me;obtain⟨c1',C,B,q1,q2,q3⟩:=bh a (by simp);obtain⟨c2',D,B',q4,q5,q6⟩:=bh j (by grind);have qg:((L.κ j).bind qB.blk).getD 0=((L.κ a).bind qB.blk).getD 0:=qg;rw[q2,q5] at qg;have qg:(D.blk.getD 0)=(C.blk.getD 0):=qg;rw[q3,q6] at qg;subst qg;exact ok.disj a j _ _ C D B' (by grind) q1 q4 rfl rfl q2 q5 (by simp[qB.fp,q3]) (by simp[qB.fp,q6])
def yP0 {na as}(kP:uh as na=true){nm n args h u0 io rows d}(he:Bg as nm n args h=some (u0,io,rows,d)) M w vs (hh:M.h=h)(hH:M.H=w.heap)(ok:Ok M)(hv:zM (zV M) args vs.toList):
  ∃Ml:zK,Ml.h=(kO as d).2∧Ml.H=w.heap∧Ok Ml∧zM (zV Ml) (kO as d).1 vs.toList∧
   ∀rv w' v0 st,Oe w na (as.any AX.isChn) Ml vs rv w' v0 st→∀rs os ns dx,xe st as rs os ns v0=some dx→(rs.cells++os.flatten).length+ns≤n→
    ∃Mf,tU M w (Jt u0 io rows rs os ns nm dx).2 Mf w'∧zV Mf (Jt u0 io rows rs os ns nm dx).1 rv:=by
 unfold Bg at he;split at he
 ·cases he
 rename_i eZ u A9;split at he
 ·cases he
 rename_i cs bs dK;split at he
 ·cases he
 rename_i d' hd;dsimp only at he;obtain⟨hc,he⟩:=nT he;cases he;simp only[Bool.and_eq_true] at hc;obtain⟨⟨⟨⟨⟨⟨n9,cN⟩,dI⟩,gV⟩,ni⟩,Eg⟩,Eh⟩:=hc;subst hh;obtain⟨M1,a1,a2,a3,a4,a5,a6⟩:=yVd ok (jH.refl _) hv A9;rw[←a2] at hd dK;obtain⟨ad2,wv⟩:=vBl dK;have aR:=yCz hd;have ek:nY M1 (vW bs++jW (as.flatMap AX.cells) cs):=fun id an=>(List.mem_append.1 an).elim (wv id) (aR id)
 have V4:=DP gV;obtain⟨Ml,lo,b2,b3,b4,b5,b6⟩:=vP9 a3 a5 dK hd V4 (yEa ni) (yEa Eg) (Nat.le_of_ble_eq_true dI) Eh ek;generalize iz:vW bs++jW (as.flatMap AX.cells) cs=aq at*
 refine⟨Ml,b2,by rw[lo.H,a1];exact hH,b3,b5,fun rv w' v0 st ⟨L0,c1,c2,c3,c4,ck,c5,c6,c7,c8,c9⟩ rs os ns dx hK hn=>?_⟩;unfold xe at hK;split at hK
 ·cases hK
 rename_i V5 kG;split at hK
 ·cases hK
 rename_i ccs nV;split at hK
 ·cases hK
 rename_i nw hnw;split at hK
 ·cases hK
 rename_i bcs uo;obtain⟨Jx,Og⟩:=nT hK;clear hK;split at Og
 case h_2=>cases Og
 rename_i aP u1 Bb;obtain⟨dG,hK⟩:=nT Og;clear Og;rw[Bool.and_eq_true] at dG;obtain⟨dG,Jy⟩:=dG;have V6:=vH7 hnw;obtain⟨hlen,us,d1,d2⟩:=vBn nV c5;rw[←c1] at Bb hK uo;obtain⟨js,mY⟩:∃js,js=V5++nw:=⟨_,rfl⟩;rw[←mY] at uo Jx Jy;obtain⟨k1,k2,Oh,k3,k4⟩:=yWc c3 uo;obtain⟨L,e1,e2,e3,e4,e5,e6⟩:=w9 c3 (jH.refl _) (d1.append k3) Bb;rw[←e2] at hK;have g:j8 Ml L:=c4.trans e4.grow;obtain⟨f1,f2,f3⟩:=zK.overX_ok a3 e3 lo ek b4 g;have cS : zM (mc M1 L0) (vW bs) V5 := yKt dK kG a5 (fun i hi s hs uk=>by
  have bJ:i<vs.size:=by simpa using hi
  have bm:i<na:=by
   have:=List.all_eq_true.1 kP (s,i) (List.mk_mem_zipIdx_iff_getElem?.2 hs);simp only[uk,Bool.not_true,Bool.false_or] at this;exact Tv this
  have:=c9 i bm;rw[Nat.zero_add];have e:vs.getD i undef=vs.toList[i]:=by simp[bJ]
  rw[←e];exact this) fun nj i q hq=>by
   obtain⟨C,B,p1,p2⟩:=yMv a3 dK q (List.mem_of_getElem? hq);have hi:i<bs.length:=(List.getElem?_eq_some_iff.1 hq).1;have hκ:Ml.κ i=some C:=by
    rw[b6];unfold κX;have:Nat.ble wU i=false:=by
     cases h:Nat.ble wU i with
     |false=>rfl
     |true=>have h1:=Nat.le_of_ble_eq_true h;have h2:=Nat.le_of_ble_eq_true dI;omega
    rw[this,hq];exact p1
   obtain⟨C',p3,p4⟩:=ck nj i C hκ;rw[Nat.zero_add];exact⟨C,C',B,p1,p2,p3,p4.trans p2⟩
 have qh:∀i,i<n→(M1.overX L aq).h (nm+i)=none:=fun i hi=>by
  have h1:=Vr n9 i hi;have h2:M1.h (nm+i)=none:=by
   rw[a2];rcases a6 (nm+i) with h|⟨own,t,xs,h,_⟩|⟨ver,xs,h,_⟩
   ·rw[a2] at h;rw[h];exact h1
   ·rw[h1] at h;cases h
   ·rw[h1] at h;cases h
  show qK M1.h (qe aq) (nm+i)=none;rw[xi,if_neg,h2];intro me;obtain⟨o,ho,_⟩:=ek _ me;rw[h2] at ho;cases ho
 have qa:∀i,i<(rs.cells++os.flatten).length→(M1.overX L aq).h (nm+i)=none:=fun i hi=>qh i (by omega)
 have uq:∀b,qO L b→b<M1.H.size→lE M1 aq b:=fun b hb bm=>b4 b (g.own b hb (by rw[lo.H];exact bm))
 have xj:∀b,qO L b→¬(M1.overX L aq).F b:=fun b hb h=>by
  rcases h with h|h
  ·exact(uj a3 ek h).2 (uq b hb (a3.Flt b h))
  ·exact(e3.own b hb).1 (e3.GF b h)
 have xk:∀b,qO L b→¬qO (M1.overX L aq) b:=fun b hb h=>by
  obtain⟨q1,q2⟩:=f3 b h;exact q2 (uq b hb (a3.own b q1).2)
 obtain ⟨Mc, g1, g2, g3, g4, g5, g6, g7, g8⟩ := Vs e3 f1 ⟨rfl, rfl⟩ qa hK (DP dG) (xc hK) (fun id an C hC b hb=>by
  obtain⟨o,ho,iN⟩:=xc hK id an;have aL:qO L b:=⟨id,o,C,ho,iN,hC,hb⟩;exact⟨xk b aL,xj b aL,(e3.own b aL).2⟩)
 obtain ⟨Mg, n1, n2, n3, n4, n5, n6, n7, n8⟩ := vAp (n := ns) (nm := nm + (rs.cells ++ os.flatten).length) (Bs := nw.map fun id => ((L0.κ id).bind qB.blk).getD 0) g5 (fun i hi=>by
  rw[g4,vB9 (fun j hj=>by omega),Nat.add_assoc];exact qh _ (by omega)) (by simp[V6])
 have qi:∀j∈js,∃cells C B,L0.h j=some (.box true cells)∧L0.κ j=some C∧C.blk=some B:=vFl c3 uo;have Oi:yQ M1 Mg:=(f2.ext.trans f2.size g6).trans (by rw[g1];exact f2.size) n6;have DU:zM (mc Mg L0) (vW bs) V5:=cS.mono fun id jd hq=>by
  obtain⟨C,D,B,q1,q2,q3,q4⟩:=hq;obtain⟨C',p3,le⟩:=Oi.κ id C q1;exact⟨C',D,B,p3,le.blk.trans q2,q3,q4⟩
 have Ei:zM (mc Mg L0) (l9 (nm+(rs.cells++os.flatten).length) ns) nw:=by
  have hl8:=n8.length;rw[List.length_map] at hl8;refine zM.of_get hl8 fun i h1 h2=>?_
  obtain⟨C,q1,q2⟩:=n8.get i h1 (by simpa using h2);obtain⟨cells,D,B,p1,p2,p3⟩:=qi nw[i] (by rw[mY];exact List.mem_append_right _ (List.getElem_mem _));refine⟨C,D,B,q1,?_,p2,p3⟩;rw[q2,List.getElem_map,p2];show some (D.blk.getD 0)=_;rw[p3];rfl
 have mf:zM (mc Mg L0) (vW bs++l9 (nm+(rs.cells++os.flatten).length) ns) js:=by
  rw[mY];exact DU.append Ei
 have ur:zM (mc Mg L) (vW bs++l9 (nm+(rs.cells++os.flatten).length) ns) js:=mf.mono fun id jd hq=>by
  obtain⟨C,D,B,q1,q2,q3,q4⟩:=hq;obtain⟨D',p3,le⟩:=e4.ext.κ jd D q3;exact⟨C,D',B,q1,q2,p3,le.blk.trans q4⟩
 have Bj:=V3 ur Jy e5 ((g8 _ e5).mono fun _ _ h=>h.ext n6);obtain⟨G,hG⟩:∃G,G=Bd ((rs.cells++os.flatten).map RC.lnk) (vW bs++l9 (nm+(rs.cells++os.flatten).length) ns) (oZ nm (rs.cells++os.flatten) dx).1:=⟨_,rfl⟩;rw[←hG] at Bj;have DH:us.length=rs.cells.length:=by rw[←d1.length,hlen]
 have hgr:zM (zY Mg) (G.take rs.cells.length) us:=by
  have:=zM.take rs.cells.length Bj
  rwa [show(us++Oh).take rs.cells.length=us from by rw[←DH,List.take_left]] at this
 have hgb:zM (zY Mg) (G.drop rs.cells.length) Oh:=by
  have:=zM.drop rs.cells.length Bj
  rwa [show(us++Oh).drop rs.cells.length=Oh from by rw[←DH,List.drop_left]] at this
 have hHc:Mg.H=L0.H:=by rw[n1,g1];exact e1
 have Jz:=yLg (P:=fun _ _=>True) mf (k4 hHc hgb);have xl:∀jd B,(∃cells,L0.h jd=some (.box true cells))→(∃C,L0.κ jd=some C∧C.blk=some B)→∃cells C,L.h jd=some (.box true cells)∧L.κ jd=some C∧B∈C.fp:=fun jd B ⟨cells,q1⟩ ⟨C,q2,q3⟩=>by
  obtain⟨C',q4,le⟩:=e4.ext.κ jd C q2;refine⟨cells,C',?_,q4,?_⟩
  ·rcases e6 jd with h|⟨own,t,xs,h,_⟩|⟨ver,xs,h,_⟩
   ·rw[h,q1]
   ·rw[q1] at h;cases h
   ·rw[q1] at h;cases h
  ·have:C'.blk=some B:=le.blk.trans q3;simp[qB.fp,this]
 have JA:∀b,b∈(js.map fun id=>((L0.κ id).bind qB.blk).getD 0)→qO L b:=fun b hb=>by
  obtain⟨j,hj,rfl⟩:=List.mem_map.1 hb;obtain⟨cells,C,B,q1,q2,q3⟩:=qi j hj;obtain⟨bK,D,p4,p5,p6⟩:=xl j B ⟨cells,q1⟩ ⟨C,q2,q3⟩;have e:((L0.κ j).bind qB.blk).getD 0=B:=by rw[q2];show C.blk.getD 0=B;rw[q3];rfl
  rw[e];exact⟨j,_,D,p4,rfl,p5,p6⟩
 have Bk : pc (vCy Mg) (vW bs ++ l9 (nm + (rs.cells ++ os.flatten).length) ns) (xf os (G.drop rs.cells.length)) (js.map fun id => ((L0.κ id).bind qB.blk).getD 0) := pc.mono (fun id css B _ ⟨jd,q1,q2,⟨D0,q3,q3b,_⟩,q4⟩=>by
  obtain⟨C,D1,B',p1,p2,p3,p3b⟩:=q1;rw[q3] at p3;cases p3;rw[q3b] at p3b;cases p3b;obtain⟨cells,D,p4,p5,p6⟩:=xl jd B q2 ⟨_,q3,q3b⟩;have aL:qO L B:=⟨jd,_,D,p4,rfl,p5,p6⟩;refine⟨⟨C,p1,p2⟩,q4,fun ho=>?_,?_⟩
  ·rcases g7 B (n7 B ho) with h|⟨kd,Bl,D',p7,p8⟩
   ·exact xk B aL h
   ·obtain⟨o,p9,um⟩:=xc hK kd Bl;refine e3.disj jd kd _ o D D' B (fun e=>?_) p4 p9 rfl um p5 p7 p6 p8;exact yF0 hK kd Bl true cells (by rw[←e];exact p4)
  ·rw[n3,g3];exact xj B aL) Jz
 have hBs:(js.map fun id=>((L0.κ id).bind qB.blk).getD 0).Nodup:=yW7 c3 (DP Jx) qi;obtain⟨Mf,r1,r2,r3,r4,r5,r6,r7⟩:=vDu n5 Bk hBs;have Vy:vG M1 Mf:=by
  have aL:∀b,qO Mf b→b<M1.H.size→qO M1 b:=fun b hb bm=>by
   rcases r7 b hb with hb|hb
   ·rcases g7 b (n7 b hb) with h|⟨id,an,C,hC,D5⟩
    ·exact(f3 b h).1
    ·obtain⟨o,ho,iN⟩:=xc hK id an;exact(uq b ⟨id,o,C,ho,iN,hC,D5⟩ bm).own ek
   ·exact(uq b (JA b hb) bm).own ek
  have N5:Mf.H=(M1.overX L aq).H:=r1.trans (n1.trans g1);refine⟨Oi.trans ?_ r6,?_,fun b hb hn=>?_,aL,fun b hb bm=>?_,fun b hb bm=>?_⟩
  ·rw[n1,g1];exact f2.size
  ·rw[N5];exact f2.size
  ·rw[N5];exact f2.frame b hb hn
  ·rw[r2,n2,g2] at hb;exact f2.Gb b hb bm
  ·rw[r3,n3,g3] at hb;exact f2.Fb b hb bm
 have ql:(vW bs++l9 (nm+(rs.cells++os.flatten).length) ns).length=(xf os (G.drop rs.cells.length)).length:=by
  rw[yP2,mf.length,k2]
 refine⟨Mf,⟨c6,c7,c8,?_,?_,r5,a4.trans Vy⟩,?_⟩
 ·rw[r1,n1,g1];show L.H=_;rw[e1,c2]
 ·rw[r4,n4,g4];show _=qK M.h (u0++(qe (jW (as.flatMap AX.cells) cs)++((oZ nm (rs.cells++os.flatten) dx).2++Ed (vW bs++l9 (nm+(rs.cells++os.flatten).length) ns) (xf os ((Bd ((rs.cells++os.flatten).map RC.lnk) (vW bs++l9 (nm+(rs.cells++os.flatten).length) ns) (oZ nm (rs.cells++os.flatten) dx).1).drop rs.cells.length)))));rw[←hG,lz,lz,lz,←a2];refine yEd ql fun m hm=>?_
  rw[List.mem_append,not_or] at hm;rw[xi,if_neg hm.2];refine AZ ?_;show qK M1.h (qe aq) m=_;rw[xi,xi,←iz];simp[hm.1]
 ·show zV Mf (rs.mk ((Bd ((rs.cells++os.flatten).map RC.lnk) (vW bs++l9 (nm+(rs.cells++os.flatten).length) ns) (oZ nm (rs.cells++os.flatten) dx).1).take rs.cells.length)) rv;rw[←hG];exact d2 Mf _ (hgr.mono fun _ _ h=>h.ext r6)
def vAa {P na f}(cd:∀vs w,(callFunc f vs).run P w=.ok (.enter f vs) w)
  {as rs os ns X} {S:XD as→Option X} {pack unpack} (fJ:∀d,pack (unpack d)=d) (kP:uh as na=true)
  (mg:∀d x,S d=some x→∀M w vs,M.h=(kO as d).2→M.H=w.heap→Ok M→zM (zV M) (kO as d).1 vs.toList→Calls P f vs w fun
   |.returned rv,w'=>∃(v:zX) (st:St),Js as rs os ns unpack v st=some x∧Oe w na (as.any AX.isChn) M vs rv w' v st
   |_,_=>False)
  {nm args h v u} (hy:yL (sG as rs os ns S pack nm args h) v u):tV P f args h v u:=by
 intro M w vs hh hH ok hv;refine .inl ⟨cd vs w,?_⟩;unfold sG at hy;split at hy
 ·exact hy.elim
 rename_i u0 io rows d he;obtain⟨x,hx,rfl,rfl⟩:=hy;obtain⟨Ml,b1,b2,b3,b4,b5⟩:=yP0 kP he M w vs hh hH ok hv;refine Calls.mono (mg d x hx Ml w vs b1 b2 b3 b4) fun e w' hl=>?_
 cases e with
 |panicked _=>omega
 |outgrown=>omega
 |returned rv=>
  obtain⟨v0,st,hK,hl⟩:=hl;have hK:xe st as rs os ns v0=some (pack x):=by
   unfold Js at hK;grind
  grind
def V7 {P na f}(cd:∀vs w,(callFunc f vs).run P w=.ok (.enter f vs) w)
  {as rs dt os du ns fL X Y} {S:XD as→Option (X⊕Y)} {pk up iP lD}
  (fJ:∀d,pk (up d)=d) (oc:∀d,iP (lD d)=d) (kP:uh as na=true)
  (mg:∀d x,S d=some x→∀M w vs,M.h=(kO as d).2→M.H=w.heap→Ok M→zM (zV M) (kO as d).1 vs.toList→Calls P f vs w fun
   |.returned rv,w'=>∃(v:zX) (st:St),Oa as rs os ns dt du fL up lD v st=some x∧Oe w na (as.any AX.isChn) M vs rv w' v st
   |_,_=>False)
  {nm args h v u} (hy:yL (ui as rs os ns dt du fL S pk iP nm args h) v u):tV P f args h v u:=by
 intro M w vs hh hH ok hv;refine .inl ⟨cd vs w,?_⟩;unfold ui at hy;split at hy
 ·exact hy.elim
 rename_i u0 io rows d he;obtain⟨Ml,b1,b2,b3,b4,b5⟩:=yP0 kP he M w vs hh hH ok hv;rcases hy with⟨x,hx,rfl,rfl⟩|⟨x,hx,rfl,rfl⟩<;>
 ·refine Calls.mono (mg d _ hx Ml w vs b1 b2 b3 b4) fun e w' hl=>?_
  cases e with
  |panicked _=>omega
  |outgrown=>omega
  |returned rv=>
   obtain⟨v0,st,hK,hl⟩:=hl;unfold Oa at hK;grind
def yFk {E}(hE:gC E)(hS:j7 E.sums)(hm:E.P.follows .mixedOrders=true){A k pre na f fn}(hf:E.P.funcs[f]? =some fn)(hL:∀c,fn.body=some c→wR E.P A pre na fn.ntmps c){chn}(nj:(!chn||A.loops.isEmpty)=true)
  {R K} {x:R} {args h} (aN:ky E A k pre na fn args h K=some x) {M w vs} (h1:M.h=h) (h2:M.H=w.heap) (h3:Ok M) (h4:zM (zV M) args vs.toList):
  Calls E.P f vs w fun
   |.returned rv,w'=>∃(v:zX) (st:St),K v st=some x∧Oe w na chn M vs rv w' v st
   |_,_=>False:=by
 refine Calls.mono (Vg hE hS hm hf hL aN h1 h2 h3 h4) fun e w' hl=>?_
 cases e with
 |panicked _=>omega
 |outgrown=>omega
 |returned rv=>
  obtain⟨M',v,st,a1,a2,a3,a4,a5,a6,a7,a8,a9,JB,JC⟩:=hl;refine⟨v,st,a1,M',a2,a3,a4,a5,fun hc=>a6 ?_,a7,a8,a9,JB,JC⟩;simp_all
def vZ3 {E}(hE:gC E)(hS:j7 E.sums)(hm:E.P.follows .mixedOrders=true){A k pre na f fn}(hf:E.P.funcs[f]? =some fn)(hL:∀c,fn.body=some c→wR E.P A pre na fn.ntmps c)(cd:∀vs w,(callFunc f vs).run E.P w=.ok (.enter f vs) w)
  {as rs os ns X} {S:XD as→Option X} {pack unpack} (fJ:∀d,pack (unpack d)=d) (kP:uh as na=true) (nj:(!as.any AX.isChn||A.loops.isEmpty)=true)
  (aN:∀d,ky E A k pre na fn (kO as d).1 (kO as d).2 (Js as rs os ns unpack)=S d)
  {nm args h v u} (hy:yL (sG as rs os ns S pack nm args h) v u):tV E.P f args h v u:=
 vAa cd fJ kP (fun d x hx M w vs h1 h2 h3 h4=>yFk hE hS hm hf hL nj ((aN d).trans hx) h1 h2 h3 h4) hy
def vYi {E}(hE:gC E)(hS:j7 E.sums)(hm:E.P.follows .mixedOrders=true){A k pre na f fn}(hf:E.P.funcs[f]? =some fn)(hL:∀c,fn.body=some c→wR E.P A pre na fn.ntmps c)(cd:∀vs w,(callFunc f vs).run E.P w=.ok (.enter f vs) w)
  {as rs dt os du ns fL X Y} {S:XD as→Option (X⊕Y)} {pk up iP lD}
  (fJ:∀d,pk (up d)=d) (oc:∀d,iP (lD d)=d) (kP:uh as na=true) (nj:(!as.any AX.isChn||A.loops.isEmpty)=true)
  (aN:∀d,ky E A k pre na fn (kO as d).1 (kO as d).2 (Oa as rs os ns dt du fL up lD)=S d)
  {nm args h v u} (hy:yL (ui as rs os ns dt du fL S pk iP nm args h) v u):tV E.P f args h v u:=
 V7 cd fJ oc kP (fun d x hx M w vs h1 h2 h3 h4=>yFk hE hS hm hf hL nj ((aN d).trans hx) h1 h2 h3 h4) hy
section
variable {h h':Hp}
def vPy {x c}(hh:∀id∈vQ c,h id=h' id):Jn h x c=Jn h' x c:=by
 unfold Jn;split
 ·exact yFv hh
 ·rename_i id;rw[hh id (by simp[vQ])]
 ·rename_i id;rw[hh id (by simp[vQ])]
 ·rename_i id;rw[hh id (by simp[vQ])]
 ·rfl
 ·rfl
def vDm:∀{l cs},(∀id∈cs.flatMap vQ,h id=h' id)→qd h l cs=qd h' l cs
 |[],[],_
 |[],_::_,_
 |_::_,[],_=>rfl
 |p::l,c::cs,hh=>by
  simp  at hh;unfold qd;rw[vPy fun id hi=>hh id (.inl hi),vDm (by grind)]
def vTp {ls}:ka h ls []=ka h' ls []:=by
 cases ls<;>rfl
def vOk {s:AX}{a}(hb:wW a=false):s.get h a=s.get h' a:=by
 unfold AX.get;cases s with
 |c p=>grind
 |agg l=>grind
 |ptr io l=>
  cases a with
  |c x=>cases x<;>first|rfl|(exact absurd hb (by simp[wW]))
  |_=>rfl
 |fn f bC=>
  cases a with
  |c x=>cases x with
   |fn g ids=>
    cases ids with
    |nil=>dsimp only;rw[vTp]
    |cons _ _=>exact absurd hb (by nofun)
   |_=>rfl
  |_=>rfl
 |chn ls=>
  cases a with
  |c x=>cases x<;>first|rfl|(exact absurd hb (by nofun))
  |_=>rfl
def vN9 {s:AX}{a cs bs}(hb:wW a=false)(e:s.get h a=some (cs,bs)):∀id∈cs.flatMap vQ,id∈yP a:=by
 unfold AX.get at e;split at e
 ·cases e;intro id an;simp  at an;exact an
 ·obtain⟨_,e⟩:=wQ e;cases e;exact fun id an=>an
 ·exact absurd hb (by nofun)
 ·rename_i f bC g ids;obtain⟨_,e⟩:=wQ e;cases ids with
  |nil=>cases bC with
   |nil=>cases e;simp
   |cons _ _=>cases e
  |cons _ _=>exact absurd hb (by nofun)
 ·exact absurd hb (by nofun)
 ·cases e
def vCd:∀{l as},as.any wW=false→kN h l as=kN h' l as
 |[],[],_
 |[],_::_,_
 |_::_,[],_=>rfl
 |s::l,a::as,hb=>by
  simp only[List.any_cons,Bool.or_eq_false_iff] at hb;unfold kN;rw[vOk (h:=h) (h':=h') hb.1,vCd hb.2]
def yRj:∀{l as cs bs},as.any wW=false→kN h l as=some (cs,bs)→∀id∈cs.flatMap vQ,id∈as.flatMap yP
 |[],[],cs,bs,_,e=>by cases e;simp
 |s::l,a::as,cs,bs,hb,e=>by
  simp only[List.any_cons,Bool.or_eq_false_iff] at hb;unfold kN at e;split at e
  ·rename_i c1 b1 c2 b2 e1 e2;cases e;intro id an;rw[List.flatMap_append,List.mem_append] at an;rw[List.flatMap_cons,List.mem_append];rcases an with an|an
   ·exact .inl (vN9 hb.1 e1 id an)
   ·exact .inr (yRj hb.2 e2 id an)
  ·cases e
def V8 {s a}(hh:∀id∈yP a,h id=h' id):xg h s a=xg h' s a:=by
 unfold xg;split
 ·rename_i p x;have:=D7 (h:=h) (h':=h') (l:=[p.isKept]) (cs:=[x]) (by rw[D6];exact hh);simp_all
 ·rename_i l xs;have:=D7 (h:=h) (h':=h') (l:=l.map PC.isKept) (cs:=xs) hh;simp_all
 ·rfl
def vO6 {s a a' u}(e:xg h s a=some (a',u)):(∀id∈yP a',id∈yP a)∧(wW a=false→wW a'=false):=by
 unfold xg at e;split at e
 ·rename_i p x;split at e
  ·rename_i y u1 e1;cases e;refine⟨fun id an=>by have:=D8 e1 id (by rw[D6];omega);rwa [D6] at this,fun hb=>?_⟩;cases hk:p.isKept with
   |false=>rw[hk] at e1;cases e1;exact hb
   |true=>
    rw[hk] at e1;unfold gD at e1;split at e1
    ·rename_i c1 u2 mX rZ e2 e3;cases e1;cases hy:wW (.c y) with
     |false=>rfl
     |true=>rw[(VB e2).2 hy] at hb;cases hb
    ·cases e1
  ·cases e
 ·split at e
  ·rename_i ys u1 e1;cases e;exact⟨D8 e1,fun _=>rfl⟩
  ·cases e
 simp_all
def vB1:∀{l as},(∀id∈as.flatMap yP,h id=h' id)→sF h l as=sF h' l as
 |[],as,_=>by rfl
 |_::_,[],_=>rfl
 |s::l,a::as,hh=>by
  simp  at hh;unfold sF;rw[V8 fun id hi=>hh id (.inl hi),vB1 (by grind)]
def vB2:∀{l as fq u},sF h l as=some (fq,u)→(∀id∈fq.flatMap yP,id∈as.flatMap yP)∧(as.any wW=false→fq.any wW=false)
 |[],as,fq,u,e=>by cases as<;>cases e<;>exact by simp
 |s::l,[],fq,u,e=>by cases e;simp
 |s::l,a::as,fq,u,e=>by
  unfold sF at e;split at e
  ·rename_i a1 u1 Vw rZ e1 e2;obtain⟨k1,k2⟩:=vO6 e1;obtain⟨k3,k4⟩:=vB2 e2;grind
  ·cases e
def yOu {as nm n args}(h1:args.any wW=false→∀id,(id∈args.flatMap yP∨nL nm id=true)→h id=h' id)(h2:args.any wW=true→h=h'):Bg as nm n args h=Bg as nm n args h':=by
 cases hb:args.any wW with
 |true=>rw[h2 hb]
 |false=>
  have hh:=h1 hb;unfold Bg;rw[vB1 (h:=h) (h':=h') (by grind)];cases e:sF h' as args with
  |none=>rfl
  |some p=>
   obtain⟨eZ,u⟩:=p;obtain⟨k1,k2⟩:=vB2 e;dsimp only;rw[vCd (h:=qK h u) (h':=qK h' u) (k2 hb)];cases e2:kN (qK h' u) as eZ with
   |none=>rfl
   |some q=>
    obtain⟨cs,bs⟩:=q;dsimp only;rw[vDm (h:=qK h u) (h':=qK h' u) fun id an=>AZ (hh id (.inl (k1 id (yRj (k2 hb) e2 id an))))];cases qd (qK h' u) (as.flatMap AX.cells) cs with
    |none=>rfl
    |some d=>
     cases hle:Nat.ble n 100 with
     |false=>simp
     |true=>
      have hle:=Nat.le_of_ble_eq_true hle;rw [VC (h := h) (h' := h') fun i hi => hh _ (.inr (by
       simp only[nL,Bool.and_eq_true];exact⟨by simp,by simp[Nat.blt_eq];omega⟩))]
end
def yS9 {as rs os ns X}{S:Nat→XD as→Option X}{pack}:Jh fun k nm args h=>sG as rs os ns (S k) pack nm args h:=by
 intro k nm args h h' h1 h2;show sG as rs os ns (S k) pack nm args h=sG as rs os ns (S k) pack nm args h';unfold sG;rw[yOu h1 h2]
def vI0 {as rs dt os du ns fL X Y}{S:Nat→XD as→Option (X⊕Y)}{pk iP}:Jh fun k nm args h=>ui as rs os ns dt du fL (S k) pk iP nm args h:=by
 intro k nm args h h' h1 h2;show ui as rs os ns dt du fL (S k) pk iP nm args h=ui as rs os ns dt du fL (S k) pk iP nm args h';unfold ui;rw[yOu h1 h2]
structure zD (P:Program) (r:Nat×nW):Prop where
 ok:yS7 P r
 loc:Jh r.2
def Ej (P:Program):List (Nat×nW)→Prop
 |[]=>True
 |r::l=>zD P r∧Ej P l
def Ej.all {P}:∀{l},Ej P l→∀r∈l,zD P r
 |a::l,h,r,hr=>by
  rcases List.mem_cons.1 hr with rfl|hr
  ·exact h.1
  ·exact Ej.all h.2 r hr
structure jU (E:Env):Prop where
 ok:gC E
 loc:j7 E.sums
 ord:E.P.follows .mixedOrders=true
def Oj {P l eqT}(he:II P eqT)(hm:P.follows .mixedOrders=true)(h:Ej P l):jU ⟨P,eqT,fK l⟩:=
 ⟨⟨he,yR4 fun r hr=>(h.all r hr).ok⟩,yDe fun r hr=>(h.all r hr).loc,hm⟩
def od {P l}(hm:P.follows .mixedOrders=true)(h:Ej P l):jU ⟨P,fun _=>false,fK l⟩:=Oj vMi hm h
def loops1 {P A pre na nt c L}(h:zS P pre na nt (zQ c 0) L)(hn:(nX c).length=1:=by kernel_rfl) (hl:wc A (zQ c 0)=some L:=by kernel_rfl):wR P A pre na nt c:=
 nh hn (by grind)
def zF {P A pre na nt c}(hn:(nX c).length=0:=by kernel_rfl):wR P A pre na nt c:=vGx hn
def yRh (E:Env)(A:zW)(na nt:Nat)(b:Code) ins outs {X Y:Type}(mQ:vy outs→X)(c:Y→rT ins→Option X)(bf:Nat→Y→Y):Prop:=
 ∀k rec d,c (bf k rec) d=No (1000+iw) ins d fun st=>kx E A k 1000 na nt b st (yIc 1000 ins outs mQ (c rec))
abbrev vSe (X:Type):=Nat→X→(R:Type)→(Ex→St→Option R)→Option R
def Wa {E A na nt b ins outs X Y mQ c bf}(hE:jU E)(hs:yRh E A na nt b ins outs mQ c bf)(f:Nat→Nat→Y)(elim:vSe X)
  (hX:∀o R K,elim (1000+iw) (mQ o) R K=Du (1000+iw) outs o K) (hL:wR E.P A 1000 na nt b) (h0:∀k d,c (f k 0) d=none:=by intros;rfl) (h1:∀k n,f k (n+1)=bf k (f k n):=by intros;rfl):
  zS E.P 1000 na nt b ⟨ins,outs,X,fun k d=>c (f k k) d,elim⟩:=
 vNy hE.ok hE.loc hE.ord hL mQ elim hX (fun k n d=>c (f k n) d) h0 (fun k n d=>by rw[h1];exact hs k (f k n) d)
def Wb (E:Env)(A:zW)(na:Nat)(fn:Func) as (rs:RS){X}(up:RL rs.cells→X)(S:Nat→AD as→Option X):Prop:=
 ∀k d,ky E A k 1000 na fn (pY as d).1 (pY as d).2 (ng rs up)=S k d
def vAs (E:Env)(A:zW)(na:Nat)(fn:Func) as (rs:RS)(os:List (List RC))(ns:Nat){X}(up:RL (rs.cells++os.flatten)→X)(S:Nat→XD as→Option X):Prop:=
 ∀k d,ky E A k 1000 na fn (kO as d).1 (kO as d).2 (Js as rs os ns up)=S k d
def yIi (E:Env)(A:zW)(na:Nat)(fn:Func) as (rs:RS)(os:List (List RC))(ns:Nat)(dt:RS)(du:List (List RC))(fL:Nat){X Y}(up:RL (rs.cells++os.flatten)→X)(lD:RL (dt.cells++du.flatten)→Y)(S:Nat→XD as→Option (X⊕Y)):Prop:=
 ∀k d,ky E A k 1000 na fn (kO as d).1 (kO as d).2 (Oa as rs os ns dt du fL up lD)=S k d
def Wc {E A na f fn as rs X S pack}{unpack:RL rs.cells→X}(hE:jU E)(aN:Wb E A na fn as rs unpack S)(hL:wR E.P A 1000 na fn.ntmps (zR fn))
  (hf:E.P.funcs[f]? =some fn:=by kernel_rfl) (hb:fn.body.isNone=false:=by kernel_rfl) (hn:(fn.name== "runtime.NumGoroutine")=false:=by kernel_rfl) (fJ:∀d,pack (unpack d)=d:=by intro d;rfl):
  zD E.P (f,fun k nm args h=>o0 as rs (S k) pack nm args h):=
 ⟨fun k _ _ _ _ _ hy=>vJw hE.ok hE.loc hE.ord hf (body_loops hL) (Jj hf hb hn) fJ (aN k) hy,vEa⟩
def vTg {E A na f fn as rs os ns X}{S:Nat→XD as→Option X}{pack unpack}(hE:jU E)(aN:vAs E A na fn as rs os ns unpack S)
  (hL:wR E.P A 1000 na fn.ntmps (zR fn)) (hf:E.P.funcs[f]? =some fn:=by kernel_rfl) (hb:fn.body.isNone=false:=by kernel_rfl) (hn:(fn.name== "runtime.NumGoroutine")=false:=by kernel_rfl) (kP:uh as na=true:=by kernel_rfl) (nj:(!as.any AX.isChn||A.loops.isEmpty)=true:=by kernel_rfl) (fJ:∀d,pack (unpack d)=d:=by intro d;rfl):
  zD E.P (f,fun k nm args h=>sG as rs os ns (S k) pack nm args h):=
 ⟨fun k _ _ _ _ _ hy=>vZ3 hE.ok hE.loc hE.ord hf (body_loops hL) (Jj hf hb hn) fJ kP nj (aN k) hy,yS9⟩
def vWo {E A na f fn as rs dt os du ns fL X Y}{S:Nat→XD as→Option (X⊕Y)}{pk up iP lD}(hE:jU E)
  (aN:yIi E A na fn as rs os ns dt du fL up lD S)
  (hL:wR E.P A 1000 na fn.ntmps (zR fn)) (hf:E.P.funcs[f]? =some fn:=by kernel_rfl) (hb:fn.body.isNone=false:=by kernel_rfl) (hn:(fn.name== "runtime.NumGoroutine")=false:=by kernel_rfl) (kP:uh as na=true:=by kernel_rfl) (nj:(!as.any AX.isChn||A.loops.isEmpty)=true:=by kernel_rfl) (fJ:∀d,pk (up d)=d:=by intro d;rfl) (oc:∀d,iP (lD d)=d:=by intro d;rfl):
  zD E.P (f,fun k nm args h=>ui as rs os ns dt du fL (S k) pk iP nm args h):=
 ⟨fun k _ _ _ _ _ hy=>vYi hE.ok hE.loc hE.ord hf (body_loops hL) (Jj hf hb hn) fJ oc kP nj (aN k) hy,vI0⟩
def vLr {E A na f fn sh t rs X}{S:Nat→List t.den→Option X}{pack unpack}(hE:jU E)(cM:∀k,ky E A k 1000 na fn [.c .nsl] (lZ []) (ng rs unpack)=S k [])
  (aN:∀k xs,ky E A k 1000 na fn [.c (.nfl sh t xs)] (lZ []) (ng rs unpack)=S k xs) (hL:wR E.P A 1000 na fn.ntmps (zR fn)) (hf:E.P.funcs[f]? =some fn:=by kernel_rfl) (hb:fn.body.isNone=false:=by kernel_rfl) (hn:(fn.name== "runtime.NumGoroutine")=false:=by kernel_rfl) (fJ:∀d,pack (unpack d)=d:=by intro d;rfl):
  zD E.P (f,fun k nm args h=>o0 [.c (.dat sh t)] rs (fun d=>S k d.1) pack nm args h):=
 ⟨fun k _ _ _ _ _ hy=>vIu hE.ok hE.loc hE.ord hf (body_loops hL) (Jj hf hb hn) fJ (fun x hx=>(cM k).trans hx) (by grind) hy,vEa⟩
def Ek (k:Nat)(a b c:Int):Option (Int×Int):=
 bif decide (c=0) then some (Int.ofNat ((a.toNat+b.toNat+0)%18446744073709551616),Int.ofNat ((a.toNat+b.toNat+0)/18446744073709551616)) else none
def Ol:nW:=fun k nm args h=>match args with
 |[.c (.int .u64 a),.c (.int .u64 b),.c (.int .u64 c)]=>.call (Int×Int) (Ek k a b c) (fun r=>(.tup [(false,[.int .u64 r.1]),(false,[.int .u64 r.2])],[]))
 |_=>.stuck
def Wd {P} a b w:
  (add64Entry #[.int .u64 a,.int .u64 b,.int .u64 0]).run P w=.ok (.tuple #[.int .u64 (Int.ofNat ((a.toNat+b.toNat+0)%18446744073709551616)),.int .u64 (Int.ofNat ((a.toNat+b.toNat+0)/18446744073709551616))]) w:=rfl
def vU2 {P f fn}(hf:P.funcs[f]? =some fn:=by kernel_rfl) (qm:(fn.name== "runtime.NumGoroutine")=false:=by kernel_rfl) (hb:fn.body.isNone=true:=by kernel_rfl)
  (hn:Extern.findNext fn=none:=by kernel_rfl) (he:Extern.find fn=some add64Entry:=by kernel_rfl):
  zD P (f,Ol):=by
 refine⟨fun k nm args h v u hy=>?_,fun _ _ _ _ _ _ _=>rfl⟩;intro M w vs hh hH ok hv;refine .inr ?_;replace hy:yL (Ol k nm args h) v u:=hy;unfold Ol at hy;split at hy
 ·rename_i a b c;obtain⟨x,hx,rfl,rfl⟩:=hy
  match hl:vs.toList,hv with
  |[v1,v2,v3],hv=>
   obtain⟨h1,h2,h3,_⟩:=hv;cases h1;cases h2;cases h3;obtain rfl:vs=#[.int .u64 a,.int .u64 b,.int .u64 c]:=by grind
   obtain⟨hc,hx⟩:=wQ hx;cases hx;have hc:c=0:=by simp_all
   subst hc;refine⟨.tuple #[.int .u64 (Int.ofNat ((a.toNat+b.toNat+0)%18446744073709551616)),.int .u64 (Int.ofNat ((a.toNat+b.toNat+0)/18446744073709551616))],w,M,?_,⟨rfl,rfl,rfl,hH,rfl,ok,.refl M⟩,?_⟩
   ·rw[run_callFunc_extern hf qm hb hn he,Wd a b w];rfl
   ·exact⟨#[.int .u64 (Int.ofNat ((a.toNat+b.toNat+0)%18446744073709551616)),.int .u64 (Int.ofNat ((a.toNat+b.toNat+0)/18446744073709551616))],rfl,rfl,rfl,trivial⟩
 ·exact hy.elim
end Go.Ab
