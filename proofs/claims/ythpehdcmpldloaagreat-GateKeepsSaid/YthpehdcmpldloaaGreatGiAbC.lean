/- part 2 -/
import Derived.Test.YthpehdcmpldloaaGreatGiAbB
import Derived.ProofKit
import Derived.Below
import Derived.Carry
import Derived.Laws.Externs
set_option linter.unusedVariables false
set_option linter.unusedSimpArgs false
set_option linter.unusedSectionVars false
namespace Go.Ab
def Ex.toExit:Ex→Exit
 |.normal=>.normal
 |.ret=>.ret
 |.exit id=>.exit id
theorem yF0 {P Q c}(I:Nat→Act→World→Prop)(round:∀n a w,I n a w→c.wp P (Exit.then (fun a' w'=>∃m,m<n∧I m a' w') Q) a w){n a w}(h₀:I n a w):(Code.loop c).wp P Q a w:=by
 intro b k cs;have key:∀n a w,I n a w→∃e a' w',Q e a' w'∧Arrives P (lone (b.at a (.code c::.inLoop c::k)) cs w) b k cs e a' w':=by
  intro n
  induction n using Nat.strongRecOn with
  |_ n ih=>
   intro a w hI;obtain⟨e,a₁,w₁,hq,kI⟩:=round n a w hI b (.inLoop c::k) cs;cases e with
   |normal=>
    obtain⟨m,hm,hI₁⟩:=hq;obtain⟨e₂,a₂,w₂,hq₂,harr₂⟩:=ih m hm a₁ w₁ hI₁;exact⟨e₂,a₂,w₂,hq₂,.of_steps (Steps.trans kI (.one step_inLoop)) harr₂⟩
   |exit id=>exact⟨_,a₁,w₁,hq,.pass (x:=.inLoop c) rfl (by simp) kI⟩
   |goto l=>exact⟨_,a₁,w₁,hq,.pass (x:=.inLoop c) rfl (by simp) kI⟩
   |ret=>exact⟨_,a₁,w₁,hq,.pass (x:=.inLoop c) rfl (fun _ _=>.inl (by simp)) kI⟩
   |panic ch=>exact⟨_,a₁,w₁,hq,.pass (x:=.inLoop c) rfl (fun _ _=>.inl (by simp)) kI⟩
   |outgrown=>exact⟨_,a₁,w₁,hq,.pass (x:=.inLoop c) rfl (by simp) kI⟩
 obtain⟨e,a',w',hq,kI⟩:=key n a w h₀;exact⟨e,a',w',hq,.of_steps (.one step_loop) kI⟩
def M7 (tmps:Array Value):ResultVar→Sem Value
 |.tmp t=>pure (tmps.getD t undef)
 |.cell c t=>do loadVar t (←asAddr (tmps.getD c undef))
def AI (base:Nat):(l:List (Ex×zE))→vr l→Ex×St
 |[],d=>(.normal,⟨fun _=>.undef,fun _=>none⟩)
 |[p],d=>(p.1,zN base p.2 d)
 |p::q::l,d=>match d with
  |.inl d=>(p.1,zN base p.2 d)
  |.inr d=>AI base (q::l) d
theorem vB2 {R base K}{out:R}:∀{l d},CN base l d K=some out→K (AI base l d).1 (AI base l d).2=some out
 |[p],_,h
 |p::q::l,.inl d,h=>h
 |p::q::l,.inr d,h=>vB2 (l:=q::l) h
def Iq (base:Nat):(l:List zE)→rJ l→St
 |[],_=>⟨fun _=>.undef,fun _=>none⟩
 |[S],d=>zN base S d
 |S::T::l,d=>match d with
  |.inl d=>zN base S d
  |.inr d=>Iq base (T::l) d
theorem yX7 {R base K}{out:R}:∀{l d},Mq base l d K=some out→K (Iq base l d)=some out
 |[S],_,h
 |S::T::l,.inl d,h=>h
 |S::T::l,.inr d,h=>yX7 (l:=T::l) h
def zU (P:Program)(pre na nt:Nat)(b:Code)(L:zW):Prop:=∀k d x,L.sum k d=some x→∀(a0:Nat→Value) (M0:zL) (w0:World) (a:Act) (w:World) (Q:Exit→Act→World→Prop),
 vW false na nt a0 M0 w0 (Iq (pre+g9) L.ins d) a w→
 (∀(o:vr L.outs) a' w',(∀R K,L.elim (pre+g9) x R K=CN (pre+g9) L.outs o K)→vW false na nt a0 M0 w0 (AI (pre+g9) L.outs o).2 a' w'→Q (AI (pre+g9) L.outs o).1.toExit a' w')→
 (Code.loop b).wp P Q a w
def wK (P:Program)(A:qA)(pre na nt:Nat):Code→Prop
 |.seq a b=>wK P A pre na nt a∧wK P A pre na nt b
 |.cond _ a b=>wK P A pre na nt a∧wK P A pre na nt b
 |.block _ b=>wK P A pre na nt b
 |.loop b=>(∀L,vx A b=some L→zU P pre na nt b L)∧(vx A b=none→wK P A pre na nt b)
 |_=>True
theorem yLd {A c b st}(h:st.ev c=.c (.bool b)):Mr A c b st=st:=by
 unfold Mr;split
 ·rw[Tf h]
 ·rfl
section
variable {nl:Bool} {E:Env} {A:qA} {k pre na nt:Nat} {a0:Nat→Value} {R:Type} {M0:zL} {w0:World} {out:R}
theorem TB {a w st}(r:vW false na nt a0 M0 w0 st a w):∀{l x},CM pre l st=some x→vW false na nt a0 M0 w0 (Iq (pre+g9) l x) a w
 |[S],x,h=>M6 r h
 |S::T::l,x,h=>by
  unfold CM at h;split at h
  ·rename_i d hd;cases h;exact M6 r hd
  ·split at h
   ·rename_i d hd;cases h;exact TB r (l:=T::l) hd
   ·cases h
theorem yT1 (hE:gd E)(hS:jz E.sums)(hm:E.P.follows .mixedOrders=true)(MO:nl=true→A.loops=[]):∀c,wK E.P A pre na nt c→∀st K a w Q,kt E A k pre na nt c st K=some out→vW nl na nt a0 M0 w0 st a w→
  (∀e bL a' w',vW nl na nt a0 M0 w0 bL a' w'→K e bL=some out→Q e.toExit a' w')→c.wp E.P Q a w:=by
 intro c
 induction c with
 |skip=>exact fun _ st K a w Q h r hK=>wp_skip (hK .normal st a w r h)
 |region id ops draw=>
  intro _ st K a w Q h r hK;cases draw with
  |true=>
   cases he:HH ops with
   |false=>simp only[kt,he] at h;cases h
   |true=>
    simp only[kt,he] at h;exact vIt hE hS hm he h r fun bL a' w' r' h'=>hK .normal bL a' w' r' h'
  |false=>
   have:=yNm hE (Q:=Q) _ _ _ _ a w (by grind) h r fun bL a' w' r' h'=>hK .normal bL a' w' r' h'
   refine wp_region ?_;have e:(ops.toList.zipIdx.map fun p=>(p.2,p.1)).map (·.1)=List.range ops.size:=by
    rw[List.map_map];have e2:((fun x:Nat×Oper=>x.1)∘fun p:Oper×Nat=>(p.2,p.1))=Prod.snd:=rfl;rw[e2,List.zipIdx_map_snd,←List.range_eq_range'];simp
   simp_all
 |seq x y TC TD=>
  intro hL st K a w Q h r hK;simp only[kt] at h;refine wp_seq (TC hL.1 st _ a w _ h r fun e bL a' w' r' h'=>?_);cases e with
  |normal=>exact TD hL.2 bL K a' w' Q h' r' hK
  |ret=>exact hK .ret bL a' w' r' h'
  |exit id=>exact hK (.exit id) bL a' w' r' h'
 |cond c x y TC TD=>
  intro hL st K a w Q h r hK;simp only[kt] at h;split at h
  ·rename_i t ht;obtain⟨M,_,_,_,_,hv⟩:=r.ex;have hc:=yS7 hv c;rw[ht] at hc;refine wp_cond (t:=t) hc ?_;cases t with
   |true=>
    rw[yLd ht,cond_true] at h;exact TC hL.1 st K a w Q h r hK
   |false=>
    rw[yLd ht,cond_false] at h;exact TD hL.2 st K a w Q h r hK
  ·cases h
 |block id b ih=>
  intro hL st K a w Q h r hK;simp only[kt] at h;refine wp_block (ih hL st _ a w _ h r fun e bL a' w' r' h'=>?_);cases e with
  |normal=>exact hK .normal bL a' w' r' h'
  |ret=>exact hK .ret bL a' w' r' h'
  |exit i=>
   show if i=id then Q .normal a' w' else Q (.exit i) a' w'
   dsimp only at h';cases e:Nat.beq i id with
   |true=>
    rw[e] at h';rw[if_pos (by simpa using e)];exact hK .normal bL a' w' r' h'
   |false=>
    rw[e] at h';rw[if_neg (fun e'=>by simp_all)];exact hK (.exit i) bL a' w' r' h'
 |loop b ih=>
  intro hL st K a w Q h r hK;simp only[kt] at h;split at h
  ·rename_i hN;refine yF0 (fun n a w=>∃st,vW nl na nt a0 M0 w0 st a w∧RZ (kt E A k pre na nt b) n st K=some out) (fun n a w ⟨st,r,hi⟩=>?_) ⟨st,r,h⟩;cases n with
   |zero=>cases hi
   |succ n=>
    refine ih (hL.2 hN) st _ a w _ hi r fun e bL a' w' r' h'=>?_
    cases e with
    |normal=>exact⟨n,by simp,bL,r',h'⟩
    |ret=>exact hK .ret bL a' w' r' h'
    |exit id=>exact hK (.exit id) bL a' w' r' h'
  ·rename_i L hN;split at h
   ·cases h
   ·rename_i d hd;obtain⟨x,hx,h⟩:=Option.bind_eq_some_iff.1 h;cases nl with
    |true=>
     unfold vx at hN;grind
    |false=>exact hL.1 L hN k d x hx a0 M0 w0 a w Q (TB r hd) fun o a' w' ho r'=>hK _ _ a' w' r' (vB2 (by simp_all))
 |exit id=>exact fun _ st K a w Q h r hK=>wp_exit (hK (.exit id) st a w r h)
 |ret=>exact fun _ st K a w Q h r hK=>wp_ret (hK .ret st a w r h)
 |_=>nofun
theorem yIp {a b}(h:RT a b=true):a=b:=by
 cases a<;>cases b<;>first|rfl|(cases h)|skip
 rw[Nat.eq_of_beq_eq_true h]
theorem yX2 {a w st e}(r:vW false na nt a0 M0 w0 st a w):∀{l x},HJ pre l e st=some x→(AI (pre+g9) l x).1=e∧vW false na nt a0 M0 w0 (AI (pre+g9) l x).2 a w
 |[p],x,h=>by
  obtain⟨he,h⟩:=nH h;exact⟨yIp he,M6 r h⟩
 |p::q::l,x,h=>by
  unfold HJ at h;split at h
  ·rename_i d hd;cases h;obtain⟨he,hd⟩:=nH hd;exact⟨yIp he,M6 r hd⟩
  ·split at h
   ·rename_i d hd;cases h;exact yX2 r (l:=q::l) hd
   ·cases h
theorem vWf (hE:gd E)(hS:jz E.sums)(hm:E.P.follows .mixedOrders=true){b ins outs}(hL:wK E.P A pre na nt b){X} mC elim (hX:∀o R K,elim (pre+g9) (mC o) R K=CN (pre+g9) outs o K)
  (rec:Nat→Nat→rJ ins→Option X) (h0:∀k d,rec k 0 d=none)
  (aL:∀k n d,rec k (n+1) d=Mq (pre+g9) ins d fun st=>kt E A k pre na nt b st (yTi pre ins outs mC (rec k n))):zU E.P pre na nt b ⟨ins,outs,X,fun k d=>rec k k d,elim⟩:=by
 intro k d x hx a0 M0 w0 a w Q r hQ;refine yF0 (fun n a w=>∃d,vW false na nt a0 M0 w0 (Iq (pre+g9) ins d) a w∧rec k n d=some x) (fun n a w ⟨d,r,hi⟩=>?_) ⟨d,r,hx⟩;cases n with
 |zero=>simp_all
 |succ n=>
  rw[aL k n d] at hi;refine yT1 hE hS hm (by simp) b hL _ _ a w _ (yX7 hi) r fun e bL a' w' r' h'=>?_
  have out:∀e,(match HJ pre outs e bL with|some o=>some (mC o)|none=>none)=some x→Q e.toExit a' w':=fun e h'=>by
   split at h'
   ·rename_i o ho;obtain⟨h1,h2⟩:=yX2 (pre:=pre) r' ho;grind
   ·cases h'
  cases e with
  |normal=>
   have h':(match CM pre ins bL with|some d=>rec k n d|none=>none)=some x:=h';split at h'
   ·rename_i d' hd;exact⟨n,by simp,d',TB r' hd,h'⟩
   ·cases h'
  |ret=>exact out .ret h'
  |exit id=>exact out (.exit id) h'
theorem vJk fn tmps:results fn tmps=(do let vs←fn.results.mapM (M7 tmps);pure (if h:vs.size=1 then vs[0] else .tuple vs)):=rfl
theorem vKv (hE:gd E)(hS:jz E.sums)(hm:E.P.follows .mixedOrders=true){st}{a:Act}{w x v M}(hM:M.h=st.h)(hH:M.H=w.heap)(ok:Ok M)(ht:∀t,zV M (st.t t) (a.tmps.getD t undef))(h:vy E st x=some v):
  ∃rv,(M7 a.tmps x).run E.P w=.ok rv w∧zV M v rv:=by
 unfold vy at h;split at h
 ·rename_i t;cases h;exact⟨_,rfl,ht t⟩
 ·rename_i c t;split at h
  ·rename_i id off hc;split at h
   ·split at h
    ·rename_i vs eP;have hv:=ht c;rw[hc] at hv;obtain⟨C,B,hC,hB,e⟩:=hv;obtain⟨C',aE,hO⟩:=ok.obj id _ (by rw[hM];omega);rw[hC] at aE;cases aE;obtain⟨B',kA,aG⟩:=yYh hO;rw[hB] at kA;cases kA;obtain⟨rv2,nG,dq⟩:∃rv,(loadVar t ⟨B,0+off,none⟩).run E.P w=.ok rv w∧zV M v rv:=yL3 ok hH aG eP h;refine⟨rv2,?_,dq⟩;simp  at nG;unfold M7;dsimp only;rw[e];simp[asAddr,nG]
    ·cases h
   ·cases h
  ·cases h
theorem vIo {M v p rv}(h:CO v=some p)(hv:zV M v rv):vz M p rv:=by
 unfold CO at h;split at h
 ·cases h;exact hv
 ·cases h;exact hv
 ·cases h
theorem yVi {M}:∀{vs xs rs},zM (fun a b=>CO a=some b) vs xs→zM (zV M) vs rs→zM (vz M) xs rs
 |[],[],[],_,_=>trivial
 |_::_,_::_,_::_,h,k=>⟨vIo h.1 k.1,yVi h.2 k.2⟩
theorem yDn {st}:∀(l:List ResultVar) xs,l.mapM (fun r=>(vy E st r).bind CO)=some xs→∃vs,l.mapM (vy E st)=some vs∧vs.mapM CO=some xs
 |[],xs,h=>by simp_all
 |x::l,xs,h=>by
  simp only[List.mapM_cons,Option.bind_eq_bind,Option.bind_eq_some_iff] at h;obtain⟨p,⟨v,h1,h2⟩,ps,h3,h4⟩:=h;obtain⟨vs,k1,k2⟩:=yDn l ps h3;simp_all
theorem vSr (hE:gd E)(hS:jz E.sums)(hm:E.P.follows .mixedOrders=true){fn st}{a:Act}{w v M}(hM:M.h=st.h)(hH:M.H=w.heap)(ok:Ok M)(ht:∀t,zV M (st.t t) (a.tmps.getD t undef))(h:Ms E fn st=some v):
  ∃rv,(results fn a.tmps).run E.P w=.ok rv w∧zV M v rv:=by
 have one:=fun x v=>vKv hE hS hm (x:=x) (v:=v) hM hH ok ht
 have key:∀(l:List ResultVar) (vs:List zY),l.mapM (vy E st)=some vs→∃rs:List Value,(l.mapM (M7 a.tmps)).run E.P w=.ok rs w∧zM (zV M) vs rs:=by
  intro l
  induction l with
  |nil=>exact fun vs h=>by simp at h;subst h;exact⟨[],rfl,trivial⟩
  |cons x l ih=>
   intro vs h;simp[Option.bind_eq_some_iff] at h;obtain⟨v,h1,So,h2,h3⟩:=h;cases h3;obtain⟨rv,k1,k2⟩:=one x v h1;obtain⟨rs,k3,k4⟩:=ih So h2;refine⟨rv::rs,?_,k2,k4⟩;simp_all
 have run:∀(vs:List zY),fn.results.toList.mapM (vy E st)=some vs→∃rs:List Value,(results fn a.tmps).run E.P w=.ok (if h:rs.length=1 then rs[0] else .tuple rs.toArray) w∧zM (zV M) vs rs:=fun vs h=>by
  obtain⟨rs,k1,k2⟩:=key _ vs h;refine⟨rs,?_,k2⟩;rw[vJk,Array.mapM_eq_mapM_toList];simp_all
 unfold Ms at h;split at h
 ·cases h;obtain⟨rs,k1,k2⟩:=run [] (by simp_all);cases rs with
  |cons _ _=>exact k2.elim
  |nil=>exact⟨_,k1,#[],rfl,trivial⟩
 ·obtain⟨rs,k1,k2⟩:=run [v] (by simp_all)
  match rs,k2 with
  |[r],k2=>exact⟨_,k1,k2.1⟩
 ·split at h
  ·rename_i xs Ie;cases h;obtain⟨vs,k1,k2⟩:=yDn _ _ Ie;obtain⟨rs,r1,r2⟩:=run vs k1;have hlen:rs.length≠1:=fun e=>by
    have e1:=r2.length;have e2:=(Ic _ _ _ k1).length;have h3:fn.results.toList.length=1:=by omega
    match hl:fn.results.toList,h3 with
    |[x],_=>simp_all
   rw[dif_neg hlen] at r1;exact⟨_,r1,rs.toArray,rfl,yVi (Ic _ _ _ k2) r2⟩
  ·cases h
theorem TE (hE:gd E)(hS:jz E.sums)(hm:E.P.follows .mixedOrders=true){f fn}(hf:E.P.funcs[f]? =some fn)(hL:∀c,fn.body=some c→wK E.P A pre na fn.ntmps c){args h K}(aQ:ku E A k pre na fn args h K=some out){M w vs}(hh:M.h=h)(hH:M.H=w.heap)(ok:Ok M)
  (hv:zM (zV M) args vs.toList):Calls E.P f vs w fun
   |.returned rv,w'=>∃(M':zL) (v:zY) (st:St),K v st=some out∧M'.h=st.h∧M'.H=w'.heap∧Ok M'∧j0 M M'∧(A.loops=[]→fE M M')∧zV M' v rv∧w'.os=w.os∧w'.tape=w.tape∧w'.output=w.output∧
     (∀t,t<na→zV M' (st.t t) (vs.getD t undef))
   |_,_=>False:=by
 unfold ku at aQ;cases hb:fn.body with
 |none=>simp_all
 |some c=>
  rw[hb] at aQ;dsimp only at aQ;cases hle:Nat.ble args.length fn.ntmps with
  |false=>simp_all
  |true=>
   rw[hle] at aQ;rw[cond_true] at aQ;have hl:=hv.length;have hle:args.length≤fn.ntmps:=Nat.le_of_ble_eq_true hle;have dV:vs.size≤fn.ntmps:=by simp at hl;omega
   have Ir:∀t,zV M (Mt args t) ((vs++Array.replicate (fn.ntmps-vs.size) undef).getD t undef):=fun t=>by
    unfold Mt;by_cases ht:t<args.length
    ·have TF:t<vs.size:=by simp at hl;omega
     have:=hv.get t ht (by simpa using TF);simp only[List.getD_eq_getElem?_getD,List.getElem?_eq_getElem ht,Option.getD_some];simp only[Array.getD_eq_getD_getElem?,Array.getElem?_append_left TF,Array.getElem?_eq_getElem TF,Option.getD_some]
     simpa using this
    ·simp only[List.getD_eq_getElem?_getD,List.getElem?_eq_none (Nat.not_lt.1 ht),Option.getD_none];show _=undef;simp;grind
   have r:vW A.loops.isEmpty na fn.ntmps (fun t=>(vs++Array.replicate (fn.ntmps-vs.size) undef).getD t undef) M w {t:=Mt args,h:=h} {tmps:=vs++Array.replicate (fn.ntmps-vs.size) undef,defers:=[]} w:=
    ⟨⟨M,hh,hH,ok,⟨.refl M,fun _ _ C h=>⟨C,h,rfl⟩⟩,Ir⟩,rfl,by simp;omega,rfl,rfl,rfl,fun _ _=>rfl⟩
   refine calls_of_wp hf hb (yT1 hE hS hm (by simp) c (hL c hb) _ _ _ _ _ aQ r fun e bL a' w' r' hK=>?_);obtain⟨M',q1,q2,q3,q4,q5⟩:=r'.ex;have fin:∀v,Ms E fn bL=some v→K v bL=some out→a'.defers=[]∧∃rv,(results fn a'.tmps).run E.P w'=.ok rv w'∧∃(M':zL) (v:zY) (st:St),K v st=some out∧M'.h=st.h∧M'.H=w'.heap∧Ok M'∧j0 M M'∧(A.loops=[]→fE M M')∧zV M' v rv∧w'.os=w.os∧w'.tape=w.tape∧w'.output=w.output∧
     (∀t,t<na→zV M' (st.t t) (vs.getD t undef)):=fun v kJ hK=>by
    obtain⟨rv,k1,k2⟩:=vSr hE hS hm q1 q2 q3 q5 kJ;refine⟨r'.defers,rv,k1,M',v,bL,hK,q1,q2,q3,q4.g,fun h=>q4.k (by grind),k2,r'.os,r'.tape,r'.output,fun t ht=>?_⟩;have:=q5 t;rw[r'.keep t ht] at this;have e:(vs++Array.replicate (fn.ntmps-vs.size) undef).getD t undef=vs.getD t undef:=by
     by_cases h1:t<vs.size
     ·simp[Array.getD_eq_getD_getElem?,Array.getElem?_append_left h1]
     ·simp;grind
    simp_all
   cases e with
   |exit id=>cases hK
   |normal=>
    dsimp only at hK;split at hK
    ·rename_i v kJ;exact fin v kJ hK
    ·cases hK
   |ret=>
    dsimp only at hK;split at hK
    ·rename_i v kJ;exact fin v kJ hK
    ·cases hK
end
inductive PC where
 |int (k:IntKind)|bool|dat (sh:Bool) (t:Ty)|fn (f:Nat)
 |nil|nilp
abbrev PC.den:PC→Type
 |.int _=>Int|.bool=>Bool|.dat _ t=>List t.den|.fn _=>Unit|.nil=>Unit|.nilp=>Unit
abbrev PL:List PC→Type
 |[]=>Unit
 |p::l=>p.den×PL l
inductive AS where
 |c (p:PC)|agg (l:List PC)|ptr (l:List PC)|fn (f:Nat) (bB:List (List PC))
def AS.cells:AS→List PC
 |.c p=>[p]
 |.agg l=>l
 |.ptr l=>l
 |.fn _ bB=>bB.flatten
abbrev AD (l:List AS):Type:=PL (l.flatMap AS.cells)
def AJ (h:Hp)(t:Ty):zZ→Option (List t.den)
 |.nsl=>some []
 |c=>match kq h c with
  |some ⟨s,xs⟩=>gW s t xs
  |none=>none
def tY (h:Hp):(p:PC)→zZ→Option p.den
 |.int k,.int j n=>bif fW j k then some n else none
 |.bool,.bool b=>some b
 |.dat false t,c=>AJ h t c
 |.dat true t,.fsl true s xs=>gW s t xs
 |.dat true t,.nsl=>some []
 |.fn f,.fn g []=>bif Nat.beq f g then some () else none
 |.nil,.nsl=>some ()
 |.nilp,.nilp=>some ()
 |_,_=>none
def AK (h:Hp):(l:List PC)→List zZ→Option (PL l)
 |[],[]=>some ()
 |p::l,c::cs=>match tY h p c,AK h l cs with
  |some d,some ds=>some (d,ds)
  |_,_=>none
 |_,_=>none
def Dp (h:Hp)(id:Nat):Option (List zZ):=match h id with
 |some (.box _ cells)=>some cells
 |some (.robox cells)=>some cells
 |_=>none
def tZ (h:Hp):List (List PC)→List Nat→Option (List zZ)
 |[],[]=>some []
 |l::ls,id::ids=>match Dp h id,tZ h ls ids with
  |some cells,some rest=>bif Nat.beq cells.length l.length then some (cells++rest) else none
  |_,_=>none
 |_,_=>none
def AS.get (h:Hp):AS→zY→Option (List zZ)
 |.c _,.c x=>some [x]
 |.agg l,.agg xs=>bif Nat.beq xs.length l.length then some xs else none
 |.ptr l,.c (.ptr id 0)=>tZ h [l] [id]
 |.fn f bB,.c (.fn g ids)=>bif Nat.beq f g then tZ h bB ids else none
 |_,_=>none
def sf (h:Hp):List AS→List zY→Option (List zZ)
 |[],[]=>some []
 |s::l,a::as=>match s.get h a,sf h l as with
  |some cs,some rest=>some (cs++rest)
  |_,_=>none
 |_,_=>none
def AL (h:Hp) l (as:List zY):Option (AD l):=match sf h l as with
 |some cs=>AK h (l.flatMap AS.cells) cs
 |none=>none
def Dq:(p:PC)→p.den→zZ
 |.int k,n=>.int k n
 |.bool,b=>.bool b
 |.dat sh t,xs=>.fsl sh t xs
 |.fn f,_=>.fn f []
 |.nil,_=>.nsl
 |.nilp,_=>.nilp
def vY:(l:List PC)→PL l→List zZ
 |[],_=>[]
 |p::l,d=>Dq p d.1::vY l d.2
def M8:List (List PC)→List zZ→List (List zZ)
 |[],_=>[]
 |l::ls,cs=>cs.take l.length::M8 ls (cs.drop l.length)
def AS.mk (n:Nat)(cs:List zZ):AS→zY
 |.c _=>match cs with|x::_=>.c x|[]=>.undef
 |.agg _=>.agg cs
 |.ptr _=>.c (.ptr n 0)
 |.fn f bB=>.c (.fn f ((List.range bB.length).map (n+·)))
def AS.boxes (cs:List zZ):AS→List (List zZ)
 |.ptr _=>[cs]
 |.fn _ bB=>M8 bB cs
 |_=>[]
def lR:List AS→List zZ→Nat→List zY×List (List zZ)
 |[],_,_=>([],[])
 |s::l,cs,n=>
  let aq:=cs.take s.cells.length;let bs:=s.boxes aq;let rest:=lR l (cs.drop s.cells.length) (n+bs.length)
  (s.mk n aq::rest.1,bs++rest.2)
def lS (bs:List (List zZ)):Hp:=fun n=>match bs[n]? with
 |some cells=>some (.robox cells)
 |none=>none
def pI l (d:AD l):List zY×Hp:=
 let r:=lR l (vY (l.flatMap AS.cells) d) 0
 (r.1,lS r.2)
inductive RC where
 |int (k:IntKind)|bool|fro (t:Ty)|own (t:Ty)|mat
 |jun
 |map
 |nilp|link (j:Nat)|nil
abbrev RC.den:RC→Type
 |.int _=>Int|.bool=>Bool|.fro t=>List t.den|.own t=>List t.den|.mat=>List (List Int)|.jun=>Nat|.map=>List (Int×Bool)|.nilp=>Unit|.link _=>Unit|.nil=>Unit
abbrev RL:List RC→Type
 |[]=>Unit
 |r::l=>r.den×RL l
inductive RS where
 |c (r:RC)|agg (l:List RC)|tup (l:List (Bool×List RC))
def RS.cells:RS→List RC
 |.c r=>[r]
 |.agg l=>l
 |.tup l=>l.flatMap (·.2)
def TG:List (Bool×List RC)→List (Bool×List zZ)→Option (List zZ)
 |[],[]=>some []
 | (b, l) :: ls, (g, cs) :: rest => bif (bif b then g else !g && Nat.beq cs.length 1) && Nat.beq cs.length l.length then (match TG ls rest with
   |some r=>some (cs++r)
   |none=>none) else none
 |_,_=>none
def RS.get:RS→zY→Option (List zZ)
 |.c _,.c x=>some [x]
 |.agg l,.agg xs=>bif Nat.beq xs.length l.length then some xs else none
 |.tup l,.tup xs=>TG l xs
 |_,_=>none
def TH:List (Bool×List RC)→List zZ→List (Bool×List zZ)
 |[],_=>[]
 |(b,l)::ls,cs=>(b,cs.take l.length)::TH ls (cs.drop l.length)
def RS.mk (cs:List zZ):RS→zY
 |.c _=>match cs with|x::_=>.c x|[]=>.undef
 |.agg _=>.agg cs
 |.tup l=>.tup (TH l cs)
def gf (h:Hp):List Bool→List zZ→Option (List zZ×vG)
 |true::l,c::cs=>match ow h c,gf h l cs with
  |some (c,u),some (cs,us)=>some (c::cs,u++us)
  |_,_=>none
 |false::l,c::cs=>match gf h l cs with
  |some (cs,us)=>some (c::cs,us)
  |none=>none
 |_,cs=>some (cs,[])
def RC.isFro:RC→Bool
 |.fro _=>true
 |_=>false
def PC.isKept:PC→Bool
 |.dat true _=>true
 |_=>false
def pJ (h:Hp):(r:RC)→zZ→Option r.den
 |.int k,.int j n=>bif fW j k then some n else none
 |.bool,.bool b=>some b
 |.fro t,.fsl true s xs=>gW s t xs
 |.fro t,.nsl=>some []
 |.own t,.osl id none=>match h id with
  |some (.arr true s xs)=>gW s t xs
  |_=>none
 |.own t,.osl id (some (0,n))=>match h id with
  |some (.arr true s xs)=>gW s t (xs.take n)
  |_=>none
 |.own t,.nsl=>some []
 |.mat,.osl id none=>match h id with
  |some (.mat _ xs)=>some xs
  |some (.pmat _ xs n)=>bif Nat.beq xs.length n then some xs else none
  |_=>none
 |.mat,.nsl=>some []
 |.jun,.osl id none=>match h id with
  |some (.arr true (.sl (.int .i64)) xs)=>some xs.length
  |_=>none
 |.jun,.nsl=>some 0
 |.map,.map id=>match h id with
  |some (.imap de)=>some de
  |_=>none
 |.nilp,.nilp=>some ()
 |.link _,.ptr _ 0=>some ()
 |.nil,.nsl=>some ()
 |_,_=>none
def kK (h:Hp):(l:List RC)→List zZ→Option (RL l)
 |[],[]=>some ()
 |r::l,c::cs=>match pJ h r c,kK h l cs with
  |some d,some ds=>some (d,ds)
  |_,_=>none
 |_,_=>none
def wF:List RC→List zZ→List Nat
 |.own _::l,.osl id _::cs=>id::wF l cs
 |.mat::l,.osl id _::cs=>id::wF l cs
 |.jun::l,.osl id _::cs=>id::wF l cs
 |.map::l,.map id::cs=>id::wF l cs
 |_::l,_::cs=>wF l cs
 |_,_=>[]
def Is (h:Hp)(s:RS)(v:zY):Option (RL s.cells):=match s.get v with
 |some cs=>match gf h (s.cells.map RC.isFro) cs with
  |some (cs,u)=>bif tx (wF s.cells cs) then kK (qI h u) s.cells cs else none
  |none=>none
 |none=>none
def mN (rs:RS){X:Type}(unpack:RL rs.cells→X)(v:zY)(st:St):Option X:=match Is st.h rs v with
 |some d=>some (unpack d)
 |none=>none
def sg (nm:Nat):(r:RC)→r.den→zZ×vG
 |.int k,n=>(.int k n,[])
 |.bool,b=>(.bool b,[])
 |.fro t,xs=>(.fsl true t xs,[])
 |.own t,xs=>(.osl nm none,[(nm,.arr true t xs)])
 |.mat,xs=>(.osl nm none,[(nm,.mat 0 xs)])
 |.jun,n=>(.osl nm none,[(nm,.pmat 0 [] n)])
 |.map,de=>(.map nm,[(nm,.imap de)])
 |.nilp,_=>(.nilp,[])
 |.link _,_=>(.undef,[])
 |.nil,_=>(.nsl,[])
def oM (nm:Nat):(l:List RC)→RL l→List zZ×vG
 |[],_=>([],[])
 |r::l,d=>
  let x:=sg nm r d.1;let y:=oM (nm+1) l d.2
  (x.1::y.1,x.2++y.2)
def yHi (nm:Nat)(s:RS)(d:RL s.cells):zY×vG:=
 let r:=oM nm s.cells d
 (s.mk r.1,r.2)
def wq (h:Hp):Nat→Nat→Bool
 |_,0=>true
 |nm,n+1=>(match h nm with|none=>true|some _=>false)&&wq h (nm+1) n
def wu (h:Hp):AS→zY→Option (zY×vG)
 |.c p,.c x=>match gf h [p.isKept] [x] with
  |some ([x],u)=>some (.c x,u)
  |_=>none
 |.agg l,.agg xs=>match gf h (l.map PC.isKept) xs with
  |some (xs,u)=>some (.agg xs,u)
  |none=>none
 |_,a=>some (a,[])
def si (h:Hp):List AS→List zY→Option (List zY×vG)
 |s::l,a::as=>match wu h s a,si h l as with
  |some (a,u),some (as,us)=>some (a::as,u++us)
  |_,_=>none
 |_,as=>some (as,[])
def oN as (rs:RS){X}(S:AD as→Option X)(pack:X→RL rs.cells)(nm:Nat)(args:List zY)(h:Hp):yT:=
 match si h as args with
 |none=>.stuck
 |some (args,u)=>match AL (qI h u) as args with
  |some d=>bif wq h nm rs.cells.length&&Nat.ble rs.cells.length 100 then .call X (S d) (fun r=>((yHi nm rs (pack r)).1,u++(yHi nm rs (pack r)).2)) else .stuck
  |none=>.stuck
structure Lo (M Ml:zL):Prop where
 H:Ml.H=M.H
 F:Ml.F=fun b=>b<M.H.size
 G:Ml.G=M.G
theorem TI {M M':zL}(ok:Ok M')(hH:M'.H=M.H){t}{xs:List t.den}{v}(h:qD M'.H M'.G (.sl t) xs (fun _=>some v)):qD M.H (fun b=>b<M.H.size) (.sl t) xs (fun _=>some v):=by
 refine vB (fun b hb=>?_) (by grind) _ _ _ _ (by simp) h;have:=ok.Flt b (ok.GF b hb);simp_all
theorem vWw {M}(ok:Ok M){c v t xs}(hv:zX M c v)(h:kq M.h c=some ⟨t,xs⟩):qD M.H (fun b=>b<M.H.size) (.sl t) xs (fun _=>some v):=by
 unfold kq at h;split at h
 ·rename_i sh s ys;cases h;cases sh with
  |true=>exact vB (fun b hb=>ok.Flt b (ok.GF b hb)) (by simp) _ _ _ _ (fun _ _=>rfl) hv
  |false=>exact vB (fun b hb=>ok.Flt b hb) (by simp) _ _ _ _ (fun _ _=>rfl) hv
 ·rename_i id r;split at h
  ·rename_i own s ys ao;cases h;cases own with
   |false=>
    obtain⟨C,hC,hO⟩:=ok.obj _ _ ao;exact TI ok rfl (zn hC hO hv)
   |true=>
    obtain⟨M',h1,h2,h3,h4⟩:=yYo ok ao;obtain⟨C,hC,hO⟩:=h3.obj id _ (by rw[h2];exact yO _ _ _);exact TI h3 h1 (zn hC hO (hv.ext h4.ext))
  ·rename_i ver ys ao;cases r with
   |some p=>cases h
   |none=>
    cases h;obtain⟨M',h1,h2,h3,h4⟩:=yOa ok ao;obtain⟨C,hC,hO⟩:=h3.obj id _ (by rw[h2];exact yO _ _ _);exact TI h3 h1 (zn (r:=none) hC hO (hv.ext h4.ext))
  ·cases h
 ·rename_i id i ver;split at h
  ·rename_i v' ys ao;cases fD:Nat.beq v' ver with
   |false=>simp_all
   |true=>
    rw[fD] at h;cases h;have e:v'=ver:=by simpa using fD
    subst e;obtain⟨C,hC,hO⟩:=ok.obj _ _ ao;obtain⟨C',aE,cp,_,aW⟩:=hv;rw[hC] at aE;cases aE;obtain⟨rb,rl,wg,rZ⟩:=aW hO.1;by_cases hi:i<ys.length
    ·obtain⟨B,pB,v2,k1,k2,k3,k4,k5,k6⟩:=CT hO hi;rw[wg] at k3;cases k3;rw[show ys.getD i []=ys[i] by simp_all];simp only[qD];cases rb with
     |none=>
      obtain⟨rfl,h0⟩:=rZ;grind
     |some R=>
      obtain⟨a,c,rfl,h1,h2,h3⟩:=rZ;refine⟨_,_,c,rfl,rfl,h1,?_⟩;by_cases h0:ys[i].length=0
      ·simp_all
      ·have ha:a=0:=by omega
       subst ha;refine .inr ⟨R,0,rfl,?_,fun j hj=>?_⟩
       ·have:=k6 R rfl 0 (by omega);unfold yQ at this;grind
       ·simp only[Ty.size];simp_all
    ·have:C.rows[i]? =none:=List.getElem?_eq_none (by have:=hO.2.2.2.1;omega);simp_all
  ·cases h
 ·cases h
theorem Iu {H F t}:qD H F (.sl t) ([]:List t.den) (fun _=>some (.slice none 0 0)):=⟨none,0,0,rfl,rfl,by simp,by simp⟩
theorem vD4 {M}(ok:Ok M){c v t xs}(hv:zX M c v)(h:AJ M.h t c=some xs):qD M.H (fun b=>b<M.H.size) (.sl t) xs (fun _=>some v):=by
 unfold AJ at h;split at h
 ·cases h;rw[show v=.slice none 0 0 from hv];exact Iu
 ·split at h
  ·rename_i s ys hr;obtain⟨e,hx⟩:=lj h;subst e;subst hx;exact vWw ok hv hr
  ·cases h
def Tr (M:zL)(c c':zZ):Prop:=∀v Ml,Lo M Ml→zX M c v→zX Ml c' v
theorem vTn {M}(ok:Ok M){p c d}(h:tY M.h p c=some d):Tr M c (Dq p d):=by
 intro v Ml lo hv;unfold tY at h;split at h
 ·rename_i k j n;cases e:fW j k with
  |false=>simp_all
  |true=>rw[e] at h;cases h;rw[←tt e];exact hv
 ·cases h;exact hv
 ·have:=vD4 ok hv h;show qD Ml.H Ml.F _ _ _;rw[lo.H,lo.F];omega
 ·obtain⟨e,hx⟩:=lj h;subst e;subst hx;show qD Ml.H Ml.G _ _ _;rw[lo.H,lo.G];exact hv
 ·cases h;rw[show v=.slice none 0 0 from hv];exact Iu
 ·rename_i f g;cases e:Nat.beq f g with
  |false=>simp_all
  |true=>
   have:f=g:=by simp_all
   subst this;obtain⟨cv,rfl,hc⟩:=hv;refine⟨cv,rfl,?_⟩;generalize cv.toList=l at hc;cases l with
   |nil=>trivial
   |cons _ _=>exact hc.elim
 ·exact hv
 ·exact hv
 ·cases h
theorem yCc {M}(ok:Ok M):∀{l cs d},AK M.h l cs=some d→zM (Tr M) cs (vY l d)
 |[],[],_,_=>trivial
 |p::l,c::cs,d,h=>by
  unfold AK at h;split at h
  ·rename_i x xs h1 h2;cases h;exact⟨vTn ok h1,yCc ok h2⟩
  ·cases h
theorem TJ {M Ml}(lo:Lo M Ml):∀{cs aP vs},zM (Tr M) cs aP→zM (zX M) cs vs→zM (zX Ml) aP vs
 |[],[],[],_,_=>trivial
 |_::_,_::_,_::_,h,k=>⟨h.1 _ _ lo k.1,TJ lo h.2 k.2⟩
def wv (M:zL)(C:qB)(cells:List zZ):Prop:=∃B vals e,C.blk=some B∧C.rows=[]∧M.H[B]? =some (.cells vals e (0,0))∧zM (zX M) cells vals.toList
theorem yWk {M}(ok:Ok M){id cells}(h:Dp M.h id=some cells):∃C,M.κ id=some C∧wv M C cells:=by
 unfold Dp at h;split at h
 ·rename_i own cs ao;cases h;obtain⟨C,hC,B,vals,e,h1,h2,h3,h4,_⟩:=ok.obj id _ ao;exact⟨C,hC,B,vals,e,h1,h2,h3,h4⟩
 ·rename_i cs ao;cases h;obtain⟨C,hC,B,vals,e,h1,h2,h3,h4,_⟩:=ok.obj id _ ao;exact⟨C,hC,B,vals,e,h1,h2,h3,h4⟩
 ·cases h
theorem wv.tr {M Ml}(lo:Lo M Ml){C cs aP}(h:wv M C cs)(ht:zM (Tr M) cs aP):wv Ml C aP:=by
 obtain⟨B,vals,e,h1,h2,h3,h4⟩:=h;exact⟨B,vals,e,h1,h2,by rw[lo.H];exact h3,TJ lo ht h4⟩
theorem TK {M}(ok:Ok M):∀{ls ids cs aP},tZ M.h ls ids=some cs→zM (Tr M) cs aP→cs.length=ls.flatten.length∧ids.length=ls.length∧
  ∃Cs:List qB,zM (fun id C=>M.κ id=some C) ids Cs∧∀Ml,Lo M Ml→zM (wv Ml) Cs (M8 ls aP)
 |[],[],cs,aP,h,ht=>by cases h;exact⟨rfl,rfl,[],trivial,fun _ _=>trivial⟩
 |l::ls,id::ids,cs,aP,h,ht=>by
  unfold tZ at h;split at h
  ·rename_i cells rest h1 h2;obtain⟨hl,h⟩:cells.length=l.length∧cells++rest=cs:=by
    cases e:Nat.beq cells.length l.length with
    |false=>simp_all
    |true=>simp_all
   subst h;have oO:=zM.take l.length ht;have nI:=zM.drop l.length ht;rw[←hl,List.take_left] at oO;rw[←hl,List.drop_left] at nI;obtain⟨C,hC,hB⟩:=yWk ok h1;obtain⟨k1,k2,Cs,k3,k4⟩:=TK ok h2 nI;refine⟨by simp_all,by simp[k2],C::Cs,⟨hC,k3⟩,fun Ml lo=>⟨?_,?_⟩⟩
   ·rw[←hl];exact hB.tr lo oO
   simp_all
  ·cases h
theorem TL {M}(ok:Ok M){s:AS}{a v cs aP n}(hv:zV M a v)(h:s.get M.h a=some cs)(ht:zM (Tr M) cs aP):
  ∃Cs:List qB,(∀Ml,Lo M Ml→zM (wv Ml) Cs (s.boxes aP))∧(∀Ml,Lo M Ml→(∀i C,Cs[i]? =some C→Ml.κ (n+i)=some C)→zV Ml (s.mk n aP) v):=by
 unfold AS.get at h;split at h
 ·cases h
  match aP,ht with
  |[c'],ht=>exact⟨[],fun _ _=>trivial,fun Ml lo _=>ht.1 v Ml lo hv⟩
 ·rename_i l xs;cases e:Nat.beq xs.length l.length with
  |false=>simp_all
  |true=>
   rw[e] at h;cases h;obtain⟨vs,rfl,hx⟩:=hv;exact⟨[],fun _ _=>trivial,fun Ml lo _=>⟨vs,rfl,TJ lo ht hx⟩⟩
 ·rename_i l id;have:=TK ok h ht;obtain⟨k1,k2,Cs,k3,k4⟩:=this;obtain⟨C,B,hC,hB,e⟩:=hv;have hl:aP.length=l.length:=by rw[←ht.length,k1];simp
  match Cs,k3 with
  |[C'],k3=>
   have e':C'=C:=by
    have:M.κ id=some C':=k3.1;simp_all
   subst e';refine⟨[C'],fun Ml lo=>?_,fun Ml lo hκ=>⟨C',B,hκ 0 C' rfl,hB,e⟩⟩;have:=k4 Ml lo;simp[M8] at this;rw[List.take_of_length_le (by omega)] at this;exact this
 ·rename_i f bB g ids;cases e:Nat.beq f g with
  |false=>simp_all
  |true=>
   rw[e] at h;have TM:f=g:=by simp_all
   subst TM;obtain⟨k1,k2,Cs,k3,k4⟩:=TK ok h ht;refine⟨Cs,k4,fun Ml lo hκ=>?_⟩;obtain⟨cv,rfl,hc⟩:=hv;refine⟨cv,rfl,?_⟩;have l1:=k3.length;have l2:=hc.length;refine zM.of_get (by simp_all) fun i h1 h2=>?_
   simp;have hi:i<ids.length:=by omega
   have bI:i<Cs.length:=by omega
   obtain⟨C,B,q1,q2,q3⟩:=hc.get i hi h2;have q4:=k3.get i hi bI;simp_all
 ·cases h
theorem TN {h}:∀{ls ids cs},tZ h ls ids=some cs→cs.length=ls.flatten.length
 |[],[],cs,e=>by cases e;rfl
 |l::ls,id::ids,cs,e=>by
  unfold tZ at e;split at e
  ·rename_i cells rest h1 h2;cases el:Nat.beq cells.length l.length with
   |false=>simp_all
   |true=>
    rw[el] at e;cases e;have:cells.length=l.length:=by simp_all
    simp[this,TN h2]
  ·cases e
theorem vD1 {h}{s:AS}{a cs}(e:s.get h a=some cs):cs.length=s.cells.length:=by
 unfold AS.get at e;split at e
 ·cases e;rfl
 ·rename_i l xs;cases el:Nat.beq xs.length l.length with
  |false=>simp_all
  |true=>rw[el] at e;cases e;exact Nat.eq_of_beq_eq_true el
 ·rw[TN e];simp[AS.cells]
 ·rename_i f bB g ids;cases el:Nat.beq f g with
  |false=>simp_all
  |true=>rw[el] at e;exact TN e
 ·cases e
theorem yF7 {M}(ok:Ok M):∀{l as vs cs aP n},zM (zV M) as vs→sf M.h l as=some cs→zM (Tr M) cs aP→
  ∃Cs:List qB,(∀Ml,Lo M Ml→zM (wv Ml) Cs (lR l aP n).2)∧(∀Ml,Lo M Ml→(∀i C,Cs[i]? =some C→Ml.κ (n+i)=some C)→zM (zV Ml) (lR l aP n).1 vs)
 |[],[],[],cs,aP,n,_,_,_=>⟨[],fun _ _=>trivial,fun _ _ _=>trivial⟩
 |s::l,a::as,v::vs,cs,aP,n,hv,h,ht=>by
  unfold sf at h;split at h
  ·rename_i mJ rest h1 h2;cases h;have hl:=vD1 h1;have oO:=zM.take s.cells.length ht;have nI:=zM.drop s.cells.length ht;rw[←hl,List.take_left,hl] at oO;rw[←hl,List.drop_left,hl] at nI;obtain⟨C1,k1,k2⟩:=TL ok (n:=n) hv.1 h1 oO;obtain⟨C2,k3,k4⟩:=yF7 ok (n:=n+(s.boxes (aP.take s.cells.length)).length) hv.2 h2 nI;refine⟨C1++C2,fun Ml lo=>(k1 Ml lo).append (k3 Ml lo),fun Ml lo hκ=>⟨k2 Ml lo fun i C hi=>hκ i C ?_,k4 Ml lo fun i C hi=>?_⟩⟩
   ·grind
   ·have hb:=(k1 Ml lo).length;have:=hκ (C1.length+i) C (by grind);grind
  ·cases h
def zL.below (M:zL)(Cs:List qB)(bs:List (List zZ)):zL:={κ:=fun n=>Cs[n]?,F:=fun b=>b<M.H.size,G:=M.G,h:=lS bs,H:=M.H}
theorem zL.below_lo M Cs bs:Lo M (M.below Cs bs):=⟨rfl,rfl,rfl⟩
theorem zL.below_ok {M}(ok:Ok M){Cs bs}(h:zM (wv (M.below Cs bs)) Cs bs):Ok (M.below Cs bs)∧∀b,¬qM (M.below Cs bs) b:=by
 have hr:∀id o,(M.below Cs bs).h id=some o→∃cells,bs[id]? =some cells∧o=.robox cells:=fun id o e=>by
  have e:lS bs id=some o:=e;unfold lS at e;grind
 have Iv:∀b,¬qM (M.below Cs bs) b:=fun b ⟨id,o,C,h1,h2,_,_⟩=>by
  obtain⟨cells,_,rfl⟩:=hr id o h1;cases h2
 refine⟨⟨fun id o e=>?_,fun id e=>?_,fun i j oi oj Ci Cj b _ h1 _ h3 _ _ _ _ _=>?_,by grind,fun b hb=>ok.Flt b (ok.GF b hb),fun b hb=>hb⟩,Iv⟩
 ·obtain⟨cells,hc,rfl⟩:=hr id o e;have bj:id<bs.length:=by
   grind
  have kx:id<Cs.length:=by rw[h.length];omega
  obtain⟨B,vals,ev,q1,q2,q3,q4⟩:=h.get id kx bj;rw[List.getElem?_eq_getElem bj] at hc;cases hc;refine⟨Cs[id],List.getElem?_eq_getElem kx,B,vals,ev,q1,q2,q3,q4,?_⟩;exact(Array.getElem?_eq_some_iff.1 q3).1
 ·have e:lS bs id=none:=e;unfold lS at e;split at e
  ·cases e
  ·rename_i hc;show Cs[id]? =none;rw[List.getElem?_eq_none_iff] at hc⊢;rw[h.length];exact hc
 ·obtain⟨cells,_,rfl⟩:=hr i oi h1;cases h3
theorem vP5 {M}(ok:Ok M){l as vs d}(hv:zM (zV M) as vs)(h:AL M.h l as=some d):
  ∃Ml:zL,Lo M Ml∧Ml.h=(pI l d).2∧Ok Ml∧(∀b,¬qM Ml b)∧zM (zV Ml) (pI l d).1 vs:=by
 unfold AL at h;split at h
 ·rename_i cs hg;obtain⟨Cs,h1,h2⟩:=yF7 ok (n:=0) hv hg (yCc ok h);have lo:=M.below_lo Cs (lR l (vY (l.flatMap AS.cells) d) 0).2;have:=zL.below_ok ok (h1 _ lo);exact⟨_,lo,rfl,this.1,this.2,h2 _ lo fun i C hi=>by rw[Nat.zero_add];exact hi⟩
 ·cases h
theorem wx {h0}:∀{l cs aP vs u M},Ok M→jB h0 M.h→zM (zX M) cs vs→gf h0 l cs=some (aP,u)→
  ∃L:zL,L.H=M.H∧L.h=qI M.h u∧Ok L∧vA M L∧zM (zX L) aP vs∧jB h0 L.h
 |[],cs,aP,vs,u,M,ok,hf,hc,h=>by
  cases cs<;>cases h<;>exact⟨M,rfl,rfl,ok,.refl M,hc,hf⟩
 |true::l,[],aP,vs,u,M,ok,hf,hc,h
 |false::l,[],aP,vs,u,M,ok,hf,hc,h=>by cases h;exact⟨M,rfl,rfl,ok,.refl M,hc,hf⟩
 |true::l,c::cs,aP,v::vs,u,M,ok,hf,hc,h=>by
  unfold gf at h;split at h
  ·rename_i c1 u1 mJ rO e1 e2;cases h;obtain⟨M1,h1,h2,h3,h4,h5,h6,_⟩:=HN ok hf hc.1 e1;obtain⟨M2,k1,k2,k3,k4,k5,k6⟩:=wx h3 h6 (hc.2.mono fun _ _ h=>h.ext h4.ext) e2;exact⟨M2,k1.trans h1,by rw[k2,h2,lh],k3,h4.trans k4,⟨h5.ext k4.ext,k5⟩,k6⟩
  ·cases h
 |false::l,c::cs,aP,v::vs,u,M,ok,hf,hc,h=>by
  unfold gf at h;split at h
  ·rename_i mJ rO e2;cases h;obtain⟨M2,k1,k2,k3,k4,k5,k6⟩:=wx ok hf hc.2 e2;exact⟨M2,k1,k2,k3,k4,⟨hc.1.ext k4.ext,k5⟩,k6⟩
  ·cases h
def zL.add (M:zL)(nm:Nat)(o:Obj)(C:qB):zL:={M with κ:=κset M.κ nm C,h:=yI M.h nm o}
theorem zL.add_ok {M}(ok:Ok M){nm}(aS:M.h nm=none){o C}(hO:yX (M.add nm o C) o C)(hb:∀b∈C.fp,¬qM M b∧¬M.F b∧b<M.H.size):
  Ok (M.add nm o C)∧yN M (M.add nm o C)∧(∀b,qM (M.add nm o C) b→qM M b∨b∈C.fp):=by
 have x:yN M (M.add nm o C):=⟨fun id D h=>by
  have bn:id≠nm:=fun e=>by rw[e,ok.non nm aS] at h;cases h
  exact⟨D,by show κset M.κ nm _ id=_;rw[κset_ne _ _ bn];exact h,D.le_refl⟩,fun _ h=>h,fun _ h=>h,fun _ _=>rfl,fun _ _=>rfl,fun _ _=>rfl⟩
 refine⟨Ok.build ok x (fun id=>id=nm) (fun id h=>yP _ _ h) (fun id h=>κset_ne _ _ h) (fun _ _ _ _ _ _ _ _ _=>rfl) (fun id o' D h1 h2 h3 h4 b bH=>(ok.own b ⟨id,o',D,h2,h3,h4,bH⟩).1) (Nat.le_refl _)
  (fun id o' e h=>?_) (fun id e h=>?_) (fun id o' D b e h1 h2 h3 h4=>?_) ok.GF ok.Flt,x,fun b bH=>?_⟩
 ·subst e;have e1:(M.add id o C).h id=some o:=yO _ _ _;rw[e1] at h;cases h;exact⟨_,κset_same _ _ _,hO⟩
 ·have e1:(M.add id o C).h id=some o:=yO _ _ _;simp_all
 ·subst e;have e1:(M.add id o C).κ id=some C:=κset_same _ _ _;rw[e1] at h3;cases h3;obtain⟨k1,k2,k3⟩:=hb b h4;refine⟨fun j oj Cj hj q1 q2 q3 q4=>k1 ⟨j,oj,Cj,?_,q2,?_,q4⟩,k2,k3⟩
  ·rw[←q1];exact(yP _ _ hj).symm
  ·rw[←q3];exact(κset_ne _ _ hj).symm
 ·obtain⟨id,o',D,h1,h2,h3,h4⟩:=bH;by_cases e:id=nm
  ·have e1:(M.add id o C).κ id=some C:=κset_same _ _ _;simp_all
  ·exact .inl ⟨id,o',D,by rw[←h1];exact(yP _ _ e).symm,h2,by rw[←h3];exact(κset_ne _ _ e).symm,h4⟩
structure Up (L Mc:zL):Prop where
 H:Mc.H=L.H
 G:Mc.G=L.G
theorem yLl {L Mc}(up:Up L Mc){t xs C}(h:yX L (.arr true t xs) C):yX Mc (.arr true t xs) C:=by
 obtain⟨h1,h2,h3,h4⟩:=h;refine⟨h1,h2,h3,?_⟩;rw[up.H,up.G];exact h4
theorem vD7 {L Mc}(up:Up L Mc){ver xs C}(h:yX L (.mat ver xs) C):yX Mc (.mat 0 xs) {C with ver:=0}:=by
 obtain⟨h1,h2⟩:=h;refine⟨rfl,?_⟩;rw[up.H];exact h2
theorem vR3 {L Mc}(up:Up L Mc){ver n xs C}(h:yX L (.pmat ver xs n) C)(hn:xs.length=n):yX Mc (.mat 0 xs) {C with ver:=0}:=by
 obtain⟨h1,h2,h3,h4,h5,_,h6⟩:=h;refine⟨rfl,by rw[hn];exact h2,h3,h4,h5,?_⟩;rw[up.H];subst hn;simp_all
theorem vNm {L Mc}(up:Up L Mc){xs:List (List Int)}{C}(h:yX L (.arr true (.sl (.int .i64)) xs) C):yX Mc (.pmat 0 [] xs.length) {C with ver:=0}:=by
 obtain⟨h1,h2,h3,h4⟩:=h;have hr:=h3 rfl;refine⟨rfl,h1,h2,by simp_all,?_,by simp,?_⟩
 ·simp[qB.fp];grind
 ·cases hB:C.blk with
  |none=>simp_all
  |some B=>
   rw[hB] at h4;obtain⟨vals,e,h5,_,h7,_⟩:=h4;refine⟨vals,e,by rw[up.H];exact h5,by simpa[Ty.size] using h7,by simp⟩
theorem vNk {L Mc}(iF:Ok L)(ok:Ok Mc)(up:Up L Mc){nm}(aS:Mc.h nm=none){r c d}(h:pJ L.h r c=some d)
  (hb:∀id∈wF [r] [c],∀C,L.κ id=some C→∀b∈C.fp,¬qM Mc b∧¬Mc.F b∧b<Mc.H.size):
  ∃eJ:zL,eJ.H=Mc.H∧eJ.G=Mc.G∧eJ.F=Mc.F∧eJ.h=qI Mc.h (sg nm r d).2∧Ok eJ∧yN Mc eJ∧
   (∀b,qM eJ b→qM Mc b∨∃id∈wF [r] [c],∃C,L.κ id=some C∧b∈C.fp)∧∀v,zX L c v→zX eJ (sg nm r d).1 v:=by
 have same : (sg nm r d).2 = [] → (∀ v, zX L c v → zX Mc (sg nm r d).1 v) → _ := fun e hv => (⟨Mc,rfl,rfl,rfl,by rw[e];rfl,ok,.refl Mc,by grind,hv⟩:
  ∃eJ:zL,eJ.H=Mc.H∧eJ.G=Mc.G∧eJ.F=Mc.F∧eJ.h=qI Mc.h (sg nm r d).2∧Ok eJ∧yN Mc eJ∧
   (∀b,qM eJ b→qM Mc b∨∃id∈wF [r] [c],∃C,L.κ id=some C∧b∈C.fp)∧∀v,zX L c v→zX eJ (sg nm r d).1 v)
 unfold pJ at h;split at h
 ·rename_i k j n;cases e:fW j k with
  |false=>rw[e] at h;cases h
  |true=>
   rw[e] at h;cases h;exact same rfl fun v hv=>by rw[←tt e];exact hv
 ·cases h;exact same rfl fun v hv=>hv
 ·obtain⟨e,hx⟩:=lj h;subst e;subst hx;refine same rfl fun v hv=>?_
  show qD Mc.H Mc.G _ _ _;rw[up.H,up.G];exact hv
 ·cases h;refine same rfl fun v hv=>?_
  rw[show v=.slice none 0 0 from hv];exact Iu
 ·rename_i t id;split at h
  ·rename_i s xs ao;obtain⟨e,hx⟩:=lj h;subst e;subst hx;obtain⟨C,hC,hO⟩:=iF.obj id _ ao;obtain⟨k1,k2,k3⟩:=zL.add_ok ok aS (o:=.arr true s xs) (C:=C) (yLl (Mc:=Mc.add nm (.arr true s xs) C) ⟨up.H,up.G⟩ hO) (hb id (by simp[wF]) C hC);refine⟨Mc.add nm (.arr true s xs) C,rfl,rfl,rfl,rfl,k1,k2,fun b bH=>(k3 b bH).imp (fun h=>h) fun h=>⟨id,by simp[wF],C,hC,h⟩,fun v hv=>?_⟩;obtain⟨C',aE,hS⟩:=hv;rw[hC] at aE;cases aE;refine⟨C,κset_same _ _ _,?_⟩;show jC Mc.H C 0 C.len v;rw[up.H];exact hS
  ·cases h
 ·rename_i t id n;split at h
  ·rename_i s xs ao;obtain⟨e,hx⟩:=lj h;subst e;subst hx;obtain⟨C,hC,hO⟩:=iF.obj id _ ao;let C':qB:={C with len:=(xs.take n).length};have tG:yX (Mc.add nm (.arr true s (xs.take n)) C') (.arr true s (xs.take n)) C':=by
    obtain⟨q1,q2,q3,q4⟩:=yLl (Mc:=Mc.add nm (.arr true s (xs.take n)) C') ⟨up.H,up.G⟩ hO;refine⟨rfl,q2,q3,?_⟩;show match C.blk with
     |none=>_
     |some B=>_
    cases hB:C.blk with
    |none=>rw[hB] at q4;show xs.take n=[];rw[q4];simp
    |some B=>
     rw[hB] at q4;obtain⟨vals,e,r1,r2,r3,r4⟩:=q4;have hle:(xs.take n).length≤xs.length:=by rw[List.length_take];omega
     have:=Nat.mul_le_mul_right s.size hle;refine⟨vals,e,r1,r2,by omega,fun i hi=>?_⟩;rw[List.getElem_take];exact r4 i (by omega)
   obtain⟨k1,k2,k3⟩:=zL.add_ok ok aS (o:=.arr true s (xs.take n)) (C:=C') tG (hb id (by simp[wF]) C hC);refine⟨Mc.add nm (.arr true s (xs.take n)) C',rfl,rfl,rfl,rfl,k1,k2,fun b bH=>(k3 b bH).imp (fun h=>h) fun h=>⟨id,by simp[wF],C,hC,h⟩,fun v hv=>?_⟩;obtain⟨C1,iD,h1,hS,_⟩:=hv;rw[hC] at iD;cases iD;have hl:(xs.take n).length=n:=by rw[List.length_take,←hO.1];omega
   refine⟨C',κset_same _ _ _,?_⟩;show jC Mc.H C' 0 (xs.take n).length v;rw[hl,up.H];exact hS
  ·cases h
 ·rename_i t;cases h;obtain⟨k1,k2,k3⟩:=Mc.nilObj_ok ok aS t false;refine⟨Mc.nilObj nm (kH t false) (lQ t false),rfl,rfl,rfl,rfl,k1,k2,by grind,fun v hv=>?_⟩;rw[show v=.slice none 0 0 from hv];exact⟨_,κset_same _ _ _,none,0,rfl,rfl,rfl,rfl⟩
 ·rename_i id;split at h
  ·rename_i ver xs ao;cases h;obtain⟨C,hC,hO⟩:=iF.obj id _ ao;obtain⟨k1,k2,k3⟩:=zL.add_ok ok aS (o:=.mat 0 d) (C:={C with ver:=0}) (vD7 (Mc:=Mc.add nm (.mat 0 d) {C with ver:=0}) ⟨up.H,up.G⟩ hO) (hb id (by simp[wF]) C hC);refine⟨Mc.add nm (.mat 0 d) {C with ver:=0},rfl,rfl,rfl,rfl,k1,k2,fun b bH=>(k3 b bH).imp (fun h=>h) fun h=>⟨id,by simp[wF],C,hC,h⟩,fun v hv=>?_⟩;obtain⟨C',aE,hS⟩:=hv;rw[hC] at aE;cases aE;refine⟨_,κset_same _ _ _,?_⟩;show jC Mc.H C 0 C.len v;rw[up.H];exact hS
  ·rename_i ver xs n ao;obtain⟨hc,h⟩:Nat.beq xs.length n=true∧some xs=some d:=by
    cases e:Nat.beq xs.length n with
    |true=>rw[e] at h;exact⟨rfl,h⟩
    |false=>rw[e] at h;cases h
   cases h;obtain⟨C,hC,hO⟩:=iF.obj id _ ao;obtain⟨k1,k2,k3⟩:=zL.add_ok ok aS (o:=.mat 0 d) (C:={C with ver:=0}) (vR3 (Mc:=Mc.add nm (.mat 0 d) {C with ver:=0}) ⟨up.H,up.G⟩ hO (Nat.eq_of_beq_eq_true hc)) (hb id (by simp[wF]) C hC);refine⟨Mc.add nm (.mat 0 d) {C with ver:=0},rfl,rfl,rfl,rfl,k1,k2,fun b bH=>(k3 b bH).imp (fun h=>h) fun h=>⟨id,by simp[wF],C,hC,h⟩,fun v hv=>?_⟩;obtain⟨C',aE,hS⟩:=hv;rw[hC] at aE;cases aE;refine⟨_,κset_same _ _ _,?_⟩;show jC Mc.H C 0 C.len v;rw[up.H];exact hS
  ·cases h
 ·cases h;obtain⟨k1,k2,k3⟩:=Mc.nilObj_ok ok aS (.int .i64) true;refine⟨Mc.nilObj nm (kH (.int .i64) true) (lQ (.int .i64) true),rfl,rfl,rfl,rfl,k1,k2,by grind,fun v hv=>?_⟩;rw[show v=.slice none 0 0 from hv];exact⟨_,κset_same _ _ _,none,0,rfl,rfl,rfl,rfl⟩
 ·rename_i id;split at h
  ·rename_i xs ao;cases h;obtain⟨C,hC,hO⟩:=iF.obj id _ ao;obtain⟨k1,k2,k3⟩:=zL.add_ok ok aS (o:=.pmat 0 [] xs.length) (C:={C with ver:=0}) (vNm (Mc:=Mc.add nm (.pmat 0 [] xs.length) {C with ver:=0}) ⟨up.H,up.G⟩ hO) (hb id (by simp[wF]) C hC);refine⟨Mc.add nm (.pmat 0 [] xs.length) {C with ver:=0},rfl,rfl,rfl,rfl,k1,k2,fun b bH=>(k3 b bH).imp (fun h=>h) fun h=>⟨id,by simp[wF],C,hC,h⟩,fun v hv=>?_⟩;obtain⟨C',aE,hS⟩:=hv;rw[hC] at aE;cases aE;refine⟨_,κset_same _ _ _,?_⟩;show jC Mc.H C 0 C.len v;rw[up.H];exact hS
  ·cases h
 ·cases h;obtain⟨k1,k2,k3⟩:=zL.add_ok ok aS (o:=.pmat 0 [] 0) (C:=⟨none,0,1,0,[]⟩) ⟨rfl,rfl,rfl,rfl,by simp[qB.fp],Nat.le_refl _,rfl⟩ (nofun);refine⟨Mc.add nm (.pmat 0 [] 0) ⟨none,0,1,0,[]⟩,rfl,rfl,rfl,rfl,k1,k2,fun b bH=>(k3 b bH).imp (fun h=>h) nofun,fun v hv=>?_⟩;rw[show v=.slice none 0 0 from hv];exact⟨_,κset_same _ _ _,none,0,rfl,rfl,rfl,rfl⟩
 ·rename_i id;split at h
  ·rename_i de ao;cases h;obtain⟨C,hC,hO⟩:=iF.obj id _ ao;have tG:yX (Mc.add nm (.imap d) C) (.imap d) C:=by
    obtain⟨B,es,ck,h1,h2,h3,h4,h5⟩:=hO;refine⟨B,es,ck,h1,h2,?_,h4,h5⟩;show Mc.H[B]? =_;rw[up.H];exact h3
   obtain⟨k1,k2,k3⟩:=zL.add_ok ok aS (o:=.imap d) (C:=C) tG (hb id (by simp[wF]) C hC);refine⟨Mc.add nm (.imap d) C,rfl,rfl,rfl,rfl,k1,k2,fun b bH=>(k3 b bH).imp (fun h=>h) fun h=>⟨id,by simp[wF],C,hC,h⟩,fun v hv=>?_⟩;obtain⟨C',B,aE,hB,e⟩:=hv;rw[hC] at aE;cases aE;exact⟨C,B,κset_same _ _ _,hB,e⟩
  ·cases h
 ·exact same rfl fun v hv=>hv
 ·exact same rfl fun v hv=>hv.one
 ·exact same rfl fun v hv=>hv
 ·cases h
theorem M9 r c l cs:wF (r::l) (c::cs)=wF [r] [c]++wF l cs:=by
 cases r<;>cases c<;>rfl
theorem yZo {nm r d n}(h:n≠nm) hh:qI hh (sg nm r d).2 n=hh n:=by
 cases r<;>first|rfl|exact yP _ _ h
theorem TO {h}:∀{n nm},wq h nm n=true→∀i,i<n→h (nm+i)=none
 |n+1,nm,e,i,hi=>by
  unfold wq at e;rw[Bool.and_eq_true] at e;cases i with
  |zero=>
   grind
  |succ i=>rw[←TO e.2 i (by omega)];grind
theorem TP {L:zL}(iF:Ok L):∀{l:List RC} {cs:List zZ} {d:RL l} {nm:Nat} {Mc:zL},Ok Mc→Up L Mc→(∀i,i<l.length→Mc.h (nm+i)=none)→kK L.h l cs=some d→(wF l cs).Nodup→
  (∀id∈wF l cs,∃o,L.h id=some o∧o.owned=true)→
  (∀id∈wF l cs,∀C,L.κ id=some C→∀b∈C.fp,¬qM Mc b∧¬Mc.F b∧b<Mc.H.size)→
  ∃eJ:zL,eJ.H=Mc.H∧eJ.G=Mc.G∧eJ.F=Mc.F∧eJ.h=qI Mc.h (oM nm l d).2∧Ok eJ∧yN Mc eJ∧
   (∀b,qM eJ b→qM Mc b∨∃id∈wF l cs,∃C,L.κ id=some C∧b∈C.fp)∧∀vs,zM (zX L) cs vs→zM (zX eJ) (oM nm l d).1 vs
 |[],[],d,nm,Mc,ok,up,_,_,_,_,_=>⟨Mc,rfl,rfl,rfl,rfl,ok,.refl Mc,fun b h=>.inl h,fun vs h=>by
  cases vs with
  |nil=>trivial
  |cons _ _=>exact h.elim⟩
 |r::l,c::cs,d,nm,Mc,ok,up,hf,h,dF,aM,hb=>by
  unfold kK at h;split at h
  ·rename_i x xs e1 e2;cases h;rw[M9] at dF aM hb;obtain⟨nd1,nd2,nd3⟩:=List.nodup_append.1 dF;obtain⟨M1,a1,a2,a3,a4,a5,a6,a7,a8⟩:=vNk iF ok up (by have:=hf 0 (by simp);simpa using this) e1 (by grind);have up1:Up L M1:=⟨a1.trans up.H,a2.trans up.G⟩;obtain ⟨M2, b1, b2, b3, b4, b5, b6, b7, b8⟩ := TP iF (nm := nm + 1) a5 up1 (fun i hi=>by
     rw[a4,yZo (by omega)];have:=hf (i+1) (by simp;omega);grind) e2 nd2 (fun id ao => aM id (by grind)) (fun id ao C hC b Dr=>by
     obtain⟨q1,q2,q3⟩:=hb id (List.mem_append_right _ ao) C hC b Dr;refine⟨fun ho=>?_,by simp_all,by simp_all⟩;rcases a7 b ho with ho|⟨jd,df,D,hD,TQ⟩
     ·exact q1 ho
     ·have bn:id≠jd:=by grind
      obtain⟨o1,p1,p2⟩:=aM id (by grind);obtain⟨o2,p3,p4⟩:=aM jd (List.mem_append_left _ df);exact iF.disj id jd o1 o2 C D b bn p1 p3 p2 p4 hC hD Dr TQ)
   refine⟨M2,b1.trans a1,b2.trans a2,b3.trans a3,?_,b5,a6.trans (by simp_all) b6,fun b bH=>?_,fun vs dE=>?_⟩
   ·show M2.h=qI Mc.h ((sg nm r x).2++(oM (nm+1) l xs).2);rw[lh,←a4];exact b4
   ·rw[M9];grind
   ·cases vs with
    |nil=>exact dE.elim
    |cons v vs=>exact⟨(a8 v dE.1).ext b6,b8 vs dE.2⟩
  ·cases h
 |[],_::_,_,_,_,_,_,_,h,_,_,_=>by cases h
 |_::_,[],_,_,_,_,_,_,h,_,_,_=>by cases h
theorem wL {α:Type}{c x}{y:α}(h:(bif c then x else none)=some y):c=true∧x=some y:=by
 grind
theorem yZy {M}:∀{l xs cs vs},TG l xs=some cs→zM (vz M) xs vs→
  cs.length=(l.flatMap (·.2)).length∧∃us:List Value,zM (zX M) cs us∧∀M' aP,zM (zX M') aP us→zM (vz M') (TH l aP) vs
 |[],[],cs,[],h,_=>by cases h;exact⟨rfl,[],trivial,fun _ _ _=>trivial⟩
 |(b,l)::ls,(g,mJ)::rest,cs,v::vs,h,hv=>by
  obtain⟨hc,h⟩:=wL h;split at h
  ·rename_i r hr;cases h;rw[Bool.and_eq_true] at hc;have hl:mJ.length=l.length:=by simp_all
   obtain⟨k1,us,k2,k3⟩:=yZy hr hv.2;refine⟨by simp_all,?_⟩;cases b with
   |true=>
    have hg:g=true:=hc.1;subst hg;obtain⟨ws,rfl,hw⟩:=hv.1;refine⟨ws.toList++us,hw.append k2,fun M' aP h'=>⟨?_,?_⟩⟩
    ·have h1:=zM.take l.length h';have TR:=hw.length;rw[show(ws.toList++us).take l.length=ws.toList from by simp_all] at h1;exact⟨ws,rfl,h1⟩
    ·have h1:=zM.drop l.length h';have TR:=hw.length;simp_all
   |false=>
    have hg:=hc.1;simp  at hg;obtain⟨Na,hg2⟩:=hg;subst Na;have tK:mJ.length=1:=by simp_all
    match mJ,tK with
    |[c],_=>
     have nF:zX M c v:=hv.1;refine⟨v::us,⟨nF,k2⟩,fun M' aP h'=>?_⟩
     match aP,h' with
     |c'::TS,h'=>
      have e:l.length=1:=by omega
      refine⟨?_,?_⟩
      ·rw[e];exact h'.1
      ·rw[e];exact k3 M' TS h'.2
  ·cases h
 |[],[],_,_::_,_,hv=>hv.elim
theorem yO0 {M}{s:RS}{v cs rv}(h:s.get v=some cs)(hv:zV M v rv):
  cs.length=s.cells.length∧∃us:List Value,zM (zX M) cs us∧∀M' aP,zM (zX M') aP us→zV M' (s.mk aP) rv:=by
 unfold RS.get at h;split at h
 ·cases h;refine⟨rfl,[rv],⟨hv,trivial⟩,fun M' aP h'=>?_⟩
  match aP,h' with
  |[c'],h'=>exact h'.1
 ·obtain⟨hl,h⟩:=wL h;cases h;obtain⟨vs,rfl,hx⟩:=hv;exact⟨Nat.eq_of_beq_eq_true hl,vs.toList,hx,fun M' aP h'=>⟨vs,rfl,h'⟩⟩
 ·obtain⟨vs,rfl,hx⟩:=hv;obtain⟨k1,us,k2,k3⟩:=yZy h hx;exact⟨k1,us,k2,fun M' aP h'=>⟨vs,rfl,by grind⟩⟩
 ·cases h
theorem TT {h0 s a a' v u M}(ok:Ok M)(hf:jB h0 M.h)(hv:zV M a v)(h:wu h0 s a=some (a',u)):
  ∃L:zL,L.H=M.H∧L.h=qI M.h u∧Ok L∧vA M L∧zV L a' v∧jB h0 L.h:=by
 unfold wu at h;split at h
 ·rename_i p x;split at h
  ·rename_i y u1 e;cases h;obtain⟨L,h1,h2,h3,h4,h5,h6⟩:=wx (cs:=[x]) (vs:=[v]) ok hf ⟨hv,trivial⟩ e;exact⟨L,h1,h2,h3,h4,h5.1,h6⟩
  ·cases h
 ·split at h
  ·rename_i ys u1 e;cases h;obtain⟨vs,rfl,hx⟩:=hv;obtain⟨L,h1,h2,h3,h4,h5,h6⟩:=wx ok hf hx e;exact⟨L,h1,h2,h3,h4,⟨vs,rfl,h5⟩,h6⟩
  ·cases h
 ·cases h;exact⟨M,rfl,rfl,ok,.refl M,hv,hf⟩
theorem wy.ext {M M'}(x:yN M M'):∀{as vs},zM (zV M) as vs→zM (zV M') as vs:=fun h=>h.mono fun _ _ h=>h.ext x
theorem yIq {h0}:∀{l as eQ vs u M},Ok M→jB h0 M.h→zM (zV M) as vs→si h0 l as=some (eQ,u)→
  ∃L:zL,L.H=M.H∧L.h=qI M.h u∧Ok L∧vA M L∧zM (zV L) eQ vs∧jB h0 L.h
 |s::l,a::as,eQ,v::vs,u,M,ok,hf,hv,h=>by
  unfold si at h;split at h
  ·rename_i a1 u1 TU rO e1 e2;cases h;obtain⟨M1,h1,h2,h3,h4,h5,h6⟩:=TT ok hf hv.1 e1;obtain⟨M2,k1,k2,k3,k4,k5,k6⟩:=yIq h3 h6 (wy.ext h4.ext hv.2) e2;exact⟨M2,k1.trans h1,by rw[k2,h2,lh],k3,h4.trans k4,⟨h5.ext k4.ext,k5⟩,k6⟩
  ·cases h
 |[],as,eQ,vs,u,M,ok,hf,hv,h=>by
  cases as<;>cases h<;>exact⟨M,rfl,rfl,ok,.refl M,hv,hf⟩
 |s::l,[],eQ,vs,u,M,ok,hf,hv,h=>by cases h;exact⟨M,rfl,rfl,ok,.refl M,hv,hf⟩
def zL.over (M L:zL):zL:={κ:=M.κ,F:=fun b=>M.F b∨L.G b,G:=L.G,h:=M.h,H:=L.H}
theorem zL.over_ok {M Ml L}(ok:Ok M)(iF:Ok L)(lo:Lo M Ml)(Iv:∀b,¬qM Ml b)(g:j0 Ml L):Ok (M.over L)∧vA M (M.over L):=by
 have bj:∀b,Ml.F b↔b<M.H.size:=fun b=>by rw[lo.F]
 have cT:∀b,b<M.H.size→L.H[b]? =M.H[b]? :=fun b hb=>by rw[g.same b (by grind),lo.H]
 have dV:M.H.size≤L.H.size:=by grind
 have hG:∀b,L.G b→b<M.H.size→M.G b:=fun b hb hs=>by
  rcases g.Gb b hb (by rw[lo.H];exact hs) with h|h
  ·rw[lo.G] at h;exact h
  simp_all
 have kx:∀b,M.F b→b<M.H.size:=ok.Flt;have x:yN M (M.over L):=⟨fun id C h=>⟨C,h,C.le_refl⟩,fun b h=>.inl h,fun b h=>g.G b (by rw[lo.G];exact h),fun b h=>cT b (by grind),fun b h=>cT b (ok.Flt b (ok.GF b h)),fun b h=>CP (cT b h)⟩;have aM:∀b,qM (M.over L) b→qM M b:=fun b h=>h
 refine⟨⟨fun id o h=>?_,fun id h=>ok.non id h,ok.disj,fun b h=>⟨fun hf=>?_,?_⟩,fun b h=>.inr h,fun b h=>?_⟩,⟨x,dV,fun b hb _=>cT b hb,by grind,fun b h hs=>.inl (hG b h hs),fun b h hs=>?_⟩⟩
 ·obtain⟨C,hC,hO⟩:=ok.obj id o h;exact⟨C,hC,hO.ext x fun ho b hb=>cT b (ok.own b ⟨id,o,C,h,ho,hC,hb⟩).2⟩
 ·have:=ok.own b (aM b h);rcases hf with hf|hf
  ·simp_all
  ·exact this.1 (ok.GF b (by grind))
 ·have h1:=(ok.own b (aM b h)).2;show b<L.H.size;omega
 ·show b<L.H.size;rcases h with h|h
  ·grind
  ·exact iF.Flt b (iF.GF b h)
 ·rcases h with h|h
  ·simp_all
  ·exact .inl (ok.GF b (hG b h hs))
theorem vVq {h0 r c d}(h:pJ h0 r c=some d):∀id∈wF [r] [c],∃o,h0 id=some o∧o.owned=true:=by
 unfold pJ at h;split at h;all_goals (try (intro id ao;simp[wF] at ao;done))
 ·intro Dh ao;have:=List.mem_singleton.1 ao;subst this;split at h
  ·exact⟨_,by assumption,rfl⟩
  ·cases h
 ·intro Dh ao;have:=List.mem_singleton.1 ao;subst this;split at h
  ·exact⟨_,by omega,rfl⟩
  ·cases h
 ·rename_i id;intro Dh ao;have:=List.mem_singleton.1 ao;subst this;split at h
  ·exact⟨_,by assumption,rfl⟩
  ·exact⟨_,by omega,rfl⟩
  ·cases h
 ·intro Dh ao;have:=List.mem_singleton.1 ao;subst this;split at h
  ·exact⟨_,by assumption,rfl⟩
  ·cases h
 ·intro Dh ao;have:=List.mem_singleton.1 ao;subst this;split at h
  ·exact⟨_,by assumption,rfl⟩
  ·cases h
 ·cases h
theorem wz {L:zL}:∀{l cs d},kK L.h l cs=some d→∀id∈wF l cs,∃o,L.h id=some o∧o.owned=true
 |r::l,c::cs,d,h,id,ao=>by
  unfold kK at h;split at h
  ·rename_i x xs e1 e2;rw[M9] at ao;rcases List.mem_append.1 ao with ao|ao
   ·exact vVq e1 id ao
   ·exact wz e2 id ao
  ·cases h
theorem yBf {E}(hE:gd E)(hS:jz E.sums)(hm:E.P.follows .mixedOrders=true){A k pre na f fn}(hf:E.P.funcs[f]? =some fn)(hL:∀c,fn.body=some c→wK E.P A pre na fn.ntmps c)(cc:∀vs w,(callFunc f vs).run E.P w=.ok (.enter f vs) w)
  {as rs X S pack} {unpack:RL rs.cells→X} (fk:∀d,pack (unpack d)=d) (aQ:∀d x,S d=some x→∀Ml vs,zM (zV Ml) (pI as d).1 vs→∃eK,zM (zV Ml) eK vs∧ku E A k pre na fn eK (pI as d).2 (mN rs unpack)=some x)
  {nm args h v u} (hy:yK (oN as rs S pack nm args h) v u):tS E.P f args h v u:=by
 intro M w vs hh hH ok hv;refine .inl ⟨cc vs w,?_⟩;unfold oN at hy;split at hy
 ·exact hy.elim
 rename_i eK u0 AM;split at hy
 case h_2=>exact hy.elim
 rename_i d hd;obtain⟨hc,hy⟩:=Av hy;rw[Bool.and_eq_true] at hc;obtain⟨x,hx,rfl,rfl⟩:=hy;subst hh;obtain⟨M1,a1,a2,a3,a4,a5,a6⟩:=yIq ok (jB.refl _) hv AM;rw[←a2] at hd;obtain⟨Ml,lo,b2,b3,b4,b5⟩:=vP5 a3 a5 hd;obtain⟨abe,AN,TV⟩:=aQ d x hx Ml _ b5;refine Calls.mono (TE hE hS hm hf hL TV b2 (by rw[lo.H,a1];exact hH) b3 AN) fun e w' he=>?_
 cases e with
 |panicked _=>omega
 |outgrown=>omega
 |returned rv=>
  obtain⟨L0,v0,st,hK,c1,c2,c3,c4,_,c5,c6,c7,c8,_⟩:=he;have hK:Is st.h rs v0=some (pack x):=by
   unfold mN at hK;grind
  unfold Is at hK;split at hK
  case h_2=>cases hK
  rename_i cs nJ;split at hK
  case h_2=>cases hK
  rename_i aP u1 AO;obtain⟨dF,hK⟩:=wL hK;obtain⟨hlen,us,d1,d2⟩:=yO0 nJ c5;rw[←c1] at AO hK;obtain⟨L,e1,e2,e3,e4,e5,e6⟩:=wx c3 (jB.refl _) d1 AO;rw[←e2] at hK;have g:j0 Ml L:=c4.trans e4.grow;obtain⟨f1,f2⟩:=zL.over_ok a3 e3 lo b4 g;have pK:∀i,i<rs.cells.length→(M1.over L).h (nm+i)=none:=fun i hi=>by
   have h1:=TO hc.1 i hi;show M1.h (nm+i)=none;rcases a6 (nm+i) with h|⟨own,t,xs,h,_⟩|⟨ver,xs,h,_⟩
   all_goals simp_all
  obtain ⟨Mc, g1, g2, g3, g4, g5, g6, g7, g8⟩ := TP e3 f1 ⟨rfl, rfl⟩ pK hK (Dc dF) (wz hK) (fun id ao C hC b hb=>by
   obtain⟨o,ho,iE⟩:=wz hK id ao;have aM:qM L b:=⟨id,o,C,ho,iE,hC,hb⟩;have oD:¬b<M1.H.size:=fun bj=>b4 b (g.own b aM (by rw[lo.H];omega))
   refine⟨fun h=>oD (a3.own b h).2,fun h=>?_,(e3.own b aM).2⟩;rcases h with h|h
   ·exact oD (a3.Flt b h)
   ·exact(e3.own b aM).1 (e3.GF b h))
  have TW:vA M1 Mc:=by
   have aM:∀b,qM Mc b→b<M1.H.size→qM M1 b:=fun b hb bj=>by
    rcases g7 b hb with h|⟨id,ao,C,hC,Dr⟩
    ·exact h
    ·obtain⟨o,ho,iE⟩:=wz hK id ao;exact absurd (g.own b ⟨id,o,C,ho,iE,hC,Dr⟩ (by rw[lo.H];omega)) (b4 b)
   refine⟨f2.ext.trans f2.size g6,?_,fun b hb hn=>?_,aM,fun b hb bj=>?_,fun b hb bj=>?_⟩
   ·rw[g1];exact f2.size
   ·rw[g1];exact f2.frame b hb hn
   ·rw[g2] at hb;exact f2.Gb b hb bj
   ·rw[g3] at hb;exact f2.Fb b hb bj
  refine⟨Mc,⟨c6,c7,c8,?_,?_,g5,a4.trans TW⟩,?_⟩
  ·rw[g1];show L.H=_;rw[e1,c2]
  ·rw[lh,←a2];exact g4
  ·exact d2 Mc _ (g8 us e5)
theorem vGh {E}(hE:gd E)(hS:jz E.sums)(hm:E.P.follows .mixedOrders=true){A k pre na f fn}(hf:E.P.funcs[f]? =some fn)(hL:∀c,fn.body=some c→wK E.P A pre na fn.ntmps c)(cc:∀vs w,(callFunc f vs).run E.P w=.ok (.enter f vs) w)
  {as rs X S} {pack:X→RL rs.cells} {unpack} (fk:∀d,pack (unpack d)=d) (aQ:∀d,ku E A k pre na fn (pI as d).1 (pI as d).2 (mN rs unpack)=S d)
  {nm args h v u} (hy:yK (oN as rs S pack nm args h) v u):tS E.P f args h v u:=
 yBf hE hS hm hf hL cc fk (fun d x hx _ _ hv=>⟨_,hv,(aQ d).trans hx⟩) hy
theorem vH9 {E}(hE:gd E)(hS:jz E.sums)(hm:E.P.follows .mixedOrders=true){A k pre na f fn}(hf:E.P.funcs[f]? =some fn)(hL:∀c,fn.body=some c→wK E.P A pre na fn.ntmps c)(cc:∀vs w,(callFunc f vs).run E.P w=.ok (.enter f vs) w)
  {sh t rs X} {S:List t.den→Option X} {pack unpack} (fk:∀d,pack (unpack d)=d) (cM:∀x,S []=some x→ku E A k pre na fn [.c .nsl] (lS []) (mN rs unpack)=some x)
  (aQ:∀xs x,S xs=some x→ku E A k pre na fn [.c (.nfl sh t xs)] (lS []) (mN rs unpack)=some x)
  {nm args h v u} (hy:yK (oN [.c (.dat sh t)] rs (fun d=>S d.1) pack nm args h) v u):tS E.P f args h v u:=
 yBf hE hS hm hf hL cc fk (fun d x hx Ml vs hv=>by
  obtain⟨xs,_⟩:=d
  match vs,hv with
  |[v],hv=>
   have nF:qD Ml.H (bif sh then Ml.G else Ml.F) (.sl t) xs (fun _=>some v):=hv.1;have pD:=nF;simp[qD] at nF;obtain⟨A',n,c,rfl,hn,hc,h⟩:=nF;cases A' with
   |some a=>exact⟨[.c (.nfl sh t xs)],⟨⟨by simp,pD⟩,trivial⟩,aQ xs x hx⟩
   |none=>
    rcases h with⟨rfl,h0⟩|⟨B,o,e,_⟩
    ·have h0:=h0 rfl;subst h0;subst hn;exact⟨[.c .nsl],⟨rfl,trivial⟩,cM x hx⟩
    ·cases e) hy
def yT.orElse:yT→yT→yT
 |.alts [],b=>b
 |a,_=>a
abbrev nK:=Nat→Nat→List zY→Hp→yT
def eW:List (Nat×nK)→Ma
 |[],_,_,_,_,_=>.stuck
 |(g,e)::l,k,nm,f,args,h=>bif Nat.beq g f then(e k nm args h).orElse (eW l k nm f args h) else eW l k nm f args h
def vB8 (P:Program)(r:Nat×nK):Prop:=∀k nm args h v u,yK (r.2 k nm args h) v u→tS P r.1 args h v u
def Iw (e:nK):Prop:=∀k nm (args:List zY) h h',(args.any wQ=false→∀id,(id∈args.flatMap yM∨nz nm id=true)→h id=h' id)→(args.any wQ=true→h=h')→e k nm args h=e k nm args h'
theorem vTm {a b v u}(h:yK (a.orElse b) v u):yK a v u∨yK b v u:=by
 unfold yT.orElse at h;grind
theorem yRt {P}:∀{l},(∀r∈l,vB8 P r)→yGz P (eW l)
 |[],_=>nofun
 |(g,e)::l,hl=>fun k nm f args h v u hy=>by
  have ih:=yRt (l:=l) fun r hr=>hl r (by grind)
  unfold eW at hy;cases hg:Nat.beq g f with
  |false=>rw[hg] at hy;exact ih k nm f args h v u hy
  |true=>
   rw[hg] at hy;have:g=f:=by simp_all
   subst this;rcases vTm hy with hy|hy
   ·exact hl (g,e) (by simp) k nm args h v u hy
   ·exact ih k nm g args h v u hy
theorem yX4:∀{l},(∀r∈l,Iw r.2)→jz (eW l)
 |[],_=>fun k nm f args h h' _ _=>rfl
 |(g,e)::l,hl=>fun k nm f args h h' h1 h2=>by
  have ih:=yX4 (l:=l) (by grind) k nm f args h h' h1 h2;unfold eW;have he:e k nm args h=e k nm args h':=hl (g,e) (by simp) k nm args h h' h1 h2;rw[ih,he]
section
variable {h h':Hp}
theorem vV7 {t c}(hh:∀id∈vP c,h id=h' id):AJ h t c=AJ h' t c:=by
 have e:=MW hh;unfold AJ;grind
theorem yWs {p c}(hh:∀id∈vP c,h id=h' id):tY h p c=tY h' p c:=by
 have e:=fun t=>vV7 (t:=t) hh
 unfold tY;grind
theorem yL1:∀{l cs},(∀id∈cs.flatMap vP,h id=h' id)→AK h l cs=AK h' l cs
 |[],[],_
 |[],_::_,_
 |_::_,[],_=>rfl
 |p::l,c::cs,hh=>by
  simp  at hh;unfold AK;rw[yWs fun id hi=>hh id (.inl hi),yL1 (by grind)]
theorem vL3 {ls}:tZ h ls []=tZ h' ls []:=by
 cases ls<;>rfl
theorem vX0 {s:AS}{a}(hb:wQ a=false):s.get h a=s.get h' a:=by
 unfold AS.get;cases s with
 |c p=>grind
 |agg l=>grind
 |ptr l=>
  cases a with
  |c x=>cases x<;>first|rfl|(exact absurd hb (by nofun))
  |_=>rfl
 |fn f bB=>
  cases a with
  |c x=>cases x with
   |fn g ids=>
    cases ids with
    |nil=>dsimp only;rw[vL3]
    |cons _ _=>exact absurd hb (by nofun)
   |_=>rfl
  |_=>rfl
theorem TX {s:AS}{a cs}(hb:wQ a=false)(e:s.get h a=some cs):∀id∈cs.flatMap vP,id∈yM a:=by
 unfold AS.get at e;split at e
 ·cases e;intro id ao;simp  at ao;exact ao
 ·obtain⟨_,e⟩:=wL e;cases e;exact fun id ao=>ao
 ·exact absurd hb (by nofun)
 ·rename_i f bB g ids;obtain⟨_,e⟩:=wL e;cases ids with
  |nil=>cases bB with
   |nil=>cases e;simp
   |cons _ _=>cases e
  |cons _ _=>exact absurd hb (by nofun)
 ·cases e
theorem yAf:∀{l as},as.any wQ=false→sf h l as=sf h' l as
 |[],[],_
 |[],_::_,_
 |_::_,[],_=>rfl
 |s::l,a::as,hb=>by
  simp only[List.any_cons,Bool.or_eq_false_iff] at hb;unfold sf;rw[vX0 (h:=h) (h':=h') hb.1,yAf hb.2]
theorem yQq:∀{l as cs},as.any wQ=false→sf h l as=some cs→∀id∈cs.flatMap vP,id∈as.flatMap yM
 |[],[],cs,_,e=>by cases e;simp
 |s::l,a::as,cs,hb,e=>by
  simp only[List.any_cons,Bool.or_eq_false_iff] at hb;unfold sf at e;split at e
  ·rename_i c1 rest e1 e2;cases e;intro id ao;rw[List.flatMap_append,List.mem_append] at ao;rw[List.flatMap_cons,List.mem_append];rcases ao with ao|ao
   ·exact .inl (TX hb.1 e1 id ao)
   ·exact .inr (yQq hb.2 e2 id ao)
  ·cases e
theorem vUw {l as}(hb:as.any wQ=false)(hh:∀id∈as.flatMap yM,h id=h' id):AL h l as=AL h' l as:=by
 unfold AL;rw[yAf (h:=h) (h':=h') hb];cases e:sf h' l as with
 |none=>rfl
 |some cs=>exact yL1 fun id ao=>hh id (yQq hb e id ao)
theorem Ds {x}:[x].flatMap vP=yM (.c x):=by simp[yM]
theorem TY {c c' u}(e:ow h c=some (c',u)):(∀id∈vP c',id∈vP c)∧(wQ (.c c')=true→wQ (.c c)=true):=by
 cases c with
 |osl id r=>
  unfold ow at e;dsimp only at e;split at e
  ·cases e;exact⟨nofun,nofun⟩
  ·cases r with
   |none=>cases e;exact⟨nofun,nofun⟩
   |some _=>cases e
  ·cases e
 |mrow _ _ _=>cases e
 |_=>cases e;simp
theorem Dt:∀{l cs},(∀id∈cs.flatMap vP,h id=h' id)→gf h l cs=gf h' l cs
 |[],cs,_=>by rfl
 |true::l,[],_
 |false::l,[],_=>rfl
 |true::l,c::cs,hh=>by
  simp  at hh;unfold gf;rw[yAa fun id hi=>hh id (.inl hi),Dt (by grind)]
 |false::l,c::cs,hh=>by
  unfold gf;rw[Dt (by grind)]
theorem Du:∀{l cs aP u},gf h l cs=some (aP,u)→∀id∈aP.flatMap vP,id∈cs.flatMap vP
 |[],cs,aP,u,e=>by cases cs<;>cases e<;>exact by simp
 |true::l,[],aP,u,e
 |false::l,[],aP,u,e=>by cases e;simp
 |true::l,c::cs,aP,u,e=>by
  unfold gf at e;split at e
  ·rename_i c1 u1 mJ rO e1 e2;cases e;intro id ao;rw[List.flatMap_cons,List.mem_append] at ao⊢;exact ao.imp ((TY e1).1 id) (Du e2 id)
  ·cases e
 |false::l,c::cs,aP,u,e=>by
  unfold gf at e;split at e
  ·rename_i mJ rO e2;cases e;intro id ao;rw[List.flatMap_cons,List.mem_append] at ao⊢;exact ao.imp (by simp) (Du e2 id)
  ·cases e
theorem vYy {s a}(hh:∀id∈yM a,h id=h' id):wu h s a=wu h' s a:=by
 unfold wu;cases s with
 |c p=>cases a with
  |c x=>
   have:=Dt (h:=h) (h':=h') (l:=[p.isKept]) (cs:=[x]) (by rw[Ds];exact hh);simp_all
  |_=>rfl
 |agg l=>cases a with
  |agg xs=>
   have:=Dt (h:=h) (h':=h') (l:=l.map PC.isKept) (cs:=xs) hh;simp_all
  |_=>rfl
 |_=>rfl
theorem vN0 {s a a' u}(e:wu h s a=some (a',u)):(∀id∈yM a',id∈yM a)∧(wQ a=false→wQ a'=false):=by
 unfold wu at e;split at e
 ·rename_i p x;split at e
  ·rename_i y u1 e1;cases e;refine⟨fun id ao=>by have:=Du e1 id (by rw[Ds];omega);rwa [Ds] at this,fun hb=>?_⟩;cases hk:p.isKept with
   |false=>rw[hk] at e1;cases e1;exact hb
   |true=>
    rw[hk] at e1;unfold gf at e1;split at e1
    ·rename_i c1 u2 mJ rO e2 e3;cases e1;cases hy:wQ (.c y) with
     |false=>rfl
     |true=>rw[(TY e2).2 hy] at hb;cases hb
    ·cases e1
  ·cases e
 ·split at e
  ·rename_i ys u1 e1;cases e;exact⟨Du e1,fun _=>rfl⟩
  ·cases e
 simp_all
theorem yD9:∀{l as},(∀id∈as.flatMap yM,h id=h' id)→si h l as=si h' l as
 |[],as,_=>by rfl
 |_::_,[],_=>rfl
 |s::l,a::as,hh=>by
  simp  at hh;unfold si;rw[vYy fun id hi=>hh id (.inl hi),yD9 (by grind)]
theorem yA7:∀{l as eQ u},si h l as=some (eQ,u)→(∀id∈eQ.flatMap yM,id∈as.flatMap yM)∧(as.any wQ=false→eQ.any wQ=false)
 |[],as,eQ,u,e=>by cases as<;>cases e<;>exact by simp
 |s::l,[],eQ,u,e=>by cases e;simp
 |s::l,a::as,eQ,u,e=>by
  unfold si at e;split at e
  ·rename_i a1 u1 TU rO e1 e2;obtain⟨k1,k2⟩:=vN0 e1;obtain⟨k3,k4⟩:=yA7 e2;grind
  ·cases e
theorem TZ:∀{n nm},(∀i,i<n→h (nm+i)=h' (nm+i))→wq h nm n=wq h' nm n
 |0,_,_=>rfl
 |n+1,nm,hh=>by
  unfold wq;have:=hh 0 (by omega);rw[Nat.add_zero] at this;rw[this,TZ (by grind)]
end
theorem ySl {as rs X}{S:Nat→AD as→Option X}{pack}:Iw fun k nm args h=>oN as rs (S k) pack nm args h:=by
 intro k nm args h h' h1 h2;cases hb:args.any wQ with
 |true=>rw[h2 hb]
 |false=>
  have hh:=h1 hb;show oN as rs (S k) pack nm args h=oN as rs (S k) pack nm args h';unfold oN;rw[yD9 (h:=h) (h':=h') (by grind)];cases e:si h' as args with
  |none=>rfl
  |some p=>
   obtain⟨eK,u⟩:=p;obtain⟨k1,k2⟩:=yA7 e;dsimp only;rw[vUw (h:=qI h u) (h':=qI h' u) (k2 hb) fun id ao=>AB (by grind)];cases AL (qI h' u) as eK with
   |none=>rfl
   |some d=>
    cases hle:Nat.ble rs.cells.length 100 with
    |false=>simp
    |true=>
     have hle:=Nat.le_of_ble_eq_true hle;rw [TZ (h := h) (h' := h') fun i hi => hh _ (.inr (by
      simp only[nz,Bool.and_eq_true];exact⟨by simp,by simp[Nat.blt_eq];omega⟩))]
def nL:Code→List Code
 |.seq a b=>nL a++nL b
 |.cond _ a b=>nL a++nL b
 |.block _ b=>nL b
 |.loop b=>[b]
 |_=>[]
def zR (c:Code)(i:Nat):Code:=match(nL c)[i]? with
 |some b=>b
 |none=>.skip
def zS (fn:Func):Code:=match fn.body with
 |some c=>c
 |none=>.skip
def yF2 (P:Program)(A:qA)(pre na nt:Nat)(b:Code):Prop:=(∃L,vx A b=some L∧zU P pre na nt b L)∨(vx A b=none∧wK P A pre na nt b)
theorem vX7 {P A pre na nt}:∀c,(∀b∈nL c,yF2 P A pre na nt b)→wK P A pre na nt c:=by
 intro c
 induction c with
 |seq a b C9 Da=>exact fun h=>⟨C9 fun x hx=>h x (List.mem_append_left _ hx),Da fun x hx=>h x (List.mem_append_right _ hx)⟩
 |cond t a b C9 Da=>exact fun h=>⟨C9 fun x hx=>h x (List.mem_append_left _ hx),Da fun x hx=>h x (List.mem_append_right _ hx)⟩
 |block id b ih=>exact fun h=>ih h
 |loop b ih=>
  intro h;rcases h b (List.mem_cons_self ..) with⟨L,h1,h2⟩|⟨h1,h2⟩
  ·refine⟨by grind,by grind⟩
  ·refine⟨fun L' h3=>?_,fun _=>h2⟩;simp_all
 |_=>exact fun _=>trivial
theorem Nb {P A pre na nt c n}(hn:(nL c).length=n)(h:∀i,i<n→yF2 P A pre na nt (zR c i)):wK P A pre na nt c:=
 vX7 c fun b hb=>by
  obtain⟨i,hi,rfl⟩:=List.getElem_of_mem hb;have e:zR c i=(nL c)[i]:=by
   unfold zR;grind
  grind
theorem oP {P A pre na nt c n}(hn:(nL c).length=n)(h:∀i,i<n→∃L,vx A (zR c i)=some L∧zU P pre na nt (zR c i) L):wK P A pre na nt c:=
 Nb hn fun i hi=>.inl (h i hi)
theorem vEq {P A pre na nt c}(hn:(nL c).length=0):wK P A pre na nt c:=oP hn (by simp)
theorem body_loops {P A pre na fn}(h:wK P A pre na fn.ntmps (zS fn)):∀c,fn.body=some c→wK P A pre na fn.ntmps c:=fun c hc=>by
 unfold zS at h;simp_all
theorem Ix {P f fn}(hf:P.funcs[f]? =some fn)(hb:fn.body.isNone=false)(hn:(fn.name== "runtime.NumGoroutine")=false):∀vs w,(callFunc f vs).run P w=.ok (.enter f vs) w:=fun vs w=>by
 have h1:(program).run P w=.ok P w:=rfl;unfold callFunc;simp only[Sem.run_bind,h1,Result.andThen_ok,hf,hn,hb,Bool.false_eq_true,if_false,Sem.run_pure]
abbrev zA (x:Int):Int:=IntKind.wrap .i64 x
abbrev yL (k:IntKind)(x y:Int):Int:=tw (fun _ a b=>a&&&b) k x y
abbrev wN (k:IntKind)(x y:Int):Int:=tw (fun _ a b=>a|||b) k x y
abbrev shl (k:IntKind)(x y:Int):Int:=k.wrap (x*2^(min y.toNat k.bits))
abbrev shr (k:IntKind)(x y:Int):Int:=x.fdiv (2^(min y.toNat k.bits))
abbrev zQ (n b:Nat):Bool:=Nat.ble (n*b) 140737488355328&&Nat.ble n 140737488355328
abbrev sj (l c:Int)(b:Nat):Bool:=decide (0≤l)&&decide (l≤c)&&decide (c*(b:Int)≤140737488355328)&&decide (c≤140737488355328)
abbrev vZ (lt:Bool)(x y:Int):Int:=bif lt then(bif decide (y<x) then y else x) else(bif decide (y>x) then y else x)
abbrev T0 (xs:List (List Int))(n:Nat):Option (List (List Int)):=
 mN (.c .mat) (fun d=>d.1) (.c (.osl 0 none)) ⟨fun _=>.undef,fun _=>some (.pmat 0 xs n)⟩
theorem vP9 xs n:T0 xs n=bif Nat.beq xs.length n then some xs else none:=by
 unfold T0 mN Is RS.get RS.cells;dsimp only[List.map,RC.isFro,gf,wF,tx,qI];cases h:Nat.beq xs.length n<;>simp[kK,pJ,h]
theorem Iy {l:List Nat}{p:Nat→Bool}(hl:∀t∈l,p t=true)(t:Nat)(h:l.any (Nat.beq t)=true):p t=true:=by
 simp_all
theorem vQa {P}:HT P (fun _=>false):=nofun
open Go.ChangeShapes Go.WideShapes Go.ChangeAt Go.RowKit
def Iz (f:TypeId→Option Ty):Nat→List (Nat×TypeId)→Option Ty
 |_,[]=>none
 |off,[x]=>bif Nat.beq x.1 off then f x.2 else none
 | off, x :: y :: l => bif Nat.beq x.1 off then (match f x.2 with
  |some a=>(match Iz f (off+a.size) (y::l) with|some b=>some (.pair a b)|none=>none)
  |none=>none) else none
def sk (P:Program):TypeDesc→List (Nat×TypeId)
 |.struct fs=>fs.toList.map fun f=>(f.offset,f.type)
 |.array n e=>(List.range n).map fun i=>(i*P.cellsOf e,e)
 |_=>[]
def oQ (P:Program):Nat→TypeId→Option Ty
 |0,_=>none
 |d+1,t=>match P.underlying t with
  |some (.int k)=>bif Nat.beq (P.cellsOf t) 1 then some (.int k) else none
  |some .bool=>bif Nat.beq (P.cellsOf t) 1 then some .bool else none
  |some (.slice e)=>bif Nat.beq (P.cellsOf t) 1&&Nat.ble 1 (P.bytesOf e) then(match oQ P d e with|some a=>some (.sl a)|none=>none) else none
  |some x=>match Iz (oQ P d) 0 (sk P x) with
   |some a=>bif Nat.beq (P.cellsOf t) a.size then some a else none
   |none=>none
  |none=>none
def Wf:(t:Ty)→t.den→Prop
 |.int k,n=>(Lit.int k n).wf=true
 |.bool,_=>True
 |.sl t,xs=>xs.length≤reachBytes∧∀i (h:i<xs.length),Wf t xs[i]
 |.pair a b,p=>Wf a p.1∧Wf b p.2
theorem T1 {P}:∀{d t ty},oQ P d t=some ty→P.cellsOf t=ty.size
 |d+1,t,ty,h=>by
  unfold oQ at h;split at h
  ·obtain⟨h1,h2⟩:=wL h;cases h2;exact Nat.eq_of_beq_eq_true h1
  ·obtain⟨h1,h2⟩:=wL h;cases h2;exact Nat.eq_of_beq_eq_true h1
  ·obtain⟨h1,h2⟩:=wL h;rw[Bool.and_eq_true] at h1;split at h2
   ·cases h2;exact Nat.eq_of_beq_eq_true h1.1
   ·cases h2
  ·split at h
   ·obtain⟨h1,h2⟩:=wL h;simp_all
   ·cases h
  ·cases h
section
variable {H:Type} {enc:TypeId×Value→H} {P:Program} {w:World}
abbrev IA (w:World):Nat→Prop:=fun b=>b<w.heap.size
theorem vRk {a n cs}(h:w.cells? 0 a n=some cs):cs.length=n∧∀i,i<n→∃v,cs[i]? =some v∧w.cell? (a.add i)=some v:=by
 have hl:=mapM_some_length h;have hg:=mapM_some_get h;simp at hl;refine⟨hl,fun i hi=>?_⟩;have:=hg i i (by simp[hi]);simp_all
theorem yBl {a v}(h:w.cell? a=some v):a.spot=none∧a.block<w.heap.size∧yQ w.heap a.block a.off=some v:=by
 unfold World.cell? at h;cases hb:w.heap[a.block]? with
 |none=>simp_all
 |some o=>
  rw[hb] at h;cases o with
  |cells c e z=>
   dsimp only at h;split at h
   ·cases h
   ·refine⟨by simp_all,?_,?_⟩
    ·grind
    ·unfold yQ;simp_all
  |_=>cases h
theorem yV2 {α:Type}{p:Nat→α→Prop}:∀n,(∀i,i<n→∃x,p i x)→∃xs:List α,xs.length=n∧∀i h,p i xs[i]
 |0,_=>by simp
 |n+1,h=>by
  obtain⟨xs,h1,h2⟩:=yV2 n fun i hi=>h i (by omega)
  obtain⟨x,hx⟩:=h n (by omega);refine⟨xs++[x],by simp[h1],fun i hi=>?_⟩;grind
def eL (l:List Nat):Prop:=l.all (· ≤reachBytes)=true
theorem pL {l m}:eL (l++m)↔eL l∧eL m:=by simp[eL]
theorem yVc {P e}{d:DataW H}:∀{l},eL (DataW.weightsAll P e l)→d∈l→eL (d.weights P e)
 |a::l,h,hd=>by
  have h:=pL.1 h;rcases List.mem_cons.1 hd with rfl|hd
  ·exact h.1
  ·exact yVc h.2 hd
theorem yE4 {P e}:∀{ts} {ds:List (DataW H)},(∀t∈ts,t=e)→eL (DataW.weightsAll P e ds)→eL (DataW.weightsEach P ts ds)
 |t::ts,d::ds,ht,h=>by
  have h:=pL.1 h;rw[ht t (by simp)];exact pL.2 ⟨h.1,yE4 (by grind) h.2⟩
 |[],_,_,_=>by simp[DataW.weightsEach,eL]
 |_::_,[],_,_=>by rfl
def Nc (P:Program)(w:World)(ty:Ty)(cs:List Value):Prop:=∃x:ty.den,cs.length=ty.size∧qD w.heap (IA w) ty x (fun j=>cs[j]?)∧Wf ty x
theorem yAo {d fuel}(ih:∀t ty cs x,oQ P d t=some ty→DataW.trod enc P w 0 (fun _=>true) true fuel t cs=some x→eL (x.1.weights P t)→Nc P w ty cs):
  ∀l off ty (cs:List Value) out,Iz (oQ P d) off l=some ty→off+ty.size≤cs.length→
   (l.mapM fun p=>DataW.trod enc P w 0 (fun _=>true) true fuel p.2 ((cs.drop p.1).take (P.cellsOf p.2)))=some out→eL (DataW.weightsEach P (l.map (·.2)) (out.map (·.1)))→Nc P w ty ((cs.drop off).take ty.size)
 |[x],off,ty,cs,out,h,hc,hm,hw=>by
  obtain⟨h1,h2⟩:=wL h;have ho:x.1=off:=by simpa using h1
  simp only[List.mapM_cons,List.mapM_nil,Option.pure_def,Option.bind_eq_bind,Option.bind_eq_some_iff] at hm;obtain⟨y,hy,_,e,e'⟩:=hm;cases e;cases e';rw[ho,T1 h2] at hy;exact ih _ _ _ _ h2 hy (pL.1 hw).1
 |x::y::l,off,ty,cs,out,h,hc,hm,hw=>by
  obtain⟨h1,h2⟩:=wL h;have ho:x.1=off:=by simpa using h1
  split at h2
  ·rename_i a ha;split at h2
   ·rename_i b hb;cases h2;simp only[Ty.size] at hc⊢;rw[List.mapM_cons] at hm;simp only[Option.pure_def,Option.bind_eq_bind,Option.bind_eq_some_iff] at hm;obtain⟨z,hz,zs,hzs,e⟩:=hm;cases e;rw[ho,T1 ha] at hz;have hw:=pL.1 hw;obtain⟨p,p1,p2,p3⟩:=ih _ _ _ _ ha hz hw.1;obtain⟨q,q1,q2,q3⟩:=yAo ih (y::l) (off+a.size) b cs zs hb (by omega) hzs hw.2;refine⟨(p,q),by simp only[List.length_take,List.length_drop,Ty.size];omega,⟨?_,?_⟩,p3,q3⟩
    ·refine vB (fun _ h=>h) (by simp) a p _ _ (fun j hj=>?_) p2;simp only[List.getElem?_take,List.getElem?_drop];rw[if_pos (by omega),if_pos hj]
    grind
   ·cases h2
  ·cases h2
theorem T2:∀d t ty fuel cs x,oQ P d t=some ty→DataW.trod enc P w 0 (fun _=>true) true fuel t cs=some x→eL (x.1.weights P t)→Nc P w ty cs
 |0,_,_,_,_,_,h,_,_=>by cases h
 |d+1,t,ty,0,cs,x,_,h,_=>by simp[DataW.trod] at h
 |d+1,t,ty,fuel+1,cs,x,hl,h,hw=>by
  unfold oQ at hl;split at hl
  ·rename_i k hu;obtain⟨_,hl⟩:=wL hl;cases hl;obtain⟨n,rfl,_,oR⟩:=DataW.trod_int hu h;exact⟨n,rfl,rfl,oR⟩
  ·rename_i hu;obtain⟨_,hl⟩:=wL hl;cases hl;obtain⟨b,rfl,_⟩:=DataW.trod_bool hu h;exact⟨b,rfl,rfl,trivial⟩
  ·rename_i e hu;obtain⟨fi,hl⟩:=wL hl;rw[Bool.and_eq_true] at fi;have fi:=Nat.le_of_ble_eq_true fi.2;split at hl
   ·rename_i a ha;cases hl;rcases DataW.trod_slice hu h with⟨rfl,_⟩|⟨ad,len,cap,elems,rest,n,hn,rfl,rfl,_,Sq,hm,hel,hg,_,_⟩
    ·refine⟨([]:List a.den),rfl,?_,?_⟩
     ·simp only[qD];exact⟨none,0,0,rfl,rfl,Nat.le_refl _,.inl ⟨trivial,fun _=>rfl⟩⟩
     ·simp only[Wf];exact by simp
    ·unfold DataW.weights at hw;rw[hu] at hw;have hw:eL ([((elems.map (·.1)).length+(rest.map (·.1)).length)*P.bytesOf e]++(DataW.weightsAll P e (elems.map (·.1))++DataW.weightsAll P e (rest.map (·.1)))):=hw;obtain⟨sm,hw⟩:=pL.1 hw;have hw2:=(pL.1 hw).1;have hlen:len≤reachBytes:=by
      simp only[eL,List.all_cons,List.all_nil,Bool.and_true,decide_eq_true_eq,List.length_map] at sm;have:=Nat.mul_le_mul_left (elems.length+rest.length) fi;omega
     have key:∀i,i<len→∃x:a.den,(qD w.heap (IA w) a x (fun j=>yQ w.heap ad.block (ad.off+i*a.size+j))∧(i=0→ad.spot=none)∧ad.block<w.heap.size)∧Wf a x:=by
      intro i hi;have h1:=hg i hi;have Tq:i<elems.length:=by omega
      rw[List.getElem?_eq_getElem Tq,Option.bind_eq_some_iff] at h1;obtain⟨cs,nJ,htr⟩:=h1;rw[T1 ha] at nJ;obtain⟨y,y1,y2,y3⟩:=T2 d e a n cs _ ha htr (yVc hw2 (by grind));obtain⟨c1,c2⟩:=vRk nJ;have AP:∀j,((ad.add (i*a.size)).add j).block=ad.block∧((ad.add (i*a.size)).add j).off=ad.off+i*a.size+j:=by
       intro j;unfold Addr.add;constructor
       ·split<;>split<;>rfl
       ·split<;>split<;>simp_all
      have at0:(i=0→ad.spot=none)∧ad.block<w.heap.size:=by
       obtain⟨v,_,hv⟩:=c2 0 a.size_pos;have h1:=yBl hv;refine⟨fun h0=>?_,by have:=h1.2.1;rwa [(AP 0).1] at this⟩;have h2:=h1.1;subst h0
       simpa[Addr.add] using h2
      refine⟨y,⟨vB (fun _ h=>h) (fun _ _=>rfl) a y _ _ (fun j hj=>?_) y2,at0⟩,y3⟩;obtain⟨v,v1,v2⟩:=c2 j hj;rw[v1];have h1:=(yBl v2).2.2
      rwa [(AP j).1,(AP j).2] at h1
     obtain⟨xs,x1,x2⟩:=yV2 len key;refine⟨xs,rfl,?_,?_⟩
     ·simp only[qD];refine⟨some ad,len,cap,rfl,x1.symm,Sq,?_⟩;by_cases h0:xs=[]
      ·exact by grind
      ·refine .inr ⟨ad.block,ad.off,?_,?_,fun i hi=>(x2 i hi).1.1⟩
       ·have:=(x2 0 (List.length_pos_iff.2 h0)).1.2.1 rfl;cases ad;simp at this;rw[this]
       ·exact by grind
     ·simp only[Wf];exact by grind
   ·cases hl
  ·rename_i y n1 n2 n3 hu;split at hl
   ·rename_i a ha;obtain⟨dV,hl⟩:=wL hl;cases hl;have dV:P.cellsOf t=ty.size:=by simpa using dV
    have fin:∀out,cs.length=P.cellsOf t→((sk P y).mapM fun p=>DataW.trod enc P w 0 (fun _=>true) true fuel p.2 ((cs.drop p.1).take (P.cellsOf p.2)))=some out→eL (DataW.weightsEach P ((sk P y).map (·.2)) (out.map (·.1)))→Nc P w ty cs:=by
     intro out hlen kE hw;have:=yAo (fun t' ty' aP x' h1 h2 h3=>T2 d t' ty' fuel aP x' h1 h2 h3) (sk P y) 0 ty cs out ha (by omega) kE hw
     rwa [List.drop_zero,List.take_of_length_le (by omega)] at this
    unfold DataW.trod at h;rw[hu] at h;cases y with
    |struct fs=>
     dsimp only at h;split at h
     ·rename_i hlen;rw[Option.map_eq_some_iff] at h;obtain⟨out,ho,rfl⟩:=h;unfold DataW.weights at hw;rw[hu] at hw;refine fin out hlen ?_ (by rw[sk,List.map_map];exact hw);simp only[sk,List.mapM_map];exact ho
     ·cases h
    |array n e=>
     dsimp only at h;split at h
     ·rename_i hlen;rw[Option.map_eq_some_iff] at h;obtain⟨out,ho,rfl⟩:=h;unfold DataW.weights at hw;rw[hu] at hw;refine fin out hlen ?_ (yE4 (fun t ht=>by simp[sk] at ht;exact ht.2.symm) hw);simp only[sk,List.mapM_map];exact ho
     ·cases h
    |_=>simp[sk,Iz] at ha
   ·cases hl
  ·cases hl
end
open Go.ChangeShapes Go.WideShapes Go.ChangeAt Go.RowKit
def ua (sh:Bool):Ty→List PC
 |.int k=>[.int k]
 |.bool=>[.bool]
 |.sl t=>[.dat sh t]
 |.pair a b=>ua sh a++ua sh b
def w6:(l m:List PC)→PL l→PL m→PL (l++m)
 |[],_,_,e=>e
 |_::l,m,d,e=>(d.1,w6 l m d.2 e)
theorem T3:∀l m d e,vY (l++m) (w6 l m d e)=vY l d++vY m e
 |[],_,_,_=>rfl
 |p::l,m,d,e=>by
  show Dq p d.1::vY (l++m) (w6 l m d.2 e)=Dq p d.1::(vY l d.2++vY m e);rw[T3 l m d.2 e]
def sn sh:(t:Ty)→t.den→PL (ua sh t)
 |.int _,n=>(n,())
 |.bool,b=>(b,())
 |.sl _,xs=>(xs,())
 |.pair a b,p=>w6 _ _ (sn sh a p.1) (sn sh b p.2)
def WfP:(p:PC)→p.den→Prop
 |.int k,n=>(Lit.int k n).wf=true
 |.bool,_=>True
 |.dat _ t,xs=>Wf (.sl t) xs
 |.fn _,_=>True
 |.nil,_=>True
 |.nilp,_=>True
def ub:(l:List PC)→PL l→Prop
 |[],_=>True
 |p::l,d=>WfP p d.1∧ub l d.2
theorem T4:∀l m d e,ub l d→ub m e→ub (l++m) (w6 l m d e)
 |[],_,_,_,_,h=>h
 |_::l,m,d,e,h,h'=>⟨h.1,T4 l m d.2 e h.2 h'⟩
theorem T5 sh:∀t x,Wf t x→ub (ua sh t) (sn sh t x)
 |.int _,_,h
 |.bool,_,h
 |.sl _,_,h=>⟨h,trivial⟩
 |.pair a b,p,h=>T4 _ _ _ _ (T5 sh a p.1 h.1) (T5 sh b p.2 h.2)
theorem Nd:∀l d,(vY l d).length=l.length
 |[],_=>rfl
 |p::l,d=>by
  show(vY l d.2).length+1=l.length+1;rw[Nd l d.2]
def M0 (w:World):zL:=⟨fun _=>none,IA w,IA w,lS [],w.heap⟩
theorem vW5 w:Ok (M0 w) where
 obj:=nofun
 non:=fun _ _=>rfl
 disj:=fun i j oi oj Ci Cj b _ h=>by cases h
 own:=nofun
 GF:=fun _ h=>h
 Flt:=fun _ h=>h
theorem T6 sh {w}:∀t x cs,cs.length=t.size→qD w.heap (IA w) t x (fun j=>cs[j]?)→zM (zX (M0 w)) (vY (ua sh t) (sn sh t x)) cs
 |.int k,n,cs,hl,h=>by
  match cs,hl with
  |[c],_=>
   have e:c=.int k n:=by simpa[qD] using h
   exact⟨e,trivial⟩
 |.bool,b,cs,hl,h=>by
  match cs,hl with
  |[c],_=>
   have e:c=.bool b:=by simpa[qD] using h
   exact⟨e,trivial⟩
 |.sl t,xs,cs,hl,h=>by
  match cs,hl with
  |[c],_=>
   refine⟨?_,trivial⟩;have h':=vB (F':=(bif sh then(M0 w).G else(M0 w).F)) (fun b h=>by cases sh<;>exact h) (fun b _=>rfl) (.sl t) xs (fun j=>[c][j]?) (fun _=>some c) (by grind) h;exact h'
 |.pair a b,p,cs,hl,h=>by
  have dM:cs.length=a.size+b.size:=hl;have h1:=T6 sh a p.1 (cs.take a.size) (by grind) (vB (fun _ h=>h) (by simp) a p.1 _ _ (by grind) h.1);have h2:=T6 sh b p.2 (cs.drop a.size) (by grind) (vB (by simp) (fun _ _=>rfl) b p.2 _ _ (by grind) h.2);show zM _ (vY (ua sh a++ua sh b) (w6 _ _ (sn sh a p.1) (sn sh b p.2))) cs;rw[T3];have:=zM.append h1 h2;simp_all
def so (sh : Bool) (P : Program) (t : TypeId) (ty : Ty) : AS := bif eH P t == some true then .agg (ua sh ty) else (match ty with
 |.int k=>.c (.int k)|.bool=>.c .bool|.sl t=>.c (.dat sh t)|.pair a b=>.agg (ua sh (.pair a b)))
def Nf (P:Program):List TypeId→Option (List Ty)
 |[]=>some []
 |t::ts=>match oQ P 8 t,Nf P ts with
  |some a,some l=>some (a::l)
  |_,_=>none
def uc (sh:Bool)(P:Program):List TypeId→List Ty→List AS
 |t::ts,a::l=>so sh P t a::uc sh P ts l
 |_,_=>[]
theorem vZe {P t ty}(h:oQ P 8 t=some ty)(ha:(eH P t==some true)=false):(∃k,P.underlying t=some (.int k)∧ty=.int k)∨(P.underlying t=some .bool∧ty=.bool)∨∃e a,P.underlying t=some (.slice e)∧ty=.sl a:=by
 unfold oQ at h;split at h
 ·grind
 ·grind
 ·grind
 ·rename_i x _ _ _ hu;split at h
  ·rename_i a hx;unfold eH at ha;rw[hu] at ha;cases x<;>first|(simp[sk,Iz] at hx;done)|(cases ha)
  ·cases h
 ·cases h
section
variable {H:Type} {enc:TypeId×Value→H} {P:Program} {w:World}
theorem T7 sh {t ty v d ps base}(hl:oQ P 8 t=some ty)(fB:Value.okWide P w .any base t v)(h:DataW.Trod enc P w 0 (fun _=>true) true t v d ps)(hw:eL (d.weights P t)):
  ∃x:PL (so sh P t ty).cells,(∀n,zV (M0 w) ((so sh P t ty).mk n (vY _ x)) v)∧(so sh P t ty).boxes (vY _ x)=[]∧ub _ x:=by
 obtain⟨fuel,hf⟩:=h;obtain⟨x,x1,x2,x3⟩:=T2 8 t ty fuel _ _ hl hf hw;have dq:=T6 sh ty x _ x1 x2;have sr:=T5 sh ty x x3;unfold so;cases ha:(eH P t==some true) with
 |true=>
  refine⟨sn sh ty x,fun n=>?_,rfl,sr⟩;have rN:eH P t=some true:=by simp_all
  have hv:∃cs,v=.agg cs:=by
   unfold eH at rN;unfold Value.okWide at fB;grind
  obtain⟨cs,rfl⟩:=hv;exact⟨cs,rfl,dq⟩
 |false=>
  rcases vZe hl ha with⟨k,hu,rfl⟩|⟨hu,rfl⟩|⟨e,a,hu,rfl⟩
  ·have hv:∃n,v=.int k n:=by
    simp[Value.okWide,Cell.okWide] at fB;cases v<;>simp_all[Cell.ok]
   obtain⟨n0,rfl⟩:=hv;exact⟨sn sh _ x,fun n=>dq.1,rfl,sr⟩
  ·have hv:∃b,v=.bool b:=by
    simp[Value.okWide,Cell.okWide] at fB;cases v<;>simp_all[Cell.ok]
   obtain⟨b,rfl⟩:=hv;exact⟨sn sh _ x,fun n=>dq.1,rfl,sr⟩
  ·obtain⟨ad,len,cap,rfl⟩:=okWide_slice hu fB;exact⟨sn sh _ x,fun n=>dq.1,rfl,sr⟩
theorem yVp sh {base}:∀ts tys vs ds ps n,Nf P ts=some tys→(∀(j:Nat) t v,ts[j]? =some t→vs[j]? =some v→Value.okWide P w .any base t v)→
  DataW.TrodAll enc P w 0 (fun _=>true) true ts vs ds ps→eL (DataW.weightsEach P ts ds)→∃x:AD (uc sh P ts tys),zM (zV (M0 w)) (lR (uc sh P ts tys) (vY _ x) n).1 vs∧(lR (uc sh P ts tys) (vY _ x) n).2=[]∧ub _ x
 |[],tys,vs,ds,ps,n,hl,fB,h,_=>by
  match vs,ds,h with
  |[],[],_=>exact⟨(),trivial,rfl,trivial⟩
 |t::ts,tys,vs,ds,ps,n,hl,fB,h,hw=>by
  unfold Nf at hl;split at hl
  ·rename_i a l ha dM;cases hl
   match vs,ds,h with
   |v::vs,d::ds,h=>
    obtain⟨p,q,h1,h2,_⟩:=h;have hw:=pL.1 hw;obtain⟨x,x1,x2,x3⟩:=T7 sh ha (fB 0 t v rfl rfl) h1 hw.1;obtain⟨y,y1,y2,y3⟩:=yVp sh ts l vs ds q n dM (fun j t' v' h1 h2=>fB (j+1) t' v' h1 h2) h2 hw.2;refine⟨w6 _ _ x y,?_⟩;have e:vY ((uc sh P (t::ts) (a::l)).flatMap AS.cells) (w6 _ _ x y)=vY _ x++vY _ y:=T3 _ _ _ _;have ht:(vY _ x++vY _ y).take (so sh P t a).cells.length=vY _ x:=by
     rw[List.take_append_of_le_length (by rw[Nd];omega),List.take_of_length_le (by rw[Nd];omega)]
    have hd:(vY _ x++vY _ y).drop (so sh P t a).cells.length=vY _ y:=by
     rw[List.drop_append_of_le_length (by rw[Nd];exact by simp),List.drop_of_length_le (by grind),List.nil_append]
    rw[e];have em:lR (uc sh P (t::ts) (a::l)) (vY _ x++vY _ y) n=((so sh P t a).mk n (vY _ x)::(lR (uc sh P ts l) (vY _ y) n).1,(lR (uc sh P ts l) (vY _ y) n).2):=by
     show((so sh P t a).mk n _::_,(so sh P t a).boxes _++_)=_;simp_all
    rw[em];exact⟨⟨x1 n,y1⟩,y2,T4 _ _ _ _ x3 y3⟩
  ·cases hl
theorem yBy {us}{gs:List (DataW H)}:∀{ts ds},ts.length=ds.length→eL (DataW.weightsEach P (ts++us) (ds++gs))→eL (DataW.weightsEach P ts ds)
 |[],[],_,_=>by rfl
 |t::ts,d::ds,hl,h=>pL.2 ⟨(pL.1 h).1,yBy (by simp_all) (pL.1 h).2⟩
theorem yEi:∀{ts vs ds ps},DataW.TrodAll enc P w 0 (fun _=>true) true ts vs ds ps→ts.length=ds.length
 |[],[],[],_,_=>rfl
 |_::_,_::_,_::_,_,⟨_,_,_,h,_⟩=>by rw[List.length_cons,List.length_cons,yEi h]
theorem lawArgs sh {base ts tys asp vs ds ps}(hl:Nf P ts=some tys)(has:uc sh P ts tys=asp)
  (fB:∀(j:Nat) t v,ts[j]? =some t→vs[j]? =some v→Value.okWide P w .any base t v) (h:DataW.TrodAll enc P w 0 (fun _=>true) true ts vs ds ps) {us gs} (hw:eL (DataW.weightsEach P (ts++us) (ds++gs))):
  ∃x:AD asp,zM (zV (M0 w)) (lR asp (vY _ x) 0).1 vs∧(lR asp (vY _ x) 0).2=[]∧ub _ x:=by
 subst has;exact yVp sh ts tys vs ds ps 0 hl fB h (yBy (yEi h) hw)
theorem law_calls {E}(hE:gd E)(hS:jz E.sums)(hm:E.P.follows .mixedOrders=true){A k pre f fn}(hf:E.P.funcs[f]? =some fn)(hL:∀c,fn.body=some c→wK E.P A pre 0 fn.ntmps c)
  {as d unpack} (hup:∀d,unpack d=d.1) (aQ:ku E A k pre 0 fn (pI as d).1 (pI as d).2 (mN (.c .bool) unpack)=some true) (hb:(lR as (vY _ d) 0).2=[]) {vs} (hv:zM (zV (M0 w)) (lR as (vY _ d) 0).1 vs.toList):
  Calls E.P f vs w fun e w'=>e=.returned (.bool true)∧Below w.heap.size w w':=by
 have hh:(M0 w).h=(pI as d).2:=by
  show lS []=lS (lR as (vY _ d) 0).2;rw[hb]
 refine Calls.mono (TE hE hS hm hf hL aQ (M:=M0 w) (w:=w) hh rfl (vW5 w) hv) fun e w' he=>?_
 cases e with
 |returned rv=>
  obtain⟨M',v,st,hK,_,hH,_,hg,_,hrv,o1,o2,o3,_⟩:=he;refine⟨?_,o1,o2,o3,?_,fun b hb=>?_⟩
  ·unfold mN at hK;split at hK
   ·rename_i r hr;unfold Is at hr;split at hr
    ·rename_i cs nJ;split at hr
     ·rename_i aP u CY;cases v with
      |c x=>
       cases nJ;have e1:aP=[x]:=by
        simp[RS.cells,RC.isFro,gf] at CY;simp_all
       subst e1;have rS:kK (qI st.h u) [.bool] [x]=some r:=hr;cases x with
       |bool b=>
        have e2:r=(b,()):=by simp[kK,pJ] at rS;grind
        have:rv=.bool b:=hrv;grind
       |_=>simp[kK,pJ] at rS
      |_=>cases nJ
     ·cases hr
    ·cases hr
   ·cases hK
  ·have:=hg.size;rw[hH] at this;exact this
  ·have:=hg.same b hb;rw[hH] at this;exact this
 |_=>simp_all
end
inductive XC where
 |p (c:PC)|own (t:Ty)|mat|map
 |link (j:Nat)
abbrev XC.den:XC→Type
 |.p c=>c.den|.own t=>List t.den|.mat=>List (List Int)|.map=>List (Int×Bool)|.link _=>Unit
def XC.lnk:XC→Option Nat
 |.link j=>some j
 |_=>none
def RC.lnk:RC→Option Nat
 |.link j=>some j
 |_=>none
def ss:List (Option Nat)→List Nat→List zZ→Bool
 |none::l,ids,_::cs=>ss l ids cs
 |some j::l,ids,.ptr id 0::cs=>(match ids[j]? with|some k=>Nat.beq id k|none=>false)&&ss l ids cs
 |some _::_,_,_=>false
 |_,_,_=>true
def AQ:List (Option Nat)→List Nat→List zZ→List zZ
 |none::l,ids,c::cs=>c::AQ l ids cs
 |some j::l,ids,c::cs=>(match ids[j]? with|some id=>.ptr id 0|none=>c)::AQ l ids cs
 |_,_,cs=>cs
def T8:List zZ→Option Nat
 |[]=>none
 |.ptr id 0::_=>some id
 |_::l=>T8 l
def IB (h:Hp):Nat→Nat→Option (List Nat)
 |0,_=>none
 |1,id=>some [id]
 |n+2,id=>match Dp h id with
  | some cells => (match T8 cells with
   |some id2=>(match IB h (n+1) id2 with|some l=>some (id::l)|none=>none)
   |none=>none)
  |none=>none
def lT:Nat→Nat→List Nat
 |_,0=>[]
 |n,m+1=>n::lT (n+1) m
abbrev XL:List XC→Type
 |[]=>Unit
 |c::l=>c.den×XL l
inductive AX where
 |c (x:XC)|agg (l:List PC)|ptr (io:Bool) (l:List XC)|fn (f:Nat) (bB:List (Bool×List XC))
 |chn (ls:List (List XC))
def AX.cells:AX→List XC
 |.c x=>[x]
 |.agg l=>l.map .p
 |.ptr _ l=>l
 |.fn _ bB=>bB.flatMap (·.2)
 |.chn ls=>ls.flatten
def AX.nb:AX→Nat
 |.ptr _ _=>1
 |.fn _ bB=>bB.length
 |.chn ls=>ls.length
 |_=>0
def AX.isChn:AX→Bool
 |.chn _=>true
 |_=>false
def Dv (ls:List (List XC)):List (Bool×List XC):=ls.map fun l=>(true,l)
abbrev XD (l:List AX):Type:=XL (l.flatMap AX.cells)
def AX.looks:AX→Bool
 |.ptr _ _=>true
 |.fn _ _=>true
 |_=>false
def ud (l:List AX)(na:Nat):Bool:=l.zipIdx.all fun p=> !p.1.looks||Nat.blt p.2 na
def Dw (h:Hp)(io:Bool)(id:Nat):Option (List zZ):=match io,h id with
 |true,some (.box true cells)=>some cells
 |false,some (.box _ cells)=>some cells
 |false,some (.robox cells)=>some cells
 |_,_=>none
def j3 (h:Hp):List (Bool×List XC)→List Nat→Option (List zZ×List (Bool×Nat))
 |[],[]=>some ([],[])
 |(io,l)::ls,id::ids=>match Dw h io id,j3 h ls ids with
  |some cells,some (rest,bs)=>bif Nat.beq cells.length l.length then some (cells++rest,(io,id)::bs) else none
  |_,_=>none
 |_,_=>none
def AX.get (h:Hp):AX→zY→Option (List zZ×List (Bool×Nat))
 |.c _,.c x=>some ([x],[])
 |.agg l,.agg xs=>bif Nat.beq xs.length l.length then some (xs,[]) else none
 |.ptr io l,.c (.ptr id 0)=>j3 h [(io,l)] [id]
 |.fn f bB,.c (.fn g ids)=>bif Nat.beq f g then j3 h bB ids else none
 |.chn ls,.c (.ptr id 0)=>match IB h ls.length id with
  |some ids=>j3 h (Dv ls) ids
  |none=>none
 |_,_=>none
def kL (h:Hp):List AX→List zY→Option (List zZ×List (Bool×Nat))
 |[],[]=>some ([],[])
 |s::l,a::as=>match s.get h a,kL h l as with
  |some (cs,bs),some (aP,AR)=>some (cs++aP,bs++AR)
  |_,_=>none
 |_,_=>none
def IC (h:Hp):(x:XC)→zZ→Option x.den
 |.p p,c=>tY h p c
 |.own t,.osl id none=>match h id with
  |some (.arr true s xs)=>gW s t xs
  |_=>none
 |.mat,.osl id none=>match h id with
  |some (.mat _ xs)=>some xs
  |_=>none
 |.map,.map id=>match h id with
  |some (.imap de)=>some de
  |_=>none
 |.link _,.ptr _ 0=>some ()
 |_,_=>none
def pM (h:Hp):(l:List XC)→List zZ→Option (XL l)
 |[],[]=>some ()
 |x::l,c::cs=>match IC h x c,pM h l cs with
  |some d,some ds=>some (d,ds)
  |_,_=>none
 |_,_=>none
def jM:List XC→List zZ→List Nat
 |.p _::l,_::cs=>jM l cs
 |.link _::l,_::cs=>jM l cs
 |_::l,.osl id _::cs=>id::jM l cs
 |_::l,.map id::cs=>id::jM l cs
 |_::l,_::cs=>jM l cs
 |_,_=>[]
def ID:List XC→List zZ→List Nat
 |.p _::l,c::cs=>vP c++ID l cs
 |_::l,_::cs=>ID l cs
 |_,_=>[]
def wR:Nat:=500
def hZ:(l:List XC)→XL l→Nat→List zZ×List Obj
 |[],_,_=>([],[])
 |.p p::l,d,n=>let r:=hZ l d.2 n;(Dq p d.1::r.1,r.2)
 |.own t::l,d,n=>let r:=hZ l d.2 (n+1);(.osl n none::r.1,.arr true t d.1::r.2)
 |.mat::l,d,n=>let r:=hZ l d.2 (n+1);(.osl n none::r.1,.mat 0 d.1::r.2)
 |.map::l,d,n=>let r:=hZ l d.2 (n+1);(.map n::r.1,.imap d.1::r.2)
 |.link j::l,d,n=>let r:=hZ l d.2 n;(.ptr j 0::r.1,r.2)
def IE:List (Bool×List XC)→List zZ→List Obj
 |[],_=>[]
 |(io,l)::ls,cs=>(bif io then .box true (cs.take l.length) else .robox (cs.take l.length))::IE ls (cs.drop l.length)
def AX.mk (n:Nat)(cs:List zZ):AX→zY
 |.c _=>match cs with|x::_=>.c x|[]=>.undef
 |.agg _=>.agg cs
 |.ptr _ _=>.c (.ptr n 0)
 |.fn f bB=>.c (.fn f ((List.range bB.length).map (n+·)))
 |.chn _=>.c (.ptr n 0)
def AX.boxes (cs:List zZ):AX→List Obj
 |.ptr io l=>IE [(io,l)] cs
 |.fn _ bB=>IE bB cs
 |.chn ls=>IE (Dv ls) cs
 |_=>[]
def AT:List AX→List zZ→Nat→List zY×List Obj
 |[],_,_=>([],[])
 |s::l,cs,n=>
  let aq:=cs.take s.cells.length;let bs:=s.boxes aq;let rest:=AT l (cs.drop s.cells.length) (n+bs.length)
  (s.mk n aq::rest.1,bs++rest.2)
def IF (bs rows:List Obj):Hp:=fun n=>bif Nat.ble wR n then rows[n-wR]? else bs[n]?
def kM l (d:XD l):List zY×Hp:=
 let r:=hZ (l.flatMap AX.cells) d wR;let m:=AT l r.1 0
 (m.1,IF m.2 r.2)
def IG:List (Bool×List XC)→List Nat→Option (List Nat)
 |[],[]=>some []
 |(io,_)::ls,id::ids=>match IG ls ids with
  |some l=>some (bif io then id::l else l)
  |none=>none
 |_,_=>none
def AX.io (b:Nat):AX→zY→Option (List Nat)
 |.c _,_=>some []
 |.agg _,_=>some []
 |.ptr io l,.c (.ptr id 0)=>IG [(io,l)] [id]
 |.fn _ bB,.c (.fn _ ids)=>IG bB ids
 |.chn ls,_=>some (lT b ls.length)
 |_,_=>none
def Ng:List AX→(Nat→zY)→Nat→Nat→Option (List Nat)
 |[],_,_,_=>some []
 |s::l,t,n,b=>match s.io b (t n),Ng l t (n+1) (b+s.nb) with
  |some a,some b=>some (a++b)
  |_,_=>none
def Dx (h:Hp):List (List RC)→List Nat→Option (List zZ)
 |[],[]=>some []
 |o::os,n::ns=>match h n,Dx h os ns with
  |some (.box true cells),some rest=>bif Nat.beq cells.length o.length then some (cells++rest) else none
  |_,_=>none
 |_,_=>none
def T9 (h:Hp)(ns:Nat)(cs:List zZ):Option (List Nat):=bif Nat.beq ns 0 then some [] else match T8 cs with
 |some id=>IB h ns id
 |none=>none
def w7 (st:St)(as:List AX)(rs:RS)(os:List (List RC))(ns:Nat)(v:zY):Option (RL (rs.cells++os.flatten)):=
 match Ng as st.t 0 0 with
 |none=>none
 |some io=>match rs.get v with
  |none=>none
  |some cs=>match T9 st.h ns cs with
   |none=>none
   |some nw=>match Dx st.h os (io++nw) with
    |none=>none
    | some bs => bif tx (io ++ nw) then (match gf st.h ((rs.cells++os.flatten).map RC.isFro) (cs++bs) with
     |some (cs,u)=>bif tx (wF (rs.cells++os.flatten) cs)&&ss ((rs.cells++os.flatten).map RC.lnk) (io++nw) cs then kK (qI st.h u) (rs.cells++os.flatten) cs else none
     |none=>none) else none
def IH (as:List AX)(rs:RS)(os:List (List RC))(ns:Nat){X:Type}(unpack:RL (rs.cells++os.flatten)→X)(v:zY)(st:St):Option X:=match w7 st as rs os ns v with
 |some d=>some (unpack d)
 |none=>none
def Nh (as:List AX)(rs:RS)(os:List (List RC))(ns:Nat)(dr:RS)(dt:List (List RC))(fl:Nat){X Y:Type}(up:RL (rs.cells++os.flatten)→X)(lq:RL (dr.cells++dt.flatten)→Y)(v:zY)(st:St):Option (X⊕Y):=match w7 st as rs os ns v with
 |some d=>some (.inl (up d))
 |none=>match w7 st as dr dt fl v with
  |some d=>some (.inr (lq d))
  |none=>none
def w8:List (List RC)→List zZ→List (List zZ)
 |[],_=>[]
 |o::os,cs=>cs.take o.length::w8 os (cs.drop o.length)
def vU:List (Bool×Nat)→List Nat
 |[]=>[]
 |(true,id)::l=>id::vU l
 |(false,_)::l=>vU l
def Ni:List (Bool×Nat)→List Nat
 |[]=>[]
 |(true,_)::l=>Ni l
 |(false,id)::l=>id::Ni l
def Dy:List Nat→List (List zZ)→vG
 |id::ids,cs::css=>(id,.box true cs)::Dy ids css
 |_,_=>[]
def pN (ids:List Nat):vG:=ids.map fun id=>(id,.gone)
def vFs (nm:Nat)(rs:RS)(os:List (List RC))(ids:List Nat)(d:RL (rs.cells++os.flatten)):zY×vG:=
 let r:=oM nm (rs.cells++os.flatten) d;let cs:=AQ ((rs.cells++os.flatten).map RC.lnk) ids r.1
 (rs.mk (cs.take rs.cells.length),r.2++Dy ids (w8 os (cs.drop rs.cells.length)))
def Ua (a b:List Nat):Bool:=a.all fun x=> !b.any (Nat.beq x)
def w9 (h:Hp):AX→zY→Option (zY×vG)
 |.c (.p p),.c x=>match gf h [p.isKept] [x] with
  |some ([x],u)=>some (.c x,u)
  |_=>none
 |.agg l,.agg xs=>match gf h (l.map PC.isKept) xs with
  |some (xs,u)=>some (.agg xs,u)
  |none=>none
 |_,a=>some (a,[])
def su (h:Hp):List AX→List zY→Option (List zY×vG)
 |s::l,a::as=>match w9 h s a,su h l as with
  |some (a,u),some (as,us)=>some (a::as,u++us)
  |_,_=>none
 |_,as=>some (as,[])
def AU as (nm n:Nat)(args:List zY)(h:Hp):Option (vG×List Nat×List Nat×XD as):=
 match su h as args with
 |none=>none
 |some (args,u)=>match kL (qI h u) as args with
  |none=>none
  |some (cs,bs)=>match pM (qI h u) (as.flatMap AX.cells) cs with
   |none=>none
   |some d=>
    let rows:=jM (as.flatMap AX.cells) cs;let aq:=vU bs++rows
    bif wq h nm n&&Nat.ble n 100&&Nat.ble bs.length wR&&tx aq&&Ua aq (ID (as.flatMap AX.cells) cs)&&Ua aq (Ni bs)&&ss ((as.flatMap AX.cells).map XC.lnk) (bs.map (·.2)) cs then
     some (u,vU bs,rows,d)
    else none
def II (u:vG)(io rows:List Nat)(rs:RS)(os:List (List RC))(ns nm:Nat)(d:RL (rs.cells++os.flatten)):zY×vG:=
 let r:=vFs nm rs os (io++lT (nm+(rs.cells++os.flatten).length) ns) d
 (r.1,u++(pN rows++r.2))
def sv as (rs:RS)(os:List (List RC))(ns:Nat){X}(S:XD as→Option X)(pack:X→RL (rs.cells++os.flatten))(nm:Nat)(args:List zY)(h:Hp):yT:=
 match AU as nm ((rs.cells++os.flatten).length+ns) args h with
 |none=>.stuck
 |some (u,io,rows,d)=>.call X (S d) fun r=>II u io rows rs os ns nm (pack r)
def ue as (rs:RS)(os:List (List RC))(ns:Nat)(dr:RS)(dt:List (List RC))(fl:Nat){X Y}(S:XD as→Option (X⊕Y))(pk:X→RL (rs.cells++os.flatten))(iG:Y→RL (dr.cells++dt.flatten))(nm:Nat)(args:List zY)(h:Hp):yT:=
 match AU as nm (((rs.cells++os.flatten).length+ns)+((dr.cells++dt.flatten).length+fl)) args h with
 |none=>.stuck
 |some (u,io,rows,d)=>.call2 X Y (S d) (fun r=>II u io rows rs os ns nm (pk r)) (fun r=>II u io rows dr dt fl nm (iG r))
def lr (M:zL)(aq:List Nat)(b:Nat):Prop:=∃id∈aq,∃C,M.κ id=some C∧b∈C.fp
structure sw (M:zL) (aq:List Nat) (Ml:zL):Prop where
 H:Ml.H=M.H
 F:Ml.F=fun b=>b<M.H.size∧¬lr M aq b
 G:Ml.G=M.G
def nM (M:zL)(aq:List Nat):Prop:=∀id∈aq,∃o,M.h id=some o∧o.owned=true
theorem lr.own {M aq}(ho:nM M aq){b}(h:lr M aq b):qM M b:=by
 obtain⟨id,ao,C,hC,hb⟩:=h;obtain⟨o,h1,h2⟩:=ho id ao;exact⟨id,o,C,h1,h2,hC,hb⟩
theorem uf {M}(ok:Ok M){aq}(ho:nM M aq){b}(h:M.F b):b<M.H.size∧¬lr M aq b:=⟨ok.Flt b h,fun hh=>(ok.own b (hh.own ho)).1 h⟩
theorem yTu {M M'}(ok:Ok M){aq}(ho:nM M aq){id o}(hn:id∉aq)(hh:M'.h=yI M.h id o)(hκ:M'.κ=M.κ)(hH:M'.H=M.H)(kB:Ok M'){b}(h:M'.G b):b<M.H.size∧¬lr M aq b:=by
 have hf:=kB.GF b h;refine⟨by have:=kB.Flt b hf;simp_all,fun hd=>?_⟩;obtain⟨jd,hj,C,hC,hb⟩:=hd;obtain⟨q,h1,h2⟩:=ho jd hj;refine(kB.own b ⟨jd,q,C,?_,h2,?_,hb⟩).1 hf
 ·rw[hh,yP _ _ (by grind)];exact h1
 simp_all
theorem vC2 {M}(ok:Ok M){aq}(ho:nM M aq){c v t xs}(hn:∀id∈vP c,id∉aq)(hv:zX M c v)(h:kq M.h c=some ⟨t,xs⟩):
  qD M.H (fun b=>b<M.H.size∧¬lr M aq b) (.sl t) xs (fun _=>some v):=by
 unfold kq at h;split at h
 ·rename_i sh s ys;cases h;cases sh with
  |true=>exact vB (fun b hb=>uf ok ho (ok.GF b hb)) (by simp) _ _ _ _ (fun _ _=>rfl) hv
  |false=>exact vB (fun b hb=>uf ok ho hb) (by simp) _ _ _ _ (fun _ _=>rfl) hv
 ·rename_i id r;have pA:id∉aq:=hn id (by simp[vP]);split at h
  ·rename_i own s ys ao;cases h;cases own with
   |false=>
    obtain⟨C,hC,hO⟩:=ok.obj _ _ ao;exact vB (fun b hb=>uf ok ho (ok.GF b hb)) (by simp) _ _ _ _ (by simp) (zn hC hO hv)
   |true=>
    obtain⟨M',h1,h2,h3,h4,h5⟩:=yK5 ok ao;obtain⟨C,hC,hO⟩:=h3.obj id _ (by rw[h2];exact yO _ _ _);have:=zn hC hO (hv.ext h4.ext);exact vB (fun b hb=>yTu ok ho pA h2 h5 h1 h3 hb) (by grind) _ _ _ _ (by simp) this
  ·rename_i ver ys ao;cases r with
   |some p=>cases h
   |none=>
    cases h;obtain⟨M',h1,h2,h3,h4,h5⟩:=yJu ok ao;obtain⟨C,hC,hO⟩:=h3.obj id _ (by rw[h2];exact yO _ _ _);have:=zn (r:=none) hC hO (hv.ext h4.ext);exact vB (fun b hb=>yTu ok ho pA h2 h5 h1 h3 hb) (by grind) _ _ _ _ (by simp) this
  ·cases h
 ·rename_i id i ver;have pA:id∉aq:=hn id (by simp[vP]);split at h
  ·rename_i v' ys ao;cases fD:Nat.beq v' ver with
   |false=>rw[fD] at h;cases h
   |true=>
    rw[fD] at h;cases h;have e:v'=ver:=by simpa using fD
    subst e;obtain⟨C,hC,hO⟩:=ok.obj _ _ ao;obtain⟨C',aE,cp,_,aW⟩:=hv;rw[hC] at aE;cases aE;obtain⟨rb,rl,wg,rZ⟩:=aW hO.1;by_cases hi:i<ys.length
    ·obtain⟨B,pB,v2,k1,k2,k3,k4,k5,k6⟩:=CT hO hi;rw[wg] at k3;cases k3;rw[show ys.getD i []=ys[i] by simp[List.getD,hi]];simp only[qD];cases rb with
     |none=>
      obtain⟨rfl,h0⟩:=rZ;grind
     |some R=>
      obtain⟨a,c,rfl,h1,h2,h3⟩:=rZ;refine⟨_,_,c,rfl,rfl,h1,?_⟩;by_cases h0:ys[i].length=0
      ·simp_all
      ·have ha:a=0:=by omega
       subst ha;have hR:R∈C.fp:=by
        simp only[qB.fp,List.mem_append,List.mem_filterMap];grind
       refine .inr ⟨R,0,rfl,⟨?_,fun hd=>?_⟩,fun j hj=>?_⟩
       ·have:=k6 R rfl 0 (by omega);unfold yQ at this;grind
       ·obtain⟨jd,hj,D,hD,hb⟩:=hd;obtain⟨q,q1,q2⟩:=ho jd hj;exact ok.disj jd id q _ D C R (by grind) q1 ao q2 rfl hD hC hb hR
       ·simp only[qD,Ty.size,Nat.zero_add,Nat.mul_one,Nat.add_zero];exact by grind
    ·have:C.rows[i]? =none:=List.getElem?_eq_none (by have:=hO.2.2.2.1;omega);simp_all
  ·cases h
 ·cases h
def TrX (M:zL)(aq:List Nat)(c c':zZ):Prop:=∀v Ml,sw M aq Ml→zX M c v→zX Ml c' v
theorem vOw {M}(ok:Ok M){aq}(ho:nM M aq){p c d}(hn:∀id∈vP c,id∉aq)(h:tY M.h p c=some d):TrX M aq c (Dq p d):=by
 intro v Ml lo hv;unfold tY at h;split at h
 ·rename_i k j n;cases e:fW j k with
  |false=>simp_all
  |true=>rw[e] at h;cases h;rw[←tt e];exact hv
 ·cases h;exact hv
 ·show qD Ml.H Ml.F _ _ _;rw[lo.H,lo.F];unfold AJ at h;split at h
  ·cases h;rw[show v=.slice none 0 0 from hv];exact Iu
  ·split at h
   ·rename_i s ys hr;obtain⟨e,hx⟩:=lj h;subst e;subst hx;exact vC2 ok ho hn hv hr
   ·cases h
 ·obtain⟨e,hx⟩:=lj h;subst e;subst hx;show qD Ml.H Ml.G _ _ _;rw[lo.H,lo.G];exact hv
 ·cases h;rw[show v=.slice none 0 0 from hv];exact Iu
 ·rename_i f g;cases e:Nat.beq f g with
  |false=>simp_all
  |true=>
   have:f=g:=by simp_all
   subst this;obtain⟨cv,rfl,hc⟩:=hv;refine⟨cv,rfl,?_⟩;generalize cv.toList=l at hc;cases l with
   |nil=>trivial
   |cons _ _=>exact hc.elim
 ·exact hv
 ·exact hv
 ·cases h
def sA (M:zL)(aq:List Nat)(κ:Nat→Option qB)(c c':zZ):Prop:=∀v Ml,sw M aq Ml→Ml.κ=κ→zX M c v→zX Ml c' v
structure vWy (M:zL) (id:Nat) (o:Obj) (C:qB):Prop where
 κ:M.κ id=some C
 rep:∀Ml:zL,Ml.H=M.H→Ml.G=M.G→yX Ml o {C with ver:=0}
 own:o.owned=true
 was:∃q,M.h id=some q∧q.owned=true
theorem vU1 {M Ml}(hH:Ml.H=M.H){de C}(h:yX M (.imap de) C):yX Ml (.imap de) {C with ver:=0}:=by
 obtain⟨B,es,ck,h1,h2,h3,h4,h5⟩:=h;exact⟨B,es,ck,h1,h2,by simp_all,h4,h5⟩
theorem yHx {j l ids c cs}(h:ss (some j::l) ids (c::cs)=true):∃id,c=.ptr id 0∧ids[j]? =some id∧ss l ids cs=true:=by
 cases c with
 |ptr id off=>
  cases off with
  |zero=>
   have h:((match ids[j]? with|some k=>Nat.beq id k|none=>false)&&ss l ids cs)=true:=h;rw[Bool.and_eq_true] at h;have h1:=h.1;split at h1;all_goals simp_all
  |succ _=>cases h
 |_=>cases h
theorem Dz {M}(ok:Ok M){aq}(ho:nM M aq){κ}:∀{l cs d n ids},pM M.h l cs=some d→ss (l.map XC.lnk) ids cs=true→(∀id∈ID l cs,id∉aq)→
  (jM l cs).length=(hZ l d n).2.length∧(∀(i:Nat) id o,(jM l cs)[i]? =some id→(hZ l d n).2[i]? =some o→∃C,vWy M id o C)∧
   ((∀i id C,(jM l cs)[i]? =some id→M.κ id=some C→κ (n+i)=some {C with ver:=0})→(∀j id,ids[j]? =some id→κ j=M.κ id)→zM (sA M aq κ) cs (hZ l d n).1)
 |[],[],_,n,_,_,_,_=>⟨rfl,nofun,fun _ _=>trivial⟩
 |x::l,c::cs,d,n,ids,h,hl,hn=>by
  unfold pM at h;split at h
  ·rename_i y ys h1 h2;cases h;cases x with
   |p p=>
    have mO:∀id∈vP c,id∉aq:=fun id ao=>hn id (List.mem_append_left _ ao)
    obtain⟨k1,k2,k3⟩:=Dz ok ho (κ:=κ) (n:=n) (ids:=ids) h2 hl (fun id ao=>hn id (List.mem_append_right _ ao));exact⟨k1,k2,fun hκ hj=>⟨fun v Ml lo _ hv=>vOw ok ho mO h1 v Ml lo hv,k3 hκ hj⟩⟩
   |own t=>
    cases c with
    |osl id r=>
     cases r with
     |some _=>cases h1
     |none=>
      have h1:(match M.h id with|some (.arr true s xs)=>gW s t xs|_=>none)=some y:=h1;split at h1
      ·rename_i s xs ao;obtain⟨e,hx⟩:=lj h1;subst e;subst hx;obtain⟨C,hC,hO⟩:=ok.obj id _ ao;obtain⟨k1,k2,k3⟩:=Dz ok ho (κ:=κ) (n:=n+1) (ids:=ids) h2 hl hn;refine⟨by simp only[jM,hZ,List.length_cons,k1],fun i jd o hi lJ=>?_,fun hκ hj=>⟨fun v Ml lo hk hv=>?_,k3 (fun i jd D hi hD=>?_) hj⟩⟩
       ·cases i with
        |zero=>
         cases hi;cases lJ;refine⟨C,hC,fun Ml e1 e2=>?_,rfl,_,ao,rfl⟩;obtain⟨q1,q2,q3,q4⟩:=hO;refine⟨q1,q2,q3,?_⟩;rw[e1,e2];exact q4
        |succ i=>exact k2 i jd o hi lJ
       ·obtain⟨D,hD,hS⟩:=hv;rw[hC] at hD;cases hD;refine⟨{C with ver:=0},by rw[hk];exact hκ 0 id C rfl hC,?_⟩;rw[lo.H];exact hS
       ·have:=hκ (i+1) jd D hi hD;rw[←this];congr 1;omega
      ·cases h1
    |_=>cases h1
   |mat=>
    cases c with
    |osl id r=>
     cases r with
     |some _=>cases h1
     |none=>
      have h1:(match M.h id with|some (.mat _ xs)=>some xs|_=>none)=some y:=h1;split at h1
      ·rename_i ver xs ao;cases h1;obtain⟨C,hC,hO⟩:=ok.obj id _ ao;obtain⟨k1,k2,k3⟩:=Dz ok ho (κ:=κ) (n:=n+1) (ids:=ids) h2 hl hn;refine⟨by simp only[jM,hZ,List.length_cons,k1],fun i jd o hi lJ=>?_,fun hκ hj=>⟨fun v Ml lo hk hv=>?_,k3 (fun i jd D hi hD=>?_) hj⟩⟩
       ·cases i with
        |zero=>
         cases hi;cases lJ;refine⟨C,hC,fun Ml e1 e2=>?_,rfl,_,ao,rfl⟩;obtain⟨q1,q2⟩:=hO;refine⟨rfl,?_⟩;rw[e1];exact q2
        |succ i=>exact k2 i jd o hi lJ
       ·obtain⟨D,hD,hS⟩:=hv;rw[hC] at hD;cases hD;refine⟨{C with ver:=0},by rw[hk];exact hκ 0 id C rfl hC,?_⟩;show jC Ml.H {C with ver:=0} 0 C.len v;rw[lo.H];exact hS
       ·have:=hκ (i+1) jd D hi hD;rw[←this];congr 1;omega
      ·cases h1
    |_=>cases h1
   |map=>
    cases c with
    |map id=>
     have h1:(match M.h id with|some (.imap de)=>some de|_=>none)=some y:=h1;split at h1
     ·rename_i de ao;cases h1;obtain⟨C,hC,hO⟩:=ok.obj id _ ao;obtain⟨k1,k2,k3⟩:=Dz ok ho (κ:=κ) (n:=n+1) (ids:=ids) h2 hl hn;refine⟨by simp only[jM,hZ,List.length_cons,k1],fun i jd o hi lJ=>?_,fun hκ hj=>⟨fun v Ml lo hk hv=>?_,k3 (fun i jd D hi hD=>?_) hj⟩⟩
      ·cases i with
       |zero=>
        cases hi;cases lJ;exact⟨C,hC,fun Ml e1 e2=>vU1 e1 hO,rfl,_,ao,rfl⟩
       |succ i=>exact k2 i jd o hi lJ
      ·obtain⟨D,B,hD,hB,e⟩:=hv;rw[hC] at hD;cases hD;exact⟨{C with ver:=0},B,by rw[hk];exact hκ 0 id C rfl hC,hB,e⟩
      ·have:=hκ (i+1) jd D hi hD;rw[←this];congr 1;omega
     ·cases h1
    |_=>cases h1
   |link j=>
    obtain⟨id,rfl,ao,dM⟩:=yHx hl;obtain⟨k1,k2,k3⟩:=Dz ok ho (κ:=κ) (n:=n) (ids:=ids) h2 dM hn;refine⟨k1,k2,fun hκ hj=>⟨fun v Ml lo hk hv=>?_,k3 hκ hj⟩⟩;obtain⟨C,B,hC,hB,e⟩:=hv;exact⟨C,B,by rw[hk,hj j id ao];exact hC,hB,e⟩
  ·cases h
 |[],_::_,_,_,_,h,_,_=>by cases h
 |_::_,[],_,_,_,h,_,_=>by cases h
theorem IJ {M Ml aq}(lo:sw M aq Ml):∀{cs aP vs},zM (sA M aq Ml.κ) cs aP→zM (zX M) cs vs→zM (zX Ml) aP vs
 |[],[],[],_,_=>trivial
 |_::_,_::_,_::_,h,k=>⟨h.1 _ _ lo rfl k.1,IJ lo h.2 k.2⟩
def DA (aq:List Nat)(bs:List (Bool×Nat)):Prop:=∀b∈bs,(b.1=true→b.2∈aq)∧(b.1=false→b.2∉aq)
theorem vQ3 {M}(ok:Ok M){aq}(ho:nM M aq){io id cells}(h:Dw M.h io id=some cells)(hm:(io=true→id∈aq)∧(io=false→id∉aq)):
  ∃C B,M.κ id=some C∧C.blk=some B∧∀Ml bJ,sw M aq Ml→zM (sA M aq Ml.κ) cells bJ→yX Ml (bif io then .box true bJ else .robox bJ) C:=by
 unfold Dw at h;split at h
 ·rename_i cs ao;cases h;obtain⟨C,hC,B,vals,e,h1,h2,h3,h4,h5⟩:=ok.obj id _ ao;exact⟨C,B,hC,h1,fun Ml bJ lo ht=>⟨B,vals,e,h1,h2,by rw[lo.H];exact h3,IJ lo ht h4,by simp⟩⟩
 ·rename_i own cs ao;cases h;obtain⟨C,hC,B,vals,e,h1,h2,h3,h4,h5⟩:=ok.obj id _ ao;refine⟨C,B,hC,h1,fun Ml bJ lo ht=>⟨B,vals,e,h1,h2,by rw[lo.H];exact h3,IJ lo ht h4,?_⟩⟩;rw[lo.F];cases own with
  |false=>exact uf ok ho (ok.GF B (h5 rfl))
  |true=>
   refine⟨by grind,fun hd=>?_⟩;obtain⟨jd,hj,D,hD,hb⟩:=hd;obtain⟨q,q1,q2⟩:=ho jd hj;exact ok.disj jd id q _ D C B (by grind) q1 ao q2 rfl hD hC hb (by simp[qB.fp,h1])
 ·rename_i cs ao;cases h;obtain⟨C,hC,B,vals,e,h1,h2,h3,h4,h5⟩:=ok.obj id _ ao;refine⟨C,B,hC,h1,fun Ml bJ lo ht=>⟨B,vals,e,h1,h2,by rw[lo.H];exact h3,IJ lo ht h4,?_⟩⟩;rw[lo.F];exact uf ok ho h5
 ·cases h
def Ub (M:zL)(aq:List Nat)(bs:List (Bool×Nat))(mk:List zZ→List Obj)(cs:List zZ):Prop:=∀(Ml:zL) (aP:List zZ),sw M aq Ml→zM (sA M aq Ml.κ) cs aP→
 zM (fun(b:Bool×Nat) o=>∃C B,M.κ b.2=some C∧C.blk=some B∧yX Ml o C∧o.owned=b.1) bs (mk aP)
theorem Nj {M}(ok:Ok M){aq}(ho:nM M aq):∀{ls ids cs bs},j3 M.h ls ids=some (cs,bs)→DA aq bs→
  cs.length=(ls.flatMap (·.2)).length∧bs=(ls.map (·.1)).zip ids∧ids.length=ls.length∧Ub M aq bs (IE ls) cs
 |[],[],cs,bs,h,_=>by cases h;exact⟨rfl,rfl,rfl,fun _ _ _ _=>trivial⟩
 |(io,l)::ls,id::ids,cs,bs,h,hf=>by
  unfold j3 at h;split at h
  ·rename_i cells rest AR h1 h2;obtain⟨hl,h⟩:=wL h;cases h;have hl:cells.length=l.length:=Nat.eq_of_beq_eq_true hl;obtain⟨C,B,hC,hB,hO⟩:=vQ3 ok ho h1 (hf _ (List.mem_cons_self ..));obtain⟨k1,k2,k3,k4⟩:=Nj ok ho h2 fun b hb=>hf b (by grind)
   refine⟨by simp_all,by simp_all,by simp[k3],fun Ml aP lo ht=>?_⟩;have oO:=zM.take l.length ht;have nI:=zM.drop l.length ht;rw[←hl,List.drop_left] at nI;refine⟨⟨C,B,hC,hB,?_,?_⟩,?_⟩
   ·simp_all
   ·cases io<;>rfl
   ·rw[←hl];exact k4 Ml _ lo nI
  ·cases h
theorem IK {h}:∀{ls ids cs bs},j3 h ls ids=some (cs,bs)→bs.length=ls.length
 |[],[],_,_,e=>by cases e;rfl
 |(io,l)::ls,id::ids,cs,bs,e=>by
  unfold j3 at e;split at e
  ·rename_i cells rest AR h1 h2;obtain⟨_,e⟩:=wL e;cases e;simp[IK h2]
  ·cases e
theorem vM5 {h}{s:AX}{a cs bs}(e:s.get h a=some (cs,bs)):bs.length=s.nb:=by
 unfold AX.get at e;split at e
 ·cases e;rfl
 ·obtain⟨_,e⟩:=wL e;cases e;rfl
 ·rw[IK e];rfl
 ·obtain⟨_,e⟩:=wL e;rw[IK e];rfl
 ·split at e
  ·rw[IK e];simp[Dv,AX.nb]
  ·cases e
 ·cases e
theorem Uc {h}:∀{n id ids},IB h n id=some ids→ids.head? =some id∧ids.length=n
 |1,_,_,e=>by cases e;simp
 |n+2,id,ids,e=>by
  unfold IB at e;split at e
  ·split at e
   ·split at e
    ·rename_i l hl;cases e;exact⟨rfl,by simp[(Uc hl).2]⟩
    ·cases e
   ·cases e
  ·cases e
theorem vSc {M}(ok:Ok M){aq}(ho:nM M aq){s:AX}{a v cs bs}(hv:zV M a v)(h:s.get M.h a=some (cs,bs))(hf:DA aq bs):
  cs.length=s.cells.length∧Ub M aq bs (fun aP=>s.boxes aP) cs∧∀Ml aP n,sw M aq Ml→zM (sA M aq Ml.κ) cs aP→(∀i b,bs[i]? =some b→Ml.κ (n+i)=M.κ b.2)→zV Ml (s.mk n aP) v:=by
 unfold AX.get at h;split at h
 ·cases h;refine⟨rfl,fun Ml aP lo ht=>trivial,fun Ml aP n lo ht _=>?_⟩
  match aP,ht with
  |[c'],ht=>exact ht.1 v Ml lo rfl hv
 ·rename_i l xs;obtain⟨hl,h'⟩:=wL h;cases h';have hl:cs.length=l.length:=Nat.eq_of_beq_eq_true hl;obtain⟨vs,rfl,hx⟩:=hv;exact⟨by simp[AX.cells,hl],fun Ml aP lo ht=>trivial,fun Ml aP n lo ht _=>⟨vs,rfl,IJ lo ht hx⟩⟩
 ·rename_i io l id;obtain⟨k1,k2,k3,k4⟩:=Nj ok ho h hf;refine⟨by rw[k1];simp[AX.cells],k4,fun Ml aP n lo ht hκ=>?_⟩;obtain⟨C,B,hC,hB,e⟩:=hv;exact⟨C,B,by have:=hκ 0 (io,id) (by rw[k2];rfl);simp_all,hB,e⟩
 ·rename_i f bB g ids;obtain⟨hg,h'⟩:=wL h;have TM:f=g:=Nat.eq_of_beq_eq_true hg;subst TM;obtain⟨k1,k2,k3,k4⟩:=Nj ok ho h' hf;refine⟨by rw[k1];rfl,k4,fun Ml aP n lo ht hκ=>?_⟩;obtain⟨cv,rfl,hc⟩:=hv;refine⟨cv,rfl,?_⟩;have l2:=hc.length;refine zM.of_get (by simp_all) fun i h1 h2=>?_
  have hi:i<ids.length:=by omega
  obtain⟨C,B,q1,q2,q3⟩:=hc.get i hi h2;have hb:bs[i]? =some ((bB.map (·.1))[i]'(by simp at h1⊢;omega),ids[i]):=by
   grind
  grind
 ·rename_i ls id;split at h
  ·rename_i ids lP;obtain⟨k1,k2,k3,k4⟩:=Nj ok ho h hf;refine⟨by rw[k1];simp[AX.cells,Dv,List.flatMap_map],k4,fun Ml aP n lo ht hκ=>?_⟩;obtain⟨C,B,hC,hB,e⟩:=hv;have hb:bs[0]? =some (true,id):=by
    obtain⟨h1,h2⟩:=Uc lP;rw[k2];cases ids with
    |nil=>cases h1
    |cons i ids=>
     cases h1;cases ls with
     |nil=>cases k3
     |cons l ls=>rfl
   exact⟨C,B,by grind,hB,e⟩
  ·cases h
 ·cases h
theorem yXs {M}(ok:Ok M){aq}(ho:nM M aq):∀{l as vs cs bs},zM (zV M) as vs→kL M.h l as=some (cs,bs)→DA aq bs→
  cs.length=(l.flatMap AX.cells).length∧(∀n,Ub M aq bs (fun aP=>(AT l aP n).2) cs)∧
   ∀Ml aP n,sw M aq Ml→zM (sA M aq Ml.κ) cs aP→(∀i b,bs[i]? =some b→Ml.κ (n+i)=M.κ b.2)→zM (zV Ml) (AT l aP n).1 vs
 |[],[],[],cs,bs,_,h,_=>by cases h;exact⟨rfl,fun _ _ _ _ _=>trivial,fun _ _ _ _ _ _=>trivial⟩
 |s::l,a::as,v::vs,cs,bs,hv,h,hf=>by
  unfold kL at h;split at h
  ·rename_i mJ bs1 cs2 bs2 h1 h2;cases h;have hf1:DA aq bs1:=fun b hb=>hf b (by grind)
   have hf2:DA aq bs2:=fun b hb=>hf b (by grind)
   obtain⟨k1,k2,k3⟩:=vSc ok ho hv.1 h1 hf1;obtain⟨k4,k5,k6⟩:=yXs ok ho hv.2 h2 hf2;have cut:∀{κ:Nat→Option qB} {aP:List zZ},zM (sA M aq κ) (mJ++cs2) aP→zM (sA M aq κ) mJ (aP.take s.cells.length)∧zM (sA M aq κ) cs2 (aP.drop s.cells.length):=by
    intro κ aP ht;have oO:=zM.take s.cells.length ht;have nI:=zM.drop s.cells.length ht;simp_all
   refine⟨by simp_all,fun n Ml aP lo ht=>?_,fun Ml aP n lo ht hκ=>?_⟩
   ·obtain⟨oO,nI⟩:=cut ht;exact(k2 Ml _ lo oO).append (k5 _ Ml _ lo nI)
   ·obtain⟨oO,nI⟩:=cut ht;have hlen:=(k2 Ml _ lo oO).length;refine⟨k3 Ml _ n lo oO fun i b hb=>hκ i b ?_,k6 Ml _ _ lo nI fun i b hb=>?_⟩
    ·grind
    ·have:=hκ (bs1.length+i) b (by grind);grind
  ·cases h
def κX (M : zL) (bs : List (Bool × Nat)) (rows : List Nat) : Nat → Option qB := fun n => bif Nat.ble wR n then (match rows[n-wR]? with
  |some id=>(M.κ id).map fun C=>{C with ver:=0}
  |none=>none)
 else (match bs[n]? with
  |some b=>M.κ b.2
  |none=>none)
theorem AV:∀{bs} {i id:Nat},bs[i]? =some (true,id)→id∈vU bs
 |(true,a)::bs,0,id,h=>by cases h;exact List.mem_cons_self ..
 |(true,a)::bs,i+1,id,h=>List.mem_cons_of_mem _ (AV (bs:=bs) (i:=i) h)
 |(false,a)::bs,i+1,id,h=>AV (bs:=bs) (i:=i) h
theorem Ud:∀{bs} {i j id:Nat},(vU bs).Nodup→bs[i]? =some (true,id)→bs[j]? =some (true,id)→i=j
 |(true,a)::bs,0,0,id,_,_,_=>rfl
 |(true,a)::bs,0,j+1,id,hn,h,k=>by
  cases h;exact absurd (AV (bs:=bs) (i:=j) k) (List.nodup_cons.1 hn).1
 |(true,a)::bs,i+1,0,id,hn,h,k=>by
  cases k;exact absurd (AV (bs:=bs) (i:=i) h) (List.nodup_cons.1 hn).1
 |(true,a)::bs,i+1,j+1,id,hn,h,k=>by rw[Ud (bs:=bs) (List.nodup_cons.1 hn).2 h k]
 |(false,a)::bs,i+1,j+1,id,hn,h,k=>by rw[Ud (bs:=bs) hn h k]
theorem vZy {M}(ok:Ok M){l as vs cs bs}{d:XD l}(hv:zM (zV M) as vs)(hg:kL M.h l as=some (cs,bs))(hd:pM M.h (l.flatMap AX.cells) cs=some d)
  (dF:(vU bs++jM (l.flatMap AX.cells) cs).Nodup) (se:∀id∈ID (l.flatMap AX.cells) cs,id∉vU bs++jM (l.flatMap AX.cells) cs) (ug:∀id∈Ni bs,id∉vU bs++jM (l.flatMap AX.cells) cs) (hlen:bs.length≤wR) (uh:ss ((l.flatMap AX.cells).map XC.lnk) (bs.map (·.2)) cs=true) (ho:nM M (vU bs++jM (l.flatMap AX.cells) cs)):
  ∃Ml:zL,sw M (vU bs++jM (l.flatMap AX.cells) cs) Ml∧Ml.h=(kM l d).2∧Ok Ml∧(∀b,qM Ml b→lr M (vU bs++jM (l.flatMap AX.cells) cs) b)∧zM (zV Ml) (kM l d).1 vs∧Ml.κ=κX M bs (jM (l.flatMap AX.cells) cs):=by
 generalize ic:vU bs++jM (l.flatMap AX.cells) cs=aq at*
 have xa:DA aq bs:=by
  intro b hb;obtain⟨i,hi,rfl⟩:=List.getElem_of_mem hb;have HK:bs[i]? =some bs[i]:=List.getElem?_eq_getElem hi;refine⟨fun e=>?_,fun e=>?_⟩
  ·rw[←ic];have:bs[i]? =some (true,bs[i].2):=by rw[HK,←e]
   exact List.mem_append_left _ (AV this)
  ·apply ug;clear hg hd dF se ug hlen ho ic hv uh
   induction bs generalizing i with
   |nil=>exact absurd hi (Nat.not_lt_zero i)
   |cons c bs ih=>
    obtain⟨io,a⟩:=c;cases i with
    |zero=>cases io<;>first|exact List.mem_cons_self .. |cases e
    |succ i=>cases io<;>first|exact List.mem_cons_of_mem _ (by grind)|exact ih i (by simpa using hi) (List.getElem_mem _) (List.getElem?_eq_getElem _) e
 let κ:=κX M bs (jM (l.flatMap AX.cells) cs);obtain⟨k1,k2,k3⟩:=Dz ok ho (κ:=κ) (n:=wR) (ids:=bs.map (·.2)) hd uh se;have ht : zM (sA M aq κ) cs (hZ (l.flatMap AX.cells) d wR).1 := k3 (fun i id C hi hC=>by
  show κX M bs _ (wR+i)=_;unfold κX;rw[Nat.ble_eq_true_of_le (Nat.le_add_right _ _),show wR+i-wR=i by omega,hi];simp[hC]) fun j id hj=>by
  rw[List.getElem?_map] at hj;obtain⟨b,hb,rfl⟩:=Option.map_eq_some_iff.1 hj;have hi:j<bs.length:=by grind
  show κX M bs _ j=_;unfold κX;have:Nat.ble wR j=false:=by
   cases h:Nat.ble wR j with
   |false=>rfl
   |true=>have:=Nat.le_of_ble_eq_true h;omega
  rw[this,hb];rfl
 obtain⟨a1,a2,a3⟩:=yXs ok ho hv hg xa;let Ml:zL:={κ:=κ,F:=fun b=>b<M.H.size∧¬lr M aq b,G:=M.G,h:=(kM l d).2,H:=M.H};have lo:sw M aq Ml:=⟨rfl,rfl,rfl⟩;have AW:=a2 0 Ml _ lo ht;have hκbox:∀i b,bs[i]? =some b→Ml.κ (0+i)=M.κ b.2:=fun i b hb=>by
  have hi:i<bs.length:=by grind
  show κX M bs _ (0+i)=_;unfold κX;have:Nat.ble wR (0+i)=false:=by
   cases h:Nat.ble wR (0+i) with
   |false=>rfl
   |true=>have:=Nat.le_of_ble_eq_true h;omega
  rw[this,Nat.zero_add,hb];rfl
 have lU:∀id o,Ml.h id=some o→∃jd C,Ml.κ id=some C∧yX Ml o C∧(o.owned=true→jd∈aq∧∃D,M.κ jd=some D∧D.fp=C.fp)∧
   ((Nat.ble wR id=true∧(jM (l.flatMap AX.cells) cs)[id-wR]? =some jd)∨(Nat.ble wR id=false∧∃io,bs[id]? =some (io,jd)∧o.owned=io)):=by
  intro id o h;have h:IF (AT l (hZ (l.flatMap AX.cells) d wR).1 0).2 (hZ (l.flatMap AX.cells) d wR).2 id=some o:=h;unfold IF at h;cases hb:Nat.ble wR id with
  |true=>
   rw[hb] at h;have h:(hZ (l.flatMap AX.cells) d wR).2[id-wR]? =some o:=h;have hi:=(List.getElem?_eq_some_iff.1 h).1;have hj:(jM (l.flatMap AX.cells) cs)[id-wR]? =some ((jM (l.flatMap AX.cells) cs)[id-wR]'(by omega)):=by simp
   obtain⟨C,hR⟩:=k2 _ _ _ hj h;refine⟨_,{C with ver:=0},?_,hR.rep Ml rfl rfl,fun _=>⟨?_,C,hR.κ,rfl⟩,.inl ⟨rfl,hj⟩⟩
   ·show κX M bs _ id=_;unfold κX;rw[hb,hj];simp[hR.κ]
   ·rw[←ic];exact by simp
  |false=>
   rw[hb] at h;have hi:=(List.getElem?_eq_some_iff.1 h).1;have Ue:id<bs.length:=by rw[AW.length];exact hi
   have hq:=AW.get id Ue hi;rw[List.getElem?_eq_getElem hi] at h;cases h;obtain⟨C,B,q1,q2,q3,q4⟩:=hq;have HK:bs[id]? =some bs[id]:=List.getElem?_eq_getElem Ue;refine⟨bs[id].2,C,?_,q3,fun e=>⟨(xa _ (List.getElem_mem Ue)).1 (by rw[←q4];exact e),C,q1,rfl⟩,by grind⟩;have:=hκbox id _ HK;rw[Nat.zero_add] at this;rw[this];exact q1
 have aM:∀b,qM Ml b→lr M aq b:=fun b ⟨id,o,C,h1,h2,h3,h4⟩=>by
  obtain⟨jd,C',q1,_,q3,_⟩:=lU id o h1;rw[h3] at q1;cases q1;obtain⟨p1,D,p2,p3⟩:=q3 h2;exact⟨jd,p1,D,p2,by rw[p3];exact h4⟩
 refine⟨Ml,lo,rfl,⟨fun id o h=>?_,fun id h=>?_,fun i j oi oj Ci Cj b oz h1 h2 h3 h4 h5 h6 h7 h8=>?_,fun b hb=>⟨fun hf=>hf.2 (aM b hb),(ok.own b ((aM b hb).own ho)).2⟩,fun b hb=>uf ok ho (ok.GF b hb),fun b hb=>hb.1⟩,aM,a3 Ml _ 0 lo ht hκbox,rfl⟩
 ·obtain⟨jd,C,q1,q2,_⟩:=lU id o h;exact⟨C,q1,q2⟩
 ·have h:IF (AT l (hZ (l.flatMap AX.cells) d wR).1 0).2 (hZ (l.flatMap AX.cells) d wR).2 id=none:=h;unfold IF at h;show κX M bs _ id=none;unfold κX;cases hb:Nat.ble wR id with
  |true=>
   rw[hb] at h;have h:(hZ (l.flatMap AX.cells) d wR).2[id-wR]? =none:=h;rw[List.getElem?_eq_none_iff,←k1] at h;rw[List.getElem?_eq_none h];rfl
  |false=>
   rw[hb] at h;have h:(AT l (hZ (l.flatMap AX.cells) d wR).1 0).2[id]? =none:=h;rw[List.getElem?_eq_none_iff,←AW.length] at h;rw[List.getElem?_eq_none h];rfl
 ·obtain⟨ji,Ci',p1,_,p3,p4⟩:=lU i oi h1;obtain⟨jj,Cj',q1,_,q3,q4⟩:=lU j oj h2;rw[h5] at p1;cases p1;rw[h6] at q1;cases q1;obtain⟨p5,Di,p6,p7⟩:=p3 h3;obtain⟨q5,Dj,q6,q7⟩:=q3 h4;obtain⟨oi',r1,r2⟩:=ho ji p5;obtain⟨oj',r3,r4⟩:=ho jj q5;refine ok.disj ji jj oi' oj' Di Dj b (fun e=>?_) r1 r3 r2 r4 p6 q6 (by rw[p7];exact h7) (by rw[q7];exact h8);subst e;rw[←ic] at dF;obtain⟨n1,n2,n3⟩:=List.nodup_append.1 dF;rcases p4 with⟨p8,p9⟩|⟨p8,io,p9,ui⟩<;>rcases q4 with⟨q8,q9⟩|⟨q8,io',q9,Nk⟩
  ·have:=(List.getElem?_inj (by grind) n2).1 (p9.trans q9.symm);have e1:=Nat.le_of_ble_eq_true p8;have e2:=Nat.le_of_ble_eq_true q8;exact oz (by omega)
  ·rw[h4] at Nk;subst Nk;exact n3 _ (AV q9) _ (List.mem_of_getElem? p9) rfl
  ·rw[h3] at ui;subst ui;exact n3 _ (AV p9) _ (List.mem_of_getElem? q9) rfl
  ·rw[h3] at ui;rw[h4] at Nk;subst ui;subst Nk;exact oz (Ud n1 p9 q9)
theorem xc {n}:∀{ids h},qI h (pN ids) n=if n∈ids then some .gone else h n
 |[],_=>by rfl
 |id::ids,h=>by
  show qI (yI h id .gone) (pN ids) n=_;rw[xc (ids:=ids)];by_cases e:n=id
  ·subst e;simp[yO]
  ·rw[yP _ _ e];simp[e]
def zL.overX (M L:zL)(aq:List Nat):zL:={κ:=M.κ,F:=fun b=>M.F b∨L.G b,G:=L.G,h:=qI M.h (pN aq),H:=L.H}
theorem zL.overX_ok {M Ml L aq}(ok:Ok M)(iF:Ok L)(lo:sw M aq Ml)(ho:nM M aq)(hand:∀b,qM Ml b→lr M aq b)(g:j0 Ml L):
  Ok (M.overX L aq)∧vA M (M.overX L aq)∧(∀b,qM (M.overX L aq) b→qM M b∧¬lr M aq b):=by
 have cT:∀b,b<M.H.size→¬lr M aq b→L.H[b]? =M.H[b]? :=fun b hb hn=>by rw[g.same b (by rw[lo.F];simp_all),lo.H]
 have dV:M.H.size≤L.H.size:=by have:=g.size;rw[lo.H] at this;exact this
 have hG:∀b,L.G b→b<M.H.size→M.G b∨lr M aq b:=fun b hb hs=>by
  rcases g.Gb b hb (by rw[lo.H];exact hs) with h|h
  ·rw[lo.G] at h;simp_all
  simp_all
 have hsF:∀b,M.F b→L.H[b]? =M.H[b]? :=fun b h=>cT b (uf ok ho h).1 (uf ok ho h).2
 have x:yN M (M.overX L aq):=⟨fun id C h=>⟨C,h,C.le_refl⟩,fun b h=>.inl h,fun b h=>g.G b (by rw[lo.G];exact h),fun b h=>hsF b h,fun b h=>hsF b (ok.GF b h),fun b h=>by
  have:=g.bsz b (by rw[lo.H];exact h);rw[lo.H] at this;exact this⟩
 have lU:∀id o,(M.overX L aq).h id=some o→o.owned=true→id∉aq∧M.h id=some o:=fun id o h iE=>by
  have h:qI M.h (pN aq) id=some o:=h;rw[xc] at h;by_cases hm:id∈aq
  ·rw[if_pos hm] at h;cases h;cases iE
  simp_all
 have Uf:∀id o C,id∉aq→M.h id=some o→o.owned=true→M.κ id=some C→∀b∈C.fp,¬lr M aq b:=fun id o C hm h iE hC b hb ⟨jd,hj,D,hD,TQ⟩=>by
  obtain⟨q,q1,q2⟩:=ho jd hj;exact ok.disj id jd o q C D b (by grind) h q1 iE q2 hC hD hb TQ
 have aM:∀b,qM (M.overX L aq) b→qM M b∧¬lr M aq b:=fun b ⟨id,o,C,h1,h2,h3,h4⟩=>by
  obtain⟨k1,k2⟩:=lU id o h1 h2;exact⟨⟨id,o,C,k2,h2,h3,h4⟩,Uf id o C k1 k2 h2 h3 b h4⟩
 refine⟨⟨fun id o h=>?_,fun id h=>?_,fun i j oi oj Ci Cj b oz h1 h2 h3 h4 h5 h6 h7 h8=>?_,fun b h=>⟨fun hf=>?_,?_⟩,fun b h=>.inr h,fun b h=>?_⟩,⟨x,dV,fun b hb hn=>cT b hb fun hh=>hn (hh.own ho),by grind,fun b h hs=>?_,fun b h hs=>?_⟩,aM⟩
 ·have h:qI M.h (pN aq) id=some o:=h;rw[xc] at h;by_cases hm:id∈aq
  ·rw[if_pos hm] at h;cases h;obtain⟨q,q1,q2⟩:=ho id hm;obtain⟨C,hC,_⟩:=ok.obj id q q1;exact⟨C,hC,trivial⟩
  ·rw[if_neg hm] at h;obtain⟨C,hC,hO⟩:=ok.obj id o h;exact⟨C,hC,hO.ext x fun iE b hb=>cT b (ok.own b ⟨id,o,C,h,iE,hC,hb⟩).2 (by grind)⟩
 ·have h:qI M.h (pN aq) id=none:=h;rw[xc] at h;by_cases hm:id∈aq
  ·simp_all
  ·rw[if_neg hm] at h;exact ok.non id h
 ·exact ok.disj i j oi oj Ci Cj b oz (lU i oi h1 h3).2 (by grind) h3 h4 h5 h6 h7 h8
 ·obtain⟨k1,k2⟩:=aM b h;have:=ok.own b k1;rcases hf with hf|hf
  ·simp_all
  ·rcases hG b hf this.2 with h|h
   ·exact this.1 (ok.GF b h)
   simp_all
 ·have h1:=(ok.own b (aM b h).1).2;show b<L.H.size;omega
 ·show b<L.H.size;rcases h with h|h
  ·have:=ok.Flt b h;omega
  ·exact iF.Flt b (iF.GF b h)
 ·rcases hG b h hs with h|h
  ·simp_all
  ·exact .inr (h.own ho)
 ·rcases h with h|h
  ·simp_all
  ·rcases hG b h hs with h|h
   ·exact .inl (ok.GF b h)
   ·exact .inr (h.own ho)
def qB.bare (C:qB):qB:={C with ver:=C.ver+1,rows:=[]}
def zL.revive (M:zL)(id:Nat)(C:qB)(cs:List zZ):zL:={M with κ:=κset M.κ id C.bare,h:=yI M.h id (.box true cs)}
theorem zL.revive_ok {M}(ok:Ok M){id C B vals e cs}(hC:M.κ id=some C)(hB:C.blk=some B)(hH:M.H[B]? =some (.cells vals e (0,0)))(hc:zM (zX M) cs vals.toList)
  (h1:¬qM M B) (h2:¬M.F B):Ok (M.revive id C cs)∧yN M (M.revive id C cs)∧(∀b,qM (M.revive id C cs) b→qM M b∨b=B):=by
 have hκ:(M.revive id C cs).κ id=some C.bare:=κset_same _ _ _;have x:yN M (M.revive id C cs):=⟨fun jd D h=>by
  by_cases e':jd=id
  ·subst e';rw[hC] at h;cases h;exact⟨_,hκ,rfl,rfl,rfl,Nat.le_succ _,fun h=>absurd h (by simp[qB.bare])⟩
  ·exact⟨D,by show κset M.κ id _ jd=_;rw[κset_ne _ _ e'];exact h,D.le_refl⟩,fun _ h=>h,fun _ h=>h,fun _ _=>rfl,fun _ _=>rfl,fun _ _=>rfl⟩
 have rM:C.bare.fp=[B]:=by simp[qB.fp,qB.bare,hB]
 have Ax:(M.revive id C cs).h id=some (.box true cs):=yO _ _ _;refine⟨Ok.build ok x (fun jd=>jd=id) (fun jd h=>yP _ _ h) (fun jd h=>κset_ne _ _ h) (fun _ _ _ _ _ _ _ _ _=>rfl) (fun jd o' D k1 k2 k3 k4 b bH=>(ok.own b ⟨jd,o',D,k2,k3,k4,bH⟩).1) (Nat.le_refl _)
  (fun jd o' e' h=>?_) (fun jd e' h=>?_) (fun jd o' D b e' k1 k2 k3 k4=>?_) ok.GF ok.Flt,x,fun b bH=>?_⟩
 ·subst e';rw[Ax] at h;cases h;exact⟨_,hκ,B,vals,e,hB,rfl,hH,hc.mono fun _ _ h=>h.ext x,by simp⟩
 ·simp_all
 ·subst e';rw[hκ] at k3;cases k3;rw[rM,List.mem_singleton] at k4;subst k4;refine⟨fun j oj Cj hj q1 q2 q3 q4=>h1 ⟨j,oj,Cj,?_,q2,?_,q4⟩,h2,(Array.getElem?_eq_some_iff.1 hH).1⟩
  ·rw[←q1];exact(yP _ _ hj).symm
  ·rw[←q3];exact(κset_ne _ _ hj).symm
 ·obtain⟨jd,o',D,k1,k2,k3,k4⟩:=bH;by_cases e':jd=id
  ·simp_all
  ·exact .inl ⟨jd,o',D,by rw[←k1];exact(yP _ _ e').symm,k2,by rw[←k3];exact(κset_ne _ _ e').symm,k4⟩
structure yH6 (M:zL) (id:Nat) (cs:List zZ) (B:Nat):Prop where
 at':∃C,M.κ id=some C∧C.blk=some B
 rep:∃vals e,M.H[B]? =some (.cells vals e (0,0))∧zM (zX M) cs vals.toList
 own:¬qM M B
 F:¬M.F B
def oS (R:Nat→List zZ→Nat→Prop):List Nat→List (List zZ)→List Nat→Prop
 |[],[],[]=>True
 |a::l,b::m,c::n=>R a b c∧oS R l m n
 |_,_,_=>False
theorem oS.mono {R S}:∀{l m n},(∀a b c,c∈n→R a b c→S a b c)→oS R l m n→oS S l m n
 |[],[],[],_,_=>trivial
 |_::_,_::_,_::_,h,k=>⟨h _ _ _ (by simp) k.1,oS.mono (by grind) k.2⟩
theorem yDx:∀{ids css Bs M},Ok M→oS (yH6 M) ids css Bs→Bs.Nodup→
  ∃M':zL,M'.H=M.H∧M'.G=M.G∧M'.F=M.F∧M'.h=qI M.h (Dy ids css)∧Ok M'∧yN M M'∧(∀b,qM M' b→qM M b∨b∈Bs)
 |[],[],[],M,ok,_,_=>⟨M,rfl,rfl,rfl,rfl,ok,.refl M,by simp⟩
 |id::ids,cs::css,B::Bs,M,ok,h,hn=>by
  obtain⟨C,hC,hB⟩:=h.1.at';obtain⟨vals,e,hH,hc⟩:=h.1.rep;obtain⟨k1,k2,k3⟩:=zL.revive_ok ok hC hB hH hc h.1.own h.1.F;obtain⟨n1,n2⟩:=List.nodup_cons.1 hn;obtain ⟨M', a1, a2, a3, a4, a5, a6, a7⟩ := yDx (M := M.revive id C cs) k1 (oS.mono (fun a b c hcB hb=>by
   refine⟨?_,?_,fun ho=>?_,hb.F⟩
   ·obtain⟨D,q1,q2⟩:=hb.at';obtain⟨D',q3,le⟩:=k2.κ _ _ q1;exact⟨D',q3,le.blk.trans q2⟩
   ·obtain⟨vals,e,q1,q2⟩:=hb.rep;exact⟨vals,e,q1,q2.mono fun _ _ h=>h.ext k2⟩
   ·rcases k3 _ ho with h|h
    ·exact hb.own h
    simp_all) h.2) n2
  exact⟨M',a1,a2,a3,a4,a5,yN.trans (M:=M) (M':=M.revive id C cs) (Nat.le_refl _) k2 a6,by grind⟩
theorem vA8:∀{ids css h h'},ids.length=css.length→(∀n,n∉ids→h n=h' n)→qI h (Dy ids css)=qI h' (Dy ids css)
 |[],[],h,h',_,e=>funext fun n=>e n (by simp)
 |id::ids,cs::css,h,h',hl,e=>vA8 (ids:=ids) (css:=css) (by simp_all) fun n hn=>by
   by_cases k:n=id
   ·subst k;rw[yO,yO]
   ·rw[yP _ _ k,yP _ _ k];simp_all
theorem vWz {h0 s a a' v u M}(ok:Ok M)(hf:jB h0 M.h)(hv:zV M a v)(h:w9 h0 s a=some (a',u)):
  ∃L:zL,L.H=M.H∧L.h=qI M.h u∧Ok L∧vA M L∧zV L a' v∧jB h0 L.h:=by
 unfold w9 at h;split at h
 ·rename_i p x;split at h
  ·rename_i y u1 e;cases h;obtain⟨L,h1,h2,h3,h4,h5,h6⟩:=wx (cs:=[x]) (vs:=[v]) ok hf ⟨hv,trivial⟩ e;exact⟨L,h1,h2,h3,h4,h5.1,h6⟩
  ·cases h
 ·split at h
  ·rename_i ys u1 e;cases h;obtain⟨vs,rfl,hx⟩:=hv;obtain⟨L,h1,h2,h3,h4,h5,h6⟩:=wx ok hf hx e;exact⟨L,h1,h2,h3,h4,⟨vs,rfl,h5⟩,h6⟩
  ·cases h
 ·cases h;exact⟨M,rfl,rfl,ok,.refl M,hv,hf⟩
theorem yIs {h0}:∀{l as eQ vs u M},Ok M→jB h0 M.h→zM (zV M) as vs→su h0 l as=some (eQ,u)→
  ∃L:zL,L.H=M.H∧L.h=qI M.h u∧Ok L∧vA M L∧zM (zV L) eQ vs∧jB h0 L.h
 |s::l,a::as,eQ,v::vs,u,M,ok,hf,hv,h=>by
  unfold su at h;split at h
  ·rename_i a1 u1 TU rO e1 e2;cases h;obtain⟨M1,h1,h2,h3,h4,h5,h6⟩:=vWz ok hf hv.1 e1;obtain⟨M2,k1,k2,k3,k4,k5,k6⟩:=yIs h3 h6 (wy.ext h4.ext hv.2) e2;exact⟨M2,k1.trans h1,by rw[k2,h2,lh],k3,h4.trans k4,⟨h5.ext k4.ext,k5⟩,k6⟩
  ·cases h
 |[],as,eQ,vs,u,M,ok,hf,hv,h=>by
  cases as<;>cases h<;>exact⟨M,rfl,rfl,ok,.refl M,hv,hf⟩
 |s::l,[],eQ,vs,u,M,ok,hf,hv,h=>by cases h;exact⟨M,rfl,rfl,ok,.refl M,hv,hf⟩
def lV (M L:zL)(id jd:Nat):Prop:=∃C D B,M.κ id=some C∧C.blk=some B∧L.κ jd=some D∧D.blk=some B
theorem Ug {M L}:∀{ls is js out} {us:List Value} {cs bs},j3 M.h ls is=some (cs,bs)→IG ls js=some out→
  zM (fun id u=>∃C B,M.κ id=some C∧C.blk=some B∧u=.pointer (some ⟨B,0,none⟩)) is us→zM (fun id u=>∃C B,L.κ id=some C∧C.blk=some B∧u=.pointer (some ⟨B,0,none⟩)) js us→zM (lV M L) (vU bs) out
 |[],[],[],out,us,cs,bs,h,k,_,_=>by cases h;cases k;exact trivial
 |(io,l)::ls,i::is,j::js,out,u::us,cs,bs,h,k,p,q=>by
  unfold j3 at h;split at h
  ·rename_i cells rest AR h1 h2;obtain⟨_,h⟩:=wL h;cases h;unfold IG at k;split at k
   ·rename_i o ho;cases k;have ih:=Ug h2 ho p.2 q.2;cases io with
    |false=>exact ih
    |true=>
     obtain⟨C,B,k1,k2,k3⟩:=p.1;obtain⟨D,B',k4,k5,k6⟩:=q.1;rw[k3] at k6;cases k6;exact⟨⟨C,D,B,k1,k2,k4,k5⟩,ih⟩
   ·cases k
  ·cases h
theorem yBa {M L}:∀{bs n},(∀q∈bs,q.1=true)→(∀i q,bs[i]? =some q→lV M L q.2 (n+i))→zM (lV M L) (vU bs) (lT n bs.length)
 |[],n,_,_=>trivial
 |(true,id)::bs,n,h,k=>⟨k 0 _ rfl,yBa (by grind) fun i q hq=>by
   have:=k (i+1) q hq;grind⟩
 |(false,id)::bs,n,h,k=>by simp_all
theorem yR2 {h}:∀{ls ids cs bs},j3 h ls ids=some (cs,bs)→bs.map (·.1)=ls.map (·.1)
 |[],[],_,_,e=>by cases e;rfl
 |(io,l)::ls,id::ids,cs,bs,e=>by
  unfold j3 at e;split at e
  ·rename_i cells rest AR h1 h2;obtain⟨_,e⟩:=wL e;cases e;simp[yR2 h2]
  ·cases e
theorem vRa {M L}{s:AX}{a b v cs bs out}(h:s.get M.h a=some (cs,bs)){n}(k:s.io n b=some out)(p:zV M a v)(q:s.looks=true→zV L b v)(hk:s.isChn=true→∀i q,bs[i]? =some q→lV M L q.2 (n+i)):zM (lV M L) (vU bs) out:=by
 unfold AX.get at h;split at h
 ·cases h;cases k;exact trivial
 ·obtain⟨_,h'⟩:=wL h;cases h';cases k;exact trivial
 ·unfold AX.io at k;split at k
  ·rename_i e;cases e
  ·rename_i e;cases e
  ·rename_i io' l' jd e;cases e;exact Ug (us:=[v]) h k ⟨p,trivial⟩ ⟨q rfl,trivial⟩
  all_goals simp_all
 ·obtain⟨hg,h'⟩:=wL h;unfold AX.io at k;split at k
  ·simp_all
  ·simp_all
  ·simp_all
  ·rename_i f' abf g' js e;cases e;obtain⟨cv,rfl,hc⟩:=p;obtain⟨cv',e',lK⟩:=q rfl;cases e';exact Ug h' k hc lK
  all_goals simp_all
 ·rename_i ls id;split at h
  ·cases k;have h1:=IK h;have h2:ls.length=bs.length:=by rw[h1];simp[Dv]
   rw[h2];exact yBa (fun q hq=>by
    have:q.1∈bs.map (·.1):=by grind
    rw[yR2 h] at this;exact(by simpa[Dv] using this:_∧_).2) (hk rfl)
  ·cases h
 ·cases h
theorem yWh {M L}:∀{l as vs t n cs bs out m},kL M.h l as=some (cs,bs)→Ng l t n m=some out→zM (zV M) as vs→(∀i h s,l[i]? =some s→s.looks=true→zV L (t (n+i)) vs[i])→(l.any AX.isChn=true→∀i q,bs[i]? =some q→lV M L q.2 (m+i))→
  zM (lV M L) (vU bs) out
 |[],[],[],t,n,cs,bs,out,m,h,k,_,_,_=>by cases h;cases k;exact trivial
 |s::l,a::as,v::vs,t,n,cs,bs,out,m,h,k,p,q,hk=>by
  unfold kL at h;split at h
  ·rename_i c1 b1 c2 b2 h1 h2;cases h;unfold Ng at k;split at k
   ·rename_i o1 o2 k1 k2;cases k;have e:∀b1 b2:List (Bool×Nat),vU (b1++b2)=vU b1++vU b2:=fun b1 b2=>by
     induction b1 with
     |nil=>rfl
     |cons x b1 ih=>obtain⟨io,y⟩:=x;cases io<;>simp[vU,ih]
    rw[e];have hnb:=vM5 h1;refine(vRa h1 k1 p.1 (q 0 (by simp) s rfl) (by grind)).append (yWh h2 k2 p.2 (fun i hi s' hs hl=>?_) fun hc i q hq=>?_)
    rotate_left
    ·have:=hk (by simp_all) (b1.length+i) q (by grind);grind
    have:=q (i+1) (by simp_all) s' (by simp_all) hl;grind
   ·cases k
  ·cases h
 |[],_::_,_,_,_,_,_,_,_,h,_,_,_,_=>by cases h
theorem vAj {L}(iF:Ok L):∀{os ids bs},Dx L.h os ids=some bs→bs.length=os.flatten.length∧ids.length=os.length∧
  ∃us:List Value,zM (zX L) bs us∧∀{M cs},M.H=L.H→zM (zX M) cs us→oS (fun id cs B=>(∃cells,L.h id=some (.box true cells))∧(∃C,L.κ id=some C∧C.blk=some B∧C.rows=[])∧∃vals e,M.H[B]? =some (.cells vals e (0,0))∧zM (zX M) cs vals.toList) ids (w8 os cs) (ids.map fun id=>((L.κ id).bind qB.blk).getD 0)
 |[],[],bs,h=>by cases h;exact⟨rfl,rfl,[],trivial,fun _ _=>trivial⟩
 |o::os,n::ns,bs,h=>by
  unfold Dx at h;split at h
  ·rename_i cells rest h1 h2;obtain⟨hl,h⟩:=wL h;cases h;obtain⟨C,hC,B,vals,e,q1,q2,q3,q4,_⟩:=iF.obj n _ h1;obtain⟨k1,k2,us,k3,k4⟩:=vAj iF h2;refine⟨by simp_all,by simp[k2],vals.toList++us,q4.append k3,fun{M cs} hH hc=>⟨⟨by grind,⟨C,hC,?_,q2⟩,vals,e,?_,?_⟩,?_⟩⟩
   ·simp_all
   ·simp_all
   ·have h1:=zM.take o.length hc;have TR:=q4.length;simp_all
   ·have h1:=zM.drop o.length hc;have TR:=q4.length;simp_all
  ·cases h
theorem vCy {h0 r c d}(h:pJ h0 r c=some d):∀id∈wF [r] [c],∀own cells,h0 id≠some (.box own cells):=by
  unfold pJ at h;split at h;all_goals (try (intro id ao;simp[wF] at ao;done))
  all_goals first
    |(done)
    | (intro Dh ao own cells hb
       have:=List.mem_singleton.1 ao;simp_all)
    |(cases h)
theorem yT5 {L}:∀{l cs d},kK L l cs=some d→∀id∈wF l cs,∀own cells,L id≠some (.box own cells)
 |r::l,c::cs,d,h,id,ao=>by
  unfold kK at h;split at h
  ·rename_i x xs e1 e2;rw[M9] at ao;rcases List.mem_append.1 ao with ao|ao
   ·exact vCy e1 id ao
   ·exact yT5 e2 id ao
  ·cases h
theorem yG7:∀a b,vU (a++b)=vU a++vU b
 |[],_=>rfl
 |(true,_)::a,b
 |(false,_)::a,b=>by simp[vU,yG7 a b]
theorem IL {h}:∀{ls is cs bs},j3 h ls is=some (cs,bs)→∀id∈vU bs,∃o,h id=some o∧o.owned=true
 |[],[],_,_,e=>by cases e;nofun
 |(io,l)::ls,i::is,cs,bs,e=>by
  unfold j3 at e;split at e
  ·rename_i cells rest AR h1 h2;obtain⟨_,e⟩:=wL e;cases e;intro id ao;cases io with
   |false=>exact IL h2 id ao
   |true=>
    rcases List.mem_cons.1 ao with rfl|ao
    ·unfold Dw at h1;split at h1
     ·rename_i c hc;exact⟨_,hc,rfl⟩
     all_goals simp_all
    ·exact IL h2 id ao
  ·cases e
theorem Uh {h}{s:AX}{a cs bs}(e:s.get h a=some (cs,bs)):∀id∈vU bs,∃o,h id=some o∧o.owned=true:=by
 unfold AX.get at e;split at e
 ·cases e;nofun
 ·obtain⟨_,e⟩:=wL e;cases e;nofun
 ·exact IL e
 ·obtain⟨_,e⟩:=wL e;exact IL e
 ·split at e
  ·exact IL e
  ·cases e
 ·cases e
theorem yAu {h}:∀{l as cs bs},kL h l as=some (cs,bs)→l.length=as.length∧∀id∈vU bs,∃o,h id=some o∧o.owned=true
 |[],[],_,_,e=>by cases e;exact⟨rfl,nofun⟩
 |s::l,a::as,cs,bs,e=>by
  unfold kL at e;split at e
  ·rename_i c1 b1 c2 b2 h1 h2;cases e;obtain⟨k1,k2⟩:=yAu h2;refine⟨by simp[k1],fun id ao=>?_⟩;rw[yG7] at ao;rcases List.mem_append.1 ao with ao|ao
   ·exact Uh h1 id ao
   simp_all
  ·cases e
theorem yEo {h}:∀{l cs d},pM h l cs=some d→∀id∈jM l cs,∃o,h id=some o∧o.owned=true
 |[],[],_,_=>nofun
 |x::l,c::cs,d,e=>by
  unfold pM at e;split at e
  ·rename_i y ys h1 h2;have ih:=yEo h2;unfold IC at h1;split at h1
   ·exact ih
   ·intro jd ao;rcases List.mem_cons.1 ao with rfl|ao
    ·split at h1
     ·rename_i s xs hs;exact⟨_,hs,rfl⟩
     ·cases h1
    ·simp_all
   ·intro jd ao;rcases List.mem_cons.1 ao with rfl|ao
    ·split at h1
     ·rename_i s xs hs;exact⟨_,hs,rfl⟩
     ·cases h1
    ·exact ih jd ao
   ·intro jd ao;rcases List.mem_cons.1 ao with rfl|ao
    ·split at h1
     ·rename_i xs hs;exact⟨_,hs,rfl⟩
     ·cases h1
    simp_all
   ·exact ih
   ·cases h1
  ·cases e
theorem yJw {a b}(h:Ua a b=true):∀id∈b,id∉a:=fun id hb ha=>by
 have h:=List.all_eq_true.1 h id ha;have:b.any (Nat.beq id)=true:=List.any_eq_true.2 ⟨id,hb,by simp⟩;simp_all
theorem yFl:∀os cs,(w8 os cs).length=os.length
 |[],_=>rfl
 |_::os,cs=>by simp[w8,yFl os]
theorem yJy {M L}{P:zL→Nat→Prop}{R}:∀{ids js css Bs},zM (lV M L) ids js→oS R js css Bs→oS (fun id cs B=>∃jd,lV M L id jd∧R jd cs B) ids css Bs
 |[],[],[],[],_,_=>trivial
 |_::_,_::_,_::_,_::_,h,k=>⟨⟨_,h.1,k.1⟩,yJy (P:=P) h.2 k.2⟩
theorem zL.gone_ok {M}(ok:Ok M){nm}(aS:M.h nm=none) C:
  Ok (M.add nm .gone C)∧yN M (M.add nm .gone C)∧(∀b,qM (M.add nm .gone C) b→qM M b):=by
 have x:yN M (M.add nm .gone C):=⟨fun id D h=>by
  have bn:id≠nm:=fun e=>by rw[e,ok.non nm aS] at h;cases h
  exact⟨D,by show κset M.κ nm _ id=_;rw[κset_ne _ _ bn];exact h,D.le_refl⟩,fun _ h=>h,fun _ h=>h,fun _ _=>rfl,fun _ _=>rfl,fun _ _=>rfl⟩
 have at':∀o,(M.add nm .gone C).h nm=some o→o=.gone:=fun o h=>by
  have e1:(M.add nm .gone C).h nm=some .gone:=yO _ _ _;simp_all
 refine⟨Ok.build ok x (fun id=>id=nm) (fun id h=>yP _ _ h) (fun id h=>κset_ne _ _ h) (fun _ _ _ _ _ _ _ _ _=>rfl) (fun id o' D h1 h2 h3 h4 b bH=>(ok.own b ⟨id,o',D,h2,h3,h4,bH⟩).1) (Nat.le_refl _)
  (fun id o' e h=>?_) (fun id e h=>?_) (fun id o' D b e h1 h2 h3 h4=>?_) ok.GF ok.Flt,x,fun b bH=>?_⟩
 ·subst e;rw[at' o' h];exact⟨_,κset_same _ _ _,trivial⟩
 ·have e1:(M.add id .gone C).h id=some .gone:=yO _ _ _;simp_all
 ·subst e;rw[at' o' h1] at h2;cases h2
 ·obtain⟨id,o',D,h1,h2,h3,h4⟩:=bH;by_cases e:id=nm
  ·subst e;rw[at' o' h1] at h2;cases h2
  ·exact⟨id,o',D,by rw[←h1];exact(yP _ _ e).symm,h2,by rw[←h3];exact(κset_ne _ _ e).symm,h4⟩
theorem yCg:∀{n nm Bs M},Ok M→(∀i,i<n→M.h (nm+i)=none)→Bs.length=n→
  ∃M':zL,M'.H=M.H∧M'.G=M.G∧M'.F=M.F∧M'.h=qI M.h (pN (lT nm n))∧Ok M'∧yN M M'∧(∀b,qM M' b→qM M b)∧zM (fun id B=>∃C,M'.κ id=some C∧C.blk=some B) (lT nm n) Bs
 |0,nm,[],M,ok,_,_=>⟨M,rfl,rfl,rfl,rfl,ok,.refl M,by simp,trivial⟩
 |n+1,nm,B::Bs,M,ok,hf,hl=>by
  obtain⟨k1,k2,k3⟩:=zL.gone_ok ok (hf 0 (by omega)) ⟨some B,0,0,0,[]⟩;obtain ⟨M', a1, a2, a3, a4, a5, a6, a7, a8⟩ := yCg (n := n) (nm := nm + 1) (Bs := Bs) k1 (fun i hi=>by
   have:=hf (i+1) (by omega);rw[show nm+1+i=nm+(i+1) by omega,←this];exact yP _ _ (by omega)) (by simp_all)
  refine⟨M',a1,a2,a3,a4,a5,yN.trans (M:=M) (M':=M.add nm .gone ⟨some B,0,0,0,[]⟩) (Nat.le_refl _) k2 a6,by grind,?_,a8⟩;obtain⟨C,h1,h2⟩:=a6.κ nm _ (κset_same _ _ _);exact⟨C,h1,h2.blk⟩
theorem Ui {L M ids js}(hs:zM (lV M L) ids js):∀{l cs ds vs},ss l js cs=true→zM (zX L) cs vs→zM (zX M) ds vs→zM (zX M) (AQ l ids ds) vs
 |[],cs,ds,vs,_,_,hd=>by exact hd
 |none::l,[],[],[],_,_,_=>trivial
 |none::l,c::cs,d::ds,v::vs,h,hc,hd=>⟨hd.1,Ui hs (l:=l) h hc.2 hd.2⟩
 |some j::l,c::cs,d::ds,v::vs,h,hc,hd=>by
  obtain⟨id,rfl,ao,h'⟩:=yHx h;refine⟨?_,Ui hs h' hc.2 hd.2⟩;have hj:=(List.getElem?_eq_some_iff.1 ao).1;have hi:j<ids.length:=by rw[hs.length];exact hj
  have:=hs.get j hi hj;rw[(List.getElem?_eq_some_iff.1 ao).2] at this;obtain⟨C,D,B,q1,q2,q3,q4⟩:=this;obtain⟨D',B',p1,p2,p3⟩:=hc.1;rw[q3] at p1;cases p1;rw[q4] at p2;cases p2;rw[List.getElem?_eq_getElem hi];exact⟨C,B,q1,q2,p3⟩
 |_,[],_::_,[],_,_,hd=>hd.elim
 |_,_::_,[],[],_,hc,_=>hc.elim
theorem vEp {h ns cs nw}(e:T9 h ns cs=some nw):nw.length=ns:=by
 unfold T9 at e;cases h0:Nat.beq ns 0 with
 |true=>simp_all
 |false=>
  rw[h0] at e;split at e
  ·exact(Uc e).2
  ·cases e
def Nl (w:World)(na:Nat)(chn:Bool)(M:zL)(vs:Array Value)(rv:Value)(w':World)(v:zY)(st:St):Prop:=
 ∃M':zL,M'.h=st.h∧M'.H=w'.heap∧Ok M'∧j0 M M'∧(chn=true→fE M M')∧zV M' v rv∧w'.os=w.os∧w'.tape=w.tape∧w'.output=w.output∧(∀t,t<na→zV M' (st.t t) (vs.getD t undef))
theorem yGm {n}:∀{l nm d hh},(∀j,j<l.length→n≠nm+j)→qI hh (oM nm l d).2 n=hh n
 |[],_,_,_,_=>rfl
 |r::l,nm,d,hh,h=>by
  show qI hh ((sg nm r d.1).2++(oM (nm+1) l d.2).2) n=_;rw[lh,yGm fun j hj=>by have:=h (j+1) (by simp_all);omega,yZo (by have:=h 0 (by simp);omega)]
theorem vVm {M}(ok:Ok M){io id cells}(h:Dw M.h io id=some cells):∃C B,M.κ id=some C∧C.blk=some B:=by
 have h':Dp M.h id=some cells:=by
  unfold Dw at h;unfold Dp;grind
 obtain⟨C,h1,B,_,_,h2,_⟩:=yWk ok h';simp_all
theorem Nm {M}(ok:Ok M):∀{ls is cs bs},j3 M.h ls is=some (cs,bs)→∀q∈bs,∃C B,M.κ q.2=some C∧C.blk=some B
 |[],[],_,_,e=>by cases e;simp
 |(io,l)::ls,i::is,cs,bs,e=>by
  unfold j3 at e;split at e
  ·rename_i cells rest AR h1 h2;obtain⟨_,e⟩:=wL e;cases e;intro q hq;rcases List.mem_cons.1 hq with rfl|hq
   ·exact vVm ok h1
   ·exact Nm ok h2 q hq
  ·cases e
theorem yX5 {M}(ok:Ok M):∀{l as cs bs},kL M.h l as=some (cs,bs)→∀q∈bs,∃C B,M.κ q.2=some C∧C.blk=some B
 |[],[],_,_,e=>by cases e;simp
 |s::l,a::as,cs,bs,e=>by
  unfold kL at e;split at e
  ·rename_i c1 b1 c2 b2 h1 h2;cases e;intro q hq;rcases List.mem_append.1 hq with hq|hq
   ·unfold AX.get at h1;split at h1
    ·simp_all
    ·grind
    ·exact Nm ok h1 q hq
    ·obtain⟨_,h1⟩:=wL h1;exact Nm ok h1 q hq
    ·split at h1
     ·exact Nm ok h1 q hq
     ·cases h1
    ·cases h1
   ·exact yX5 ok h2 q hq
  ·cases e
theorem yJt {L}(ok:Ok L):∀{os ids bs},Dx L.h os ids=some bs→∀j∈ids,∃cells C B,L.h j=some (.box true cells)∧L.κ j=some C∧C.blk=some B
 |[],[],_,_=>by simp
 |o::os,n::ns,bs,h=>by
  unfold Dx at h;split at h
  ·rename_i cells rest h1 h2;intro j hj;rcases List.mem_cons.1 hj with rfl|hj
   ·obtain⟨C,hC,B,vals,e,q1,_⟩:=ok.obj _ _ h1;simp_all
   ·exact yJt ok h2 j hj
  ·cases h
theorem yL6 {L}(ok:Ok L):∀{js:List Nat},js.Nodup→(∀j∈js,∃cells C B,L.h j=some (.box true cells)∧L.κ j=some C∧C.blk=some B)→(js.map fun id=>((L.κ id).bind qB.blk).getD 0).Nodup
 |[],_,_=>by simp
 |a::js,hn,bo=>by
  obtain⟨n1,n2⟩:=List.nodup_cons.1 hn;refine List.nodup_cons.2 ⟨fun lW=>?_,yL6 ok n2 (by grind)⟩;obtain⟨j,hj,pO⟩:=List.mem_map.1 lW;obtain⟨c1',C,B,q1,q2,q3⟩:=bo a (by simp);obtain⟨c2',D,B',q4,q5,q6⟩:=bo j (by grind);have pO:((L.κ j).bind qB.blk).getD 0=((L.κ a).bind qB.blk).getD 0:=pO;rw[q2,q5] at pO;have pO:(D.blk.getD 0)=(C.blk.getD 0):=pO;rw[q3,q6] at pO;subst pO;exact ok.disj a j _ _ C D B' (by grind) q1 q4 rfl rfl q2 q5 (by simp[qB.fp,q3]) (by simp[qB.fp,q6])
theorem yEm {na as}(kN:ud as na=true){nm n args h u0 io rows d}(he:AU as nm n args h=some (u0,io,rows,d)) M w vs (hh:M.h=h)(hH:M.H=w.heap)(ok:Ok M)(hv:zM (zV M) args vs.toList):
  ∃Ml:zL,Ml.h=(kM as d).2∧Ml.H=w.heap∧Ok Ml∧zM (zV Ml) (kM as d).1 vs.toList∧
   ∀rv w' v0 st,Nl w na (as.any AX.isChn) Ml vs rv w' v0 st→∀rs os ns dx,w7 st as rs os ns v0=some dx→(rs.cells++os.flatten).length+ns≤n→
    ∃Mf,tR M w (II u0 io rows rs os ns nm dx).2 Mf w'∧zV Mf (II u0 io rows rs os ns nm dx).1 rv:=by
 unfold AU at he;split at he
 ·cases he
 rename_i eK u AM;split at he
 ·cases he
 rename_i cs bs dJ;split at he
 ·cases he
 rename_i d' hd;dsimp only at he;obtain⟨hc,he⟩:=nH he;cases he;simp only[Bool.and_eq_true] at hc;obtain⟨⟨⟨⟨⟨⟨nN,cN⟩,dH⟩,gE⟩,mP⟩,DB⟩,DC⟩:=hc;subst hh;obtain⟨M1,a1,a2,a3,a4,a5,a6⟩:=yIs ok (jB.refl _) hv AM;rw[←a2] at hd dJ;obtain⟨abg,wj⟩:=yAu dJ;have aW:=yEo hd;have ee:nM M1 (vU bs++jM (as.flatMap AX.cells) cs):=fun id ao=>(List.mem_append.1 ao).elim (wj id) (aW id)
 have Uj:=Dc gE;obtain⟨Ml,lo,b2,b3,b4,b5,b6⟩:=vZy a3 a5 dJ hd Uj (yJw mP) (yJw DB) (Nat.le_of_ble_eq_true dH) DC ee;generalize ic:vU bs++jM (as.flatMap AX.cells) cs=aq at*
 refine⟨Ml,b2,by rw[lo.H,a1];exact hH,b3,b5,fun rv w' v0 st ⟨L0,c1,c2,c3,c4,ck,c5,c6,c7,c8,c9⟩ rs os ns dx hK hn=>?_⟩;unfold w7 at hK;split at hK
 ·cases hK
 rename_i Uk lP;split at hK
 ·cases hK
 rename_i ccs nJ;split at hK
 ·cases hK
 rename_i nw hnw;split at hK
 ·cases hK
 rename_i bcs uj;obtain⟨IM,Nn⟩:=nH hK;clear hK;split at Nn
 case h_2=>cases Nn
 rename_i aP u1 AO;obtain⟨dF,hK⟩:=nH Nn;clear Nn;rw[Bool.and_eq_true] at dF;obtain⟨dF,IN⟩:=dF;have Ul:=vEp hnw;obtain⟨hlen,us,d1,d2⟩:=yO0 nJ c5;rw[←c1] at AO hK uj;obtain⟨js,wa⟩:∃js,js=Uk++nw:=⟨_,rfl⟩;rw[←wa] at uj IM IN;obtain⟨k1,k2,No,k3,k4⟩:=vAj c3 uj;obtain⟨L,e1,e2,e3,e4,e5,e6⟩:=wx c3 (jB.refl _) (d1.append k3) AO;rw[←e2] at hK;have g:j0 Ml L:=c4.trans e4.grow;obtain⟨f1,f2,f3⟩:=zL.overX_ok a3 e3 lo ee b4 g;have cT : zM (lV M1 L0) (vU bs) Uk := yWh dJ lP a5 (fun i hi s hs uh=>by
  have bI:i<vs.size:=by simpa using hi
  have bj:i<na:=by
   have:=List.all_eq_true.1 kN (s,i) (List.mk_mem_zipIdx_iff_getElem?.2 hs);simp only[uh,Bool.not_true,Bool.false_or] at this;exact Sd this
  have:=c9 i bj;rw[Nat.zero_add];have e:vs.getD i undef=vs.toList[i]:=by simp[bI]
  rw[←e];exact this) fun mQ i q hq=>by
   obtain⟨C,B,p1,p2⟩:=yX5 a3 dJ q (List.mem_of_getElem? hq);have hi:i<bs.length:=(List.getElem?_eq_some_iff.1 hq).1;have hκ:Ml.κ i=some C:=by
    rw[b6];unfold κX;have:Nat.ble wR i=false:=by
     cases h:Nat.ble wR i with
     |false=>rfl
     |true=>have h1:=Nat.le_of_ble_eq_true h;have h2:=Nat.le_of_ble_eq_true dH;omega
    rw[this,hq];exact p1
   obtain⟨C',p3,p4⟩:=ck mQ i C hκ;rw[Nat.zero_add];exact⟨C,C',B,p1,p2,p3,p4.trans p2⟩
 have pP:∀i,i<n→(M1.overX L aq).h (nm+i)=none:=fun i hi=>by
  have h1:=TO nN i hi;have h2:M1.h (nm+i)=none:=by
   rw[a2];rcases a6 (nm+i) with h|⟨own,t,xs,h,_⟩|⟨ver,xs,h,_⟩
   ·rw[a2] at h;rw[h];exact h1
   ·rw[h1] at h;cases h
   ·rw[h1] at h;cases h
  show qI M1.h (pN aq) (nm+i)=none;rw[xc,if_neg,h2];intro lW;obtain⟨o,ho,_⟩:=ee _ lW;rw[h2] at ho;cases ho
 have pK:∀i,i<(rs.cells++os.flatten).length→(M1.overX L aq).h (nm+i)=none:=fun i hi=>pP i (by omega)
 have uk:∀b,qM L b→b<M1.H.size→lr M1 aq b:=fun b hb bj=>b4 b (g.own b hb (by rw[lo.H];exact bj))
 have xd:∀b,qM L b→¬(M1.overX L aq).F b:=fun b hb h=>by
  rcases h with h|h
  ·exact(uf a3 ee h).2 (uk b hb (a3.Flt b h))
  ·exact(e3.own b hb).1 (e3.GF b h)
 have xe:∀b,qM L b→¬qM (M1.overX L aq) b:=fun b hb h=>by
  obtain⟨q1,q2⟩:=f3 b h;exact q2 (uk b hb (a3.own b q1).2)
 obtain ⟨Mc, g1, g2, g3, g4, g5, g6, g7, g8⟩ := TP e3 f1 ⟨rfl, rfl⟩ pK hK (Dc dF) (wz hK) (fun id ao C hC b hb=>by
  obtain⟨o,ho,iE⟩:=wz hK id ao;have aM:qM L b:=⟨id,o,C,ho,iE,hC,hb⟩;exact⟨xe b aM,xd b aM,(e3.own b aM).2⟩)
 obtain ⟨Mg, n1, n2, n3, n4, n5, n6, n7, n8⟩ := yCg (n := ns) (nm := nm + (rs.cells ++ os.flatten).length) (Bs := nw.map fun id => ((L0.κ id).bind qB.blk).getD 0) g5 (fun i hi=>by
  rw[g4,yGm (fun j hj=>by omega),Nat.add_assoc];exact pP _ (by omega)) (by simp[Ul])
 have pQ:∀j∈js,∃cells C B,L0.h j=some (.box true cells)∧L0.κ j=some C∧C.blk=some B:=yJt c3 uj;have Np:yN M1 Mg:=(f2.ext.trans f2.size g6).trans (by rw[g1];exact f2.size) n6;have Dg:zM (lV Mg L0) (vU bs) Uk:=cT.mono fun id jd hq=>by
  obtain⟨C,D,B,q1,q2,q3,q4⟩:=hq;obtain⟨C',p3,le⟩:=Np.κ id C q1;exact⟨C',D,B,p3,le.blk.trans q2,q3,q4⟩
 have DD:zM (lV Mg L0) (lT (nm+(rs.cells++os.flatten).length) ns) nw:=by
  have hl8:=n8.length;rw[List.length_map] at hl8;refine zM.of_get hl8 fun i h1 h2=>?_
  obtain⟨C,q1,q2⟩:=n8.get i h1 (by simpa using h2);obtain⟨cells,D,B,p1,p2,p3⟩:=pQ nw[i] (by rw[wa];exact List.mem_append_right _ (List.getElem_mem _));refine⟨C,D,B,q1,?_,p2,p3⟩;rw[q2,List.getElem_map,p2];show some (D.blk.getD 0)=_;rw[p3];rfl
 have lX:zM (lV Mg L0) (vU bs++lT (nm+(rs.cells++os.flatten).length) ns) js:=by
  rw[wa];exact Dg.append DD
 have um:zM (lV Mg L) (vU bs++lT (nm+(rs.cells++os.flatten).length) ns) js:=lX.mono fun id jd hq=>by
  obtain⟨C,D,B,q1,q2,q3,q4⟩:=hq;obtain⟨D',p3,le⟩:=e4.ext.κ jd D q3;exact⟨C,D',B,q1,q2,p3,le.blk.trans q4⟩
 have AY:=Ui um IN e5 ((g8 _ e5).mono fun _ _ h=>h.ext n6);obtain⟨G,hG⟩:∃G,G=AQ ((rs.cells++os.flatten).map RC.lnk) (vU bs++lT (nm+(rs.cells++os.flatten).length) ns) (oM nm (rs.cells++os.flatten) dx).1:=⟨_,rfl⟩;rw[←hG] at AY;have C4:us.length=rs.cells.length:=by rw[←d1.length,hlen]
 have hgr:zM (zX Mg) (G.take rs.cells.length) us:=by
  have:=zM.take rs.cells.length AY
  rwa [show(us++No).take rs.cells.length=us from by rw[←C4,List.take_left]] at this
 have hgb:zM (zX Mg) (G.drop rs.cells.length) No:=by
  have:=zM.drop rs.cells.length AY
  rwa [show(us++No).drop rs.cells.length=No from by rw[←C4,List.drop_left]] at this
 have hHc:Mg.H=L0.H:=by rw[n1,g1];exact e1
 have IP:=yJy (P:=fun _ _=>True) lX (k4 hHc hgb);have xf:∀jd B,(∃cells,L0.h jd=some (.box true cells))→(∃C,L0.κ jd=some C∧C.blk=some B)→∃cells C,L.h jd=some (.box true cells)∧L.κ jd=some C∧B∈C.fp:=fun jd B ⟨cells,q1⟩ ⟨C,q2,q3⟩=>by
  obtain⟨C',q4,le⟩:=e4.ext.κ jd C q2;refine⟨cells,C',?_,q4,?_⟩
  ·rcases e6 jd with h|⟨own,t,xs,h,_⟩|⟨ver,xs,h,_⟩
   ·rw[h,q1]
   ·rw[q1] at h;cases h
   ·rw[q1] at h;cases h
  ·have:C'.blk=some B:=le.blk.trans q3;simp[qB.fp,this]
 have IQ:∀b,b∈(js.map fun id=>((L0.κ id).bind qB.blk).getD 0)→qM L b:=fun b hb=>by
  obtain⟨j,hj,rfl⟩:=List.mem_map.1 hb;obtain⟨cells,C,B,q1,q2,q3⟩:=pQ j hj;obtain⟨bJ,D,p4,p5,p6⟩:=xf j B ⟨cells,q1⟩ ⟨C,q2,q3⟩;have e:((L0.κ j).bind qB.blk).getD 0=B:=by rw[q2];show C.blk.getD 0=B;rw[q3];rfl
  rw[e];exact⟨j,_,D,p4,rfl,p5,p6⟩
 have AZ : oS (yH6 Mg) (vU bs ++ lT (nm + (rs.cells ++ os.flatten).length) ns) (w8 os (G.drop rs.cells.length)) (js.map fun id => ((L0.κ id).bind qB.blk).getD 0) := oS.mono (fun id css B _ ⟨jd,q1,q2,⟨D0,q3,q3b,_⟩,q4⟩=>by
  obtain⟨C,D1,B',p1,p2,p3,p3b⟩:=q1;rw[q3] at p3;cases p3;rw[q3b] at p3b;cases p3b;obtain⟨cells,D,p4,p5,p6⟩:=xf jd B q2 ⟨_,q3,q3b⟩;have aM:qM L B:=⟨jd,_,D,p4,rfl,p5,p6⟩;refine⟨⟨C,p1,p2⟩,q4,fun ho=>?_,?_⟩
  ·rcases g7 B (n7 B ho) with h|⟨kd,xg,D',p7,p8⟩
   ·exact xe B aM h
   ·obtain⟨o,p9,ui⟩:=wz hK kd xg;refine e3.disj jd kd _ o D D' B (fun e=>?_) p4 p9 rfl ui p5 p7 p6 p8;exact yT5 hK kd xg true cells (by rw[←e];exact p4)
  ·rw[n3,g3];exact xd B aM) IP
 have hBs:(js.map fun id=>((L0.κ id).bind qB.blk).getD 0).Nodup:=yL6 c3 (Dc IM) pQ;obtain⟨Mf,r1,r2,r3,r4,r5,r6,r7⟩:=yDx n5 AZ hBs;have TW:vA M1 Mf:=by
  have aM:∀b,qM Mf b→b<M1.H.size→qM M1 b:=fun b hb bj=>by
   rcases r7 b hb with hb|hb
   ·rcases g7 b (n7 b hb) with h|⟨id,ao,C,hC,Dr⟩
    ·exact(f3 b h).1
    ·obtain⟨o,ho,iE⟩:=wz hK id ao;exact(uk b ⟨id,o,C,ho,iE,hC,Dr⟩ bj).own ee
   ·exact(uk b (IQ b hb) bj).own ee
  have Na:Mf.H=(M1.overX L aq).H:=r1.trans (n1.trans g1);refine⟨Np.trans ?_ r6,?_,fun b hb hn=>?_,aM,fun b hb bj=>?_,fun b hb bj=>?_⟩
  ·rw[n1,g1];exact f2.size
  ·rw[Na];exact f2.size
  ·rw[Na];exact f2.frame b hb hn
  ·rw[r2,n2,g2] at hb;exact f2.Gb b hb bj
  ·rw[r3,n3,g3] at hb;exact f2.Fb b hb bj
 have pR:(vU bs++lT (nm+(rs.cells++os.flatten).length) ns).length=(w8 os (G.drop rs.cells.length)).length:=by
  rw[yFl,lX.length,k2]
 refine⟨Mf,⟨c6,c7,c8,?_,?_,r5,a4.trans TW⟩,?_⟩
 ·rw[r1,n1,g1];show L.H=_;rw[e1,c2]
 ·rw[r4,n4,g4];show _=qI M.h (u0++(pN (jM (as.flatMap AX.cells) cs)++((oM nm (rs.cells++os.flatten) dx).2++Dy (vU bs++lT (nm+(rs.cells++os.flatten).length) ns) (w8 os ((AQ ((rs.cells++os.flatten).map RC.lnk) (vU bs++lT (nm+(rs.cells++os.flatten).length) ns) (oM nm (rs.cells++os.flatten) dx).1).drop rs.cells.length)))));rw[←hG,lh,lh,lh,←a2];refine vA8 pR fun m hm=>?_
  rw[List.mem_append,not_or] at hm;rw[xc,if_neg hm.2];refine AB ?_;show qI M1.h (pN aq) m=_;rw[xc,xc,←ic];simp[hm.1]
 ·show zV Mf (rs.mk ((AQ ((rs.cells++os.flatten).map RC.lnk) (vU bs++lT (nm+(rs.cells++os.flatten).length) ns) (oM nm (rs.cells++os.flatten) dx).1).take rs.cells.length)) rv;rw[←hG];exact d2 Mf _ (hgr.mono fun _ _ h=>h.ext r6)
theorem yOv {P na f}(cc:∀vs w,(callFunc f vs).run P w=.ok (.enter f vs) w)
  {as rs os ns X} {S:XD as→Option X} {pack unpack} (fk:∀d,pack (unpack d)=d) (kN:ud as na=true)
  (lY:∀d x,S d=some x→∀M w vs,M.h=(kM as d).2→M.H=w.heap→Ok M→zM (zV M) (kM as d).1 vs.toList→Calls P f vs w fun
   |.returned rv,w'=>∃(v:zY) (st:St),IH as rs os ns unpack v st=some x∧Nl w na (as.any AX.isChn) M vs rv w' v st
   |_,_=>False)
  {nm args h v u} (hy:yK (sv as rs os ns S pack nm args h) v u):tS P f args h v u:=by
 intro M w vs hh hH ok hv;refine .inl ⟨cc vs w,?_⟩;unfold sv at hy;split at hy
 ·exact hy.elim
 rename_i u0 io rows d he;obtain⟨x,hx,rfl,rfl⟩:=hy;obtain⟨Ml,b1,b2,b3,b4,b5⟩:=yEm kN he M w vs hh hH ok hv;refine Calls.mono (lY d x hx Ml w vs b1 b2 b3 b4) fun e w' hl=>?_
 cases e with
 |panicked _=>omega
 |outgrown=>omega
 |returned rv=>
  obtain⟨v0,st,hK,hl⟩:=hl;have hK:w7 st as rs os ns v0=some (pack x):=by
   unfold IH at hK;grind
  grind
theorem vQe {P na f}(cc:∀vs w,(callFunc f vs).run P w=.ok (.enter f vs) w)
  {as rs dr os dt ns fl X Y} {S:XD as→Option (X⊕Y)} {pk up iG lq}
  (fk:∀d,pk (up d)=d) (nO:∀d,iG (lq d)=d) (kN:ud as na=true)
  (lY:∀d x,S d=some x→∀M w vs,M.h=(kM as d).2→M.H=w.heap→Ok M→zM (zV M) (kM as d).1 vs.toList→Calls P f vs w fun
   |.returned rv,w'=>∃(v:zY) (st:St),Nh as rs os ns dr dt fl up lq v st=some x∧Nl w na (as.any AX.isChn) M vs rv w' v st
   |_,_=>False)
  {nm args h v u} (hy:yK (ue as rs os ns dr dt fl S pk iG nm args h) v u):tS P f args h v u:=by
 intro M w vs hh hH ok hv;refine .inl ⟨cc vs w,?_⟩;unfold ue at hy;split at hy
 ·exact hy.elim
 rename_i u0 io rows d he;obtain⟨Ml,b1,b2,b3,b4,b5⟩:=yEm kN he M w vs hh hH ok hv;rcases hy with⟨x,hx,rfl,rfl⟩|⟨x,hx,rfl,rfl⟩<;>
 ·refine Calls.mono (lY d _ hx Ml w vs b1 b2 b3 b4) fun e w' hl=>?_
  cases e with
  |panicked _=>omega
  |outgrown=>omega
  |returned rv=>
   obtain⟨v0,st,hK,hl⟩:=hl;unfold Nh at hK;grind
theorem yHj {E}(hE:gd E)(hS:jz E.sums)(hm:E.P.follows .mixedOrders=true){A k pre na f fn}(hf:E.P.funcs[f]? =some fn)(hL:∀c,fn.body=some c→wK E.P A pre na fn.ntmps c){chn}(mQ:(!chn||A.loops.isEmpty)=true)
  {R K} {x:R} {args h} (aQ:ku E A k pre na fn args h K=some x) {M w vs} (h1:M.h=h) (h2:M.H=w.heap) (h3:Ok M) (h4:zM (zV M) args vs.toList):
  Calls E.P f vs w fun
   |.returned rv,w'=>∃(v:zY) (st:St),K v st=some x∧Nl w na chn M vs rv w' v st
   |_,_=>False:=by
 refine Calls.mono (TE hE hS hm hf hL aQ h1 h2 h3 h4) fun e w' hl=>?_
 cases e with
 |panicked _=>omega
 |outgrown=>omega
 |returned rv=>
  obtain⟨M',v,st,a1,a2,a3,a4,a5,a6,a7,a8,a9,IS,a11⟩:=hl;refine⟨v,st,a1,M',a2,a3,a4,a5,fun hc=>a6 ?_,a7,a8,a9,IS,a11⟩;simp_all
theorem vPq {E}(hE:gd E)(hS:jz E.sums)(hm:E.P.follows .mixedOrders=true){A k pre na f fn}(hf:E.P.funcs[f]? =some fn)(hL:∀c,fn.body=some c→wK E.P A pre na fn.ntmps c)(cc:∀vs w,(callFunc f vs).run E.P w=.ok (.enter f vs) w)
  {as rs os ns X} {S:XD as→Option X} {pack unpack} (fk:∀d,pack (unpack d)=d) (kN:ud as na=true) (mQ:(!as.any AX.isChn||A.loops.isEmpty)=true)
  (aQ:∀d,ku E A k pre na fn (kM as d).1 (kM as d).2 (IH as rs os ns unpack)=S d)
  {nm args h v u} (hy:yK (sv as rs os ns S pack nm args h) v u):tS E.P f args h v u:=
 yOv cc fk kN (fun d x hx M w vs h1 h2 h3 h4=>yHj hE hS hm hf hL mQ ((aQ d).trans hx) h1 h2 h3 h4) hy
theorem vOg {E}(hE:gd E)(hS:jz E.sums)(hm:E.P.follows .mixedOrders=true){A k pre na f fn}(hf:E.P.funcs[f]? =some fn)(hL:∀c,fn.body=some c→wK E.P A pre na fn.ntmps c)(cc:∀vs w,(callFunc f vs).run E.P w=.ok (.enter f vs) w)
  {as rs dr os dt ns fl X Y} {S:XD as→Option (X⊕Y)} {pk up iG lq}
  (fk:∀d,pk (up d)=d) (nO:∀d,iG (lq d)=d) (kN:ud as na=true) (mQ:(!as.any AX.isChn||A.loops.isEmpty)=true)
  (aQ:∀d,ku E A k pre na fn (kM as d).1 (kM as d).2 (Nh as rs os ns dr dt fl up lq)=S d)
  {nm args h v u} (hy:yK (ue as rs os ns dr dt fl S pk iG nm args h) v u):tS E.P f args h v u:=
 vQe cc fk nO kN (fun d x hx M w vs h1 h2 h3 h4=>yHj hE hS hm hf hL mQ ((aQ d).trans hx) h1 h2 h3 h4) hy
section
variable {h h':Hp}
theorem vU6 {x c}(hh:∀id∈vP c,h id=h' id):IC h x c=IC h' x c:=by
 unfold IC;split
 ·exact yWs hh
 ·rename_i id;rw[hh id (by simp[vP])]
 ·rename_i id;rw[hh id (by simp[vP])]
 ·rename_i id;rw[hh id (by simp[vP])]
 ·rfl
 ·rfl
theorem yAg:∀{l cs},(∀id∈cs.flatMap vP,h id=h' id)→pM h l cs=pM h' l cs
 |[],[],_
 |[],_::_,_
 |_::_,[],_=>rfl
 |p::l,c::cs,hh=>by
  simp  at hh;unfold pM;rw[vU6 fun id hi=>hh id (.inl hi),yAg (by grind)]
theorem vV4 {ls}:j3 h ls []=j3 h' ls []:=by
 cases ls<;>rfl
theorem vXz {s:AX}{a}(hb:wQ a=false):s.get h a=s.get h' a:=by
 unfold AX.get;cases s with
 |c p=>grind
 |agg l=>grind
 |ptr io l=>
  cases a with
  |c x=>cases x<;>first|rfl|(exact absurd hb (by simp[wQ]))
  |_=>rfl
 |fn f bB=>
  cases a with
  |c x=>cases x with
   |fn g ids=>
    cases ids with
    |nil=>dsimp only;rw[vV4]
    |cons _ _=>exact absurd hb (by nofun)
   |_=>rfl
  |_=>rfl
 |chn ls=>
  cases a with
  |c x=>cases x<;>first|rfl|(exact absurd hb (by nofun))
  |_=>rfl
theorem vMx {s:AX}{a cs bs}(hb:wQ a=false)(e:s.get h a=some (cs,bs)):∀id∈cs.flatMap vP,id∈yM a:=by
 unfold AX.get at e;split at e
 ·cases e;intro id ao;simp  at ao;exact ao
 ·obtain⟨_,e⟩:=wL e;cases e;exact fun id ao=>ao
 ·exact absurd hb (by nofun)
 ·rename_i f bB g ids;obtain⟨_,e⟩:=wL e;cases ids with
  |nil=>cases bB with
   |nil=>cases e;simp
   |cons _ _=>cases e
  |cons _ _=>exact absurd hb (by nofun)
 ·exact absurd hb (by nofun)
 ·cases e
theorem yFi:∀{l as},as.any wQ=false→kL h l as=kL h' l as
 |[],[],_
 |[],_::_,_
 |_::_,[],_=>rfl
 |s::l,a::as,hb=>by
  simp only[List.any_cons,Bool.or_eq_false_iff] at hb;unfold kL;rw[vXz (h:=h) (h':=h') hb.1,yFi hb.2]
theorem yPk:∀{l as cs bs},as.any wQ=false→kL h l as=some (cs,bs)→∀id∈cs.flatMap vP,id∈as.flatMap yM
 |[],[],cs,bs,_,e=>by cases e;simp
 |s::l,a::as,cs,bs,hb,e=>by
  simp only[List.any_cons,Bool.or_eq_false_iff] at hb;unfold kL at e;split at e
  ·rename_i c1 b1 c2 b2 e1 e2;cases e;intro id ao;rw[List.flatMap_append,List.mem_append] at ao;rw[List.flatMap_cons,List.mem_append];rcases ao with ao|ao
   ·exact .inl (vMx hb.1 e1 id ao)
   ·exact .inr (yPk hb.2 e2 id ao)
  ·cases e
theorem vZl {s a}(hh:∀id∈yM a,h id=h' id):w9 h s a=w9 h' s a:=by
 unfold w9;split
 ·rename_i p x;have:=Dt (h:=h) (h':=h') (l:=[p.isKept]) (cs:=[x]) (by rw[Ds];exact hh);simp_all
 ·rename_i l xs;have:=Dt (h:=h) (h':=h') (l:=l.map PC.isKept) (cs:=xs) hh;simp_all
 ·rfl
theorem vFh {s a a' u}(e:w9 h s a=some (a',u)):(∀id∈yM a',id∈yM a)∧(wQ a=false→wQ a'=false):=by
 unfold w9 at e;split at e
 ·rename_i p x;split at e
  ·rename_i y u1 e1;cases e;refine⟨fun id ao=>by have:=Du e1 id (by rw[Ds];omega);rwa [Ds] at this,fun hb=>?_⟩;cases hk:p.isKept with
   |false=>rw[hk] at e1;cases e1;exact hb
   |true=>
    rw[hk] at e1;unfold gf at e1;split at e1
    ·rename_i c1 u2 mJ rO e2 e3;cases e1;cases hy:wQ (.c y) with
     |false=>rfl
     |true=>rw[(TY e2).2 hy] at hb;cases hb
    ·cases e1
  ·cases e
 ·split at e
  ·rename_i ys u1 e1;cases e;exact⟨Du e1,fun _=>rfl⟩
  ·cases e
 simp_all
theorem yWz:∀{l as},(∀id∈as.flatMap yM,h id=h' id)→su h l as=su h' l as
 |[],as,_=>by rfl
 |_::_,[],_=>rfl
 |s::l,a::as,hh=>by
  simp  at hh;unfold su;rw[vZl fun id hi=>hh id (.inl hi),yWz (by grind)]
theorem yD3:∀{l as eQ u},su h l as=some (eQ,u)→(∀id∈eQ.flatMap yM,id∈as.flatMap yM)∧(as.any wQ=false→eQ.any wQ=false)
 |[],as,eQ,u,e=>by cases as<;>cases e<;>exact by simp
 |s::l,[],eQ,u,e=>by cases e;simp
 |s::l,a::as,eQ,u,e=>by
  unfold su at e;split at e
  ·rename_i a1 u1 TU rO e1 e2;obtain⟨k1,k2⟩:=vFh e1;obtain⟨k3,k4⟩:=yD3 e2;grind
  ·cases e
theorem yQh {as nm n args}(h1:args.any wQ=false→∀id,(id∈args.flatMap yM∨nz nm id=true)→h id=h' id)(h2:args.any wQ=true→h=h'):AU as nm n args h=AU as nm n args h':=by
 cases hb:args.any wQ with
 |true=>rw[h2 hb]
 |false=>
  have hh:=h1 hb;unfold AU;rw[yWz (h:=h) (h':=h') (by grind)];cases e:su h' as args with
  |none=>rfl
  |some p=>
   obtain⟨eK,u⟩:=p;obtain⟨k1,k2⟩:=yD3 e;dsimp only;rw[yFi (h:=qI h u) (h':=qI h' u) (k2 hb)];cases e2:kL (qI h' u) as eK with
   |none=>rfl
   |some q=>
    obtain⟨cs,bs⟩:=q;dsimp only;rw[yAg (h:=qI h u) (h':=qI h' u) fun id ao=>AB (hh id (.inl (k1 id (yPk (k2 hb) e2 id ao))))];cases pM (qI h' u) (as.flatMap AX.cells) cs with
    |none=>rfl
    |some d=>
     cases hle:Nat.ble n 100 with
     |false=>simp
     |true=>
      have hle:=Nat.le_of_ble_eq_true hle;rw [TZ (h := h) (h' := h') fun i hi => hh _ (.inr (by
       simp only[nz,Bool.and_eq_true];exact⟨by simp,by simp[Nat.blt_eq];omega⟩))]
end
theorem yD0 {as rs os ns X}{S:Nat→XD as→Option X}{pack}:Iw fun k nm args h=>sv as rs os ns (S k) pack nm args h:=by
 intro k nm args h h' h1 h2;show sv as rs os ns (S k) pack nm args h=sv as rs os ns (S k) pack nm args h';unfold sv;rw[yQh h1 h2]
theorem vSs {as rs dr os dt ns fl X Y}{S:Nat→XD as→Option (X⊕Y)}{pk iG}:Iw fun k nm args h=>ue as rs os ns dr dt fl (S k) pk iG nm args h:=by
 intro k nm args h h' h1 h2;show ue as rs os ns dr dt fl (S k) pk iG nm args h=ue as rs os ns dr dt fl (S k) pk iG nm args h';unfold ue;rw[yQh h1 h2]
structure zD (P:Program) (r:Nat×nK):Prop where
 ok:vB8 P r
 loc:Iw r.2
def DE (P:Program):List (Nat×nK)→Prop
 |[]=>True
 |r::l=>zD P r∧DE P l
theorem DE.all {P}:∀{l},DE P l→∀r∈l,zD P r
 |a::l,h,r,hr=>by
  rcases List.mem_cons.1 hr with rfl|hr
  ·exact h.1
  ·exact DE.all h.2 r hr
structure jG (E:Env):Prop where
 ok:gd E
 loc:jz E.sums
 ord:E.P.follows .mixedOrders=true
theorem DF {P l eqT}(he:HT P eqT)(hm:P.follows .mixedOrders=true)(h:DE P l):jG ⟨P,eqT,eW l⟩:=
 ⟨⟨he,yRt fun r hr=>(h.all r hr).ok⟩,yX4 fun r hr=>(h.all r hr).loc,hm⟩
theorem oT {P l}(hm:P.follows .mixedOrders=true)(h:DE P l):jG ⟨P,fun _=>false,eW l⟩:=DF vQa hm h
theorem loops1 {P A pre na nt c L}(h:zU P pre na nt (zR c 0) L)(hn:(nL c).length=1:=by kernel_rfl) (hl:vx A (zR c 0)=some L:=by kernel_rfl):wK P A pre na nt c:=
 oP hn (by grind)
theorem zF {P A pre na nt c}(hn:(nL c).length=0:=by kernel_rfl):wK P A pre na nt c:=vEq hn
def yXq (E:Env)(A:qA)(na nt:Nat)(b:Code) ins outs {X Y:Type}(mC:vr outs→X)(c:Y→rJ ins→Option X)(bf:Nat→Y→Y):Prop:=
 ∀k rec d,c (bf k rec) d=Mq (1000+g9) ins d fun st=>kt E A k 1000 na nt b st (yTi 1000 ins outs mC (c rec))
abbrev vRm (X:Type):=Nat→X→(R:Type)→(Ex→St→Option R)→Option R
theorem vLf {E A na nt b ins outs X Y mC c bf}(hE:jG E)(hs:yXq E A na nt b ins outs mC c bf)(f:Nat→Nat→Y)(elim:vRm X)
  (hX:∀o R K,elim (1000+g9) (mC o) R K=CN (1000+g9) outs o K) (hL:wK E.P A 1000 na nt b) (h0:∀k d,c (f k 0) d=none:=by intros;rfl) (h1:∀k n,f k (n+1)=bf k (f k n):=by intros;rfl):
  zU E.P 1000 na nt b ⟨ins,outs,X,fun k d=>c (f k k) d,elim⟩:=
 vWf hE.ok hE.loc hE.ord hL mC elim hX (fun k n d=>c (f k n) d) h0 (fun k n d=>by rw[h1];exact hs k (f k n) d)
def Um (E:Env)(A:qA)(na:Nat)(fn:Func) as (rs:RS){X}(up:RL rs.cells→X)(S:Nat→AD as→Option X):Prop:=
 ∀k d,ku E A k 1000 na fn (pI as d).1 (pI as d).2 (mN rs up)=S k d
def yTn (E:Env)(A:qA)(na:Nat)(fn:Func) as (rs:RS)(os:List (List RC))(ns:Nat){X}(up:RL (rs.cells++os.flatten)→X)(S:Nat→XD as→Option X):Prop:=
 ∀k d,ku E A k 1000 na fn (kM as d).1 (kM as d).2 (IH as rs os ns up)=S k d
def yAb (E:Env)(A:qA)(na:Nat)(fn:Func) as (rs:RS)(os:List (List RC))(ns:Nat)(dr:RS)(dt:List (List RC))(fl:Nat){X Y}(up:RL (rs.cells++os.flatten)→X)(lq:RL (dr.cells++dt.flatten)→Y)(S:Nat→XD as→Option (X⊕Y)):Prop:=
 ∀k d,ku E A k 1000 na fn (kM as d).1 (kM as d).2 (Nh as rs os ns dr dt fl up lq)=S k d
theorem vO5 {E A na f fn as rs X S pack}{unpack:RL rs.cells→X}(hE:jG E)(aQ:Um E A na fn as rs unpack S)(hL:wK E.P A 1000 na fn.ntmps (zS fn))
  (hf:E.P.funcs[f]? =some fn:=by kernel_rfl) (hb:fn.body.isNone=false:=by kernel_rfl) (hn:(fn.name== "runtime.NumGoroutine")=false:=by kernel_rfl) (fk:∀d,pack (unpack d)=d:=by intro d;rfl):
  zD E.P (f,fun k nm args h=>oN as rs (S k) pack nm args h):=
 ⟨fun k _ _ _ _ _ hy=>vGh hE.ok hE.loc hE.ord hf (body_loops hL) (Ix hf hb hn) fk (aQ k) hy,ySl⟩
theorem vYk {E A na f fn as rs os ns X}{S:Nat→XD as→Option X}{pack unpack}(hE:jG E)(aQ:yTn E A na fn as rs os ns unpack S)
  (hL:wK E.P A 1000 na fn.ntmps (zS fn)) (hf:E.P.funcs[f]? =some fn:=by kernel_rfl) (hb:fn.body.isNone=false:=by kernel_rfl) (hn:(fn.name== "runtime.NumGoroutine")=false:=by kernel_rfl) (kN:ud as na=true:=by kernel_rfl) (mQ:(!as.any AX.isChn||A.loops.isEmpty)=true:=by kernel_rfl) (fk:∀d,pack (unpack d)=d:=by intro d;rfl):
  zD E.P (f,fun k nm args h=>sv as rs os ns (S k) pack nm args h):=
 ⟨fun k _ _ _ _ _ hy=>vPq hE.ok hE.loc hE.ord hf (body_loops hL) (Ix hf hb hn) fk kN mQ (aQ k) hy,yD0⟩
theorem vF1 {E A na f fn as rs dr os dt ns fl X Y}{S:Nat→XD as→Option (X⊕Y)}{pk up iG lq}(hE:jG E)
  (aQ:yAb E A na fn as rs os ns dr dt fl up lq S)
  (hL:wK E.P A 1000 na fn.ntmps (zS fn)) (hf:E.P.funcs[f]? =some fn:=by kernel_rfl) (hb:fn.body.isNone=false:=by kernel_rfl) (hn:(fn.name== "runtime.NumGoroutine")=false:=by kernel_rfl) (kN:ud as na=true:=by kernel_rfl) (mQ:(!as.any AX.isChn||A.loops.isEmpty)=true:=by kernel_rfl) (fk:∀d,pk (up d)=d:=by intro d;rfl) (nO:∀d,iG (lq d)=d:=by intro d;rfl):
  zD E.P (f,fun k nm args h=>ue as rs os ns dr dt fl (S k) pk iG nm args h):=
 ⟨fun k _ _ _ _ _ hy=>vOg hE.ok hE.loc hE.ord hf (body_loops hL) (Ix hf hb hn) fk nO kN mQ (aQ k) hy,vSs⟩
theorem vSw {E A na f fn sh t rs X}{S:Nat→List t.den→Option X}{pack unpack}(hE:jG E)(cM:∀k,ku E A k 1000 na fn [.c .nsl] (lS []) (mN rs unpack)=S k [])
  (aQ:∀k xs,ku E A k 1000 na fn [.c (.nfl sh t xs)] (lS []) (mN rs unpack)=S k xs) (hL:wK E.P A 1000 na fn.ntmps (zS fn)) (hf:E.P.funcs[f]? =some fn:=by kernel_rfl) (hb:fn.body.isNone=false:=by kernel_rfl) (hn:(fn.name== "runtime.NumGoroutine")=false:=by kernel_rfl) (fk:∀d,pack (unpack d)=d:=by intro d;rfl):
  zD E.P (f,fun k nm args h=>oN [.c (.dat sh t)] rs (fun d=>S k d.1) pack nm args h):=
 ⟨fun k _ _ _ _ _ hy=>vH9 hE.ok hE.loc hE.ord hf (body_loops hL) (Ix hf hb hn) fk (fun x hx=>(cM k).trans hx) (by grind) hy,ySl⟩
def DG (k:Nat)(a b c:Int):Option (Int×Int):=
 bif decide (c=0) then some (Int.ofNat ((a.toNat+b.toNat+0)%18446744073709551616),Int.ofNat ((a.toNat+b.toNat+0)/18446744073709551616)) else none
def Nq:nK:=fun k nm args h=>match args with
 |[.c (.int .u64 a),.c (.int .u64 b),.c (.int .u64 c)]=>.call (Int×Int) (DG k a b c) (fun r=>(.tup [(false,[.int .u64 r.1]),(false,[.int .u64 r.2])],[]))
 |_=>.stuck
theorem vIw {P} a b w:
  (add64Entry #[.int .u64 a,.int .u64 b,.int .u64 0]).run P w=.ok (.tuple #[.int .u64 (Int.ofNat ((a.toNat+b.toNat+0)%18446744073709551616)),.int .u64 (Int.ofNat ((a.toNat+b.toNat+0)/18446744073709551616))]) w:=rfl
theorem vFo {P f fn}(hf:P.funcs[f]? =some fn:=by kernel_rfl) (pS:(fn.name== "runtime.NumGoroutine")=false:=by kernel_rfl) (hb:fn.body.isNone=true:=by kernel_rfl)
  (hn:Extern.findNext fn=none:=by kernel_rfl) (he:Extern.find fn=some add64Entry:=by kernel_rfl):
  zD P (f,Nq):=by
 refine⟨fun k nm args h v u hy=>?_,fun _ _ _ _ _ _ _=>rfl⟩;intro M w vs hh hH ok hv;refine .inr ?_;replace hy:yK (Nq k nm args h) v u:=hy;unfold Nq at hy;split at hy
 ·rename_i a b c;obtain⟨x,hx,rfl,rfl⟩:=hy
  match hl:vs.toList,hv with
  |[v1,v2,v3],hv=>
   obtain⟨h1,h2,h3,_⟩:=hv;cases h1;cases h2;cases h3;obtain rfl:vs=#[.int .u64 a,.int .u64 b,.int .u64 c]:=by grind
   obtain⟨hc,hx⟩:=wL hx;cases hx;have hc:c=0:=by simp_all
   subst hc;refine⟨.tuple #[.int .u64 (Int.ofNat ((a.toNat+b.toNat+0)%18446744073709551616)),.int .u64 (Int.ofNat ((a.toNat+b.toNat+0)/18446744073709551616))],w,M,?_,⟨rfl,rfl,rfl,hH,rfl,ok,.refl M⟩,?_⟩
   ·rw[run_callFunc_extern hf pS hb hn he,vIw a b w];rfl
   ·exact⟨#[.int .u64 (Int.ofNat ((a.toNat+b.toNat+0)%18446744073709551616)),.int .u64 (Int.ofNat ((a.toNat+b.toNat+0)/18446744073709551616))],rfl,rfl,rfl,trivial⟩
 ·exact hy.elim
end Go.Ab
