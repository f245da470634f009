/- part 2 -/
import Derived.Test.YtpgcgnfpnjolpaaGreatGiAbB
import Derived.ProofKit
import Derived.Below
import Derived.Carry
import Derived.Laws.Externs
set_option linter.unusedVariables false
set_option linter.unusedSimpArgs false
set_option linter.unusedSectionVars false
namespace Go.Ab
def Ex.toExit:Ex→Exit
 |.normal=>.normal
 |.ret=>.ret
 |.exit id=>.exit id
theorem Z4 {P Q c}(I:Nat→Act→World→Prop)(round:∀n a w,I n a w→c.wp P (Exit.then (fun a' w'=>∃m,m<n∧I m a' w') Q) a w){n a w}(h₀:I n a w):(Code.loop c).wp P Q a w:=by
 intro b k cs;have key:∀n a w,I n a w→∃e a' w',Q e a' w'∧Arrives P (lone (b.at a (.code c::.inLoop c::k)) cs w) b k cs e a' w':=by
  intro n
  induction n using Nat.strongRecOn with
  |_ n ih=>
   intro a w hI;obtain⟨e,a₁,w₁,hq,im⟩:=round n a w hI b (.inLoop c::k) cs;cases e with
   |normal=>
    obtain⟨m,hm,hI₁⟩:=hq;obtain⟨e₂,a₂,w₂,hq₂,harr₂⟩:=ih m hm a₁ w₁ hI₁;exact⟨e₂,a₂,w₂,hq₂,.of_steps (Steps.trans im (.one step_inLoop)) harr₂⟩
   |exit id=>exact⟨_,a₁,w₁,hq,.pass (x:=.inLoop c) rfl (by simp) im⟩
   |goto l=>exact⟨_,a₁,w₁,hq,.pass (x:=.inLoop c) rfl (by simp) im⟩
   |ret=>exact⟨_,a₁,w₁,hq,.pass (x:=.inLoop c) rfl (fun _ _=>.inl (by simp)) im⟩
   |panic ch=>exact⟨_,a₁,w₁,hq,.pass (x:=.inLoop c) rfl (fun _ _=>.inl (by simp)) im⟩
   |outgrown=>exact⟨_,a₁,w₁,hq,.pass (x:=.inLoop c) rfl (by simp) im⟩
 obtain⟨e,a',w',hq,im⟩:=key n a w h₀;exact⟨e,a',w',hq,.of_steps (.one step_loop) im⟩
def Jr (tmps:Array Value):ResultVar→Sem Value
 |.tmp t=>pure (tmps.getD t undef)
 |.cell c t=>do loadVar t (←asAddr (tmps.getD c undef))
def uX (base:Nat):(l:List (Ex×zE))→rM l→Ex×St
 |[],d=>(.normal,⟨fun _=>.undef,fun _=>none⟩)
 |[p],d=>(p.1,zL base p.2 d)
 |p::q::l,d=>match d with
  |.inl d=>(p.1,zL base p.2 d)
  |.inr d=>uX base (q::l) d
theorem Z5 {R base K}{out:R}:∀{l d},yr base l d K=some out→K (uX base l d).1 (uX base l d).2=some out
 |[p],_,h
 |p::q::l,.inl d,h=>h
 |p::q::l,.inr d,h=>Z5 (l:=q::l) h
def EV (base:Nat):(l:List zE)→o9 l→St
 |[],_=>⟨fun _=>.undef,fun _=>none⟩
 |[S],d=>zL base S d
 |S::T::l,d=>match d with
  |.inl d=>zL base S d
  |.inr d=>EV base (T::l) d
theorem Z6 {R base K}{out:R}:∀{l d},II base l d K=some out→K (EV base l d)=some out
 |[S],_,h
 |S::T::l,.inl d,h=>h
 |S::T::l,.inr d,h=>Z6 (l:=T::l) h
def zU (P:Program)(pre na nt:Nat)(b:Code)(L:zX):Prop:=∀k d x,L.sum k d=some x→∀(a0:Nat→Value) (M0:zI) (w0:World) (a:Act) (w:World) (Q:Exit→Act→World→Prop),
 vF false na nt a0 M0 w0 (EV (pre+fD) L.ins d) a w→
 (∀(o:rM L.outs) a' w',(∀R K,L.elim (pre+fD) x R K=yr (pre+fD) L.outs o K)→vF false na nt a0 M0 w0 (uX (pre+fD) L.outs o).2 a' w'→Q (uX (pre+fD) L.outs o).1.toExit a' w')→
 (Code.loop b).wp P Q a w
def vZ (P:Program)(A:zY)(pre na nt:Nat):Code→Prop
 |.seq a b=>vZ P A pre na nt a∧vZ P A pre na nt b
 |.cond _ a b=>vZ P A pre na nt a∧vZ P A pre na nt b
 |.block _ b=>vZ P A pre na nt b
 |.loop b=>(∀L,rR A b=some L→zU P pre na nt b L)∧(rR A b=none→vZ P A pre na nt b)
 |_=>True
theorem Z7 {A c b st}(h:st.ev c=.c (.bool b)):IJ A c b st=st:=by
 unfold IJ;split
 ·rw[OK h]
 ·rfl
section
variable {nl:Bool} {E:Env} {A:zY} {k pre na nt:Nat} {a0:Nat→Value} {R:Type} {M0:zI} {w0:World} {out:R}
theorem O1 {a w st}(r:vF false na nt a0 M0 w0 st a w):∀{l x},yq pre l st=some x→vF false na nt a0 M0 w0 (EV (pre+fD) l x) a w
 |[S],x,h=>Jq r h
 |S::T::l,x,h=>by
  unfold yq at h;split at h
  ·rename_i d hd;cases h;exact Jq r hd
  ·split at h
   ·rename_i d hd;cases h;exact O1 r (l:=T::l) hd
   ·cases h
theorem Z8 (hE:fa E)(hS:ik E.sums)(hm:E.P.follows .mixedOrders=true)(Jb:nl=true→A.loops=[]):∀c,vZ E.P A pre na nt c→∀st K a w Q,gZ E A k pre na nt c st K=some out→vF nl na nt a0 M0 w0 st a w→
  (∀e bF a' w',vF nl na nt a0 M0 w0 bF a' w'→K e bF=some out→Q e.toExit a' w')→c.wp E.P Q a w:=by
 intro c
 induction c with
 |skip=>exact fun _ st K a w Q h r hK=>wp_skip (hK .normal st a w r h)
 |region id ops draw=>
  intro _ st K a w Q h r hK;cases draw with
  |true=>
   cases he:Eb ops with
   |false=>simp only[gZ,he] at h;cases h
   |true=>
    simp only[gZ,he] at h;exact vG5 hE hS hm he h r fun bF a' w' r' h'=>hK .normal bF a' w' r' h'
  |false=>
   have:=ZI hE (Q:=Q) _ _ _ _ a w (by grind) h r fun bF a' w' r' h'=>hK .normal bF a' w' r' h'
   refine wp_region ?_;have e:(ops.toList.zipIdx.map fun p=>(p.2,p.1)).map (·.1)=List.range ops.size:=by
    rw[List.map_map];have e2:((fun x:Nat×Oper=>x.1)∘fun p:Oper×Nat=>(p.2,p.1))=Prod.snd:=rfl;rw[e2,List.zipIdx_map_snd,←List.range_eq_range'];simp
   simp_all
 |seq x y O2 O3=>
  intro hL st K a w Q h r hK;simp only[gZ] at h;refine wp_seq (O2 hL.1 st _ a w _ h r fun e bF a' w' r' h'=>?_);cases e with
  |normal=>exact O3 hL.2 bF K a' w' Q h' r' hK
  |ret=>exact hK .ret bF a' w' r' h'
  |exit id=>exact hK (.exit id) bF a' w' r' h'
 |cond c x y O2 O3=>
  intro hL st K a w Q h r hK;simp only[gZ] at h;split at h
  ·rename_i t ht;obtain⟨M,_,_,_,_,hv⟩:=r.ex;have hc:=ZE hv c;rw[ht] at hc;refine wp_cond (t:=t) hc ?_;cases t with
   |true=>
    rw[Z7 ht,cond_true] at h;exact O2 hL.1 st K a w Q h r hK
   |false=>
    rw[Z7 ht,cond_false] at h;exact O3 hL.2 st K a w Q h r hK
  ·cases h
 |block id b ih=>
  intro hL st K a w Q h r hK;simp only[gZ] at h;refine wp_block (ih hL st _ a w _ h r fun e bF a' w' r' h'=>?_);cases e with
  |normal=>exact hK .normal bF a' w' r' h'
  |ret=>exact hK .ret bF a' w' r' h'
  |exit i=>
   show if i=id then Q .normal a' w' else Q (.exit i) a' w'
   dsimp only at h';cases e:Nat.beq i id with
   |true=>
    rw[e] at h';rw[if_pos (by simpa using e)];exact hK .normal bF a' w' r' h'
   |false=>
    rw[e] at h';rw[if_neg (fun e'=>by simp_all)];exact hK (.exit i) bF a' w' r' h'
 |loop b ih=>
  intro hL st K a w Q h r hK;simp only[gZ] at h;split at h
  ·rename_i hN;refine Z4 (fun n a w=>∃st,vF nl na nt a0 M0 w0 st a w∧NA (gZ E A k pre na nt b) n st K=some out) (fun n a w ⟨st,r,hi⟩=>?_) ⟨st,r,h⟩;cases n with
   |zero=>cases hi
   |succ n=>
    refine ih (hL.2 hN) st _ a w _ hi r fun e bF a' w' r' h'=>?_
    cases e with
    |normal=>exact⟨n,by simp,bF,r',h'⟩
    |ret=>exact hK .ret bF a' w' r' h'
    |exit id=>exact hK (.exit id) bF a' w' r' h'
  ·rename_i L hN;split at h
   ·cases h
   ·rename_i d hd;obtain⟨x,hx,h⟩:=Option.bind_eq_some_iff.1 h;cases nl with
    |true=>
     unfold rR at hN;grind
    |false=>exact hL.1 L hN k d x hx a0 M0 w0 a w Q (O1 r hd) fun o a' w' ho r'=>hK _ _ a' w' r' (Z5 (by simp_all))
 |exit id=>exact fun _ st K a w Q h r hK=>wp_exit (hK (.exit id) st a w r h)
 |ret=>exact fun _ st K a w Q h r hK=>wp_ret (hK .ret st a w r h)
 |_=>nofun
theorem Z9 {a b}(h:Nu a b=true):a=b:=by
 cases a<;>cases b<;>first|rfl|(cases h)|skip
 rw[Nat.eq_of_beq_eq_true h]
theorem qYb {a w st e}(r:vF false na nt a0 M0 w0 st a w):∀{l x},Ed pre l e st=some x→(uX (pre+fD) l x).1=e∧vF false na nt a0 M0 w0 (uX (pre+fD) l x).2 a w
 |[p],x,h=>by
  obtain⟨he,h⟩:=ld h;exact⟨Z9 he,Jq r h⟩
 |p::q::l,x,h=>by
  unfold Ed at h;split at h
  ·rename_i d hd;cases h;obtain⟨he,hd⟩:=ld hd;exact⟨Z9 he,Jq r hd⟩
  ·split at h
   ·rename_i d hd;cases h;exact qYb r (l:=q::l) hd
   ·cases h
theorem vCd (hE:fa E)(hS:ik E.sums)(hm:E.P.follows .mixedOrders=true){b ins outs}(hL:vZ E.P A pre na nt b){X} kj elim (hX:∀o R K,elim (pre+fD) (kj o) R K=yr (pre+fD) outs o K)
  (rec:Nat→Nat→o9 ins→Option X) (h0:∀k d,rec k 0 d=none)
  (aH:∀k n d,rec k (n+1) d=II (pre+fD) ins d fun st=>gZ E A k pre na nt b st (Yj pre ins outs kj (rec k n))):zU E.P pre na nt b ⟨ins,outs,X,fun k d=>rec k k d,elim⟩:=by
 intro k d x hx a0 M0 w0 a w Q r hQ;refine Z4 (fun n a w=>∃d,vF false na nt a0 M0 w0 (EV (pre+fD) ins d) a w∧rec k n d=some x) (fun n a w ⟨d,r,hi⟩=>?_) ⟨d,r,hx⟩;cases n with
 |zero=>simp_all
 |succ n=>
  rw[aH k n d] at hi;refine Z8 hE hS hm (by simp) b hL _ _ a w _ (Z6 hi) r fun e bF a' w' r' h'=>?_
  have out:∀e,(match Ed pre outs e bF with|some o=>some (kj o)|none=>none)=some x→Q e.toExit a' w':=fun e h'=>by
   split at h'
   ·rename_i o ho;obtain⟨h1,h2⟩:=qYb (pre:=pre) r' ho;grind
   ·cases h'
  cases e with
  |normal=>
   have h':(match yq pre ins bF with|some d=>rec k n d|none=>none)=some x:=h';split at h'
   ·rename_i d' hd;exact⟨n,by simp,d',O1 r' hd,h'⟩
   ·cases h'
  |ret=>exact out .ret h'
  |exit id=>exact out (.exit id) h'
theorem yTk fn tmps:results fn tmps=(do let vs←fn.results.mapM (Jr tmps);pure (if h:vs.size=1 then vs[0] else .tuple vs)):=rfl
theorem vJk (hE:fa E)(hS:ik E.sums)(hm:E.P.follows .mixedOrders=true){st}{a:Act}{w x v M}(hM:M.h=st.h)(hH:M.H=w.heap)(ok:Ok M)(ht:∀t,zP M (st.t t) (a.tmps.getD t undef))(h:rS E st x=some v):
  ∃rv,(Jr a.tmps x).run E.P w=.ok rv w∧zP M v rv:=by
 unfold rS at h;split at h
 ·rename_i t;cases h;exact⟨_,rfl,ht t⟩
 ·rename_i c t;split at h
  ·rename_i id off hc;split at h
   ·split at h
    ·rename_i vs dU;have hv:=ht c;rw[hc] at hv;obtain⟨C,B,hC,hB,e⟩:=hv;obtain⟨C',aw,hO⟩:=ok.obj id _ (by rw[hM];omega);rw[hC] at aw;cases aw;obtain⟨B',hZ,aA⟩:=Yt hO;rw[hB] at hZ;cases hZ;obtain⟨rv2,la,cS⟩:∃rv,(loadVar t ⟨B,0+off,none⟩).run E.P w=.ok rv w∧zP M v rv:=Ys ok hH aA dU h;refine⟨rv2,?_,cS⟩;simp  at la;unfold Jr;dsimp only;rw[e];simp[asAddr,la]
    ·cases h
   ·cases h
  ·cases h
theorem vR2 {M v p rv}(h:yt v=some p)(hv:zP M v rv):rT M p rv:=by
 unfold yt at h;split at h
 ·cases h;exact hv
 ·cases h;exact hv
 ·cases h
theorem yPb {M}:∀{vs xs rs},zK (fun a b=>yt a=some b) vs xs→zK (zP M) vs rs→zK (rT M) xs rs
 |[],[],[],_,_=>trivial
 |_::_,_::_,_::_,h,k=>⟨vR2 h.1 k.1,yPb h.2 k.2⟩
theorem yEx {st}:∀(l:List ResultVar) xs,l.mapM (fun r=>(rS E st r).bind yt)=some xs→∃vs,l.mapM (rS E st)=some vs∧vs.mapM yt=some xs
 |[],xs,h=>by simp_all
 |x::l,xs,h=>by
  simp only[List.mapM_cons,Option.bind_eq_bind,Option.bind_eq_some_iff] at h;obtain⟨p,⟨v,h1,h2⟩,ps,h3,h4⟩:=h;obtain⟨vs,k1,k2⟩:=yEx l ps h3;simp_all
theorem yWs (hE:fa E)(hS:ik E.sums)(hm:E.P.follows .mixedOrders=true){fn st}{a:Act}{w v M}(hM:M.h=st.h)(hH:M.H=w.heap)(ok:Ok M)(ht:∀t,zP M (st.t t) (a.tmps.getD t undef))(h:IK E fn st=some v):
  ∃rv,(results fn a.tmps).run E.P w=.ok rv w∧zP M v rv:=by
 have one:=fun x v=>vJk hE hS hm (x:=x) (v:=v) hM hH ok ht
 have key:∀(l:List ResultVar) (vs:List zW),l.mapM (rS E st)=some vs→∃rs:List Value,(l.mapM (Jr a.tmps)).run E.P w=.ok rs w∧zK (zP M) vs rs:=by
  intro l
  induction l with
  |nil=>exact fun vs h=>by simp at h;subst h;exact⟨[],rfl,trivial⟩
  |cons x l ih=>
   intro vs h;simp[Option.bind_eq_some_iff] at h;obtain⟨v,h1,NZ,h2,h3⟩:=h;cases h3;obtain⟨rv,k1,k2⟩:=one x v h1;obtain⟨rs,k3,k4⟩:=ih NZ h2;refine⟨rv::rs,?_,k2,k4⟩;simp_all
 have run:∀(vs:List zW),fn.results.toList.mapM (rS E st)=some vs→∃rs:List Value,(results fn a.tmps).run E.P w=.ok (if h:rs.length=1 then rs[0] else .tuple rs.toArray) w∧zK (zP M) vs rs:=fun vs h=>by
  obtain⟨rs,k1,k2⟩:=key _ vs h;refine⟨rs,?_,k2⟩;rw[yTk,Array.mapM_eq_mapM_toList];simp_all
 unfold IK at h;split at h
 ·cases h;obtain⟨rs,k1,k2⟩:=run [] (by simp_all);cases rs with
  |cons _ _=>exact k2.elim
  |nil=>exact⟨_,k1,#[],rfl,trivial⟩
 ·obtain⟨rs,k1,k2⟩:=run [v] (by simp_all)
  match rs,k2 with
  |[r],k2=>exact⟨_,k1,k2.1⟩
 ·split at h
  ·rename_i xs EK;cases h;obtain⟨vs,k1,k2⟩:=yEx _ _ EK;obtain⟨rs,r1,r2⟩:=run vs k1;have hlen:rs.length≠1:=fun e=>by
    have e1:=r2.length;have e2:=(EJ _ _ _ k1).length;have h3:fn.results.toList.length=1:=by omega
    match hl:fn.results.toList,h3 with
    |[x],_=>simp_all
   rw[dif_neg hlen] at r1;exact⟨_,r1,rs.toArray,rfl,yPb (EJ _ _ _ k2) r2⟩
  ·cases h
theorem O4 (hE:fa E)(hS:ik E.sums)(hm:E.P.follows .mixedOrders=true){f fn}(hf:E.P.funcs[f]? =some fn)(hL:∀c,fn.body=some c→vZ E.P A pre na fn.ntmps c){args h K}(aX:iY E A k pre na fn args h K=some out){M w vs}(hh:M.h=h)(hH:M.H=w.heap)(ok:Ok M)
  (hv:zK (zP M) args vs.toList):Calls E.P f vs w fun
   |.returned rv,w'=>∃(M':zI) (v:zW) (st:St),K v st=some out∧M'.h=st.h∧M'.H=w'.heap∧Ok M'∧gG M M'∧(A.loops=[]→Ji M M')∧zP M' v rv∧w'.os=w.os∧w'.tape=w.tape∧w'.output=w.output∧
     (∀t,t<na→zP M' (st.t t) (vs.getD t undef))
   |_,_=>False:=by
 unfold iY at aX;cases hb:fn.body with
 |none=>simp_all
 |some c=>
  rw[hb] at aX;dsimp only at aX;cases hle:Nat.ble args.length fn.ntmps with
  |false=>simp_all
  |true=>
   rw[hle] at aX;rw[cond_true] at aX;have hl:=hv.length;have hle:args.length≤fn.ntmps:=Nat.le_of_ble_eq_true hle;have dA:vs.size≤fn.ntmps:=by simp at hl;omega
   have EW:∀t,zP M (IL args t) ((vs++Array.replicate (fn.ntmps-vs.size) undef).getD t undef):=fun t=>by
    unfold IL;by_cases ht:t<args.length
    ·have O5:t<vs.size:=by simp at hl;omega
     have:=hv.get t ht (by simpa using O5);simp only[List.getD_eq_getElem?_getD,List.getElem?_eq_getElem ht,Option.getD_some];simp only[Array.getD_eq_getD_getElem?,Array.getElem?_append_left O5,Array.getElem?_eq_getElem O5,Option.getD_some]
     simpa using this
    ·simp only[List.getD_eq_getElem?_getD,List.getElem?_eq_none (Nat.not_lt.1 ht),Option.getD_none];show _=undef;simp;grind
   have r:vF A.loops.isEmpty na fn.ntmps (fun t=>(vs++Array.replicate (fn.ntmps-vs.size) undef).getD t undef) M w {t:=IL args,h:=h} {tmps:=vs++Array.replicate (fn.ntmps-vs.size) undef,defers:=[]} w:=
    ⟨⟨M,hh,hH,ok,⟨.refl M,fun _ _ C h=>⟨C,h,rfl⟩⟩,EW⟩,rfl,by simp;omega,rfl,rfl,rfl,fun _ _=>rfl⟩
   refine calls_of_wp hf hb (Z8 hE hS hm (by simp) c (hL c hb) _ _ _ _ _ aX r fun e bF a' w' r' hK=>?_);obtain⟨M',q1,q2,q3,q4,q5⟩:=r'.ex;have fin:∀v,IK E fn bF=some v→K v bF=some out→a'.defers=[]∧∃rv,(results fn a'.tmps).run E.P w'=.ok rv w'∧∃(M':zI) (v:zW) (st:St),K v st=some out∧M'.h=st.h∧M'.H=w'.heap∧Ok M'∧gG M M'∧(A.loops=[]→Ji M M')∧zP M' v rv∧w'.os=w.os∧w'.tape=w.tape∧w'.output=w.output∧
     (∀t,t<na→zP M' (st.t t) (vs.getD t undef)):=fun v iq hK=>by
    obtain⟨rv,k1,k2⟩:=yWs hE hS hm q1 q2 q3 q5 iq;refine⟨r'.defers,rv,k1,M',v,bF,hK,q1,q2,q3,q4.g,fun h=>q4.k (by grind),k2,r'.os,r'.tape,r'.output,fun t ht=>?_⟩;have:=q5 t;rw[r'.keep t ht] at this;have e:(vs++Array.replicate (fn.ntmps-vs.size) undef).getD t undef=vs.getD t undef:=by
     by_cases h1:t<vs.size
     ·simp[Array.getD_eq_getD_getElem?,Array.getElem?_append_left h1]
     ·simp;grind
    simp_all
   cases e with
   |exit id=>cases hK
   |normal=>
    dsimp only at hK;split at hK
    ·rename_i v iq;exact fin v iq hK
    ·cases hK
   |ret=>
    dsimp only at hK;split at hK
    ·rename_i v iq;exact fin v iq hK
    ·cases hK
end
inductive PC where
 |int (k:IntKind)|bool|dat (sh:Bool) (t:Ty)|fn (f:Nat)
 |nil|nilp
abbrev PC.den:PC→Type
 |.int _=>Int|.bool=>Bool|.dat _ t=>List t.den|.fn _=>Unit|.nil=>Unit|.nilp=>Unit
abbrev PL:List PC→Type
 |[]=>Unit
 |p::l=>p.den×PL l
inductive AS where
 |c (p:PC)|agg (l:List PC)|ptr (l:List PC)|fn (f:Nat) (bp:List (List PC))
def AS.cells:AS→List PC
 |.c p=>[p]
 |.agg l=>l
 |.ptr l=>l
 |.fn _ bp=>bp.flatten
abbrev AD (l:List AS):Type:=PL (l.flatMap AS.cells)
def uY (h:Hp)(t:Ty):zT→Option (List t.den)
 |.nsl=>some []
 |c=>match gY h c with
  |some ⟨s,xs⟩=>fx s t xs
  |none=>none
def pF (h:Hp):(p:PC)→zT→Option p.den
 |.int k,.int j n=>bif jY j k then some n else none
 |.bool,.bool b=>some b
 |.dat false t,c=>uY h t c
 |.dat true t,.fsl true s xs=>fx s t xs
 |.dat true t,.nsl=>some []
 |.fn f,.fn g []=>bif Nat.beq f g then some () else none
 |.nil,.nsl=>some ()
 |.nilp,.nilp=>some ()
 |_,_=>none
def uZ (h:Hp):(l:List PC)→List zT→Option (PL l)
 |[],[]=>some ()
 |p::l,c::cs=>match pF h p c,uZ h l cs with
  |some d,some ds=>some (d,ds)
  |_,_=>none
 |_,_=>none
def zw (h:Hp)(id:Nat):Option (List zT):=match h id with
 |some (.box _ cells)=>some cells
 |some (.robox cells)=>some cells
 |_=>none
def pG (h:Hp):List (List PC)→List Nat→Option (List zT)
 |[],[]=>some []
 |l::ls,id::ids=>match zw h id,pG h ls ids with
  |some cells,some rest=>bif Nat.beq cells.length l.length then some (cells++rest) else none
  |_,_=>none
 |_,_=>none
def AS.get (h:Hp):AS→zW→Option (List zT)
 |.c _,.c x=>some [x]
 |.agg l,.agg xs=>bif Nat.beq xs.length l.length then some xs else none
 |.ptr l,.c (.ptr id 0)=>pG h [l] [id]
 |.fn f bp,.c (.fn g ids)=>bif Nat.beq f g then pG h bp ids else none
 |_,_=>none
def nR (h:Hp):List AS→List zW→Option (List zT)
 |[],[]=>some []
 |s::l,a::as=>match s.get h a,nR h l as with
  |some cs,some rest=>some (cs++rest)
  |_,_=>none
 |_,_=>none
def u9 (h:Hp) l (as:List zW):Option (AD l):=match nR h l as with
 |some cs=>uZ h (l.flatMap AS.cells) cs
 |none=>none
def zx:(p:PC)→p.den→zT
 |.int k,n=>.int k n
 |.bool,b=>.bool b
 |.dat sh t,xs=>.fsl sh t xs
 |.fn f,_=>.fn f []
 |.nil,_=>.nsl
 |.nilp,_=>.nilp
def vI:(l:List PC)→PL l→List zT
 |[],_=>[]
 |p::l,d=>zx p d.1::vI l d.2
def Js:List (List PC)→List zT→List (List zT)
 |[],_=>[]
 |l::ls,cs=>cs.take l.length::Js ls (cs.drop l.length)
def AS.mk (n:Nat)(cs:List zT):AS→zW
 |.c _=>match cs with|x::_=>.c x|[]=>.undef
 |.agg _=>.agg cs
 |.ptr _=>.c (.ptr n 0)
 |.fn f bp=>.c (.fn f ((List.range bp.length).map (n+·)))
def AS.boxes (cs:List zT):AS→List (List zT)
 |.ptr _=>[cs]
 |.fn _ bp=>Js bp cs
 |_=>[]
def jo:List AS→List zT→Nat→List zW×List (List zT)
 |[],_,_=>([],[])
 |s::l,cs,n=>
  let aj:=cs.take s.cells.length;let bs:=s.boxes aj;let rest:=jo l (cs.drop s.cells.length) (n+bs.length)
  (s.mk n aj::rest.1,bs++rest.2)
def jq (bs:List (List zT)):Hp:=fun n=>match bs[n]? with
 |some cells=>some (.robox cells)
 |none=>none
def mH l (d:AD l):List zW×Hp:=
 let r:=jo l (vI (l.flatMap AS.cells) d) 0
 (r.1,jq r.2)
inductive RC where
 |int (k:IntKind)|bool|fro (t:Ty)|own (t:Ty)|mat
 |jun
 |map
 |nilp|link (j:Nat)|nil
abbrev RC.den:RC→Type
 |.int _=>Int|.bool=>Bool|.fro t=>List t.den|.own t=>List t.den|.mat=>List (List Int)|.jun=>Nat|.map=>List (Int×Bool)|.nilp=>Unit|.link _=>Unit|.nil=>Unit
abbrev RL:List RC→Type
 |[]=>Unit
 |r::l=>r.den×RL l
inductive RS where
 |c (r:RC)|agg (l:List RC)|tup (l:List (Bool×List RC))
def RS.cells:RS→List RC
 |.c r=>[r]
 |.agg l=>l
 |.tup l=>l.flatMap (·.2)
def O6:List (Bool×List RC)→List (Bool×List zT)→Option (List zT)
 |[],[]=>some []
 | (b, l) :: ls, (g, cs) :: rest => bif (bif b then g else !g && Nat.beq cs.length 1) && Nat.beq cs.length l.length then (match O6 ls rest with
   |some r=>some (cs++r)
   |none=>none) else none
 |_,_=>none
def RS.get:RS→zW→Option (List zT)
 |.c _,.c x=>some [x]
 |.agg l,.agg xs=>bif Nat.beq xs.length l.length then some xs else none
 |.tup l,.tup xs=>O6 l xs
 |_,_=>none
def O7:List (Bool×List RC)→List zT→List (Bool×List zT)
 |[],_=>[]
 |(b,l)::ls,cs=>(b,cs.take l.length)::O7 ls (cs.drop l.length)
def RS.mk (cs:List zT):RS→zW
 |.c _=>match cs with|x::_=>.c x|[]=>.undef
 |.agg _=>.agg cs
 |.tup l=>.tup (O7 l cs)
def jV (h:Hp):List Bool→List zT→Option (List zT×yV)
 |true::l,c::cs=>match lL h c,jV h l cs with
  |some (c,u),some (cs,us)=>some (c::cs,u++us)
  |_,_=>none
 |false::l,c::cs=>match jV h l cs with
  |some (cs,us)=>some (c::cs,us)
  |none=>none
 |_,cs=>some (cs,[])
def RC.isFro:RC→Bool
 |.fro _=>true
 |_=>false
def PC.isKept:PC→Bool
 |.dat true _=>true
 |_=>false
def mI (h:Hp):(r:RC)→zT→Option r.den
 |.int k,.int j n=>bif jY j k then some n else none
 |.bool,.bool b=>some b
 |.fro t,.fsl true s xs=>fx s t xs
 |.fro t,.nsl=>some []
 |.own t,.osl id none=>match h id with
  |some (.arr true s xs)=>fx s t xs
  |_=>none
 |.own t,.osl id (some (0,n))=>match h id with
  |some (.arr true s xs)=>fx s t (xs.take n)
  |_=>none
 |.own t,.nsl=>some []
 |.mat,.osl id none=>match h id with
  |some (.mat _ xs)=>some xs
  |some (.pmat _ xs n)=>bif Nat.beq xs.length n then some xs else none
  |_=>none
 |.mat,.nsl=>some []
 |.jun,.osl id none=>match h id with
  |some (.arr true (.sl (.int .i64)) xs)=>some xs.length
  |_=>none
 |.jun,.nsl=>some 0
 |.map,.map id=>match h id with
  |some (.imap cL)=>some cL
  |_=>none
 |.nilp,.nilp=>some ()
 |.link _,.ptr _ 0=>some ()
 |.nil,.nsl=>some ()
 |_,_=>none
def ir (h:Hp):(l:List RC)→List zT→Option (RL l)
 |[],[]=>some ()
 |r::l,c::cs=>match mI h r c,ir h l cs with
  |some d,some ds=>some (d,ds)
  |_,_=>none
 |_,_=>none
def vM:List RC→List zT→List Nat
 |.own _::l,.osl id _::cs=>id::vM l cs
 |.mat::l,.osl id _::cs=>id::vM l cs
 |.jun::l,.osl id _::cs=>id::vM l cs
 |.map::l,.map id::cs=>id::vM l cs
 |_::l,_::cs=>vM l cs
 |_,_=>[]
def EX (h:Hp)(s:RS)(v:zW):Option (RL s.cells):=match s.get v with
 |some cs=>match jV h (s.cells.map RC.isFro) cs with
  |some (cs,u)=>bif oZ (vM s.cells cs) then ir (qF h u) s.cells cs else none
  |none=>none
 |none=>none
def kz (rs:RS){X:Type}(unpack:RL rs.cells→X)(v:zW)(st:St):Option X:=match EX st.h rs v with
 |some d=>some (unpack d)
 |none=>none
def nS (nm:Nat):(r:RC)→r.den→zT×yV
 |.int k,n=>(.int k n,[])
 |.bool,b=>(.bool b,[])
 |.fro t,xs=>(.fsl true t xs,[])
 |.own t,xs=>(.osl nm none,[(nm,.arr true t xs)])
 |.mat,xs=>(.osl nm none,[(nm,.mat 0 xs)])
 |.jun,n=>(.osl nm none,[(nm,.pmat 0 [] n)])
 |.map,cL=>(.map nm,[(nm,.imap cL)])
 |.nilp,_=>(.nilp,[])
 |.link _,_=>(.undef,[])
 |.nil,_=>(.nsl,[])
def lV (nm:Nat):(l:List RC)→RL l→List zT×yV
 |[],_=>([],[])
 |r::l,d=>
  let x:=nS nm r d.1;let y:=lV (nm+1) l d.2
  (x.1::y.1,x.2++y.2)
def yRk (nm:Nat)(s:RS)(d:RL s.cells):zW×yV:=
 let r:=lV nm s.cells d
 (s.mk r.1,r.2)
def sm (h:Hp):Nat→Nat→Bool
 |_,0=>true
 |nm,n+1=>(match h nm with|none=>true|some _=>false)&&sm h (nm+1) n
def sn (h:Hp):AS→zW→Option (zW×yV)
 |.c p,.c x=>match jV h [p.isKept] [x] with
  |some ([x],u)=>some (.c x,u)
  |_=>none
 |.agg l,.agg xs=>match jV h (l.map PC.isKept) xs with
  |some (xs,u)=>some (.agg xs,u)
  |none=>none
 |_,a=>some (a,[])
def nT (h:Hp):List AS→List zW→Option (List zW×yV)
 |s::l,a::as=>match sn h s a,nT h l as with
  |some (a,u),some (as,us)=>some (a::as,u++us)
  |_,_=>none
 |_,as=>some (as,[])
def lW as (rs:RS){X}(S:AD as→Option X)(pack:X→RL rs.cells)(nm:Nat)(args:List zW)(h:Hp):yN:=
 match nT h as args with
 |none=>.stuck
 |some (args,u)=>match u9 (qF h u) as args with
  |some d=>bif sm h nm rs.cells.length&&Nat.ble rs.cells.length 100 then .call X (S d) (fun r=>((yRk nm rs (pack r)).1,u++(yRk nm rs (pack r)).2)) else .stuck
  |none=>.stuck
structure Lo (M Ml:zI):Prop where
 H:Ml.H=M.H
 F:Ml.F=fun b=>b<M.H.size
 G:Ml.G=M.G
theorem O8 {M M':zI}(ok:Ok M')(hH:M'.H=M.H){t}{xs:List t.den}{v}(h:qB M'.H M'.G (.sl t) xs (fun _=>some v)):qB M.H (fun b=>b<M.H.size) (.sl t) xs (fun _=>some v):=by
 refine yR (fun b hb=>?_) (by grind) _ _ _ _ (by simp) h;have:=ok.Flt b (ok.GF b hb);simp_all
theorem vQd {M}(ok:Ok M){c v t xs}(hv:zQ M c v)(h:gY M.h c=some ⟨t,xs⟩):qB M.H (fun b=>b<M.H.size) (.sl t) xs (fun _=>some v):=by
 unfold gY at h;split at h
 ·rename_i sh s ys;cases h;cases sh with
  |true=>exact yR (fun b hb=>ok.Flt b (ok.GF b hb)) (by simp) _ _ _ _ (fun _ _=>rfl) hv
  |false=>exact yR (fun b hb=>ok.Flt b hb) (by simp) _ _ _ _ (fun _ _=>rfl) hv
 ·rename_i id r;split at h
  ·rename_i own s ys ah;cases h;cases own with
   |false=>
    obtain⟨C,hC,hO⟩:=ok.obj _ _ ah;exact O8 ok rfl (uv hC hO hv)
   |true=>
    obtain⟨M',h1,h2,h3,h4⟩:=Yx ok ah;obtain⟨C,hC,hO⟩:=h3.obj id _ (by rw[h2];exact yG _ _ _);exact O8 h3 h1 (uv hC hO (hv.ext h4.ext))
  ·rename_i ver ys ah;cases r with
   |some p=>cases h
   |none=>
    cases h;obtain⟨M',h1,h2,h3,h4⟩:=Yz ok ah;obtain⟨C,hC,hO⟩:=h3.obj id _ (by rw[h2];exact yG _ _ _);exact O8 h3 h1 (uv (r:=none) hC hO (hv.ext h4.ext))
  ·cases h
 ·rename_i id i ver;split at h
  ·rename_i v' ys ah;cases eu:Nat.beq v' ver with
   |false=>simp_all
   |true=>
    rw[eu] at h;cases h;have e:v'=ver:=by simpa using eu
    subst e;obtain⟨C,hC,hO⟩:=ok.obj _ _ ah;obtain⟨C',aw,cc,_,aU⟩:=hv;rw[hC] at aw;cases aw;obtain⟨rb,rl,se,nN⟩:=aU hO.1;by_cases hi:i<ys.length
    ·obtain⟨B,mA,v2,k1,k2,k3,k4,k5,k6⟩:=yx hO hi;rw[se] at k3;cases k3;rw[show ys.getD i []=ys[i] by simp_all];simp only[qB];cases rb with
     |none=>
      obtain⟨rfl,h0⟩:=nN;grind
     |some R=>
      obtain⟨a,c,rfl,h1,h2,h3⟩:=nN;refine⟨_,_,c,rfl,rfl,h1,?_⟩;by_cases h0:ys[i].length=0
      ·simp_all
      ·have ha:a=0:=by omega
       subst ha;refine .inr ⟨R,0,rfl,?_,fun j hj=>?_⟩
       ·have:=k6 R rfl 0 (by omega);unfold yH at this;grind
       ·simp only[Ty.size];simp_all
    ·have:C.rows[i]? =none:=List.getElem?_eq_none (by have:=hO.2.2.2.1;omega);simp_all
  ·cases h
 ·cases h
theorem EY {H F t}:qB H F (.sl t) ([]:List t.den) (fun _=>some (.slice none 0 0)):=⟨none,0,0,rfl,rfl,by simp,by simp⟩
theorem vPh {M}(ok:Ok M){c v t xs}(hv:zQ M c v)(h:uY M.h t c=some xs):qB M.H (fun b=>b<M.H.size) (.sl t) xs (fun _=>some v):=by
 unfold uY at h;split at h
 ·cases h;rw[show v=.slice none 0 0 from hv];exact EY
 ·split at h
  ·rename_i s ys hr;obtain⟨e,hx⟩:=iO h;subst e;subst hx;exact vQd ok hv hr
  ·cases h
def Tr (M:zI)(c c':zT):Prop:=∀v Ml,Lo M Ml→zQ M c v→zQ Ml c' v
theorem vRb {M}(ok:Ok M){p c d}(h:pF M.h p c=some d):Tr M c (zx p d):=by
 intro v Ml lo hv;unfold pF at h;split at h
 ·rename_i k j n;cases e:jY j k with
  |false=>simp_all
  |true=>rw[e] at h;cases h;rw[←oV e];exact hv
 ·cases h;exact hv
 ·have:=vPh ok hv h;show qB Ml.H Ml.F _ _ _;rw[lo.H,lo.F];omega
 ·obtain⟨e,hx⟩:=iO h;subst e;subst hx;show qB Ml.H Ml.G _ _ _;rw[lo.H,lo.G];exact hv
 ·cases h;rw[show v=.slice none 0 0 from hv];exact EY
 ·rename_i f g;cases e:Nat.beq f g with
  |false=>simp_all
  |true=>
   have:f=g:=by simp_all
   subst this;obtain⟨cv,rfl,hc⟩:=hv;refine⟨cv,rfl,?_⟩;generalize cv.toList=l at hc;cases l with
   |nil=>trivial
   |cons _ _=>exact hc.elim
 ·exact hv
 ·exact hv
 ·cases h
theorem qVt {M}(ok:Ok M):∀{l cs d},uZ M.h l cs=some d→zK (Tr M) cs (vI l d)
 |[],[],_,_=>trivial
 |p::l,c::cs,d,h=>by
  unfold uZ at h;split at h
  ·rename_i x xs h1 h2;cases h;exact⟨vRb ok h1,qVt ok h2⟩
  ·cases h
theorem O9 {M Ml}(lo:Lo M Ml):∀{cs aM vs},zK (Tr M) cs aM→zK (zQ M) cs vs→zK (zQ Ml) aM vs
 |[],[],[],_,_=>trivial
 |_::_,_::_,_::_,h,k=>⟨h.1 _ _ lo k.1,O9 lo h.2 k.2⟩
def so (M:zI)(C:zZ)(cells:List zT):Prop:=∃B vals e,C.blk=some B∧C.rows=[]∧M.H[B]? =some (.cells vals e (0,0))∧zK (zQ M) cells vals.toList
theorem yD9 {M}(ok:Ok M){id cells}(h:zw M.h id=some cells):∃C,M.κ id=some C∧so M C cells:=by
 unfold zw at h;split at h
 ·rename_i own cs ah;cases h;obtain⟨C,hC,B,vals,e,h1,h2,h3,h4,_⟩:=ok.obj id _ ah;exact⟨C,hC,B,vals,e,h1,h2,h3,h4⟩
 ·rename_i cs ah;cases h;obtain⟨C,hC,B,vals,e,h1,h2,h3,h4,_⟩:=ok.obj id _ ah;exact⟨C,hC,B,vals,e,h1,h2,h3,h4⟩
 ·cases h
theorem so.tr {M Ml}(lo:Lo M Ml){C cs aM}(h:so M C cs)(ht:zK (Tr M) cs aM):so Ml C aM:=by
 obtain⟨B,vals,e,h1,h2,h3,h4⟩:=h;exact⟨B,vals,e,h1,h2,by rw[lo.H];exact h3,O9 lo ht h4⟩
theorem Pb {M}(ok:Ok M):∀{ls ids cs aM},pG M.h ls ids=some cs→zK (Tr M) cs aM→cs.length=ls.flatten.length∧ids.length=ls.length∧
  ∃Cs:List zZ,zK (fun id C=>M.κ id=some C) ids Cs∧∀Ml,Lo M Ml→zK (so Ml) Cs (Js ls aM)
 |[],[],cs,aM,h,ht=>by cases h;exact⟨rfl,rfl,[],trivial,fun _ _=>trivial⟩
 |l::ls,id::ids,cs,aM,h,ht=>by
  unfold pG at h;split at h
  ·rename_i cells rest h1 h2;obtain⟨hl,h⟩:cells.length=l.length∧cells++rest=cs:=by
    cases e:Nat.beq cells.length l.length with
    |false=>simp_all
    |true=>simp_all
   subst h;have lX:=zK.take l.length ht;have lf:=zK.drop l.length ht;rw[←hl,List.take_left] at lX;rw[←hl,List.drop_left] at lf;obtain⟨C,hC,hB⟩:=yD9 ok h1;obtain⟨k1,k2,Cs,k3,k4⟩:=Pb ok h2 lf;refine⟨by simp_all,by simp[k2],C::Cs,⟨hC,k3⟩,fun Ml lo=>⟨?_,?_⟩⟩
   ·rw[←hl];exact hB.tr lo lX
   simp_all
  ·cases h
theorem vH0 {M}(ok:Ok M){s:AS}{a v cs aM n}(hv:zP M a v)(h:s.get M.h a=some cs)(ht:zK (Tr M) cs aM):
  ∃Cs:List zZ,(∀Ml,Lo M Ml→zK (so Ml) Cs (s.boxes aM))∧(∀Ml,Lo M Ml→(∀i C,Cs[i]? =some C→Ml.κ (n+i)=some C)→zP Ml (s.mk n aM) v):=by
 unfold AS.get at h;split at h
 ·cases h
  match aM,ht with
  |[c'],ht=>exact⟨[],fun _ _=>trivial,fun Ml lo _=>ht.1 v Ml lo hv⟩
 ·rename_i l xs;cases e:Nat.beq xs.length l.length with
  |false=>simp_all
  |true=>
   rw[e] at h;cases h;obtain⟨vs,rfl,hx⟩:=hv;exact⟨[],fun _ _=>trivial,fun Ml lo _=>⟨vs,rfl,O9 lo ht hx⟩⟩
 ·rename_i l id;have:=Pb ok h ht;obtain⟨k1,k2,Cs,k3,k4⟩:=this;obtain⟨C,B,hC,hB,e⟩:=hv;have hl:aM.length=l.length:=by rw[←ht.length,k1];simp
  match Cs,k3 with
  |[C'],k3=>
   have e':C'=C:=by
    have:M.κ id=some C':=k3.1;simp_all
   subst e';refine⟨[C'],fun Ml lo=>?_,fun Ml lo hκ=>⟨C',B,hκ 0 C' rfl,hB,e⟩⟩;have:=k4 Ml lo;simp[Js] at this;rw[List.take_of_length_le (by omega)] at this;exact this
 ·rename_i f bp g ids;cases e:Nat.beq f g with
  |false=>simp_all
  |true=>
   rw[e] at h;have Pc:f=g:=by simp_all
   subst Pc;obtain⟨k1,k2,Cs,k3,k4⟩:=Pb ok h ht;refine⟨Cs,k4,fun Ml lo hκ=>?_⟩;obtain⟨cv,rfl,hc⟩:=hv;refine⟨cv,rfl,?_⟩;have l1:=k3.length;have l2:=hc.length;refine zK.of_get (by simp_all) fun i h1 h2=>?_
   simp;have hi:i<ids.length:=by omega
   have bE:i<Cs.length:=by omega
   obtain⟨C,B,q1,q2,q3⟩:=hc.get i hi h2;have q4:=k3.get i hi bE;simp_all
 ·cases h
theorem Pd {h}:∀{ls ids cs},pG h ls ids=some cs→cs.length=ls.flatten.length
 |[],[],cs,e=>by cases e;rfl
 |l::ls,id::ids,cs,e=>by
  unfold pG at e;split at e
  ·rename_i cells rest h1 h2;cases el:Nat.beq cells.length l.length with
   |false=>simp_all
   |true=>
    rw[el] at e;cases e;have:cells.length=l.length:=by simp_all
    simp[this,Pd h2]
  ·cases e
theorem vFz {h}{s:AS}{a cs}(e:s.get h a=some cs):cs.length=s.cells.length:=by
 unfold AS.get at e;split at e
 ·cases e;rfl
 ·rename_i l xs;cases el:Nat.beq xs.length l.length with
  |false=>simp_all
  |true=>rw[el] at e;cases e;exact Nat.eq_of_beq_eq_true el
 ·rw[Pd e];simp[AS.cells]
 ·rename_i f bp g ids;cases el:Nat.beq f g with
  |false=>simp_all
  |true=>rw[el] at e;exact Pd e
 ·cases e
theorem yOf {M}(ok:Ok M):∀{l as vs cs aM n},zK (zP M) as vs→nR M.h l as=some cs→zK (Tr M) cs aM→
  ∃Cs:List zZ,(∀Ml,Lo M Ml→zK (so Ml) Cs (jo l aM n).2)∧(∀Ml,Lo M Ml→(∀i C,Cs[i]? =some C→Ml.κ (n+i)=some C)→zK (zP Ml) (jo l aM n).1 vs)
 |[],[],[],cs,aM,n,_,_,_=>⟨[],fun _ _=>trivial,fun _ _ _=>trivial⟩
 |s::l,a::as,v::vs,cs,aM,n,hv,h,ht=>by
  unfold nR at h;split at h
  ·rename_i ku rest h1 h2;cases h;have hl:=vFz h1;have lX:=zK.take s.cells.length ht;have lf:=zK.drop s.cells.length ht;rw[←hl,List.take_left,hl] at lX;rw[←hl,List.drop_left,hl] at lf;obtain⟨C1,k1,k2⟩:=vH0 ok (n:=n) hv.1 h1 lX;obtain⟨C2,k3,k4⟩:=yOf ok (n:=n+(s.boxes (aM.take s.cells.length)).length) hv.2 h2 lf;refine⟨C1++C2,fun Ml lo=>(k1 Ml lo).append (k3 Ml lo),fun Ml lo hκ=>⟨k2 Ml lo fun i C hi=>hκ i C ?_,k4 Ml lo fun i C hi=>?_⟩⟩
   ·grind
   ·have hb:=(k1 Ml lo).length;have:=hκ (C1.length+i) C (by grind);grind
  ·cases h
def zI.below (M:zI)(Cs:List zZ)(bs:List (List zT)):zI:={κ:=fun n=>Cs[n]?,F:=fun b=>b<M.H.size,G:=M.G,h:=jq bs,H:=M.H}
theorem zI.below_lo M Cs bs:Lo M (M.below Cs bs):=⟨rfl,rfl,rfl⟩
theorem zI.below_ok {M}(ok:Ok M){Cs bs}(h:zK (so (M.below Cs bs)) Cs bs):Ok (M.below Cs bs)∧∀b,¬qJ (M.below Cs bs) b:=by
 have hr:∀id o,(M.below Cs bs).h id=some o→∃cells,bs[id]? =some cells∧o=.robox cells:=fun id o e=>by
  have e:jq bs id=some o:=e;unfold jq at e;grind
 have EZ:∀b,¬qJ (M.below Cs bs) b:=fun b ⟨id,o,C,h1,h2,_,_⟩=>by
  obtain⟨cells,_,rfl⟩:=hr id o h1;cases h2
 refine⟨⟨fun id o e=>?_,fun id e=>?_,fun i j oi oj Ci Cj b _ h1 _ h3 _ _ _ _ _=>?_,by grind,fun b hb=>ok.Flt b (ok.GF b hb),fun b hb=>hb⟩,EZ⟩
 ·obtain⟨cells,hc,rfl⟩:=hr id o e;have bn:id<bs.length:=by
   grind
  have g9:id<Cs.length:=by rw[h.length];omega
  obtain⟨B,vals,ev,q1,q2,q3,q4⟩:=h.get id g9 bn;rw[List.getElem?_eq_getElem bn] at hc;cases hc;refine⟨Cs[id],List.getElem?_eq_getElem g9,B,vals,ev,q1,q2,q3,q4,?_⟩;exact(Array.getElem?_eq_some_iff.1 q3).1
 ·have e:jq bs id=none:=e;unfold jq at e;split at e
  ·cases e
  ·rename_i hc;show Cs[id]? =none;rw[List.getElem?_eq_none_iff] at hc⊢;rw[h.length];exact hc
 ·obtain⟨cells,_,rfl⟩:=hr i oi h1;cases h3
theorem vO4 {M}(ok:Ok M){l as vs d}(hv:zK (zP M) as vs)(h:u9 M.h l as=some d):
  ∃Ml:zI,Lo M Ml∧Ml.h=(mH l d).2∧Ok Ml∧(∀b,¬qJ Ml b)∧zK (zP Ml) (mH l d).1 vs:=by
 unfold u9 at h;split at h
 ·rename_i cs hg;obtain⟨Cs,h1,h2⟩:=yOf ok (n:=0) hv hg (qVt ok h);have lo:=M.below_lo Cs (jo l (vI (l.flatMap AS.cells) d) 0).2;have:=zI.below_ok ok (h1 _ lo);exact⟨_,lo,rfl,this.1,this.2,h2 _ lo fun i C hi=>by rw[Nat.zero_add];exact hi⟩
 ·cases h
theorem sr {h0}:∀{l cs aM vs u M},Ok M→wF h0 M.h→zK (zQ M) cs vs→jV h0 l cs=some (aM,u)→
  ∃L:zI,L.H=M.H∧L.h=qF M.h u∧Ok L∧yS M L∧zK (zQ L) aM vs∧wF h0 L.h
 |[],cs,aM,vs,u,M,ok,hf,hc,h=>by
  cases cs<;>cases h<;>exact⟨M,rfl,rfl,ok,.refl M,hc,hf⟩
 |true::l,[],aM,vs,u,M,ok,hf,hc,h
 |false::l,[],aM,vs,u,M,ok,hf,hc,h=>by cases h;exact⟨M,rfl,rfl,ok,.refl M,hc,hf⟩
 |true::l,c::cs,aM,v::vs,u,M,ok,hf,hc,h=>by
  unfold jV at h;split at h
  ·rename_i c1 u1 ku nG e1 e2;cases h;obtain⟨M1,h1,h2,h3,h4,h5,h6,_⟩:=Eh ok hf hc.1 e1;obtain⟨M2,k1,k2,k3,k4,k5,k6⟩:=sr h3 h6 (hc.2.mono fun _ _ h=>h.ext h4.ext) e2;exact⟨M2,k1.trans h1,by rw[k2,h2,iN],k3,h4.trans k4,⟨h5.ext k4.ext,k5⟩,k6⟩
  ·cases h
 |false::l,c::cs,aM,v::vs,u,M,ok,hf,hc,h=>by
  unfold jV at h;split at h
  ·rename_i ku nG e2;cases h;obtain⟨M2,k1,k2,k3,k4,k5,k6⟩:=sr ok hf hc.2 e2;exact⟨M2,k1,k2,k3,k4,⟨hc.1.ext k4.ext,k5⟩,k6⟩
  ·cases h
def zI.add (M:zI)(nm:Nat)(o:Obj)(C:zZ):zI:={M with κ:=κset M.κ nm C,h:=qW M.h nm o}
theorem zI.add_ok {M}(ok:Ok M){nm}(aO:M.h nm=none){o C}(hO:yP (M.add nm o C) o C)(hb:∀b∈C.fp,¬qJ M b∧¬M.F b∧b<M.H.size):
  Ok (M.add nm o C)∧yD M (M.add nm o C)∧(∀b,qJ (M.add nm o C) b→qJ M b∨b∈C.fp):=by
 have x:yD M (M.add nm o C):=⟨fun id D h=>by
  have bh:id≠nm:=fun e=>by rw[e,ok.non nm aO] at h;cases h
  exact⟨D,by show κset M.κ nm _ id=_;rw[κset_ne _ _ bh];exact h,D.le_refl⟩,fun _ h=>h,fun _ h=>h,fun _ _=>rfl,fun _ _=>rfl,fun _ _=>rfl⟩
 refine⟨Ok.build ok x (fun id=>id=nm) (fun id h=>yI _ _ h) (fun id h=>κset_ne _ _ h) (fun _ _ _ _ _ _ _ _ _=>rfl) (fun id o' D h1 h2 h3 h4 b bD=>(ok.own b ⟨id,o',D,h2,h3,h4,bD⟩).1) (Nat.le_refl _)
  (fun id o' e h=>?_) (fun id e h=>?_) (fun id o' D b e h1 h2 h3 h4=>?_) ok.GF ok.Flt,x,fun b bD=>?_⟩
 ·subst e;have e1:(M.add id o C).h id=some o:=yG _ _ _;rw[e1] at h;cases h;exact⟨_,κset_same _ _ _,hO⟩
 ·have e1:(M.add id o C).h id=some o:=yG _ _ _;simp_all
 ·subst e;have e1:(M.add id o C).κ id=some C:=κset_same _ _ _;rw[e1] at h3;cases h3;obtain⟨k1,k2,k3⟩:=hb b h4;refine⟨fun j oj Cj hj q1 q2 q3 q4=>k1 ⟨j,oj,Cj,?_,q2,?_,q4⟩,k2,k3⟩
  ·rw[←q1];exact(yI _ _ hj).symm
  ·rw[←q3];exact(κset_ne _ _ hj).symm
 ·obtain⟨id,o',D,h1,h2,h3,h4⟩:=bD;by_cases e:id=nm
  ·have e1:(M.add id o C).κ id=some C:=κset_same _ _ _;simp_all
  ·exact .inl ⟨id,o',D,by rw[←h1];exact(yI _ _ e).symm,h2,by rw[←h3];exact(κset_ne _ _ e).symm,h4⟩
structure Up (L Mc:zI):Prop where
 H:Mc.H=L.H
 G:Mc.G=L.G
theorem yD8 {L Mc}(up:Up L Mc){t xs C}(h:yP L (.arr true t xs) C):yP Mc (.arr true t xs) C:=by
 obtain⟨h1,h2,h3,h4⟩:=h;refine⟨h1,h2,h3,?_⟩;rw[up.H,up.G];exact h4
theorem yUp {L Mc}(up:Up L Mc){ver xs C}(h:yP L (.mat ver xs) C):yP Mc (.mat 0 xs) {C with ver:=0}:=by
 obtain⟨h1,h2⟩:=h;refine⟨rfl,?_⟩;rw[up.H];exact h2
theorem yWo {L Mc}(up:Up L Mc){ver n xs C}(h:yP L (.pmat ver xs n) C)(hn:xs.length=n):yP Mc (.mat 0 xs) {C with ver:=0}:=by
 obtain⟨h1,h2,h3,h4,h5,_,h6⟩:=h;refine⟨rfl,by rw[hn];exact h2,h3,h4,h5,?_⟩;rw[up.H];subst hn;simp_all
theorem vJp {L Mc}(up:Up L Mc){xs:List (List Int)}{C}(h:yP L (.arr true (.sl (.int .i64)) xs) C):yP Mc (.pmat 0 [] xs.length) {C with ver:=0}:=by
 obtain⟨h1,h2,h3,h4⟩:=h;have hr:=h3 rfl;refine⟨rfl,h1,h2,by simp_all,?_,by simp,?_⟩
 ·simp[zZ.fp];grind
 ·cases hB:C.blk with
  |none=>simp_all
  |some B=>
   rw[hB] at h4;obtain⟨vals,e,h5,_,h7,_⟩:=h4;refine⟨vals,e,by rw[up.H];exact h5,by simpa[Ty.size] using h7,by simp⟩
theorem vLu {L Mc}(fW:Ok L)(ok:Ok Mc)(up:Up L Mc){nm}(aO:Mc.h nm=none){r c d}(h:mI L.h r c=some d)
  (hb:∀id∈vM [r] [c],∀C,L.κ id=some C→∀b∈C.fp,¬qJ Mc b∧¬Mc.F b∧b<Mc.H.size):
  ∃dQ:zI,dQ.H=Mc.H∧dQ.G=Mc.G∧dQ.F=Mc.F∧dQ.h=qF Mc.h (nS nm r d).2∧Ok dQ∧yD Mc dQ∧
   (∀b,qJ dQ b→qJ Mc b∨∃id∈vM [r] [c],∃C,L.κ id=some C∧b∈C.fp)∧∀v,zQ L c v→zQ dQ (nS nm r d).1 v:=by
 have same : (nS nm r d).2 = [] → (∀ v, zQ L c v → zQ Mc (nS nm r d).1 v) → _ := fun e hv => (⟨Mc,rfl,rfl,rfl,by rw[e];rfl,ok,.refl Mc,by grind,hv⟩:
  ∃dQ:zI,dQ.H=Mc.H∧dQ.G=Mc.G∧dQ.F=Mc.F∧dQ.h=qF Mc.h (nS nm r d).2∧Ok dQ∧yD Mc dQ∧
   (∀b,qJ dQ b→qJ Mc b∨∃id∈vM [r] [c],∃C,L.κ id=some C∧b∈C.fp)∧∀v,zQ L c v→zQ dQ (nS nm r d).1 v)
 unfold mI at h;split at h
 ·rename_i k j n;cases e:jY j k with
  |false=>rw[e] at h;cases h
  |true=>
   rw[e] at h;cases h;exact same rfl fun v hv=>by rw[←oV e];exact hv
 ·cases h;exact same rfl fun v hv=>hv
 ·obtain⟨e,hx⟩:=iO h;subst e;subst hx;refine same rfl fun v hv=>?_
  show qB Mc.H Mc.G _ _ _;rw[up.H,up.G];exact hv
 ·cases h;refine same rfl fun v hv=>?_
  rw[show v=.slice none 0 0 from hv];exact EY
 ·rename_i t id;split at h
  ·rename_i s xs ah;obtain⟨e,hx⟩:=iO h;subst e;subst hx;obtain⟨C,hC,hO⟩:=fW.obj id _ ah;obtain⟨k1,k2,k3⟩:=zI.add_ok ok aO (o:=.arr true s xs) (C:=C) (yD8 (Mc:=Mc.add nm (.arr true s xs) C) ⟨up.H,up.G⟩ hO) (hb id (by simp[vM]) C hC);refine⟨Mc.add nm (.arr true s xs) C,rfl,rfl,rfl,rfl,k1,k2,fun b bD=>(k3 b bD).imp (fun h=>h) fun h=>⟨id,by simp[vM],C,hC,h⟩,fun v hv=>?_⟩;obtain⟨C',aw,hS⟩:=hv;rw[hC] at aw;cases aw;refine⟨C,κset_same _ _ _,?_⟩;show wG Mc.H C 0 C.len v;rw[up.H];exact hS
  ·cases h
 ·rename_i t id n;split at h
  ·rename_i s xs ah;obtain⟨e,hx⟩:=iO h;subst e;subst hx;obtain⟨C,hC,hO⟩:=fW.obj id _ ah;let C':zZ:={C with len:=(xs.take n).length};have pj:yP (Mc.add nm (.arr true s (xs.take n)) C') (.arr true s (xs.take n)) C':=by
    obtain⟨q1,q2,q3,q4⟩:=yD8 (Mc:=Mc.add nm (.arr true s (xs.take n)) C') ⟨up.H,up.G⟩ hO;refine⟨rfl,q2,q3,?_⟩;show match C.blk with
     |none=>_
     |some B=>_
    cases hB:C.blk with
    |none=>rw[hB] at q4;show xs.take n=[];rw[q4];simp
    |some B=>
     rw[hB] at q4;obtain⟨vals,e,r1,r2,r3,r4⟩:=q4;have hle:(xs.take n).length≤xs.length:=by rw[List.length_take];omega
     have:=Nat.mul_le_mul_right s.size hle;refine⟨vals,e,r1,r2,by omega,fun i hi=>?_⟩;rw[List.getElem_take];exact r4 i (by omega)
   obtain⟨k1,k2,k3⟩:=zI.add_ok ok aO (o:=.arr true s (xs.take n)) (C:=C') pj (hb id (by simp[vM]) C hC);refine⟨Mc.add nm (.arr true s (xs.take n)) C',rfl,rfl,rfl,rfl,k1,k2,fun b bD=>(k3 b bD).imp (fun h=>h) fun h=>⟨id,by simp[vM],C,hC,h⟩,fun v hv=>?_⟩;obtain⟨C1,fU,h1,hS,_⟩:=hv;rw[hC] at fU;cases fU;have hl:(xs.take n).length=n:=by rw[List.length_take,←hO.1];omega
   refine⟨C',κset_same _ _ _,?_⟩;show wG Mc.H C' 0 (xs.take n).length v;rw[hl,up.H];exact hS
  ·cases h
 ·rename_i t;cases h;obtain⟨k1,k2,k3⟩:=Mc.nilObj_ok ok aO t false;refine⟨Mc.nilObj nm (il t false) (jn t false),rfl,rfl,rfl,rfl,k1,k2,by grind,fun v hv=>?_⟩;rw[show v=.slice none 0 0 from hv];exact⟨_,κset_same _ _ _,none,0,rfl,rfl,rfl,rfl⟩
 ·rename_i id;split at h
  ·rename_i ver xs ah;cases h;obtain⟨C,hC,hO⟩:=fW.obj id _ ah;obtain⟨k1,k2,k3⟩:=zI.add_ok ok aO (o:=.mat 0 d) (C:={C with ver:=0}) (yUp (Mc:=Mc.add nm (.mat 0 d) {C with ver:=0}) ⟨up.H,up.G⟩ hO) (hb id (by simp[vM]) C hC);refine⟨Mc.add nm (.mat 0 d) {C with ver:=0},rfl,rfl,rfl,rfl,k1,k2,fun b bD=>(k3 b bD).imp (fun h=>h) fun h=>⟨id,by simp[vM],C,hC,h⟩,fun v hv=>?_⟩;obtain⟨C',aw,hS⟩:=hv;rw[hC] at aw;cases aw;refine⟨_,κset_same _ _ _,?_⟩;show wG Mc.H C 0 C.len v;rw[up.H];exact hS
  ·rename_i ver xs n ah;obtain⟨hc,h⟩:Nat.beq xs.length n=true∧some xs=some d:=by
    cases e:Nat.beq xs.length n with
    |true=>rw[e] at h;exact⟨rfl,h⟩
    |false=>rw[e] at h;cases h
   cases h;obtain⟨C,hC,hO⟩:=fW.obj id _ ah;obtain⟨k1,k2,k3⟩:=zI.add_ok ok aO (o:=.mat 0 d) (C:={C with ver:=0}) (yWo (Mc:=Mc.add nm (.mat 0 d) {C with ver:=0}) ⟨up.H,up.G⟩ hO (Nat.eq_of_beq_eq_true hc)) (hb id (by simp[vM]) C hC);refine⟨Mc.add nm (.mat 0 d) {C with ver:=0},rfl,rfl,rfl,rfl,k1,k2,fun b bD=>(k3 b bD).imp (fun h=>h) fun h=>⟨id,by simp[vM],C,hC,h⟩,fun v hv=>?_⟩;obtain⟨C',aw,hS⟩:=hv;rw[hC] at aw;cases aw;refine⟨_,κset_same _ _ _,?_⟩;show wG Mc.H C 0 C.len v;rw[up.H];exact hS
  ·cases h
 ·cases h;obtain⟨k1,k2,k3⟩:=Mc.nilObj_ok ok aO (.int .i64) true;refine⟨Mc.nilObj nm (il (.int .i64) true) (jn (.int .i64) true),rfl,rfl,rfl,rfl,k1,k2,by grind,fun v hv=>?_⟩;rw[show v=.slice none 0 0 from hv];exact⟨_,κset_same _ _ _,none,0,rfl,rfl,rfl,rfl⟩
 ·rename_i id;split at h
  ·rename_i xs ah;cases h;obtain⟨C,hC,hO⟩:=fW.obj id _ ah;obtain⟨k1,k2,k3⟩:=zI.add_ok ok aO (o:=.pmat 0 [] xs.length) (C:={C with ver:=0}) (vJp (Mc:=Mc.add nm (.pmat 0 [] xs.length) {C with ver:=0}) ⟨up.H,up.G⟩ hO) (hb id (by simp[vM]) C hC);refine⟨Mc.add nm (.pmat 0 [] xs.length) {C with ver:=0},rfl,rfl,rfl,rfl,k1,k2,fun b bD=>(k3 b bD).imp (fun h=>h) fun h=>⟨id,by simp[vM],C,hC,h⟩,fun v hv=>?_⟩;obtain⟨C',aw,hS⟩:=hv;rw[hC] at aw;cases aw;refine⟨_,κset_same _ _ _,?_⟩;show wG Mc.H C 0 C.len v;rw[up.H];exact hS
  ·cases h
 ·cases h;obtain⟨k1,k2,k3⟩:=zI.add_ok ok aO (o:=.pmat 0 [] 0) (C:=⟨none,0,1,0,[]⟩) ⟨rfl,rfl,rfl,rfl,by simp[zZ.fp],Nat.le_refl _,rfl⟩ (nofun);refine⟨Mc.add nm (.pmat 0 [] 0) ⟨none,0,1,0,[]⟩,rfl,rfl,rfl,rfl,k1,k2,fun b bD=>(k3 b bD).imp (fun h=>h) nofun,fun v hv=>?_⟩;rw[show v=.slice none 0 0 from hv];exact⟨_,κset_same _ _ _,none,0,rfl,rfl,rfl,rfl⟩
 ·rename_i id;split at h
  ·rename_i cL ah;cases h;obtain⟨C,hC,hO⟩:=fW.obj id _ ah;have pj:yP (Mc.add nm (.imap d) C) (.imap d) C:=by
    obtain⟨B,es,ck,h1,h2,h3,h4,h5⟩:=hO;refine⟨B,es,ck,h1,h2,?_,h4,h5⟩;show Mc.H[B]? =_;rw[up.H];exact h3
   obtain⟨k1,k2,k3⟩:=zI.add_ok ok aO (o:=.imap d) (C:=C) pj (hb id (by simp[vM]) C hC);refine⟨Mc.add nm (.imap d) C,rfl,rfl,rfl,rfl,k1,k2,fun b bD=>(k3 b bD).imp (fun h=>h) fun h=>⟨id,by simp[vM],C,hC,h⟩,fun v hv=>?_⟩;obtain⟨C',B,aw,hB,e⟩:=hv;rw[hC] at aw;cases aw;exact⟨C,B,κset_same _ _ _,hB,e⟩
  ·cases h
 ·exact same rfl fun v hv=>hv
 ·exact same rfl fun v hv=>hv.one
 ·exact same rfl fun v hv=>hv
 ·cases h
theorem Jt r c l cs:vM (r::l) (c::cs)=vM [r] [c]++vM l cs:=by
 cases r<;>cases c<;>rfl
theorem yMi {nm r d n}(h:n≠nm) hh:qF hh (nS nm r d).2 n=hh n:=by
 cases r<;>first|rfl|exact yI _ _ h
theorem Pe {h}:∀{n nm},sm h nm n=true→∀i,i<n→h (nm+i)=none
 |n+1,nm,e,i,hi=>by
  unfold sm at e;rw[Bool.and_eq_true] at e;cases i with
  |zero=>
   grind
  |succ i=>rw[←Pe e.2 i (by omega)];grind
theorem Pf {L:zI}(fW:Ok L):∀{l:List RC} {cs:List zT} {d:RL l} {nm:Nat} {Mc:zI},Ok Mc→Up L Mc→(∀i,i<l.length→Mc.h (nm+i)=none)→ir L.h l cs=some d→(vM l cs).Nodup→
  (∀id∈vM l cs,∃o,L.h id=some o∧o.owned=true)→
  (∀id∈vM l cs,∀C,L.κ id=some C→∀b∈C.fp,¬qJ Mc b∧¬Mc.F b∧b<Mc.H.size)→
  ∃dQ:zI,dQ.H=Mc.H∧dQ.G=Mc.G∧dQ.F=Mc.F∧dQ.h=qF Mc.h (lV nm l d).2∧Ok dQ∧yD Mc dQ∧
   (∀b,qJ dQ b→qJ Mc b∨∃id∈vM l cs,∃C,L.κ id=some C∧b∈C.fp)∧∀vs,zK (zQ L) cs vs→zK (zQ dQ) (lV nm l d).1 vs
 |[],[],d,nm,Mc,ok,up,_,_,_,_,_=>⟨Mc,rfl,rfl,rfl,rfl,ok,.refl Mc,fun b h=>.inl h,fun vs h=>by
  cases vs with
  |nil=>trivial
  |cons _ _=>exact h.elim⟩
 |r::l,c::cs,d,nm,Mc,ok,up,hf,h,df,aJ,hb=>by
  unfold ir at h;split at h
  ·rename_i x xs e1 e2;cases h;rw[Jt] at df aJ hb;obtain⟨nd1,nd2,nd3⟩:=List.nodup_append.1 df;obtain⟨M1,a1,a2,a3,a4,a5,a6,a7,a8⟩:=vLu fW ok up (by have:=hf 0 (by simp);simpa using this) e1 (by grind);have up1:Up L M1:=⟨a1.trans up.H,a2.trans up.G⟩;obtain ⟨M2, b1, b2, b3, b4, b5, b6, b7, b8⟩ := Pf fW (nm := nm + 1) a5 up1 (fun i hi=>by
     rw[a4,yMi (by omega)];have:=hf (i+1) (by simp;omega);grind) e2 nd2 (fun id ah => aJ id (by grind)) (fun id ah C hC b zy=>by
     obtain⟨q1,q2,q3⟩:=hb id (List.mem_append_right _ ah) C hC b zy;refine⟨fun ho=>?_,by simp_all,by simp_all⟩;rcases a7 b ho with ho|⟨jd,cM,D,hD,Pg⟩
     ·exact q1 ho
     ·have bh:id≠jd:=by grind
      obtain⟨o1,p1,p2⟩:=aJ id (by grind);obtain⟨o2,p3,p4⟩:=aJ jd (List.mem_append_left _ cM);exact fW.disj id jd o1 o2 C D b bh p1 p3 p2 p4 hC hD zy Pg)
   refine⟨M2,b1.trans a1,b2.trans a2,b3.trans a3,?_,b5,a6.trans (by simp_all) b6,fun b bD=>?_,fun vs de=>?_⟩
   ·show M2.h=qF Mc.h ((nS nm r x).2++(lV (nm+1) l xs).2);rw[iN,←a4];exact b4
   ·rw[Jt];grind
   ·cases vs with
    |nil=>exact de.elim
    |cons v vs=>exact⟨(a8 v de.1).ext b6,b8 vs de.2⟩
  ·cases h
 |[],_::_,_,_,_,_,_,_,h,_,_,_=>by cases h
 |_::_,[],_,_,_,_,_,_,h,_,_,_=>by cases h
theorem vP {α:Type}{c x}{y:α}(h:(bif c then x else none)=some y):c=true∧x=some y:=by
 grind
theorem yAt {M}:∀{l xs cs vs},O6 l xs=some cs→zK (rT M) xs vs→
  cs.length=(l.flatMap (·.2)).length∧∃us:List Value,zK (zQ M) cs us∧∀M' aM,zK (zQ M') aM us→zK (rT M') (O7 l aM) vs
 |[],[],cs,[],h,_=>by cases h;exact⟨rfl,[],trivial,fun _ _ _=>trivial⟩
 |(b,l)::ls,(g,ku)::rest,cs,v::vs,h,hv=>by
  obtain⟨hc,h⟩:=vP h;split at h
  ·rename_i r hr;cases h;rw[Bool.and_eq_true] at hc;have hl:ku.length=l.length:=by simp_all
   obtain⟨k1,us,k2,k3⟩:=yAt hr hv.2;refine⟨by simp_all,?_⟩;cases b with
   |true=>
    have hg:g=true:=hc.1;subst hg;obtain⟨ws,rfl,hw⟩:=hv.1;refine⟨ws.toList++us,hw.append k2,fun M' aM h'=>⟨?_,?_⟩⟩
    ·have h1:=zK.take l.length h';have Ph:=hw.length;rw[show(ws.toList++us).take l.length=ws.toList from by simp_all] at h1;exact⟨ws,rfl,h1⟩
    ·have h1:=zK.drop l.length h';have Ph:=hw.length;simp_all
   |false=>
    have hg:=hc.1;simp  at hg;obtain⟨Ju,hg2⟩:=hg;subst Ju;have pq:ku.length=1:=by simp_all
    match ku,pq with
    |[c],_=>
     have kZ:zQ M c v:=hv.1;refine⟨v::us,⟨kZ,k2⟩,fun M' aM h'=>?_⟩
     match aM,h' with
     |c'::Pj,h'=>
      have e:l.length=1:=by omega
      refine⟨?_,?_⟩
      ·rw[e];exact h'.1
      ·rw[e];exact k3 M' Pj h'.2
  ·cases h
 |[],[],_,_::_,_,hv=>hv.elim
theorem yL0 {M}{s:RS}{v cs rv}(h:s.get v=some cs)(hv:zP M v rv):
  cs.length=s.cells.length∧∃us:List Value,zK (zQ M) cs us∧∀M' aM,zK (zQ M') aM us→zP M' (s.mk aM) rv:=by
 unfold RS.get at h;split at h
 ·cases h;refine⟨rfl,[rv],⟨hv,trivial⟩,fun M' aM h'=>?_⟩
  match aM,h' with
  |[c'],h'=>exact h'.1
 ·obtain⟨hl,h⟩:=vP h;cases h;obtain⟨vs,rfl,hx⟩:=hv;exact⟨Nat.eq_of_beq_eq_true hl,vs.toList,hx,fun M' aM h'=>⟨vs,rfl,h'⟩⟩
 ·obtain⟨vs,rfl,hx⟩:=hv;obtain⟨k1,us,k2,k3⟩:=yAt h hx;exact⟨k1,us,k2,fun M' aM h'=>⟨vs,rfl,by grind⟩⟩
 ·cases h
theorem yYd {h0 s a a' v u M}(ok:Ok M)(hf:wF h0 M.h)(hv:zP M a v)(h:sn h0 s a=some (a',u)):
  ∃L:zI,L.H=M.H∧L.h=qF M.h u∧Ok L∧yS M L∧zP L a' v∧wF h0 L.h:=by
 unfold sn at h;split at h
 ·rename_i p x;split at h
  ·rename_i y u1 e;cases h;obtain⟨L,h1,h2,h3,h4,h5,h6⟩:=sr (cs:=[x]) (vs:=[v]) ok hf ⟨hv,trivial⟩ e;exact⟨L,h1,h2,h3,h4,h5.1,h6⟩
  ·cases h
 ·split at h
  ·rename_i ys u1 e;cases h;obtain⟨vs,rfl,hx⟩:=hv;obtain⟨L,h1,h2,h3,h4,h5,h6⟩:=sr ok hf hx e;exact⟨L,h1,h2,h3,h4,⟨vs,rfl,h5⟩,h6⟩
  ·cases h
 ·cases h;exact⟨M,rfl,rfl,ok,.refl M,hv,hf⟩
theorem ss.ext {M M'}(x:yD M M'):∀{as vs},zK (zP M) as vs→zK (zP M') as vs:=fun h=>h.mono fun _ _ h=>h.ext x
theorem qXu {h0}:∀{l as dV vs u M},Ok M→wF h0 M.h→zK (zP M) as vs→nT h0 l as=some (dV,u)→
  ∃L:zI,L.H=M.H∧L.h=qF M.h u∧Ok L∧yS M L∧zK (zP L) dV vs∧wF h0 L.h
 |s::l,a::as,dV,v::vs,u,M,ok,hf,hv,h=>by
  unfold nT at h;split at h
  ·rename_i a1 u1 Pk nG e1 e2;cases h;obtain⟨M1,h1,h2,h3,h4,h5,h6⟩:=yYd ok hf hv.1 e1;obtain⟨M2,k1,k2,k3,k4,k5,k6⟩:=qXu h3 h6 (ss.ext h4.ext hv.2) e2;exact⟨M2,k1.trans h1,by rw[k2,h2,iN],k3,h4.trans k4,⟨h5.ext k4.ext,k5⟩,k6⟩
  ·cases h
 |[],as,dV,vs,u,M,ok,hf,hv,h=>by
  cases as<;>cases h<;>exact⟨M,rfl,rfl,ok,.refl M,hv,hf⟩
 |s::l,[],dV,vs,u,M,ok,hf,hv,h=>by cases h;exact⟨M,rfl,rfl,ok,.refl M,hv,hf⟩
def zI.over (M L:zI):zI:={κ:=M.κ,F:=fun b=>M.F b∨L.G b,G:=L.G,h:=M.h,H:=L.H}
theorem zI.over_ok {M Ml L}(ok:Ok M)(fW:Ok L)(lo:Lo M Ml)(EZ:∀b,¬qJ Ml b)(g:gG Ml L):Ok (M.over L)∧yS M (M.over L):=by
 have bn:∀b,Ml.F b↔b<M.H.size:=fun b=>by rw[lo.F]
 have cF:∀b,b<M.H.size→L.H[b]? =M.H[b]? :=fun b hb=>by rw[g.same b (by grind),lo.H]
 have dA:M.H.size≤L.H.size:=by grind
 have hG:∀b,L.G b→b<M.H.size→M.G b:=fun b hb hs=>by
  rcases g.Gb b hb (by rw[lo.H];exact hs) with h|h
  ·rw[lo.G] at h;exact h
  simp_all
 have g9:∀b,M.F b→b<M.H.size:=ok.Flt;have x:yD M (M.over L):=⟨fun id C h=>⟨C,h,C.le_refl⟩,fun b h=>.inl h,fun b h=>g.G b (by rw[lo.G];exact h),fun b h=>cF b (by grind),fun b h=>cF b (ok.Flt b (ok.GF b h)),fun b h=>yu (cF b h)⟩;have aJ:∀b,qJ (M.over L) b→qJ M b:=fun b h=>h
 refine⟨⟨fun id o h=>?_,fun id h=>ok.non id h,ok.disj,fun b h=>⟨fun hf=>?_,?_⟩,fun b h=>.inr h,fun b h=>?_⟩,⟨x,dA,fun b hb _=>cF b hb,by grind,fun b h hs=>.inl (hG b h hs),fun b h hs=>?_⟩⟩
 ·obtain⟨C,hC,hO⟩:=ok.obj id o h;exact⟨C,hC,hO.ext x fun ho b hb=>cF b (ok.own b ⟨id,o,C,h,ho,hC,hb⟩).2⟩
 ·have:=ok.own b (aJ b h);rcases hf with hf|hf
  ·simp_all
  ·exact this.1 (ok.GF b (by grind))
 ·have h1:=(ok.own b (aJ b h)).2;show b<L.H.size;omega
 ·show b<L.H.size;rcases h with h|h
  ·grind
  ·exact fW.Flt b (fW.GF b h)
 ·rcases h with h|h
  ·simp_all
  ·exact .inl (ok.GF b (hG b h hs))
theorem yYx {h0 r c d}(h:mI h0 r c=some d):∀id∈vM [r] [c],∃o,h0 id=some o∧o.owned=true:=by
 unfold mI at h;split at h;all_goals (try (intro id ah;simp[vM] at ah;done))
 ·intro zr ah;have:=List.mem_singleton.1 ah;subst this;split at h
  ·exact⟨_,by assumption,rfl⟩
  ·cases h
 ·intro zr ah;have:=List.mem_singleton.1 ah;subst this;split at h
  ·exact⟨_,by omega,rfl⟩
  ·cases h
 ·rename_i id;intro zr ah;have:=List.mem_singleton.1 ah;subst this;split at h
  ·exact⟨_,by assumption,rfl⟩
  ·exact⟨_,by omega,rfl⟩
  ·cases h
 ·intro zr ah;have:=List.mem_singleton.1 ah;subst this;split at h
  ·exact⟨_,by assumption,rfl⟩
  ·cases h
 ·intro zr ah;have:=List.mem_singleton.1 ah;subst this;split at h
  ·exact⟨_,by assumption,rfl⟩
  ·cases h
 ·cases h
theorem su {L:zI}:∀{l cs d},ir L.h l cs=some d→∀id∈vM l cs,∃o,L.h id=some o∧o.owned=true
 |r::l,c::cs,d,h,id,ah=>by
  unfold ir at h;split at h
  ·rename_i x xs e1 e2;rw[Jt] at ah;rcases List.mem_append.1 ah with ah|ah
   ·exact yYx e1 id ah
   ·exact su e2 id ah
  ·cases h
theorem qZ5 {E}(hE:fa E)(hS:ik E.sums)(hm:E.P.follows .mixedOrders=true){A k pre na f fn}(hf:E.P.funcs[f]? =some fn)(hL:∀c,fn.body=some c→vZ E.P A pre na fn.ntmps c)(dq:∀vs w,(callFunc f vs).run E.P w=.ok (.enter f vs) w)
  {as rs X S pack} {unpack:RL rs.cells→X} (iu:∀d,pack (unpack d)=d) (aX:∀d x,S d=some x→∀Ml vs,zK (zP Ml) (mH as d).1 vs→∃dR,zK (zP Ml) dR vs∧iY E A k pre na fn dR (mH as d).2 (kz rs unpack)=some x)
  {nm args h v u} (hy:yE (lW as rs S pack nm args h) v u):uN E.P f args h v u:=by
 intro M w vs hh hH ok hv;refine .inl ⟨dq vs w,?_⟩;unfold lW at hy;split at hy
 ·exact hy.elim
 rename_i dR u0 vd;split at hy
 case h_2=>exact hy.elim
 rename_i d hd;obtain⟨hc,hy⟩:=uJ hy;rw[Bool.and_eq_true] at hc;obtain⟨x,hx,rfl,rfl⟩:=hy;subst hh;obtain⟨M1,a1,a2,a3,a4,a5,a6⟩:=qXu ok (wF.refl _) hv vd;rw[←a2] at hd;obtain⟨Ml,lo,b2,b3,b4,b5⟩:=vO4 a3 a5 hd;obtain⟨aaa,vf,Pl⟩:=aX d x hx Ml _ b5;refine Calls.mono (O4 hE hS hm hf hL Pl b2 (by rw[lo.H,a1];exact hH) b3 vf) fun e w' he=>?_
 cases e with
 |panicked _=>omega
 |outgrown=>omega
 |returned rv=>
  obtain⟨L0,v0,st,hK,c1,c2,c3,c4,_,c5,c6,c7,c8,_⟩:=he;have hK:EX st.h rs v0=some (pack x):=by
   unfold kz at hK;grind
  unfold EX at hK;split at hK
  case h_2=>cases hK
  rename_i cs lg;split at hK
  case h_2=>cases hK
  rename_i aM u1 vg;obtain⟨df,hK⟩:=vP hK;obtain⟨hlen,us,d1,d2⟩:=yL0 lg c5;rw[←c1] at vg hK;obtain⟨L,e1,e2,e3,e4,e5,e6⟩:=sr c3 (wF.refl _) d1 vg;rw[←e2] at hK;have g:gG Ml L:=c4.trans e4.grow;obtain⟨f1,f2⟩:=zI.over_ok a3 e3 lo b4 g;have mJ:∀i,i<rs.cells.length→(M1.over L).h (nm+i)=none:=fun i hi=>by
   have h1:=Pe hc.1 i hi;show M1.h (nm+i)=none;rcases a6 (nm+i) with h|⟨own,t,xs,h,_⟩|⟨ver,xs,h,_⟩
   all_goals simp_all
  obtain ⟨Mc, g1, g2, g3, g4, g5, g6, g7, g8⟩ := Pf e3 f1 ⟨rfl, rfl⟩ mJ hK (zl df) (su hK) (fun id ah C hC b hb=>by
   obtain⟨o,ho,fV⟩:=su hK id ah;have aJ:qJ L b:=⟨id,o,C,ho,fV,hC,hb⟩;have lN:¬b<M1.H.size:=fun bn=>b4 b (g.own b aJ (by rw[lo.H];omega))
   refine⟨fun h=>lN (a3.own b h).2,fun h=>?_,(e3.own b aJ).2⟩;rcases h with h|h
   ·exact lN (a3.Flt b h)
   ·exact(e3.own b aJ).1 (e3.GF b h))
  have Pm:yS M1 Mc:=by
   have aJ:∀b,qJ Mc b→b<M1.H.size→qJ M1 b:=fun b hb bn=>by
    rcases g7 b hb with h|⟨id,ah,C,hC,zy⟩
    ·exact h
    ·obtain⟨o,ho,fV⟩:=su hK id ah;exact absurd (g.own b ⟨id,o,C,ho,fV,hC,zy⟩ (by rw[lo.H];omega)) (b4 b)
   refine⟨f2.ext.trans f2.size g6,?_,fun b hb hn=>?_,aJ,fun b hb bn=>?_,fun b hb bn=>?_⟩
   ·rw[g1];exact f2.size
   ·rw[g1];exact f2.frame b hb hn
   ·rw[g2] at hb;exact f2.Gb b hb bn
   ·rw[g3] at hb;exact f2.Fb b hb bn
  refine⟨Mc,⟨c6,c7,c8,?_,?_,g5,a4.trans Pm⟩,?_⟩
  ·rw[g1];show L.H=_;rw[e1,c2]
  ·rw[iN,←a2];exact g4
  ·exact d2 Mc _ (g8 us e5)
theorem yXi {E}(hE:fa E)(hS:ik E.sums)(hm:E.P.follows .mixedOrders=true){A k pre na f fn}(hf:E.P.funcs[f]? =some fn)(hL:∀c,fn.body=some c→vZ E.P A pre na fn.ntmps c)(dq:∀vs w,(callFunc f vs).run E.P w=.ok (.enter f vs) w)
  {as rs X S} {pack:X→RL rs.cells} {unpack} (iu:∀d,pack (unpack d)=d) (aX:∀d,iY E A k pre na fn (mH as d).1 (mH as d).2 (kz rs unpack)=S d)
  {nm args h v u} (hy:yE (lW as rs S pack nm args h) v u):uN E.P f args h v u:=
 qZ5 hE hS hm hf hL dq iu (fun d x hx _ _ hv=>⟨_,hv,(aX d).trans hx⟩) hy
theorem yVk {E}(hE:fa E)(hS:ik E.sums)(hm:E.P.follows .mixedOrders=true){A k pre na f fn}(hf:E.P.funcs[f]? =some fn)(hL:∀c,fn.body=some c→vZ E.P A pre na fn.ntmps c)(dq:∀vs w,(callFunc f vs).run E.P w=.ok (.enter f vs) w)
  {sh t rs X} {S:List t.den→Option X} {pack unpack} (iu:∀d,pack (unpack d)=d) (cA:∀x,S []=some x→iY E A k pre na fn [.c .nsl] (jq []) (kz rs unpack)=some x)
  (aX:∀xs x,S xs=some x→iY E A k pre na fn [.c (.nfl sh t xs)] (jq []) (kz rs unpack)=some x)
  {nm args h v u} (hy:yE (lW [.c (.dat sh t)] rs (fun d=>S d.1) pack nm args h) v u):uN E.P f args h v u:=
 qZ5 hE hS hm hf hL dq iu (fun d x hx Ml vs hv=>by
  obtain⟨xs,_⟩:=d
  match vs,hv with
  |[v],hv=>
   have kZ:qB Ml.H (bif sh then Ml.G else Ml.F) (.sl t) xs (fun _=>some v):=hv.1;have mC:=kZ;simp[qB] at kZ;obtain⟨A',n,c,rfl,hn,hc,h⟩:=kZ;cases A' with
   |some a=>exact⟨[.c (.nfl sh t xs)],⟨⟨by simp,mC⟩,trivial⟩,aX xs x hx⟩
   |none=>
    rcases h with⟨rfl,h0⟩|⟨B,o,e,_⟩
    ·have h0:=h0 rfl;subst h0;subst hn;exact⟨[.c .nsl],⟨rfl,trivial⟩,cA x hx⟩
    ·cases e) hy
def yN.orElse:yN→yN→yN
 |.alts [],b=>b
 |a,_=>a
abbrev lY:=Nat→Nat→List zW→Hp→yN
def jQ:List (Nat×lY)→Iw
 |[],_,_,_,_,_=>.stuck
 |(g,e)::l,k,nm,f,args,h=>bif Nat.beq g f then(e k nm args h).orElse (jQ l k nm f args h) else jQ l k nm f args h
def yJp (P:Program)(r:Nat×lY):Prop:=∀k nm args h v u,yE (r.2 k nm args h) v u→uN P r.1 args h v u
def Jv (e:lY):Prop:=∀k nm (args:List zW) h h',(args.any vS=false→∀id,(id∈args.flatMap yF∨kT nm id=true)→h id=h' id)→(args.any vS=true→h=h')→e k nm args h=e k nm args h'
theorem vN2 {a b v u}(h:yE (a.orElse b) v u):yE a v u∨yE b v u:=by
 unfold yN.orElse at h;grind
theorem qTt {P}:∀{l},(∀r∈l,yJp P r)→Zs P (jQ l)
 |[],_=>nofun
 |(g,e)::l,hl=>fun k nm f args h v u hy=>by
  have ih:=qTt (l:=l) fun r hr=>hl r (by grind)
  unfold jQ at hy;cases hg:Nat.beq g f with
  |false=>rw[hg] at hy;exact ih k nm f args h v u hy
  |true=>
   rw[hg] at hy;have:g=f:=by simp_all
   subst this;rcases vN2 hy with hy|hy
   ·exact hl (g,e) (by simp) k nm args h v u hy
   ·exact ih k nm g args h v u hy
theorem yL2:∀{l},(∀r∈l,Jv r.2)→ik (jQ l)
 |[],_=>fun k nm f args h h' _ _=>rfl
 |(g,e)::l,hl=>fun k nm f args h h' h1 h2=>by
  have ih:=yL2 (l:=l) (by grind) k nm f args h h' h1 h2;unfold jQ;have he:e k nm args h=e k nm args h':=hl (g,e) (by simp) k nm args h h' h1 h2;rw[ih,he]
section
variable {h h':Hp}
theorem vNd {t c}(hh:∀id∈yY c,h id=h' id):uY h t c=uY h' t c:=by
 have e:=Jh hh;unfold uY;grind
theorem yGj {p c}(hh:∀id∈yY c,h id=h' id):pF h p c=pF h' p c:=by
 have e:=fun t=>vNd (t:=t) hh
 unfold pF;grind
theorem qXx:∀{l cs},(∀id∈cs.flatMap yY,h id=h' id)→uZ h l cs=uZ h' l cs
 |[],[],_
 |[],_::_,_
 |_::_,[],_=>rfl
 |p::l,c::cs,hh=>by
  simp  at hh;unfold uZ;rw[yGj fun id hi=>hh id (.inl hi),qXx (by grind)]
theorem yX4 {ls}:pG h ls []=pG h' ls []:=by
 cases ls<;>rfl
theorem vL2 {s:AS}{a}(hb:vS a=false):s.get h a=s.get h' a:=by
 unfold AS.get;cases s with
 |c p=>grind
 |agg l=>grind
 |ptr l=>
  cases a with
  |c x=>cases x<;>first|rfl|(exact absurd hb (by nofun))
  |_=>rfl
 |fn f bp=>
  cases a with
  |c x=>cases x with
   |fn g ids=>
    cases ids with
    |nil=>dsimp only;rw[yX4]
    |cons _ _=>exact absurd hb (by nofun)
   |_=>rfl
  |_=>rfl
theorem vGx {s:AS}{a cs}(hb:vS a=false)(e:s.get h a=some cs):∀id∈cs.flatMap yY,id∈yF a:=by
 unfold AS.get at e;split at e
 ·cases e;intro id ah;simp  at ah;exact ah
 ·obtain⟨_,e⟩:=vP e;cases e;exact fun id ah=>ah
 ·exact absurd hb (by nofun)
 ·rename_i f bp g ids;obtain⟨_,e⟩:=vP e;cases ids with
  |nil=>cases bp with
   |nil=>cases e;simp
   |cons _ _=>cases e
  |cons _ _=>exact absurd hb (by nofun)
 ·cases e
theorem yHt:∀{l as},as.any vS=false→nR h l as=nR h' l as
 |[],[],_
 |[],_::_,_
 |_::_,[],_=>rfl
 |s::l,a::as,hb=>by
  simp only[List.any_cons,Bool.or_eq_false_iff] at hb;unfold nR;rw[vL2 (h:=h) (h':=h') hb.1,yHt hb.2]
theorem yCk:∀{l as cs},as.any vS=false→nR h l as=some cs→∀id∈cs.flatMap yY,id∈as.flatMap yF
 |[],[],cs,_,e=>by cases e;simp
 |s::l,a::as,cs,hb,e=>by
  simp only[List.any_cons,Bool.or_eq_false_iff] at hb;unfold nR at e;split at e
  ·rename_i c1 rest e1 e2;cases e;intro id ah;rw[List.flatMap_append,List.mem_append] at ah;rw[List.flatMap_cons,List.mem_append];rcases ah with ah|ah
   ·exact .inl (vGx hb.1 e1 id ah)
   ·exact .inr (yCk hb.2 e2 id ah)
  ·cases e
theorem vOs {l as}(hb:as.any vS=false)(hh:∀id∈as.flatMap yF,h id=h' id):u9 h l as=u9 h' l as:=by
 unfold u9;rw[yHt (h:=h) (h':=h') hb];cases e:nR h' l as with
 |none=>rfl
 |some cs=>exact qXx fun id ah=>hh id (yCk hb e id ah)
theorem zz {x}:[x].flatMap yY=yF (.c x):=by simp[yF]
theorem Pn {c c' u}(e:lL h c=some (c',u)):(∀id∈yY c',id∈yY c)∧(vS (.c c')=true→vS (.c c)=true):=by
 cases c with
 |osl id r=>
  unfold lL at e;dsimp only at e;split at e
  ·cases e;exact⟨nofun,nofun⟩
  ·cases r with
   |none=>cases e;exact⟨nofun,nofun⟩
   |some _=>cases e
  ·cases e
 |mrow _ _ _=>cases e
 |_=>cases e;simp
theorem z9:∀{l cs},(∀id∈cs.flatMap yY,h id=h' id)→jV h l cs=jV h' l cs
 |[],cs,_=>by rfl
 |true::l,[],_
 |false::l,[],_=>rfl
 |true::l,c::cs,hh=>by
  simp  at hh;unfold jV;rw[Zz fun id hi=>hh id (.inl hi),z9 (by grind)]
 |false::l,c::cs,hh=>by
  unfold jV;rw[z9 (by grind)]
theorem Ac:∀{l cs aM u},jV h l cs=some (aM,u)→∀id∈aM.flatMap yY,id∈cs.flatMap yY
 |[],cs,aM,u,e=>by cases cs<;>cases e<;>exact by simp
 |true::l,[],aM,u,e
 |false::l,[],aM,u,e=>by cases e;simp
 |true::l,c::cs,aM,u,e=>by
  unfold jV at e;split at e
  ·rename_i c1 u1 ku nG e1 e2;cases e;intro id ah;rw[List.flatMap_cons,List.mem_append] at ah⊢;exact ah.imp ((Pn e1).1 id) (Ac e2 id)
  ·cases e
 |false::l,c::cs,aM,u,e=>by
  unfold jV at e;split at e
  ·rename_i ku nG e2;cases e;intro id ah;rw[List.flatMap_cons,List.mem_append] at ah⊢;exact ah.imp (by simp) (Ac e2 id)
  ·cases e
theorem vQ2 {s a}(hh:∀id∈yF a,h id=h' id):sn h s a=sn h' s a:=by
 unfold sn;cases s with
 |c p=>cases a with
  |c x=>
   have:=z9 (h:=h) (h':=h') (l:=[p.isKept]) (cs:=[x]) (by rw[zz];exact hh);simp_all
  |_=>rfl
 |agg l=>cases a with
  |agg xs=>
   have:=z9 (h:=h) (h':=h') (l:=l.map PC.isKept) (cs:=xs) hh;simp_all
  |_=>rfl
 |_=>rfl
theorem vIf {s a a' u}(e:sn h s a=some (a',u)):(∀id∈yF a',id∈yF a)∧(vS a=false→vS a'=false):=by
 unfold sn at e;split at e
 ·rename_i p x;split at e
  ·rename_i y u1 e1;cases e;refine⟨fun id ah=>by have:=Ac e1 id (by rw[zz];omega);rwa [zz] at this,fun hb=>?_⟩;cases hk:p.isKept with
   |false=>rw[hk] at e1;cases e1;exact hb
   |true=>
    rw[hk] at e1;unfold jV at e1;split at e1
    ·rename_i c1 u2 ku nG e2 e3;cases e1;cases hy:vS (.c y) with
     |false=>rfl
     |true=>rw[(Pn e2).2 hy] at hb;cases hb
    ·cases e1
  ·cases e
 ·split at e
  ·rename_i ys u1 e1;cases e;exact⟨Ac e1,fun _=>rfl⟩
  ·cases e
 simp_all
theorem yPi:∀{l as},(∀id∈as.flatMap yF,h id=h' id)→nT h l as=nT h' l as
 |[],as,_=>by rfl
 |_::_,[],_=>rfl
 |s::l,a::as,hh=>by
  simp  at hh;unfold nT;rw[vQ2 fun id hi=>hh id (.inl hi),yPi (by grind)]
theorem yJb:∀{l as dV u},nT h l as=some (dV,u)→(∀id∈dV.flatMap yF,id∈as.flatMap yF)∧(as.any vS=false→dV.any vS=false)
 |[],as,dV,u,e=>by cases as<;>cases e<;>exact by simp
 |s::l,[],dV,u,e=>by cases e;simp
 |s::l,a::as,dV,u,e=>by
  unfold nT at e;split at e
  ·rename_i a1 u1 Pk nG e1 e2;obtain⟨k1,k2⟩:=vIf e1;obtain⟨k3,k4⟩:=yJb e2;grind
  ·cases e
theorem Po:∀{n nm},(∀i,i<n→h (nm+i)=h' (nm+i))→sm h nm n=sm h' nm n
 |0,_,_=>rfl
 |n+1,nm,hh=>by
  unfold sm;have:=hh 0 (by omega);rw[Nat.add_zero] at this;rw[this,Po (by grind)]
end
theorem yNj {as rs X}{S:Nat→AD as→Option X}{pack}:Jv fun k nm args h=>lW as rs (S k) pack nm args h:=by
 intro k nm args h h' h1 h2;cases hb:args.any vS with
 |true=>rw[h2 hb]
 |false=>
  have hh:=h1 hb;show lW as rs (S k) pack nm args h=lW as rs (S k) pack nm args h';unfold lW;rw[yPi (h:=h) (h':=h') (by grind)];cases e:nT h' as args with
  |none=>rfl
  |some p=>
   obtain⟨dR,u⟩:=p;obtain⟨k1,k2⟩:=yJb e;dsimp only;rw[vOs (h:=qF h u) (h':=qF h' u) (k2 hb) fun id ah=>uS (by grind)];cases u9 (qF h' u) as dR with
   |none=>rfl
   |some d=>
    cases hle:Nat.ble rs.cells.length 100 with
    |false=>simp
    |true=>
     have hle:=Nat.le_of_ble_eq_true hle;rw [Po (h := h) (h' := h') fun i hi => hh _ (.inr (by
      simp only[kT,Bool.and_eq_true];exact⟨by simp,by simp[Nat.blt_eq];omega⟩))]
def lh:Code→List Code
 |.seq a b=>lh a++lh b
 |.cond _ a b=>lh a++lh b
 |.block _ b=>lh b
 |.loop b=>[b]
 |_=>[]
def zO (c:Code)(i:Nat):Code:=match(lh c)[i]? with
 |some b=>b
 |none=>.skip
def zS (fn:Func):Code:=match fn.body with
 |some c=>c
 |none=>.skip
def qXk (P:Program)(A:zY)(pre na nt:Nat)(b:Code):Prop:=(∃L,rR A b=some L∧zU P pre na nt b L)∨(rR A b=none∧vZ P A pre na nt b)
theorem yW6 {P A pre na nt}:∀c,(∀b∈lh c,qXk P A pre na nt b)→vZ P A pre na nt c:=by
 intro c
 induction c with
 |seq a b zi zj=>exact fun h=>⟨zi fun x hx=>h x (List.mem_append_left _ hx),zj fun x hx=>h x (List.mem_append_right _ hx)⟩
 |cond t a b zi zj=>exact fun h=>⟨zi fun x hx=>h x (List.mem_append_left _ hx),zj fun x hx=>h x (List.mem_append_right _ hx)⟩
 |block id b ih=>exact fun h=>ih h
 |loop b ih=>
  intro h;rcases h b (List.mem_cons_self ..) with⟨L,h1,h2⟩|⟨h1,h2⟩
  ·refine⟨by grind,by grind⟩
  ·refine⟨fun L' h3=>?_,fun _=>h2⟩;simp_all
 |_=>exact fun _=>trivial
theorem vHj {P A pre na nt c n}(hn:(lh c).length=n)(h:∀i,i<n→qXk P A pre na nt (zO c i)):vZ P A pre na nt c:=
 yW6 c fun b hb=>by
  obtain⟨i,hi,rfl⟩:=List.getElem_of_mem hb;have e:zO c i=(lh c)[i]:=by
   unfold zO;grind
  grind
theorem nU {P A pre na nt c n}(hn:(lh c).length=n)(h:∀i,i<n→∃L,rR A (zO c i)=some L∧zU P pre na nt (zO c i) L):vZ P A pre na nt c:=
 vHj hn fun i hi=>.inl (h i hi)
theorem yVc {P A pre na nt c}(hn:(lh c).length=0):vZ P A pre na nt c:=nU hn (by simp)
theorem body_loops {P A pre na fn}(h:vZ P A pre na fn.ntmps (zS fn)):∀c,fn.body=some c→vZ P A pre na fn.ntmps c:=fun c hc=>by
 unfold zS at h;simp_all
theorem Jw {P f fn}(hf:P.funcs[f]? =some fn)(hb:fn.body.isNone=false)(hn:(fn.name== "runtime.NumGoroutine")=false):∀vs w,(callFunc f vs).run P w=.ok (.enter f vs) w:=fun vs w=>by
 have h1:(program).run P w=.ok P w:=rfl;unfold callFunc;simp only[Sem.run_bind,h1,Result.andThen_ok,hf,hn,hb,Bool.false_eq_true,if_false,Sem.run_pure]
abbrev zA (x:Int):Int:=IntKind.wrap .i64 x
abbrev yA (k:IntKind)(x y:Int):Int:=oY (fun _ a b=>a&&&b) k x y
abbrev fe (k:IntKind)(x y:Int):Int:=oY (fun _ a b=>a|||b) k x y
abbrev shl (k:IntKind)(x y:Int):Int:=k.wrap (x*2^(min y.toNat k.bits))
abbrev shr (k:IntKind)(x y:Int):Int:=x.fdiv (2^(min y.toNat k.bits))
abbrev zR (n b:Nat):Bool:=Nat.ble (n*b) 140737488355328&&Nat.ble n 140737488355328
abbrev Jx (l c:Int)(b:Nat):Bool:=decide (0≤l)&&decide (l≤c)&&decide (c*(b:Int)≤140737488355328)&&decide (c≤140737488355328)
abbrev vh (lt:Bool)(x y:Int):Int:=bif lt then(bif decide (y<x) then y else x) else(bif decide (y>x) then y else x)
abbrev Pp (xs:List (List Int))(n:Nat):Option (List (List Int)):=
 kz (.c .mat) (fun d=>d.1) (.c (.osl 0 none)) ⟨fun _=>.undef,fun _=>some (.pmat 0 xs n)⟩
theorem vR5 xs n:Pp xs n=bif Nat.beq xs.length n then some xs else none:=by
 unfold Pp kz EX RS.get RS.cells;dsimp only[List.map,RC.isFro,jV,vM,oZ,qF];cases h:Nat.beq xs.length n<;>simp[ir,mI,h]
theorem E0 {l:List Nat}{p:Nat→Bool}(hl:∀t∈l,p t=true)(t:Nat)(h:l.any (Nat.beq t)=true):p t=true:=by
 simp_all
theorem yTb {P}:En P (fun _=>false):=nofun
open Go.ChangeShapes Go.WideShapes Go.ChangeAt Go.RowKit
def E1 (f:TypeId→Option Ty):Nat→List (Nat×TypeId)→Option Ty
 |_,[]=>none
 |off,[x]=>bif Nat.beq x.1 off then f x.2 else none
 | off, x :: y :: l => bif Nat.beq x.1 off then (match f x.2 with
  |some a=>(match E1 f (off+a.size) (y::l) with|some b=>some (.pair a b)|none=>none)
  |none=>none) else none
def nV (P:Program):TypeDesc→List (Nat×TypeId)
 |.struct fs=>fs.toList.map fun f=>(f.offset,f.type)
 |.array n e=>(List.range n).map fun i=>(i*P.cellsOf e,e)
 |_=>[]
def lZ (P:Program):Nat→TypeId→Option Ty
 |0,_=>none
 |d+1,t=>match P.underlying t with
  |some (.int k)=>bif Nat.beq (P.cellsOf t) 1 then some (.int k) else none
  |some .bool=>bif Nat.beq (P.cellsOf t) 1 then some .bool else none
  |some (.slice e)=>bif Nat.beq (P.cellsOf t) 1&&Nat.ble 1 (P.bytesOf e) then(match lZ P d e with|some a=>some (.sl a)|none=>none) else none
  |some x=>match E1 (lZ P d) 0 (nV P x) with
   |some a=>bif Nat.beq (P.cellsOf t) a.size then some a else none
   |none=>none
  |none=>none
def Wf:(t:Ty)→t.den→Prop
 |.int k,n=>(Lit.int k n).wf=true
 |.bool,_=>True
 |.sl t,xs=>xs.length≤reachBytes∧∀i (h:i<xs.length),Wf t xs[i]
 |.pair a b,p=>Wf a p.1∧Wf b p.2
theorem Pq {P}:∀{d t ty},lZ P d t=some ty→P.cellsOf t=ty.size
 |d+1,t,ty,h=>by
  unfold lZ at h;split at h
  ·obtain⟨h1,h2⟩:=vP h;cases h2;exact Nat.eq_of_beq_eq_true h1
  ·obtain⟨h1,h2⟩:=vP h;cases h2;exact Nat.eq_of_beq_eq_true h1
  ·obtain⟨h1,h2⟩:=vP h;rw[Bool.and_eq_true] at h1;split at h2
   ·cases h2;exact Nat.eq_of_beq_eq_true h1.1
   ·cases h2
  ·split at h
   ·obtain⟨h1,h2⟩:=vP h;simp_all
   ·cases h
  ·cases h
section
variable {H:Type} {enc:TypeId×Value→H} {P:Program} {w:World}
abbrev E2 (w:World):Nat→Prop:=fun b=>b<w.heap.size
theorem vE1 {a n cs}(h:w.cells? 0 a n=some cs):cs.length=n∧∀i,i<n→∃v,cs[i]? =some v∧w.cell? (a.add i)=some v:=by
 have hl:=mapM_some_length h;have hg:=mapM_some_get h;simp at hl;refine⟨hl,fun i hi=>?_⟩;have:=hg i i (by simp[hi]);simp_all
theorem qT2 {a v}(h:w.cell? a=some v):a.spot=none∧a.block<w.heap.size∧yH w.heap a.block a.off=some v:=by
 unfold World.cell? at h;cases hb:w.heap[a.block]? with
 |none=>simp_all
 |some o=>
  rw[hb] at h;cases o with
  |cells c e z=>
   dsimp only at h;split at h
   ·cases h
   ·refine⟨by simp_all,?_,?_⟩
    ·grind
    ·unfold yH;simp_all
  |_=>cases h
theorem yHp {α:Type}{p:Nat→α→Prop}:∀n,(∀i,i<n→∃x,p i x)→∃xs:List α,xs.length=n∧∀i h,p i xs[i]
 |0,_=>by simp
 |n+1,h=>by
  obtain⟨xs,h1,h2⟩:=yHp n fun i hi=>h i (by omega)
  obtain⟨x,hx⟩:=h n (by omega);refine⟨xs++[x],by simp[h1],fun i hi=>?_⟩;grind
def fE (l:List Nat):Prop:=l.all (· ≤reachBytes)=true
theorem mK {l m}:fE (l++m)↔fE l∧fE m:=by simp[fE]
theorem qZz {P e}{d:DataW H}:∀{l},fE (DataW.weightsAll P e l)→d∈l→fE (d.weights P e)
 |a::l,h,hd=>by
  have h:=mK.1 h;rcases List.mem_cons.1 hd with rfl|hd
  ·exact h.1
  ·exact qZz h.2 hd
theorem qYj {P e}:∀{ts} {ds:List (DataW H)},(∀t∈ts,t=e)→fE (DataW.weightsAll P e ds)→fE (DataW.weightsEach P ts ds)
 |t::ts,d::ds,ht,h=>by
  have h:=mK.1 h;rw[ht t (by simp)];exact mK.2 ⟨h.1,qYj (by grind) h.2⟩
 |[],_,_,_=>by simp[DataW.weightsEach,fE]
 |_::_,[],_,_=>by rfl
def Jy (P:Program)(w:World)(ty:Ty)(cs:List Value):Prop:=∃x:ty.den,cs.length=ty.size∧qB w.heap (E2 w) ty x (fun j=>cs[j]?)∧Wf ty x
theorem yJ6 {d fuel}(ih:∀t ty cs x,lZ P d t=some ty→DataW.trod enc P w 0 (fun _=>true) true fuel t cs=some x→fE (x.1.weights P t)→Jy P w ty cs):
  ∀l off ty (cs:List Value) out,E1 (lZ P d) off l=some ty→off+ty.size≤cs.length→
   (l.mapM fun p=>DataW.trod enc P w 0 (fun _=>true) true fuel p.2 ((cs.drop p.1).take (P.cellsOf p.2)))=some out→fE (DataW.weightsEach P (l.map (·.2)) (out.map (·.1)))→Jy P w ty ((cs.drop off).take ty.size)
 |[x],off,ty,cs,out,h,hc,hm,hw=>by
  obtain⟨h1,h2⟩:=vP h;have ho:x.1=off:=by simpa using h1
  simp only[List.mapM_cons,List.mapM_nil,Option.pure_def,Option.bind_eq_bind,Option.bind_eq_some_iff] at hm;obtain⟨y,hy,_,e,e'⟩:=hm;cases e;cases e';rw[ho,Pq h2] at hy;exact ih _ _ _ _ h2 hy (mK.1 hw).1
 |x::y::l,off,ty,cs,out,h,hc,hm,hw=>by
  obtain⟨h1,h2⟩:=vP h;have ho:x.1=off:=by simpa using h1
  split at h2
  ·rename_i a ha;split at h2
   ·rename_i b hb;cases h2;simp only[Ty.size] at hc⊢;rw[List.mapM_cons] at hm;simp only[Option.pure_def,Option.bind_eq_bind,Option.bind_eq_some_iff] at hm;obtain⟨z,hz,zs,hzs,e⟩:=hm;cases e;rw[ho,Pq ha] at hz;have hw:=mK.1 hw;obtain⟨p,p1,p2,p3⟩:=ih _ _ _ _ ha hz hw.1;obtain⟨q,q1,q2,q3⟩:=yJ6 ih (y::l) (off+a.size) b cs zs hb (by omega) hzs hw.2;refine⟨(p,q),by simp only[List.length_take,List.length_drop,Ty.size];omega,⟨?_,?_⟩,p3,q3⟩
    ·refine yR (fun _ h=>h) (by simp) a p _ _ (fun j hj=>?_) p2;simp only[List.getElem?_take,List.getElem?_drop];rw[if_pos (by omega),if_pos hj]
    grind
   ·cases h2
  ·cases h2
theorem Pr:∀d t ty fuel cs x,lZ P d t=some ty→DataW.trod enc P w 0 (fun _=>true) true fuel t cs=some x→fE (x.1.weights P t)→Jy P w ty cs
 |0,_,_,_,_,_,h,_,_=>by cases h
 |d+1,t,ty,0,cs,x,_,h,_=>by simp[DataW.trod] at h
 |d+1,t,ty,fuel+1,cs,x,hl,h,hw=>by
  unfold lZ at hl;split at hl
  ·rename_i k hu;obtain⟨_,hl⟩:=vP hl;cases hl;obtain⟨n,rfl,_,sv⟩:=DataW.trod_int hu h;exact⟨n,rfl,rfl,sv⟩
  ·rename_i hu;obtain⟨_,hl⟩:=vP hl;cases hl;obtain⟨b,rfl,_⟩:=DataW.trod_bool hu h;exact⟨b,rfl,rfl,trivial⟩
  ·rename_i e hu;obtain⟨gD,hl⟩:=vP hl;rw[Bool.and_eq_true] at gD;have gD:=Nat.le_of_ble_eq_true gD.2;split at hl
   ·rename_i a ha;cases hl;rcases DataW.trod_slice hu h with⟨rfl,_⟩|⟨ad,len,cap,elems,rest,n,hn,rfl,rfl,_,N0,hm,hel,hg,_,_⟩
    ·refine⟨([]:List a.den),rfl,?_,?_⟩
     ·simp only[qB];exact⟨none,0,0,rfl,rfl,Nat.le_refl _,.inl ⟨trivial,fun _=>rfl⟩⟩
     ·simp only[Wf];exact by simp
    ·unfold DataW.weights at hw;rw[hu] at hw;have hw:fE ([((elems.map (·.1)).length+(rest.map (·.1)).length)*P.bytesOf e]++(DataW.weightsAll P e (elems.map (·.1))++DataW.weightsAll P e (rest.map (·.1)))):=hw;obtain⟨nW,hw⟩:=mK.1 hw;have hw2:=(mK.1 hw).1;have hlen:len≤reachBytes:=by
      simp only[fE,List.all_cons,List.all_nil,Bool.and_true,decide_eq_true_eq,List.length_map] at nW;have:=Nat.mul_le_mul_left (elems.length+rest.length) gD;omega
     have key:∀i,i<len→∃x:a.den,(qB w.heap (E2 w) a x (fun j=>yH w.heap ad.block (ad.off+i*a.size+j))∧(i=0→ad.spot=none)∧ad.block<w.heap.size)∧Wf a x:=by
      intro i hi;have h1:=hg i hi;have OT:i<elems.length:=by omega
      rw[List.getElem?_eq_getElem OT,Option.bind_eq_some_iff] at h1;obtain⟨cs,lg,htr⟩:=h1;rw[Pq ha] at lg;obtain⟨y,y1,y2,y3⟩:=Pr d e a n cs _ ha htr (qZz hw2 (by grind));obtain⟨c1,c2⟩:=vE1 lg;have vi:∀j,((ad.add (i*a.size)).add j).block=ad.block∧((ad.add (i*a.size)).add j).off=ad.off+i*a.size+j:=by
       intro j;unfold Addr.add;constructor
       ·split<;>split<;>rfl
       ·split<;>split<;>simp_all
      have at0:(i=0→ad.spot=none)∧ad.block<w.heap.size:=by
       obtain⟨v,_,hv⟩:=c2 0 a.size_pos;have h1:=qT2 hv;refine⟨fun h0=>?_,by have:=h1.2.1;rwa [(vi 0).1] at this⟩;have h2:=h1.1;subst h0
       simpa[Addr.add] using h2
      refine⟨y,⟨yR (fun _ h=>h) (fun _ _=>rfl) a y _ _ (fun j hj=>?_) y2,at0⟩,y3⟩;obtain⟨v,v1,v2⟩:=c2 j hj;rw[v1];have h1:=(qT2 v2).2.2
      rwa [(vi j).1,(vi j).2] at h1
     obtain⟨xs,x1,x2⟩:=yHp len key;refine⟨xs,rfl,?_,?_⟩
     ·simp only[qB];refine⟨some ad,len,cap,rfl,x1.symm,N0,?_⟩;by_cases h0:xs=[]
      ·exact by grind
      ·refine .inr ⟨ad.block,ad.off,?_,?_,fun i hi=>(x2 i hi).1.1⟩
       ·have:=(x2 0 (List.length_pos_iff.2 h0)).1.2.1 rfl;cases ad;simp at this;rw[this]
       ·exact by grind
     ·simp only[Wf];exact by grind
   ·cases hl
  ·rename_i y n1 n2 n3 hu;split at hl
   ·rename_i a ha;obtain⟨dA,hl⟩:=vP hl;cases hl;have dA:P.cellsOf t=ty.size:=by simpa using dA
    have fin:∀out,cs.length=P.cellsOf t→((nV P y).mapM fun p=>DataW.trod enc P w 0 (fun _=>true) true fuel p.2 ((cs.drop p.1).take (P.cellsOf p.2)))=some out→fE (DataW.weightsEach P ((nV P y).map (·.2)) (out.map (·.1)))→Jy P w ty cs:=by
     intro out hlen ig hw;have:=yJ6 (fun t' ty' aM x' h1 h2 h3=>Pr d t' ty' fuel aM x' h1 h2 h3) (nV P y) 0 ty cs out ha (by omega) ig hw
     rwa [List.drop_zero,List.take_of_length_le (by omega)] at this
    unfold DataW.trod at h;rw[hu] at h;cases y with
    |struct fs=>
     dsimp only at h;split at h
     ·rename_i hlen;rw[Option.map_eq_some_iff] at h;obtain⟨out,ho,rfl⟩:=h;unfold DataW.weights at hw;rw[hu] at hw;refine fin out hlen ?_ (by rw[nV,List.map_map];exact hw);simp only[nV,List.mapM_map];exact ho
     ·cases h
    |array n e=>
     dsimp only at h;split at h
     ·rename_i hlen;rw[Option.map_eq_some_iff] at h;obtain⟨out,ho,rfl⟩:=h;unfold DataW.weights at hw;rw[hu] at hw;refine fin out hlen ?_ (qYj (fun t ht=>by simp[nV] at ht;exact ht.2.symm) hw);simp only[nV,List.mapM_map];exact ho
     ·cases h
    |_=>simp[nV,E1] at ha
   ·cases hl
  ·cases hl
end
open Go.ChangeShapes Go.WideShapes Go.ChangeAt Go.RowKit
def pH (sh:Bool):Ty→List PC
 |.int k=>[.int k]
 |.bool=>[.bool]
 |.sl t=>[.dat sh t]
 |.pair a b=>pH sh a++pH sh b
def sw:(l m:List PC)→PL l→PL m→PL (l++m)
 |[],_,_,e=>e
 |_::l,m,d,e=>(d.1,sw l m d.2 e)
theorem Ps:∀l m d e,vI (l++m) (sw l m d e)=vI l d++vI m e
 |[],_,_,_=>rfl
 |p::l,m,d,e=>by
  show zx p d.1::vI (l++m) (sw l m d.2 e)=zx p d.1::(vI l d.2++vI m e);rw[Ps l m d.2 e]
def nX sh:(t:Ty)→t.den→PL (pH sh t)
 |.int _,n=>(n,())
 |.bool,b=>(b,())
 |.sl _,xs=>(xs,())
 |.pair a b,p=>sw _ _ (nX sh a p.1) (nX sh b p.2)
def WfP:(p:PC)→p.den→Prop
 |.int k,n=>(Lit.int k n).wf=true
 |.bool,_=>True
 |.dat _ t,xs=>Wf (.sl t) xs
 |.fn _,_=>True
 |.nil,_=>True
 |.nilp,_=>True
def pI:(l:List PC)→PL l→Prop
 |[],_=>True
 |p::l,d=>WfP p d.1∧pI l d.2
theorem Pt:∀l m d e,pI l d→pI m e→pI (l++m) (sw l m d e)
 |[],_,_,_,_,h=>h
 |_::l,m,d,e,h,h'=>⟨h.1,Pt l m d.2 e h.2 h'⟩
theorem Pu sh:∀t x,Wf t x→pI (pH sh t) (nX sh t x)
 |.int _,_,h
 |.bool,_,h
 |.sl _,_,h=>⟨h,trivial⟩
 |.pair a b,p,h=>Pt _ _ _ _ (Pu sh a p.1 h.1) (Pu sh b p.2 h.2)
theorem Jz:∀l d,(vI l d).length=l.length
 |[],_=>rfl
 |p::l,d=>by
  show(vI l d.2).length+1=l.length+1;rw[Jz l d.2]
def M0 (w:World):zI:=⟨fun _=>none,E2 w,E2 w,jq [],w.heap⟩
theorem yYk w:Ok (M0 w) where
 obj:=nofun
 non:=fun _ _=>rfl
 disj:=fun i j oi oj Ci Cj b _ h=>by cases h
 own:=nofun
 GF:=fun _ h=>h
 Flt:=fun _ h=>h
theorem Pv sh {w}:∀t x cs,cs.length=t.size→qB w.heap (E2 w) t x (fun j=>cs[j]?)→zK (zQ (M0 w)) (vI (pH sh t) (nX sh t x)) cs
 |.int k,n,cs,hl,h=>by
  match cs,hl with
  |[c],_=>
   have e:c=.int k n:=by simpa[qB] using h
   exact⟨e,trivial⟩
 |.bool,b,cs,hl,h=>by
  match cs,hl with
  |[c],_=>
   have e:c=.bool b:=by simpa[qB] using h
   exact⟨e,trivial⟩
 |.sl t,xs,cs,hl,h=>by
  match cs,hl with
  |[c],_=>
   refine⟨?_,trivial⟩;have h':=yR (F':=(bif sh then(M0 w).G else(M0 w).F)) (fun b h=>by cases sh<;>exact h) (fun b _=>rfl) (.sl t) xs (fun j=>[c][j]?) (fun _=>some c) (by grind) h;exact h'
 |.pair a b,p,cs,hl,h=>by
  have dr:cs.length=a.size+b.size:=hl;have h1:=Pv sh a p.1 (cs.take a.size) (by grind) (yR (fun _ h=>h) (by simp) a p.1 _ _ (by grind) h.1);have h2:=Pv sh b p.2 (cs.drop a.size) (by grind) (yR (by simp) (fun _ _=>rfl) b p.2 _ _ (by grind) h.2);show zK _ (vI (pH sh a++pH sh b) (sw _ _ (nX sh a p.1) (nX sh b p.2))) cs;rw[Ps];have:=zK.append h1 h2;simp_all
def nY (sh : Bool) (P : Program) (t : TypeId) (ty : Ty) : AS := bif wU P t == some true then .agg (pH sh ty) else (match ty with
 |.int k=>.c (.int k)|.bool=>.c .bool|.sl t=>.c (.dat sh t)|.pair a b=>.agg (pH sh (.pair a b)))
def JA (P:Program):List TypeId→Option (List Ty)
 |[]=>some []
 |t::ts=>match lZ P 8 t,JA P ts with
  |some a,some l=>some (a::l)
  |_,_=>none
def pJ (sh:Bool)(P:Program):List TypeId→List Ty→List AS
 |t::ts,a::l=>nY sh P t a::pJ sh P ts l
 |_,_=>[]
theorem vPu {P t ty}(h:lZ P 8 t=some ty)(ha:(wU P t==some true)=false):(∃k,P.underlying t=some (.int k)∧ty=.int k)∨(P.underlying t=some .bool∧ty=.bool)∨∃e a,P.underlying t=some (.slice e)∧ty=.sl a:=by
 unfold lZ at h;split at h
 ·grind
 ·grind
 ·grind
 ·rename_i x _ _ _ hu;split at h
  ·rename_i a hx;unfold wU at ha;rw[hu] at ha;cases x<;>first|(simp[nV,E1] at hx;done)|(cases ha)
  ·cases h
 ·cases h
section
variable {H:Type} {enc:TypeId×Value→H} {P:Program} {w:World}
theorem vIq sh {t ty v d ps base}(hl:lZ P 8 t=some ty)(ek:Value.okWide P w .any base t v)(h:DataW.Trod enc P w 0 (fun _=>true) true t v d ps)(hw:fE (d.weights P t)):
  ∃x:PL (nY sh P t ty).cells,(∀n,zP (M0 w) ((nY sh P t ty).mk n (vI _ x)) v)∧(nY sh P t ty).boxes (vI _ x)=[]∧pI _ x:=by
 obtain⟨fuel,hf⟩:=h;obtain⟨x,x1,x2,x3⟩:=Pr 8 t ty fuel _ _ hl hf hw;have cS:=Pv sh ty x _ x1 x2;have Ad:=Pu sh ty x x3;unfold nY;cases ha:(wU P t==some true) with
 |true=>
  refine⟨nX sh ty x,fun n=>?_,rfl,Ad⟩;have nF:wU P t=some true:=by simp_all
  have hv:∃cs,v=.agg cs:=by
   unfold wU at nF;unfold Value.okWide at ek;grind
  obtain⟨cs,rfl⟩:=hv;exact⟨cs,rfl,cS⟩
 |false=>
  rcases vPu hl ha with⟨k,hu,rfl⟩|⟨hu,rfl⟩|⟨e,a,hu,rfl⟩
  ·have hv:∃n,v=.int k n:=by
    simp[Value.okWide,Cell.okWide] at ek;cases v<;>simp_all[Cell.ok]
   obtain⟨n0,rfl⟩:=hv;exact⟨nX sh _ x,fun n=>cS.1,rfl,Ad⟩
  ·have hv:∃b,v=.bool b:=by
    simp[Value.okWide,Cell.okWide] at ek;cases v<;>simp_all[Cell.ok]
   obtain⟨b,rfl⟩:=hv;exact⟨nX sh _ x,fun n=>cS.1,rfl,Ad⟩
  ·obtain⟨ad,len,cap,rfl⟩:=okWide_slice hu ek;exact⟨nX sh _ x,fun n=>cS.1,rfl,Ad⟩
theorem yG1 sh {base}:∀ts tys vs ds ps n,JA P ts=some tys→(∀(j:Nat) t v,ts[j]? =some t→vs[j]? =some v→Value.okWide P w .any base t v)→
  DataW.TrodAll enc P w 0 (fun _=>true) true ts vs ds ps→fE (DataW.weightsEach P ts ds)→∃x:AD (pJ sh P ts tys),zK (zP (M0 w)) (jo (pJ sh P ts tys) (vI _ x) n).1 vs∧(jo (pJ sh P ts tys) (vI _ x) n).2=[]∧pI _ x
 |[],tys,vs,ds,ps,n,hl,ek,h,_=>by
  match vs,ds,h with
  |[],[],_=>exact⟨(),trivial,rfl,trivial⟩
 |t::ts,tys,vs,ds,ps,n,hl,ek,h,hw=>by
  unfold JA at hl;split at hl
  ·rename_i a l ha dr;cases hl
   match vs,ds,h with
   |v::vs,d::ds,h=>
    obtain⟨p,q,h1,h2,_⟩:=h;have hw:=mK.1 hw;obtain⟨x,x1,x2,x3⟩:=vIq sh ha (ek 0 t v rfl rfl) h1 hw.1;obtain⟨y,y1,y2,y3⟩:=yG1 sh ts l vs ds q n dr (fun j t' v' h1 h2=>ek (j+1) t' v' h1 h2) h2 hw.2;refine⟨sw _ _ x y,?_⟩;have e:vI ((pJ sh P (t::ts) (a::l)).flatMap AS.cells) (sw _ _ x y)=vI _ x++vI _ y:=Ps _ _ _ _;have ht:(vI _ x++vI _ y).take (nY sh P t a).cells.length=vI _ x:=by
     rw[List.take_append_of_le_length (by rw[Jz];omega),List.take_of_length_le (by rw[Jz];omega)]
    have hd:(vI _ x++vI _ y).drop (nY sh P t a).cells.length=vI _ y:=by
     rw[List.drop_append_of_le_length (by rw[Jz];exact by simp),List.drop_of_length_le (by grind),List.nil_append]
    rw[e];have em:jo (pJ sh P (t::ts) (a::l)) (vI _ x++vI _ y) n=((nY sh P t a).mk n (vI _ x)::(jo (pJ sh P ts l) (vI _ y) n).1,(jo (pJ sh P ts l) (vI _ y) n).2):=by
     show((nY sh P t a).mk n _::_,(nY sh P t a).boxes _++_)=_;simp_all
    rw[em];exact⟨⟨x1 n,y1⟩,y2,Pt _ _ _ _ x3 y3⟩
  ·cases hl
theorem yRe {us}{gs:List (DataW H)}:∀{ts ds},ts.length=ds.length→fE (DataW.weightsEach P (ts++us) (ds++gs))→fE (DataW.weightsEach P ts ds)
 |[],[],_,_=>by rfl
 |t::ts,d::ds,hl,h=>mK.2 ⟨(mK.1 h).1,yRe (by simp_all) (mK.1 h).2⟩
theorem yBl:∀{ts vs ds ps},DataW.TrodAll enc P w 0 (fun _=>true) true ts vs ds ps→ts.length=ds.length
 |[],[],[],_,_=>rfl
 |_::_,_::_,_::_,_,⟨_,_,_,h,_⟩=>by rw[List.length_cons,List.length_cons,yBl h]
theorem lawArgs sh {base ts tys asp vs ds ps}(hl:JA P ts=some tys)(has:pJ sh P ts tys=asp)
  (ek:∀(j:Nat) t v,ts[j]? =some t→vs[j]? =some v→Value.okWide P w .any base t v) (h:DataW.TrodAll enc P w 0 (fun _=>true) true ts vs ds ps) {us gs} (hw:fE (DataW.weightsEach P (ts++us) (ds++gs))):
  ∃x:AD asp,zK (zP (M0 w)) (jo asp (vI _ x) 0).1 vs∧(jo asp (vI _ x) 0).2=[]∧pI _ x:=by
 subst has;exact yG1 sh ts tys vs ds ps 0 hl ek h (yRe (yBl h) hw)
theorem law_calls {E}(hE:fa E)(hS:ik E.sums)(hm:E.P.follows .mixedOrders=true){A k pre f fn}(hf:E.P.funcs[f]? =some fn)(hL:∀c,fn.body=some c→vZ E.P A pre 0 fn.ntmps c)
  {as d unpack} (hup:∀d,unpack d=d.1) (aX:iY E A k pre 0 fn (mH as d).1 (mH as d).2 (kz (.c .bool) unpack)=some true) (hb:(jo as (vI _ d) 0).2=[]) {vs} (hv:zK (zP (M0 w)) (jo as (vI _ d) 0).1 vs.toList):
  Calls E.P f vs w fun e w'=>e=.returned (.bool true)∧Below w.heap.size w w':=by
 have hh:(M0 w).h=(mH as d).2:=by
  show jq []=jq (jo as (vI _ d) 0).2;rw[hb]
 refine Calls.mono (O4 hE hS hm hf hL aX (M:=M0 w) (w:=w) hh rfl (yYk w) hv) fun e w' he=>?_
 cases e with
 |returned rv=>
  obtain⟨M',v,st,hK,_,hH,_,hg,_,hrv,o1,o2,o3,_⟩:=he;refine⟨?_,o1,o2,o3,?_,fun b hb=>?_⟩
  ·unfold kz at hK;split at hK
   ·rename_i r hr;unfold EX at hr;split at hr
    ·rename_i cs lg;split at hr
     ·rename_i aM u za;cases v with
      |c x=>
       cases lg;have e1:aM=[x]:=by
        simp[RS.cells,RC.isFro,jV] at za;simp_all
       subst e1;have rZ:ir (qF st.h u) [.bool] [x]=some r:=hr;cases x with
       |bool b=>
        have e2:r=(b,()):=by simp[ir,mI] at rZ;grind
        have:rv=.bool b:=hrv;grind
       |_=>simp[ir,mI] at rZ
      |_=>cases lg
     ·cases hr
    ·cases hr
   ·cases hK
  ·have:=hg.size;rw[hH] at this;exact this
  ·have:=hg.same b hb;rw[hH] at this;exact this
 |_=>simp_all
end
inductive XC where
 |p (c:PC)|own (t:Ty)|mat|map
 |link (j:Nat)
abbrev XC.den:XC→Type
 |.p c=>c.den|.own t=>List t.den|.mat=>List (List Int)|.map=>List (Int×Bool)|.link _=>Unit
def XC.lnk:XC→Option Nat
 |.link j=>some j
 |_=>none
def RC.lnk:RC→Option Nat
 |.link j=>some j
 |_=>none
def nZ:List (Option Nat)→List Nat→List zT→Bool
 |none::l,ids,_::cs=>nZ l ids cs
 |some j::l,ids,.ptr id 0::cs=>(match ids[j]? with|some k=>Nat.beq id k|none=>false)&&nZ l ids cs
 |some _::_,_,_=>false
 |_,_,_=>true
def vj:List (Option Nat)→List Nat→List zT→List zT
 |none::l,ids,c::cs=>c::vj l ids cs
 |some j::l,ids,c::cs=>(match ids[j]? with|some id=>.ptr id 0|none=>c)::vj l ids cs
 |_,_,cs=>cs
def Pw:List zT→Option Nat
 |[]=>none
 |.ptr id 0::_=>some id
 |_::l=>Pw l
def E3 (h:Hp):Nat→Nat→Option (List Nat)
 |0,_=>none
 |1,id=>some [id]
 |n+2,id=>match zw h id with
  | some cells => (match Pw cells with
   |some id2=>(match E3 h (n+1) id2 with|some l=>some (id::l)|none=>none)
   |none=>none)
  |none=>none
def jt:Nat→Nat→List Nat
 |_,0=>[]
 |n,m+1=>n::jt (n+1) m
abbrev XL:List XC→Type
 |[]=>Unit
 |c::l=>c.den×XL l
inductive AX where
 |c (x:XC)|agg (l:List PC)|ptr (io:Bool) (l:List XC)|fn (f:Nat) (bp:List (Bool×List XC))
 |chn (ls:List (List XC))
def AX.cells:AX→List XC
 |.c x=>[x]
 |.agg l=>l.map .p
 |.ptr _ l=>l
 |.fn _ bp=>bp.flatMap (·.2)
 |.chn ls=>ls.flatten
def AX.nb:AX→Nat
 |.ptr _ _=>1
 |.fn _ bp=>bp.length
 |.chn ls=>ls.length
 |_=>0
def AX.isChn:AX→Bool
 |.chn _=>true
 |_=>false
def Ae (ls:List (List XC)):List (Bool×List XC):=ls.map fun l=>(true,l)
abbrev XD (l:List AX):Type:=XL (l.flatMap AX.cells)
def AX.looks:AX→Bool
 |.ptr _ _=>true
 |.fn _ _=>true
 |_=>false
def E4 (l:List AX)(na:Nat):Bool:=l.zipIdx.all fun p=> !p.1.looks||Nat.blt p.2 na
def Af (h:Hp)(io:Bool)(id:Nat):Option (List zT):=match io,h id with
 |true,some (.box true cells)=>some cells
 |false,some (.box _ cells)=>some cells
 |false,some (.robox cells)=>some cells
 |_,_=>none
def gH (h:Hp):List (Bool×List XC)→List Nat→Option (List zT×List (Bool×Nat))
 |[],[]=>some ([],[])
 |(io,l)::ls,id::ids=>match Af h io id,gH h ls ids with
  |some cells,some (rest,bs)=>bif Nat.beq cells.length l.length then some (cells++rest,(io,id)::bs) else none
  |_,_=>none
 |_,_=>none
def AX.get (h:Hp):AX→zW→Option (List zT×List (Bool×Nat))
 |.c _,.c x=>some ([x],[])
 |.agg l,.agg xs=>bif Nat.beq xs.length l.length then some (xs,[]) else none
 |.ptr io l,.c (.ptr id 0)=>gH h [(io,l)] [id]
 |.fn f bp,.c (.fn g ids)=>bif Nat.beq f g then gH h bp ids else none
 |.chn ls,.c (.ptr id 0)=>match E3 h ls.length id with
  |some ids=>gH h (Ae ls) ids
  |none=>none
 |_,_=>none
def iw (h:Hp):List AX→List zW→Option (List zT×List (Bool×Nat))
 |[],[]=>some ([],[])
 |s::l,a::as=>match s.get h a,iw h l as with
  |some (cs,bs),some (aM,vk)=>some (cs++aM,bs++vk)
  |_,_=>none
 |_,_=>none
def E5 (h:Hp):(x:XC)→zT→Option x.den
 |.p p,c=>pF h p c
 |.own t,.osl id none=>match h id with
  |some (.arr true s xs)=>fx s t xs
  |_=>none
 |.mat,.osl id none=>match h id with
  |some (.mat _ xs)=>some xs
  |_=>none
 |.map,.map id=>match h id with
  |some (.imap cL)=>some cL
  |_=>none
 |.link _,.ptr _ 0=>some ()
 |_,_=>none
def mL (h:Hp):(l:List XC)→List zT→Option (XL l)
 |[],[]=>some ()
 |x::l,c::cs=>match E5 h x c,mL h l cs with
  |some d,some ds=>some (d,ds)
  |_,_=>none
 |_,_=>none
def wK:List XC→List zT→List Nat
 |.p _::l,_::cs=>wK l cs
 |.link _::l,_::cs=>wK l cs
 |_::l,.osl id _::cs=>id::wK l cs
 |_::l,.map id::cs=>id::wK l cs
 |_::l,_::cs=>wK l cs
 |_,_=>[]
def E6:List XC→List zT→List Nat
 |.p _::l,c::cs=>yY c++E6 l cs
 |_::l,_::cs=>E6 l cs
 |_,_=>[]
def vR:Nat:=500
def fF:(l:List XC)→XL l→Nat→List zT×List Obj
 |[],_,_=>([],[])
 |.p p::l,d,n=>let r:=fF l d.2 n;(zx p d.1::r.1,r.2)
 |.own t::l,d,n=>let r:=fF l d.2 (n+1);(.osl n none::r.1,.arr true t d.1::r.2)
 |.mat::l,d,n=>let r:=fF l d.2 (n+1);(.osl n none::r.1,.mat 0 d.1::r.2)
 |.map::l,d,n=>let r:=fF l d.2 (n+1);(.map n::r.1,.imap d.1::r.2)
 |.link j::l,d,n=>let r:=fF l d.2 n;(.ptr j 0::r.1,r.2)
def E7:List (Bool×List XC)→List zT→List Obj
 |[],_=>[]
 |(io,l)::ls,cs=>(bif io then .box true (cs.take l.length) else .robox (cs.take l.length))::E7 ls (cs.drop l.length)
def AX.mk (n:Nat)(cs:List zT):AX→zW
 |.c _=>match cs with|x::_=>.c x|[]=>.undef
 |.agg _=>.agg cs
 |.ptr _ _=>.c (.ptr n 0)
 |.fn f bp=>.c (.fn f ((List.range bp.length).map (n+·)))
 |.chn _=>.c (.ptr n 0)
def AX.boxes (cs:List zT):AX→List Obj
 |.ptr io l=>E7 [(io,l)] cs
 |.fn _ bp=>E7 bp cs
 |.chn ls=>E7 (Ae ls) cs
 |_=>[]
def vl:List AX→List zT→Nat→List zW×List Obj
 |[],_,_=>([],[])
 |s::l,cs,n=>
  let aj:=cs.take s.cells.length;let bs:=s.boxes aj;let rest:=vl l (cs.drop s.cells.length) (n+bs.length)
  (s.mk n aj::rest.1,bs++rest.2)
def E8 (bs rows:List Obj):Hp:=fun n=>bif Nat.ble vR n then rows[n-vR]? else bs[n]?
def mM l (d:XD l):List zW×Hp:=
 let r:=fF (l.flatMap AX.cells) d vR;let m:=vl l r.1 0
 (m.1,E8 m.2 r.2)
def E9:List (Bool×List XC)→List Nat→Option (List Nat)
 |[],[]=>some []
 |(io,_)::ls,id::ids=>match E9 ls ids with
  |some l=>some (bif io then id::l else l)
  |none=>none
 |_,_=>none
def AX.io (b:Nat):AX→zW→Option (List Nat)
 |.c _,_=>some []
 |.agg _,_=>some []
 |.ptr io l,.c (.ptr id 0)=>E9 [(io,l)] [id]
 |.fn _ bp,.c (.fn _ ids)=>E9 bp ids
 |.chn ls,_=>some (jt b ls.length)
 |_,_=>none
def JB:List AX→(Nat→zW)→Nat→Nat→Option (List Nat)
 |[],_,_,_=>some []
 |s::l,t,n,b=>match s.io b (t n),JB l t (n+1) (b+s.nb) with
  |some a,some b=>some (a++b)
  |_,_=>none
def Ag (h:Hp):List (List RC)→List Nat→Option (List zT)
 |[],[]=>some []
 |o::os,n::ns=>match h n,Ag h os ns with
  |some (.box true cells),some rest=>bif Nat.beq cells.length o.length then some (cells++rest) else none
  |_,_=>none
 |_,_=>none
def Px (h:Hp)(ns:Nat)(cs:List zT):Option (List Nat):=bif Nat.beq ns 0 then some [] else match Pw cs with
 |some id=>E3 h ns id
 |none=>none
def Ah (st:St)(as:List AX)(rs:RS)(os:List (List RC))(ns:Nat)(v:zW):Option (RL (rs.cells++os.flatten)):=
 match JB as st.t 0 0 with
 |none=>none
 |some io=>match rs.get v with
  |none=>none
  |some cs=>match Px st.h ns cs with
   |none=>none
   |some nw=>match Ag st.h os (io++nw) with
    |none=>none
    | some bs => bif oZ (io ++ nw) then (match jV st.h ((rs.cells++os.flatten).map RC.isFro) (cs++bs) with
     |some (cs,u)=>bif oZ (vM (rs.cells++os.flatten) cs)&&nZ ((rs.cells++os.flatten).map RC.lnk) (io++nw) cs then ir (qF st.h u) (rs.cells++os.flatten) cs else none
     |none=>none) else none
def Fa (as:List AX)(rs:RS)(os:List (List RC))(ns:Nat){X:Type}(unpack:RL (rs.cells++os.flatten)→X)(v:zW)(st:St):Option X:=match Ah st as rs os ns v with
 |some d=>some (unpack d)
 |none=>none
def sx:List (List RC)→List zT→List (List zT)
 |[],_=>[]
 |o::os,cs=>cs.take o.length::sx os (cs.drop o.length)
def vC:List (Bool×Nat)→List Nat
 |[]=>[]
 |(true,id)::l=>id::vC l
 |(false,_)::l=>vC l
def JC:List (Bool×Nat)→List Nat
 |[]=>[]
 |(true,_)::l=>JC l
 |(false,id)::l=>id::JC l
def Ai:List Nat→List (List zT)→yV
 |id::ids,cs::css=>(id,.box true cs)::Ai ids css
 |_,_=>[]
def mN (ids:List Nat):yV:=ids.map fun id=>(id,.gone)
def yZv (nm:Nat)(rs:RS)(os:List (List RC))(ids:List Nat)(d:RL (rs.cells++os.flatten)):zW×yV:=
 let r:=lV nm (rs.cells++os.flatten) d;let cs:=vj ((rs.cells++os.flatten).map RC.lnk) ids r.1
 (rs.mk (cs.take rs.cells.length),r.2++Ai ids (sx os (cs.drop rs.cells.length)))
def Py (a b:List Nat):Bool:=a.all fun x=> !b.any (Nat.beq x)
def sy (h:Hp):AX→zW→Option (zW×yV)
 |.c (.p p),.c x=>match jV h [p.isKept] [x] with
  |some ([x],u)=>some (.c x,u)
  |_=>none
 |.agg l,.agg xs=>match jV h (l.map PC.isKept) xs with
  |some (xs,u)=>some (.agg xs,u)
  |none=>none
 |_,a=>some (a,[])
def n9 (h:Hp):List AX→List zW→Option (List zW×yV)
 |s::l,a::as=>match sy h s a,n9 h l as with
  |some (a,u),some (as,us)=>some (a::as,u++us)
  |_,_=>none
 |_,as=>some (as,[])
def Aj as (nm n:Nat)(args:List zW)(h:Hp):Option (yV×List Nat×List Nat×XD as):=
 match n9 h as args with
 |none=>none
 |some (args,u)=>match iw (qF h u) as args with
  |none=>none
  |some (cs,bs)=>match mL (qF h u) (as.flatMap AX.cells) cs with
   |none=>none
   |some d=>
    let rows:=wK (as.flatMap AX.cells) cs;let aj:=vC bs++rows
    bif sm h nm n&&Nat.ble n 100&&Nat.ble bs.length vR&&oZ aj&&Py aj (E6 (as.flatMap AX.cells) cs)&&Py aj (JC bs)&&nZ ((as.flatMap AX.cells).map XC.lnk) (bs.map (·.2)) cs then
     some (u,vC bs,rows,d)
    else none
def Pz (u:yV)(io rows:List Nat)(rs:RS)(os:List (List RC))(ns nm:Nat)(d:RL (rs.cells++os.flatten)):zW×yV:=
 let r:=yZv nm rs os (io++jt (nm+(rs.cells++os.flatten).length) ns) d
 (r.1,u++(mN rows++r.2))
def oc as (rs:RS)(os:List (List RC))(ns:Nat){X}(S:XD as→Option X)(pack:X→RL (rs.cells++os.flatten))(nm:Nat)(args:List zW)(h:Hp):yN:=
 match Aj as nm ((rs.cells++os.flatten).length+ns) args h with
 |none=>.stuck
 |some (u,io,rows,d)=>.call X (S d) fun r=>Pz u io rows rs os ns nm (pack r)
def iR (M:zI)(aj:List Nat)(b:Nat):Prop:=∃id∈aj,∃C,M.κ id=some C∧b∈C.fp
structure oe (M:zI) (aj:List Nat) (Ml:zI):Prop where
 H:Ml.H=M.H
 F:Ml.F=fun b=>b<M.H.size∧¬iR M aj b
 G:Ml.G=M.G
def lj (M:zI)(aj:List Nat):Prop:=∀id∈aj,∃o,M.h id=some o∧o.owned=true
theorem iR.own {M aj}(ho:lj M aj){b}(h:iR M aj b):qJ M b:=by
 obtain⟨id,ah,C,hC,hb⟩:=h;obtain⟨o,h1,h2⟩:=ho id ah;exact⟨id,o,C,h1,h2,hC,hb⟩
theorem pK {M}(ok:Ok M){aj}(ho:lj M aj){b}(h:M.F b):b<M.H.size∧¬iR M aj b:=⟨ok.Flt b h,fun hh=>(ok.own b (hh.own ho)).1 h⟩
theorem yD3 {M M'}(ok:Ok M){aj}(ho:lj M aj){id o}(hn:id∉aj)(hh:M'.h=qW M.h id o)(hκ:M'.κ=M.κ)(hH:M'.H=M.H)(ic:Ok M'){b}(h:M'.G b):b<M.H.size∧¬iR M aj b:=by
 have hf:=ic.GF b h;refine⟨by have:=ic.Flt b hf;simp_all,fun hd=>?_⟩;obtain⟨jd,hj,C,hC,hb⟩:=hd;obtain⟨q,h1,h2⟩:=ho jd hj;refine(ic.own b ⟨jd,q,C,?_,h2,?_,hb⟩).1 hf
 ·rw[hh,yI _ _ (by grind)];exact h1
 simp_all
theorem vDv {M}(ok:Ok M){aj}(ho:lj M aj){c v t xs}(hn:∀id∈yY c,id∉aj)(hv:zQ M c v)(h:gY M.h c=some ⟨t,xs⟩):
  qB M.H (fun b=>b<M.H.size∧¬iR M aj b) (.sl t) xs (fun _=>some v):=by
 unfold gY at h;split at h
 ·rename_i sh s ys;cases h;cases sh with
  |true=>exact yR (fun b hb=>pK ok ho (ok.GF b hb)) (by simp) _ _ _ _ (fun _ _=>rfl) hv
  |false=>exact yR (fun b hb=>pK ok ho hb) (by simp) _ _ _ _ (fun _ _=>rfl) hv
 ·rename_i id r;have mz:id∉aj:=hn id (by simp[yY]);split at h
  ·rename_i own s ys ah;cases h;cases own with
   |false=>
    obtain⟨C,hC,hO⟩:=ok.obj _ _ ah;exact yR (fun b hb=>pK ok ho (ok.GF b hb)) (by simp) _ _ _ _ (by simp) (uv hC hO hv)
   |true=>
    obtain⟨M',h1,h2,h3,h4,h5⟩:=Yw ok ah;obtain⟨C,hC,hO⟩:=h3.obj id _ (by rw[h2];exact yG _ _ _);have:=uv hC hO (hv.ext h4.ext);exact yR (fun b hb=>yD3 ok ho mz h2 h5 h1 h3 hb) (by grind) _ _ _ _ (by simp) this
  ·rename_i ver ys ah;cases r with
   |some p=>cases h
   |none=>
    cases h;obtain⟨M',h1,h2,h3,h4,h5⟩:=Yy ok ah;obtain⟨C,hC,hO⟩:=h3.obj id _ (by rw[h2];exact yG _ _ _);have:=uv (r:=none) hC hO (hv.ext h4.ext);exact yR (fun b hb=>yD3 ok ho mz h2 h5 h1 h3 hb) (by grind) _ _ _ _ (by simp) this
  ·cases h
 ·rename_i id i ver;have mz:id∉aj:=hn id (by simp[yY]);split at h
  ·rename_i v' ys ah;cases eu:Nat.beq v' ver with
   |false=>rw[eu] at h;cases h
   |true=>
    rw[eu] at h;cases h;have e:v'=ver:=by simpa using eu
    subst e;obtain⟨C,hC,hO⟩:=ok.obj _ _ ah;obtain⟨C',aw,cc,_,aU⟩:=hv;rw[hC] at aw;cases aw;obtain⟨rb,rl,se,nN⟩:=aU hO.1;by_cases hi:i<ys.length
    ·obtain⟨B,mA,v2,k1,k2,k3,k4,k5,k6⟩:=yx hO hi;rw[se] at k3;cases k3;rw[show ys.getD i []=ys[i] by simp[List.getD,hi]];simp only[qB];cases rb with
     |none=>
      obtain⟨rfl,h0⟩:=nN;grind
     |some R=>
      obtain⟨a,c,rfl,h1,h2,h3⟩:=nN;refine⟨_,_,c,rfl,rfl,h1,?_⟩;by_cases h0:ys[i].length=0
      ·simp_all
      ·have ha:a=0:=by omega
       subst ha;have hR:R∈C.fp:=by
        simp only[zZ.fp,List.mem_append,List.mem_filterMap];grind
       refine .inr ⟨R,0,rfl,⟨?_,fun hd=>?_⟩,fun j hj=>?_⟩
       ·have:=k6 R rfl 0 (by omega);unfold yH at this;grind
       ·obtain⟨jd,hj,D,hD,hb⟩:=hd;obtain⟨q,q1,q2⟩:=ho jd hj;exact ok.disj jd id q _ D C R (by grind) q1 ah q2 rfl hD hC hb hR
       ·simp only[qB,Ty.size,Nat.zero_add,Nat.mul_one,Nat.add_zero];exact by grind
    ·have:C.rows[i]? =none:=List.getElem?_eq_none (by have:=hO.2.2.2.1;omega);simp_all
  ·cases h
 ·cases h
def TrX (M:zI)(aj:List Nat)(c c':zT):Prop:=∀v Ml,oe M aj Ml→zQ M c v→zQ Ml c' v
theorem vLk {M}(ok:Ok M){aj}(ho:lj M aj){p c d}(hn:∀id∈yY c,id∉aj)(h:pF M.h p c=some d):TrX M aj c (zx p d):=by
 intro v Ml lo hv;unfold pF at h;split at h
 ·rename_i k j n;cases e:jY j k with
  |false=>simp_all
  |true=>rw[e] at h;cases h;rw[←oV e];exact hv
 ·cases h;exact hv
 ·show qB Ml.H Ml.F _ _ _;rw[lo.H,lo.F];unfold uY at h;split at h
  ·cases h;rw[show v=.slice none 0 0 from hv];exact EY
  ·split at h
   ·rename_i s ys hr;obtain⟨e,hx⟩:=iO h;subst e;subst hx;exact vDv ok ho hn hv hr
   ·cases h
 ·obtain⟨e,hx⟩:=iO h;subst e;subst hx;show qB Ml.H Ml.G _ _ _;rw[lo.H,lo.G];exact hv
 ·cases h;rw[show v=.slice none 0 0 from hv];exact EY
 ·rename_i f g;cases e:Nat.beq f g with
  |false=>simp_all
  |true=>
   have:f=g:=by simp_all
   subst this;obtain⟨cv,rfl,hc⟩:=hv;refine⟨cv,rfl,?_⟩;generalize cv.toList=l at hc;cases l with
   |nil=>trivial
   |cons _ _=>exact hc.elim
 ·exact hv
 ·exact hv
 ·cases h
def og (M:zI)(aj:List Nat)(κ:Nat→Option zZ)(c c':zT):Prop:=∀v Ml,oe M aj Ml→Ml.κ=κ→zQ M c v→zQ Ml c' v
structure vAd (M:zI) (id:Nat) (o:Obj) (C:zZ):Prop where
 κ:M.κ id=some C
 rep:∀Ml:zI,Ml.H=M.H→Ml.G=M.G→yP Ml o {C with ver:=0}
 own:o.owned=true
 was:∃q,M.h id=some q∧q.owned=true
theorem vGe {M Ml}(hH:Ml.H=M.H){cL C}(h:yP M (.imap cL) C):yP Ml (.imap cL) {C with ver:=0}:=by
 obtain⟨B,es,ck,h1,h2,h3,h4,h5⟩:=h;exact⟨B,es,ck,h1,h2,by simp_all,h4,h5⟩
theorem yG9 {j l ids c cs}(h:nZ (some j::l) ids (c::cs)=true):∃id,c=.ptr id 0∧ids[j]? =some id∧nZ l ids cs=true:=by
 cases c with
 |ptr id off=>
  cases off with
  |zero=>
   have h:((match ids[j]? with|some k=>Nat.beq id k|none=>false)&&nZ l ids cs)=true:=h;rw[Bool.and_eq_true] at h;have h1:=h.1;split at h1;all_goals simp_all
  |succ _=>cases h
 |_=>cases h
theorem Ak {M}(ok:Ok M){aj}(ho:lj M aj){κ}:∀{l cs d n ids},mL M.h l cs=some d→nZ (l.map XC.lnk) ids cs=true→(∀id∈E6 l cs,id∉aj)→
  (wK l cs).length=(fF l d n).2.length∧(∀(i:Nat) id o,(wK l cs)[i]? =some id→(fF l d n).2[i]? =some o→∃C,vAd M id o C)∧
   ((∀i id C,(wK l cs)[i]? =some id→M.κ id=some C→κ (n+i)=some {C with ver:=0})→(∀j id,ids[j]? =some id→κ j=M.κ id)→zK (og M aj κ) cs (fF l d n).1)
 |[],[],_,n,_,_,_,_=>⟨rfl,nofun,fun _ _=>trivial⟩
 |x::l,c::cs,d,n,ids,h,hl,hn=>by
  unfold mL at h;split at h
  ·rename_i y ys h1 h2;cases h;cases x with
   |p p=>
    have kA:∀id∈yY c,id∉aj:=fun id ah=>hn id (List.mem_append_left _ ah)
    obtain⟨k1,k2,k3⟩:=Ak ok ho (κ:=κ) (n:=n) (ids:=ids) h2 hl (fun id ah=>hn id (List.mem_append_right _ ah));exact⟨k1,k2,fun hκ hj=>⟨fun v Ml lo _ hv=>vLk ok ho kA h1 v Ml lo hv,k3 hκ hj⟩⟩
   |own t=>
    cases c with
    |osl id r=>
     cases r with
     |some _=>cases h1
     |none=>
      have h1:(match M.h id with|some (.arr true s xs)=>fx s t xs|_=>none)=some y:=h1;split at h1
      ·rename_i s xs ah;obtain⟨e,hx⟩:=iO h1;subst e;subst hx;obtain⟨C,hC,hO⟩:=ok.obj id _ ah;obtain⟨k1,k2,k3⟩:=Ak ok ho (κ:=κ) (n:=n+1) (ids:=ids) h2 hl hn;refine⟨by simp only[wK,fF,List.length_cons,k1],fun i jd o hi ja=>?_,fun hκ hj=>⟨fun v Ml lo hk hv=>?_,k3 (fun i jd D hi hD=>?_) hj⟩⟩
       ·cases i with
        |zero=>
         cases hi;cases ja;refine⟨C,hC,fun Ml e1 e2=>?_,rfl,_,ah,rfl⟩;obtain⟨q1,q2,q3,q4⟩:=hO;refine⟨q1,q2,q3,?_⟩;rw[e1,e2];exact q4
        |succ i=>exact k2 i jd o hi ja
       ·obtain⟨D,hD,hS⟩:=hv;rw[hC] at hD;cases hD;refine⟨{C with ver:=0},by rw[hk];exact hκ 0 id C rfl hC,?_⟩;rw[lo.H];exact hS
       ·have:=hκ (i+1) jd D hi hD;rw[←this];congr 1;omega
      ·cases h1
    |_=>cases h1
   |mat=>
    cases c with
    |osl id r=>
     cases r with
     |some _=>cases h1
     |none=>
      have h1:(match M.h id with|some (.mat _ xs)=>some xs|_=>none)=some y:=h1;split at h1
      ·rename_i ver xs ah;cases h1;obtain⟨C,hC,hO⟩:=ok.obj id _ ah;obtain⟨k1,k2,k3⟩:=Ak ok ho (κ:=κ) (n:=n+1) (ids:=ids) h2 hl hn;refine⟨by simp only[wK,fF,List.length_cons,k1],fun i jd o hi ja=>?_,fun hκ hj=>⟨fun v Ml lo hk hv=>?_,k3 (fun i jd D hi hD=>?_) hj⟩⟩
       ·cases i with
        |zero=>
         cases hi;cases ja;refine⟨C,hC,fun Ml e1 e2=>?_,rfl,_,ah,rfl⟩;obtain⟨q1,q2⟩:=hO;refine⟨rfl,?_⟩;rw[e1];exact q2
        |succ i=>exact k2 i jd o hi ja
       ·obtain⟨D,hD,hS⟩:=hv;rw[hC] at hD;cases hD;refine⟨{C with ver:=0},by rw[hk];exact hκ 0 id C rfl hC,?_⟩;show wG Ml.H {C with ver:=0} 0 C.len v;rw[lo.H];exact hS
       ·have:=hκ (i+1) jd D hi hD;rw[←this];congr 1;omega
      ·cases h1
    |_=>cases h1
   |map=>
    cases c with
    |map id=>
     have h1:(match M.h id with|some (.imap cL)=>some cL|_=>none)=some y:=h1;split at h1
     ·rename_i cL ah;cases h1;obtain⟨C,hC,hO⟩:=ok.obj id _ ah;obtain⟨k1,k2,k3⟩:=Ak ok ho (κ:=κ) (n:=n+1) (ids:=ids) h2 hl hn;refine⟨by simp only[wK,fF,List.length_cons,k1],fun i jd o hi ja=>?_,fun hκ hj=>⟨fun v Ml lo hk hv=>?_,k3 (fun i jd D hi hD=>?_) hj⟩⟩
      ·cases i with
       |zero=>
        cases hi;cases ja;exact⟨C,hC,fun Ml e1 e2=>vGe e1 hO,rfl,_,ah,rfl⟩
       |succ i=>exact k2 i jd o hi ja
      ·obtain⟨D,B,hD,hB,e⟩:=hv;rw[hC] at hD;cases hD;exact⟨{C with ver:=0},B,by rw[hk];exact hκ 0 id C rfl hC,hB,e⟩
      ·have:=hκ (i+1) jd D hi hD;rw[←this];congr 1;omega
     ·cases h1
    |_=>cases h1
   |link j=>
    obtain⟨id,rfl,ah,dr⟩:=yG9 hl;obtain⟨k1,k2,k3⟩:=Ak ok ho (κ:=κ) (n:=n) (ids:=ids) h2 dr hn;refine⟨k1,k2,fun hκ hj=>⟨fun v Ml lo hk hv=>?_,k3 hκ hj⟩⟩;obtain⟨C,B,hC,hB,e⟩:=hv;exact⟨C,B,by rw[hk,hj j id ah];exact hC,hB,e⟩
  ·cases h
 |[],_::_,_,_,_,h,_,_=>by cases h
 |_::_,[],_,_,_,h,_,_=>by cases h
theorem Fc {M Ml aj}(lo:oe M aj Ml):∀{cs aM vs},zK (og M aj Ml.κ) cs aM→zK (zQ M) cs vs→zK (zQ Ml) aM vs
 |[],[],[],_,_=>trivial
 |_::_,_::_,_::_,h,k=>⟨h.1 _ _ lo rfl k.1,Fc lo h.2 k.2⟩
def Al (aj:List Nat)(bs:List (Bool×Nat)):Prop:=∀b∈bs,(b.1=true→b.2∈aj)∧(b.1=false→b.2∉aj)
theorem vCl {M}(ok:Ok M){aj}(ho:lj M aj){io id cells}(h:Af M.h io id=some cells)(hm:(io=true→id∈aj)∧(io=false→id∉aj)):
  ∃C B,M.κ id=some C∧C.blk=some B∧∀Ml bB,oe M aj Ml→zK (og M aj Ml.κ) cells bB→yP Ml (bif io then .box true bB else .robox bB) C:=by
 unfold Af at h;split at h
 ·rename_i cs ah;cases h;obtain⟨C,hC,B,vals,e,h1,h2,h3,h4,h5⟩:=ok.obj id _ ah;exact⟨C,B,hC,h1,fun Ml bB lo ht=>⟨B,vals,e,h1,h2,by rw[lo.H];exact h3,Fc lo ht h4,by simp⟩⟩
 ·rename_i own cs ah;cases h;obtain⟨C,hC,B,vals,e,h1,h2,h3,h4,h5⟩:=ok.obj id _ ah;refine⟨C,B,hC,h1,fun Ml bB lo ht=>⟨B,vals,e,h1,h2,by rw[lo.H];exact h3,Fc lo ht h4,?_⟩⟩;rw[lo.F];cases own with
  |false=>exact pK ok ho (ok.GF B (h5 rfl))
  |true=>
   refine⟨by grind,fun hd=>?_⟩;obtain⟨jd,hj,D,hD,hb⟩:=hd;obtain⟨q,q1,q2⟩:=ho jd hj;exact ok.disj jd id q _ D C B (by grind) q1 ah q2 rfl hD hC hb (by simp[zZ.fp,h1])
 ·rename_i cs ah;cases h;obtain⟨C,hC,B,vals,e,h1,h2,h3,h4,h5⟩:=ok.obj id _ ah;refine⟨C,B,hC,h1,fun Ml bB lo ht=>⟨B,vals,e,h1,h2,by rw[lo.H];exact h3,Fc lo ht h4,?_⟩⟩;rw[lo.F];exact pK ok ho h5
 ·cases h
def PA (M:zI)(aj:List Nat)(bs:List (Bool×Nat))(mk:List zT→List Obj)(cs:List zT):Prop:=∀(Ml:zI) (aM:List zT),oe M aj Ml→zK (og M aj Ml.κ) cs aM→
 zK (fun(b:Bool×Nat) o=>∃C B,M.κ b.2=some C∧C.blk=some B∧yP Ml o C∧o.owned=b.1) bs (mk aM)
theorem JD {M}(ok:Ok M){aj}(ho:lj M aj):∀{ls ids cs bs},gH M.h ls ids=some (cs,bs)→Al aj bs→
  cs.length=(ls.flatMap (·.2)).length∧bs=(ls.map (·.1)).zip ids∧ids.length=ls.length∧PA M aj bs (E7 ls) cs
 |[],[],cs,bs,h,_=>by cases h;exact⟨rfl,rfl,rfl,fun _ _ _ _=>trivial⟩
 |(io,l)::ls,id::ids,cs,bs,h,hf=>by
  unfold gH at h;split at h
  ·rename_i cells rest vk h1 h2;obtain⟨hl,h⟩:=vP h;cases h;have hl:cells.length=l.length:=Nat.eq_of_beq_eq_true hl;obtain⟨C,B,hC,hB,hO⟩:=vCl ok ho h1 (hf _ (List.mem_cons_self ..));obtain⟨k1,k2,k3,k4⟩:=JD ok ho h2 fun b hb=>hf b (by grind)
   refine⟨by simp_all,by simp_all,by simp[k3],fun Ml aM lo ht=>?_⟩;have lX:=zK.take l.length ht;have lf:=zK.drop l.length ht;rw[←hl,List.drop_left] at lf;refine⟨⟨C,B,hC,hB,?_,?_⟩,?_⟩
   ·simp_all
   ·cases io<;>rfl
   ·rw[←hl];exact k4 Ml _ lo lf
  ·cases h
theorem Fe {h}:∀{ls ids cs bs},gH h ls ids=some (cs,bs)→bs.length=ls.length
 |[],[],_,_,e=>by cases e;rfl
 |(io,l)::ls,id::ids,cs,bs,e=>by
  unfold gH at e;split at e
  ·rename_i cells rest vk h1 h2;obtain⟨_,e⟩:=vP e;cases e;simp[Fe h2]
  ·cases e
theorem yZ5 {h}{s:AX}{a cs bs}(e:s.get h a=some (cs,bs)):bs.length=s.nb:=by
 unfold AX.get at e;split at e
 ·cases e;rfl
 ·obtain⟨_,e⟩:=vP e;cases e;rfl
 ·rw[Fe e];rfl
 ·obtain⟨_,e⟩:=vP e;rw[Fe e];rfl
 ·split at e
  ·rw[Fe e];simp[Ae,AX.nb]
  ·cases e
 ·cases e
theorem PB {h}:∀{n id ids},E3 h n id=some ids→ids.head? =some id∧ids.length=n
 |1,_,_,e=>by cases e;simp
 |n+2,id,ids,e=>by
  unfold E3 at e;split at e
  ·split at e
   ·split at e
    ·rename_i l hl;cases e;exact⟨rfl,by simp[(PB hl).2]⟩
    ·cases e
   ·cases e
  ·cases e
theorem yS8 {M}(ok:Ok M){aj}(ho:lj M aj){s:AX}{a v cs bs}(hv:zP M a v)(h:s.get M.h a=some (cs,bs))(hf:Al aj bs):
  cs.length=s.cells.length∧PA M aj bs (fun aM=>s.boxes aM) cs∧∀Ml aM n,oe M aj Ml→zK (og M aj Ml.κ) cs aM→(∀i b,bs[i]? =some b→Ml.κ (n+i)=M.κ b.2)→zP Ml (s.mk n aM) v:=by
 unfold AX.get at h;split at h
 ·cases h;refine⟨rfl,fun Ml aM lo ht=>trivial,fun Ml aM n lo ht _=>?_⟩
  match aM,ht with
  |[c'],ht=>exact ht.1 v Ml lo rfl hv
 ·rename_i l xs;obtain⟨hl,h'⟩:=vP h;cases h';have hl:cs.length=l.length:=Nat.eq_of_beq_eq_true hl;obtain⟨vs,rfl,hx⟩:=hv;exact⟨by simp[AX.cells,hl],fun Ml aM lo ht=>trivial,fun Ml aM n lo ht _=>⟨vs,rfl,Fc lo ht hx⟩⟩
 ·rename_i io l id;obtain⟨k1,k2,k3,k4⟩:=JD ok ho h hf;refine⟨by rw[k1];simp[AX.cells],k4,fun Ml aM n lo ht hκ=>?_⟩;obtain⟨C,B,hC,hB,e⟩:=hv;exact⟨C,B,by have:=hκ 0 (io,id) (by rw[k2];rfl);simp_all,hB,e⟩
 ·rename_i f bp g ids;obtain⟨hg,h'⟩:=vP h;have Pc:f=g:=Nat.eq_of_beq_eq_true hg;subst Pc;obtain⟨k1,k2,k3,k4⟩:=JD ok ho h' hf;refine⟨by rw[k1];rfl,k4,fun Ml aM n lo ht hκ=>?_⟩;obtain⟨cv,rfl,hc⟩:=hv;refine⟨cv,rfl,?_⟩;have l2:=hc.length;refine zK.of_get (by simp_all) fun i h1 h2=>?_
  have hi:i<ids.length:=by omega
  obtain⟨C,B,q1,q2,q3⟩:=hc.get i hi h2;have hb:bs[i]? =some ((bp.map (·.1))[i]'(by simp at h1⊢;omega),ids[i]):=by
   grind
  grind
 ·rename_i ls id;split at h
  ·rename_i ids jl;obtain⟨k1,k2,k3,k4⟩:=JD ok ho h hf;refine⟨by rw[k1];simp[AX.cells,Ae,List.flatMap_map],k4,fun Ml aM n lo ht hκ=>?_⟩;obtain⟨C,B,hC,hB,e⟩:=hv;have hb:bs[0]? =some (true,id):=by
    obtain⟨h1,h2⟩:=PB jl;rw[k2];cases ids with
    |nil=>cases h1
    |cons i ids=>
     cases h1;cases ls with
     |nil=>cases k3
     |cons l ls=>rfl
   exact⟨C,B,by grind,hB,e⟩
  ·cases h
 ·cases h
theorem yCp {M}(ok:Ok M){aj}(ho:lj M aj):∀{l as vs cs bs},zK (zP M) as vs→iw M.h l as=some (cs,bs)→Al aj bs→
  cs.length=(l.flatMap AX.cells).length∧(∀n,PA M aj bs (fun aM=>(vl l aM n).2) cs)∧
   ∀Ml aM n,oe M aj Ml→zK (og M aj Ml.κ) cs aM→(∀i b,bs[i]? =some b→Ml.κ (n+i)=M.κ b.2)→zK (zP Ml) (vl l aM n).1 vs
 |[],[],[],cs,bs,_,h,_=>by cases h;exact⟨rfl,fun _ _ _ _ _=>trivial,fun _ _ _ _ _ _=>trivial⟩
 |s::l,a::as,v::vs,cs,bs,hv,h,hf=>by
  unfold iw at h;split at h
  ·rename_i ku bs1 cs2 bs2 h1 h2;cases h;have hf1:Al aj bs1:=fun b hb=>hf b (by grind)
   have hf2:Al aj bs2:=fun b hb=>hf b (by grind)
   obtain⟨k1,k2,k3⟩:=yS8 ok ho hv.1 h1 hf1;obtain⟨k4,k5,k6⟩:=yCp ok ho hv.2 h2 hf2;have cut:∀{κ:Nat→Option zZ} {aM:List zT},zK (og M aj κ) (ku++cs2) aM→zK (og M aj κ) ku (aM.take s.cells.length)∧zK (og M aj κ) cs2 (aM.drop s.cells.length):=by
    intro κ aM ht;have lX:=zK.take s.cells.length ht;have lf:=zK.drop s.cells.length ht;simp_all
   refine⟨by simp_all,fun n Ml aM lo ht=>?_,fun Ml aM n lo ht hκ=>?_⟩
   ·obtain⟨lX,lf⟩:=cut ht;exact(k2 Ml _ lo lX).append (k5 _ Ml _ lo lf)
   ·obtain⟨lX,lf⟩:=cut ht;have hlen:=(k2 Ml _ lo lX).length;refine⟨k3 Ml _ n lo lX fun i b hb=>hκ i b ?_,k6 Ml _ _ lo lf fun i b hb=>?_⟩
    ·grind
    ·have:=hκ (bs1.length+i) b (by grind);grind
  ·cases h
def κX (M : zI) (bs : List (Bool × Nat)) (rows : List Nat) : Nat → Option zZ := fun n => bif Nat.ble vR n then (match rows[n-vR]? with
  |some id=>(M.κ id).map fun C=>{C with ver:=0}
  |none=>none)
 else (match bs[n]? with
  |some b=>M.κ b.2
  |none=>none)
theorem vm:∀{bs} {i id:Nat},bs[i]? =some (true,id)→id∈vC bs
 |(true,a)::bs,0,id,h=>by cases h;exact List.mem_cons_self ..
 |(true,a)::bs,i+1,id,h=>List.mem_cons_of_mem _ (vm (bs:=bs) (i:=i) h)
 |(false,a)::bs,i+1,id,h=>vm (bs:=bs) (i:=i) h
theorem PD:∀{bs} {i j id:Nat},(vC bs).Nodup→bs[i]? =some (true,id)→bs[j]? =some (true,id)→i=j
 |(true,a)::bs,0,0,id,_,_,_=>rfl
 |(true,a)::bs,0,j+1,id,hn,h,k=>by
  cases h;exact absurd (vm (bs:=bs) (i:=j) k) (List.nodup_cons.1 hn).1
 |(true,a)::bs,i+1,0,id,hn,h,k=>by
  cases k;exact absurd (vm (bs:=bs) (i:=i) h) (List.nodup_cons.1 hn).1
 |(true,a)::bs,i+1,j+1,id,hn,h,k=>by rw[PD (bs:=bs) (List.nodup_cons.1 hn).2 h k]
 |(false,a)::bs,i+1,j+1,id,hn,h,k=>by rw[PD (bs:=bs) hn h k]
theorem vOc {M}(ok:Ok M){l as vs cs bs}{d:XD l}(hv:zK (zP M) as vs)(hg:iw M.h l as=some (cs,bs))(hd:mL M.h (l.flatMap AX.cells) cs=some d)
  (df:(vC bs++wK (l.flatMap AX.cells) cs).Nodup) (nQ:∀id∈E6 (l.flatMap AX.cells) cs,id∉vC bs++wK (l.flatMap AX.cells) cs) (hro:∀id∈JC bs,id∉vC bs++wK (l.flatMap AX.cells) cs) (hlen:bs.length≤vR) (pL:nZ ((l.flatMap AX.cells).map XC.lnk) (bs.map (·.2)) cs=true) (ho:lj M (vC bs++wK (l.flatMap AX.cells) cs)):
  ∃Ml:zI,oe M (vC bs++wK (l.flatMap AX.cells) cs) Ml∧Ml.h=(mM l d).2∧Ok Ml∧(∀b,qJ Ml b→iR M (vC bs++wK (l.flatMap AX.cells) cs) b)∧zK (zP Ml) (mM l d).1 vs∧Ml.κ=κX M bs (wK (l.flatMap AX.cells) cs):=by
 generalize fG:vC bs++wK (l.flatMap AX.cells) cs=aj at*
 have sA:Al aj bs:=by
  intro b hb;obtain⟨i,hi,rfl⟩:=List.getElem_of_mem hb;have Ee:bs[i]? =some bs[i]:=List.getElem?_eq_getElem hi;refine⟨fun e=>?_,fun e=>?_⟩
  ·rw[←fG];have:bs[i]? =some (true,bs[i].2):=by rw[Ee,←e]
   exact List.mem_append_left _ (vm this)
  ·apply hro;clear hg hd df nQ hro hlen ho fG hv pL
   induction bs generalizing i with
   |nil=>exact absurd hi (Nat.not_lt_zero i)
   |cons c bs ih=>
    obtain⟨io,a⟩:=c;cases i with
    |zero=>cases io<;>first|exact List.mem_cons_self .. |cases e
    |succ i=>cases io<;>first|exact List.mem_cons_of_mem _ (by grind)|exact ih i (by simpa using hi) (List.getElem_mem _) (List.getElem?_eq_getElem _) e
 let κ:=κX M bs (wK (l.flatMap AX.cells) cs);obtain⟨k1,k2,k3⟩:=Ak ok ho (κ:=κ) (n:=vR) (ids:=bs.map (·.2)) hd pL nQ;have ht : zK (og M aj κ) cs (fF (l.flatMap AX.cells) d vR).1 := k3 (fun i id C hi hC=>by
  show κX M bs _ (vR+i)=_;unfold κX;rw[Nat.ble_eq_true_of_le (Nat.le_add_right _ _),show vR+i-vR=i by omega,hi];simp[hC]) fun j id hj=>by
  rw[List.getElem?_map] at hj;obtain⟨b,hb,rfl⟩:=Option.map_eq_some_iff.1 hj;have hi:j<bs.length:=by grind
  show κX M bs _ j=_;unfold κX;have:Nat.ble vR j=false:=by
   cases h:Nat.ble vR j with
   |false=>rfl
   |true=>have:=Nat.le_of_ble_eq_true h;omega
  rw[this,hb];rfl
 obtain⟨a1,a2,a3⟩:=yCp ok ho hv hg sA;let Ml:zI:={κ:=κ,F:=fun b=>b<M.H.size∧¬iR M aj b,G:=M.G,h:=(mM l d).2,H:=M.H};have lo:oe M aj Ml:=⟨rfl,rfl,rfl⟩;have vn:=a2 0 Ml _ lo ht;have hκbox:∀i b,bs[i]? =some b→Ml.κ (0+i)=M.κ b.2:=fun i b hb=>by
  have hi:i<bs.length:=by grind
  show κX M bs _ (0+i)=_;unfold κX;have:Nat.ble vR (0+i)=false:=by
   cases h:Nat.ble vR (0+i) with
   |false=>rfl
   |true=>have:=Nat.le_of_ble_eq_true h;omega
  rw[this,Nat.zero_add,hb];rfl
 have ju:∀id o,Ml.h id=some o→∃jd C,Ml.κ id=some C∧yP Ml o C∧(o.owned=true→jd∈aj∧∃D,M.κ jd=some D∧D.fp=C.fp)∧
   ((Nat.ble vR id=true∧(wK (l.flatMap AX.cells) cs)[id-vR]? =some jd)∨(Nat.ble vR id=false∧∃io,bs[id]? =some (io,jd)∧o.owned=io)):=by
  intro id o h;have h:E8 (vl l (fF (l.flatMap AX.cells) d vR).1 0).2 (fF (l.flatMap AX.cells) d vR).2 id=some o:=h;unfold E8 at h;cases hb:Nat.ble vR id with
  |true=>
   rw[hb] at h;have h:(fF (l.flatMap AX.cells) d vR).2[id-vR]? =some o:=h;have hi:=(List.getElem?_eq_some_iff.1 h).1;have hj:(wK (l.flatMap AX.cells) cs)[id-vR]? =some ((wK (l.flatMap AX.cells) cs)[id-vR]'(by omega)):=by simp
   obtain⟨C,hR⟩:=k2 _ _ _ hj h;refine⟨_,{C with ver:=0},?_,hR.rep Ml rfl rfl,fun _=>⟨?_,C,hR.κ,rfl⟩,.inl ⟨rfl,hj⟩⟩
   ·show κX M bs _ id=_;unfold κX;rw[hb,hj];simp[hR.κ]
   ·rw[←fG];exact by simp
  |false=>
   rw[hb] at h;have hi:=(List.getElem?_eq_some_iff.1 h).1;have PE:id<bs.length:=by rw[vn.length];exact hi
   have hq:=vn.get id PE hi;rw[List.getElem?_eq_getElem hi] at h;cases h;obtain⟨C,B,q1,q2,q3,q4⟩:=hq;have Ee:bs[id]? =some bs[id]:=List.getElem?_eq_getElem PE;refine⟨bs[id].2,C,?_,q3,fun e=>⟨(sA _ (List.getElem_mem PE)).1 (by rw[←q4];exact e),C,q1,rfl⟩,by grind⟩;have:=hκbox id _ Ee;rw[Nat.zero_add] at this;rw[this];exact q1
 have aJ:∀b,qJ Ml b→iR M aj b:=fun b ⟨id,o,C,h1,h2,h3,h4⟩=>by
  obtain⟨jd,C',q1,_,q3,_⟩:=ju id o h1;rw[h3] at q1;cases q1;obtain⟨p1,D,p2,p3⟩:=q3 h2;exact⟨jd,p1,D,p2,by rw[p3];exact h4⟩
 refine⟨Ml,lo,rfl,⟨fun id o h=>?_,fun id h=>?_,fun i j oi oj Ci Cj b iZ h1 h2 h3 h4 h5 h6 h7 h8=>?_,fun b hb=>⟨fun hf=>hf.2 (aJ b hb),(ok.own b ((aJ b hb).own ho)).2⟩,fun b hb=>pK ok ho (ok.GF b hb),fun b hb=>hb.1⟩,aJ,a3 Ml _ 0 lo ht hκbox,rfl⟩
 ·obtain⟨jd,C,q1,q2,_⟩:=ju id o h;exact⟨C,q1,q2⟩
 ·have h:E8 (vl l (fF (l.flatMap AX.cells) d vR).1 0).2 (fF (l.flatMap AX.cells) d vR).2 id=none:=h;unfold E8 at h;show κX M bs _ id=none;unfold κX;cases hb:Nat.ble vR id with
  |true=>
   rw[hb] at h;have h:(fF (l.flatMap AX.cells) d vR).2[id-vR]? =none:=h;rw[List.getElem?_eq_none_iff,←k1] at h;rw[List.getElem?_eq_none h];rfl
  |false=>
   rw[hb] at h;have h:(vl l (fF (l.flatMap AX.cells) d vR).1 0).2[id]? =none:=h;rw[List.getElem?_eq_none_iff,←vn.length] at h;rw[List.getElem?_eq_none h];rfl
 ·obtain⟨ji,Ci',p1,_,p3,p4⟩:=ju i oi h1;obtain⟨jj,Cj',q1,_,q3,q4⟩:=ju j oj h2;rw[h5] at p1;cases p1;rw[h6] at q1;cases q1;obtain⟨p5,Di,p6,p7⟩:=p3 h3;obtain⟨q5,Dj,q6,q7⟩:=q3 h4;obtain⟨oi',r1,r2⟩:=ho ji p5;obtain⟨oj',r3,r4⟩:=ho jj q5;refine ok.disj ji jj oi' oj' Di Dj b (fun e=>?_) r1 r3 r2 r4 p6 q6 (by rw[p7];exact h7) (by rw[q7];exact h8);subst e;rw[←fG] at df;obtain⟨n1,n2,n3⟩:=List.nodup_append.1 df;rcases p4 with⟨p8,p9⟩|⟨p8,io,p9,pM⟩<;>rcases q4 with⟨q8,q9⟩|⟨q8,io',q9,JE⟩
  ·have:=(List.getElem?_inj (by grind) n2).1 (p9.trans q9.symm);have e1:=Nat.le_of_ble_eq_true p8;have e2:=Nat.le_of_ble_eq_true q8;exact iZ (by omega)
  ·rw[h4] at JE;subst JE;exact n3 _ (vm q9) _ (List.mem_of_getElem? p9) rfl
  ·rw[h3] at pM;subst pM;exact n3 _ (vm p9) _ (List.mem_of_getElem? q9) rfl
  ·rw[h3] at pM;rw[h4] at JE;subst pM;subst JE;exact iZ (PD n1 p9 q9)
theorem sB {n}:∀{ids h},qF h (mN ids) n=if n∈ids then some .gone else h n
 |[],_=>by rfl
 |id::ids,h=>by
  show qF (qW h id .gone) (mN ids) n=_;rw[sB (ids:=ids)];by_cases e:n=id
  ·subst e;simp[yG]
  ·rw[yI _ _ e];simp[e]
def zI.overX (M L:zI)(aj:List Nat):zI:={κ:=M.κ,F:=fun b=>M.F b∨L.G b,G:=L.G,h:=qF M.h (mN aj),H:=L.H}
theorem zI.overX_ok {M Ml L aj}(ok:Ok M)(fW:Ok L)(lo:oe M aj Ml)(ho:lj M aj)(hand:∀b,qJ Ml b→iR M aj b)(g:gG Ml L):
  Ok (M.overX L aj)∧yS M (M.overX L aj)∧(∀b,qJ (M.overX L aj) b→qJ M b∧¬iR M aj b):=by
 have cF:∀b,b<M.H.size→¬iR M aj b→L.H[b]? =M.H[b]? :=fun b hb hn=>by rw[g.same b (by rw[lo.F];simp_all),lo.H]
 have dA:M.H.size≤L.H.size:=by have:=g.size;rw[lo.H] at this;exact this
 have hG:∀b,L.G b→b<M.H.size→M.G b∨iR M aj b:=fun b hb hs=>by
  rcases g.Gb b hb (by rw[lo.H];exact hs) with h|h
  ·rw[lo.G] at h;simp_all
  simp_all
 have hsF:∀b,M.F b→L.H[b]? =M.H[b]? :=fun b h=>cF b (pK ok ho h).1 (pK ok ho h).2
 have x:yD M (M.overX L aj):=⟨fun id C h=>⟨C,h,C.le_refl⟩,fun b h=>.inl h,fun b h=>g.G b (by rw[lo.G];exact h),fun b h=>hsF b h,fun b h=>hsF b (ok.GF b h),fun b h=>by
  have:=g.bsz b (by rw[lo.H];exact h);rw[lo.H] at this;exact this⟩
 have ju:∀id o,(M.overX L aj).h id=some o→o.owned=true→id∉aj∧M.h id=some o:=fun id o h fV=>by
  have h:qF M.h (mN aj) id=some o:=h;rw[sB] at h;by_cases hm:id∈aj
  ·rw[if_pos hm] at h;cases h;cases fV
  simp_all
 have PF:∀id o C,id∉aj→M.h id=some o→o.owned=true→M.κ id=some C→∀b∈C.fp,¬iR M aj b:=fun id o C hm h fV hC b hb ⟨jd,hj,D,hD,Pg⟩=>by
  obtain⟨q,q1,q2⟩:=ho jd hj;exact ok.disj id jd o q C D b (by grind) h q1 fV q2 hC hD hb Pg
 have aJ:∀b,qJ (M.overX L aj) b→qJ M b∧¬iR M aj b:=fun b ⟨id,o,C,h1,h2,h3,h4⟩=>by
  obtain⟨k1,k2⟩:=ju id o h1 h2;exact⟨⟨id,o,C,k2,h2,h3,h4⟩,PF id o C k1 k2 h2 h3 b h4⟩
 refine⟨⟨fun id o h=>?_,fun id h=>?_,fun i j oi oj Ci Cj b iZ h1 h2 h3 h4 h5 h6 h7 h8=>?_,fun b h=>⟨fun hf=>?_,?_⟩,fun b h=>.inr h,fun b h=>?_⟩,⟨x,dA,fun b hb hn=>cF b hb fun hh=>hn (hh.own ho),by grind,fun b h hs=>?_,fun b h hs=>?_⟩,aJ⟩
 ·have h:qF M.h (mN aj) id=some o:=h;rw[sB] at h;by_cases hm:id∈aj
  ·rw[if_pos hm] at h;cases h;obtain⟨q,q1,q2⟩:=ho id hm;obtain⟨C,hC,_⟩:=ok.obj id q q1;exact⟨C,hC,trivial⟩
  ·rw[if_neg hm] at h;obtain⟨C,hC,hO⟩:=ok.obj id o h;exact⟨C,hC,hO.ext x fun fV b hb=>cF b (ok.own b ⟨id,o,C,h,fV,hC,hb⟩).2 (by grind)⟩
 ·have h:qF M.h (mN aj) id=none:=h;rw[sB] at h;by_cases hm:id∈aj
  ·simp_all
  ·rw[if_neg hm] at h;exact ok.non id h
 ·exact ok.disj i j oi oj Ci Cj b iZ (ju i oi h1 h3).2 (by grind) h3 h4 h5 h6 h7 h8
 ·obtain⟨k1,k2⟩:=aJ b h;have:=ok.own b k1;rcases hf with hf|hf
  ·simp_all
  ·rcases hG b hf this.2 with h|h
   ·exact this.1 (ok.GF b h)
   simp_all
 ·have h1:=(ok.own b (aJ b h).1).2;show b<L.H.size;omega
 ·show b<L.H.size;rcases h with h|h
  ·have:=ok.Flt b h;omega
  ·exact fW.Flt b (fW.GF b h)
 ·rcases hG b h hs with h|h
  ·simp_all
  ·exact .inr (h.own ho)
 ·rcases h with h|h
  ·simp_all
  ·rcases hG b h hs with h|h
   ·exact .inl (ok.GF b h)
   ·exact .inr (h.own ho)
def zZ.bare (C:zZ):zZ:={C with ver:=C.ver+1,rows:=[]}
def zI.revive (M:zI)(id:Nat)(C:zZ)(cs:List zT):zI:={M with κ:=κset M.κ id C.bare,h:=qW M.h id (.box true cs)}
theorem zI.revive_ok {M}(ok:Ok M){id C B vals e cs}(hC:M.κ id=some C)(hB:C.blk=some B)(hH:M.H[B]? =some (.cells vals e (0,0)))(hc:zK (zQ M) cs vals.toList)
  (h1:¬qJ M B) (h2:¬M.F B):Ok (M.revive id C cs)∧yD M (M.revive id C cs)∧(∀b,qJ (M.revive id C cs) b→qJ M b∨b=B):=by
 have hκ:(M.revive id C cs).κ id=some C.bare:=κset_same _ _ _;have x:yD M (M.revive id C cs):=⟨fun jd D h=>by
  by_cases e':jd=id
  ·subst e';rw[hC] at h;cases h;exact⟨_,hκ,rfl,rfl,rfl,Nat.le_succ _,fun h=>absurd h (by simp[zZ.bare])⟩
  ·exact⟨D,by show κset M.κ id _ jd=_;rw[κset_ne _ _ e'];exact h,D.le_refl⟩,fun _ h=>h,fun _ h=>h,fun _ _=>rfl,fun _ _=>rfl,fun _ _=>rfl⟩
 have nE:C.bare.fp=[B]:=by simp[zZ.fp,zZ.bare,hB]
 have uM:(M.revive id C cs).h id=some (.box true cs):=yG _ _ _;refine⟨Ok.build ok x (fun jd=>jd=id) (fun jd h=>yI _ _ h) (fun jd h=>κset_ne _ _ h) (fun _ _ _ _ _ _ _ _ _=>rfl) (fun jd o' D k1 k2 k3 k4 b bD=>(ok.own b ⟨jd,o',D,k2,k3,k4,bD⟩).1) (Nat.le_refl _)
  (fun jd o' e' h=>?_) (fun jd e' h=>?_) (fun jd o' D b e' k1 k2 k3 k4=>?_) ok.GF ok.Flt,x,fun b bD=>?_⟩
 ·subst e';rw[uM] at h;cases h;exact⟨_,hκ,B,vals,e,hB,rfl,hH,hc.mono fun _ _ h=>h.ext x,by simp⟩
 ·simp_all
 ·subst e';rw[hκ] at k3;cases k3;rw[nE,List.mem_singleton] at k4;subst k4;refine⟨fun j oj Cj hj q1 q2 q3 q4=>h1 ⟨j,oj,Cj,?_,q2,?_,q4⟩,h2,(Array.getElem?_eq_some_iff.1 hH).1⟩
  ·rw[←q1];exact(yI _ _ hj).symm
  ·rw[←q3];exact(κset_ne _ _ hj).symm
 ·obtain⟨jd,o',D,k1,k2,k3,k4⟩:=bD;by_cases e':jd=id
  ·simp_all
  ·exact .inl ⟨jd,o',D,by rw[←k1];exact(yI _ _ e').symm,k2,by rw[←k3];exact(κset_ne _ _ e').symm,k4⟩
structure yCs (M:zI) (id:Nat) (cs:List zT) (B:Nat):Prop where
 at':∃C,M.κ id=some C∧C.blk=some B
 rep:∃vals e,M.H[B]? =some (.cells vals e (0,0))∧zK (zQ M) cs vals.toList
 own:¬qJ M B
 F:¬M.F B
def l9 (R:Nat→List zT→Nat→Prop):List Nat→List (List zT)→List Nat→Prop
 |[],[],[]=>True
 |a::l,b::m,c::n=>R a b c∧l9 R l m n
 |_,_,_=>False
theorem l9.mono {R S}:∀{l m n},(∀a b c,c∈n→R a b c→S a b c)→l9 R l m n→l9 S l m n
 |[],[],[],_,_=>trivial
 |_::_,_::_,_::_,h,k=>⟨h _ _ _ (by simp) k.1,l9.mono (by grind) k.2⟩
theorem yAj:∀{ids css Bs M},Ok M→l9 (yCs M) ids css Bs→Bs.Nodup→
  ∃M':zI,M'.H=M.H∧M'.G=M.G∧M'.F=M.F∧M'.h=qF M.h (Ai ids css)∧Ok M'∧yD M M'∧(∀b,qJ M' b→qJ M b∨b∈Bs)
 |[],[],[],M,ok,_,_=>⟨M,rfl,rfl,rfl,rfl,ok,.refl M,by simp⟩
 |id::ids,cs::css,B::Bs,M,ok,h,hn=>by
  obtain⟨C,hC,hB⟩:=h.1.at';obtain⟨vals,e,hH,hc⟩:=h.1.rep;obtain⟨k1,k2,k3⟩:=zI.revive_ok ok hC hB hH hc h.1.own h.1.F;obtain⟨n1,n2⟩:=List.nodup_cons.1 hn;obtain ⟨M', a1, a2, a3, a4, a5, a6, a7⟩ := yAj (M := M.revive id C cs) k1 (l9.mono (fun a b c hcB hb=>by
   refine⟨?_,?_,fun ho=>?_,hb.F⟩
   ·obtain⟨D,q1,q2⟩:=hb.at';obtain⟨D',q3,le⟩:=k2.κ _ _ q1;exact⟨D',q3,le.blk.trans q2⟩
   ·obtain⟨vals,e,q1,q2⟩:=hb.rep;exact⟨vals,e,q1,q2.mono fun _ _ h=>h.ext k2⟩
   ·rcases k3 _ ho with h|h
    ·exact hb.own h
    simp_all) h.2) n2
  exact⟨M',a1,a2,a3,a4,a5,yD.trans (M:=M) (M':=M.revive id C cs) (Nat.le_refl _) k2 a6,by grind⟩
theorem yF1:∀{ids css h h'},ids.length=css.length→(∀n,n∉ids→h n=h' n)→qF h (Ai ids css)=qF h' (Ai ids css)
 |[],[],h,h',_,e=>funext fun n=>e n (by simp)
 |id::ids,cs::css,h,h',hl,e=>yF1 (ids:=ids) (css:=css) (by simp_all) fun n hn=>by
   by_cases k:n=id
   ·subst k;rw[yG,yG]
   ·rw[yI _ _ k,yI _ _ k];simp_all
theorem vOv {h0 s a a' v u M}(ok:Ok M)(hf:wF h0 M.h)(hv:zP M a v)(h:sy h0 s a=some (a',u)):
  ∃L:zI,L.H=M.H∧L.h=qF M.h u∧Ok L∧yS M L∧zP L a' v∧wF h0 L.h:=by
 unfold sy at h;split at h
 ·rename_i p x;split at h
  ·rename_i y u1 e;cases h;obtain⟨L,h1,h2,h3,h4,h5,h6⟩:=sr (cs:=[x]) (vs:=[v]) ok hf ⟨hv,trivial⟩ e;exact⟨L,h1,h2,h3,h4,h5.1,h6⟩
  ·cases h
 ·split at h
  ·rename_i ys u1 e;cases h;obtain⟨vs,rfl,hx⟩:=hv;obtain⟨L,h1,h2,h3,h4,h5,h6⟩:=sr ok hf hx e;exact⟨L,h1,h2,h3,h4,⟨vs,rfl,h5⟩,h6⟩
  ·cases h
 ·cases h;exact⟨M,rfl,rfl,ok,.refl M,hv,hf⟩
theorem yAr {h0}:∀{l as dV vs u M},Ok M→wF h0 M.h→zK (zP M) as vs→n9 h0 l as=some (dV,u)→
  ∃L:zI,L.H=M.H∧L.h=qF M.h u∧Ok L∧yS M L∧zK (zP L) dV vs∧wF h0 L.h
 |s::l,a::as,dV,v::vs,u,M,ok,hf,hv,h=>by
  unfold n9 at h;split at h
  ·rename_i a1 u1 Pk nG e1 e2;cases h;obtain⟨M1,h1,h2,h3,h4,h5,h6⟩:=vOv ok hf hv.1 e1;obtain⟨M2,k1,k2,k3,k4,k5,k6⟩:=yAr h3 h6 (ss.ext h4.ext hv.2) e2;exact⟨M2,k1.trans h1,by rw[k2,h2,iN],k3,h4.trans k4,⟨h5.ext k4.ext,k5⟩,k6⟩
  ·cases h
 |[],as,dV,vs,u,M,ok,hf,hv,h=>by
  cases as<;>cases h<;>exact⟨M,rfl,rfl,ok,.refl M,hv,hf⟩
 |s::l,[],dV,vs,u,M,ok,hf,hv,h=>by cases h;exact⟨M,rfl,rfl,ok,.refl M,hv,hf⟩
def jv (M L:zI)(id jd:Nat):Prop:=∃C D B,M.κ id=some C∧C.blk=some B∧L.κ jd=some D∧D.blk=some B
theorem PG {M L}:∀{ls is js out} {us:List Value} {cs bs},gH M.h ls is=some (cs,bs)→E9 ls js=some out→
  zK (fun id u=>∃C B,M.κ id=some C∧C.blk=some B∧u=.pointer (some ⟨B,0,none⟩)) is us→zK (fun id u=>∃C B,L.κ id=some C∧C.blk=some B∧u=.pointer (some ⟨B,0,none⟩)) js us→zK (jv M L) (vC bs) out
 |[],[],[],out,us,cs,bs,h,k,_,_=>by cases h;cases k;exact trivial
 |(io,l)::ls,i::is,j::js,out,u::us,cs,bs,h,k,p,q=>by
  unfold gH at h;split at h
  ·rename_i cells rest vk h1 h2;obtain⟨_,h⟩:=vP h;cases h;unfold E9 at k;split at k
   ·rename_i o ho;cases k;have ih:=PG h2 ho p.2 q.2;cases io with
    |false=>exact ih
    |true=>
     obtain⟨C,B,k1,k2,k3⟩:=p.1;obtain⟨D,B',k4,k5,k6⟩:=q.1;rw[k3] at k6;cases k6;exact⟨⟨C,D,B,k1,k2,k4,k5⟩,ih⟩
   ·cases k
  ·cases h
theorem yM0 {M L}:∀{bs n},(∀q∈bs,q.1=true)→(∀i q,bs[i]? =some q→jv M L q.2 (n+i))→zK (jv M L) (vC bs) (jt n bs.length)
 |[],n,_,_=>trivial
 |(true,id)::bs,n,h,k=>⟨k 0 _ rfl,yM0 (by grind) fun i q hq=>by
   have:=k (i+1) q hq;grind⟩
 |(false,id)::bs,n,h,k=>by simp_all
theorem yK7 {h}:∀{ls ids cs bs},gH h ls ids=some (cs,bs)→bs.map (·.1)=ls.map (·.1)
 |[],[],_,_,e=>by cases e;rfl
 |(io,l)::ls,id::ids,cs,bs,e=>by
  unfold gH at e;split at e
  ·rename_i cells rest vk h1 h2;obtain⟨_,e⟩:=vP e;cases e;simp[yK7 h2]
  ·cases e
theorem vMm {M L}{s:AX}{a b v cs bs out}(h:s.get M.h a=some (cs,bs)){n}(k:s.io n b=some out)(p:zP M a v)(q:s.looks=true→zP L b v)(hk:s.isChn=true→∀i q,bs[i]? =some q→jv M L q.2 (n+i)):zK (jv M L) (vC bs) out:=by
 unfold AX.get at h;split at h
 ·cases h;cases k;exact trivial
 ·obtain⟨_,h'⟩:=vP h;cases h';cases k;exact trivial
 ·unfold AX.io at k;split at k
  ·rename_i e;cases e
  ·rename_i e;cases e
  ·rename_i io' l' jd e;cases e;exact PG (us:=[v]) h k ⟨p,trivial⟩ ⟨q rfl,trivial⟩
  all_goals simp_all
 ·obtain⟨hg,h'⟩:=vP h;unfold AX.io at k;split at k
  ·simp_all
  ·simp_all
  ·simp_all
  ·rename_i f' aab g' js e;cases e;obtain⟨cv,rfl,hc⟩:=p;obtain⟨cv',e',jc⟩:=q rfl;cases e';exact PG h' k hc jc
  all_goals simp_all
 ·rename_i ls id;split at h
  ·cases k;have h1:=Fe h;have h2:ls.length=bs.length:=by rw[h1];simp[Ae]
   rw[h2];exact yM0 (fun q hq=>by
    have:q.1∈bs.map (·.1):=by grind
    rw[yK7 h] at this;exact(by simpa[Ae] using this:_∧_).2) (hk rfl)
  ·cases h
 ·cases h
theorem yCd {M L}:∀{l as vs t n cs bs out m},iw M.h l as=some (cs,bs)→JB l t n m=some out→zK (zP M) as vs→(∀i h s,l[i]? =some s→s.looks=true→zP L (t (n+i)) vs[i])→(l.any AX.isChn=true→∀i q,bs[i]? =some q→jv M L q.2 (m+i))→
  zK (jv M L) (vC bs) out
 |[],[],[],t,n,cs,bs,out,m,h,k,_,_,_=>by cases h;cases k;exact trivial
 |s::l,a::as,v::vs,t,n,cs,bs,out,m,h,k,p,q,hk=>by
  unfold iw at h;split at h
  ·rename_i c1 b1 c2 b2 h1 h2;cases h;unfold JB at k;split at k
   ·rename_i o1 o2 k1 k2;cases k;have e:∀b1 b2:List (Bool×Nat),vC (b1++b2)=vC b1++vC b2:=fun b1 b2=>by
     induction b1 with
     |nil=>rfl
     |cons x b1 ih=>obtain⟨io,y⟩:=x;cases io<;>simp[vC,ih]
    rw[e];have hnb:=yZ5 h1;refine(vMm h1 k1 p.1 (q 0 (by simp) s rfl) (by grind)).append (yCd h2 k2 p.2 (fun i hi s' hs hl=>?_) fun hc i q hq=>?_)
    rotate_left
    ·have:=hk (by simp_all) (b1.length+i) q (by grind);grind
    have:=q (i+1) (by simp_all) s' (by simp_all) hl;grind
   ·cases k
  ·cases h
 |[],_::_,_,_,_,_,_,_,_,h,_,_,_,_=>by cases h
theorem yBc {L}(fW:Ok L):∀{os ids bs},Ag L.h os ids=some bs→bs.length=os.flatten.length∧ids.length=os.length∧
  ∃us:List Value,zK (zQ L) bs us∧∀{M cs},M.H=L.H→zK (zQ M) cs us→l9 (fun id cs B=>(∃cells,L.h id=some (.box true cells))∧(∃C,L.κ id=some C∧C.blk=some B∧C.rows=[])∧∃vals e,M.H[B]? =some (.cells vals e (0,0))∧zK (zQ M) cs vals.toList) ids (sx os cs) (ids.map fun id=>((L.κ id).bind zZ.blk).getD 0)
 |[],[],bs,h=>by cases h;exact⟨rfl,rfl,[],trivial,fun _ _=>trivial⟩
 |o::os,n::ns,bs,h=>by
  unfold Ag at h;split at h
  ·rename_i cells rest h1 h2;obtain⟨hl,h⟩:=vP h;cases h;obtain⟨C,hC,B,vals,e,q1,q2,q3,q4,_⟩:=fW.obj n _ h1;obtain⟨k1,k2,us,k3,k4⟩:=yBc fW h2;refine⟨by simp_all,by simp[k2],vals.toList++us,q4.append k3,fun{M cs} hH hc=>⟨⟨by grind,⟨C,hC,?_,q2⟩,vals,e,?_,?_⟩,?_⟩⟩
   ·simp_all
   ·simp_all
   ·have h1:=zK.take o.length hc;have Ph:=q4.length;simp_all
   ·have h1:=zK.drop o.length hc;have Ph:=q4.length;simp_all
  ·cases h
theorem vId {h0 r c d}(h:mI h0 r c=some d):∀id∈vM [r] [c],∀own cells,h0 id≠some (.box own cells):=by
  unfold mI at h;split at h;all_goals (try (intro id ah;simp[vM] at ah;done))
  all_goals first
    |(done)
    | (intro zr ah own cells hb
       have:=List.mem_singleton.1 ah;simp_all)
    |(cases h)
theorem qUm {L}:∀{l cs d},ir L l cs=some d→∀id∈vM l cs,∀own cells,L id≠some (.box own cells)
 |r::l,c::cs,d,h,id,ah=>by
  unfold ir at h;split at h
  ·rename_i x xs e1 e2;rw[Jt] at ah;rcases List.mem_append.1 ah with ah|ah
   ·exact vId e1 id ah
   ·exact qUm e2 id ah
  ·cases h
theorem qZc:∀a b,vC (a++b)=vC a++vC b
 |[],_=>rfl
 |(true,_)::a,b
 |(false,_)::a,b=>by simp[vC,qZc a b]
theorem Ff {h}:∀{ls is cs bs},gH h ls is=some (cs,bs)→∀id∈vC bs,∃o,h id=some o∧o.owned=true
 |[],[],_,_,e=>by cases e;nofun
 |(io,l)::ls,i::is,cs,bs,e=>by
  unfold gH at e;split at e
  ·rename_i cells rest vk h1 h2;obtain⟨_,e⟩:=vP e;cases e;intro id ah;cases io with
   |false=>exact Ff h2 id ah
   |true=>
    rcases List.mem_cons.1 ah with rfl|ah
    ·unfold Af at h1;split at h1
     ·rename_i c hc;exact⟨_,hc,rfl⟩
     all_goals simp_all
    ·exact Ff h2 id ah
  ·cases e
theorem vRp {h}{s:AX}{a cs bs}(e:s.get h a=some (cs,bs)):∀id∈vC bs,∃o,h id=some o∧o.owned=true:=by
 unfold AX.get at e;split at e
 ·cases e;nofun
 ·obtain⟨_,e⟩:=vP e;cases e;nofun
 ·exact Ff e
 ·obtain⟨_,e⟩:=vP e;exact Ff e
 ·split at e
  ·exact Ff e
  ·cases e
 ·cases e
theorem yQu {h}:∀{l as cs bs},iw h l as=some (cs,bs)→l.length=as.length∧∀id∈vC bs,∃o,h id=some o∧o.owned=true
 |[],[],_,_,e=>by cases e;exact⟨rfl,nofun⟩
 |s::l,a::as,cs,bs,e=>by
  unfold iw at e;split at e
  ·rename_i c1 b1 c2 b2 h1 h2;cases e;obtain⟨k1,k2⟩:=yQu h2;refine⟨by simp[k1],fun id ah=>?_⟩;rw[qZc] at ah;rcases List.mem_append.1 ah with ah|ah
   ·exact vRp h1 id ah
   simp_all
  ·cases e
theorem yR3 {h}:∀{l cs d},mL h l cs=some d→∀id∈wK l cs,∃o,h id=some o∧o.owned=true
 |[],[],_,_=>nofun
 |x::l,c::cs,d,e=>by
  unfold mL at e;split at e
  ·rename_i y ys h1 h2;have ih:=yR3 h2;unfold E5 at h1;split at h1
   ·exact ih
   ·intro jd ah;rcases List.mem_cons.1 ah with rfl|ah
    ·split at h1
     ·rename_i s xs hs;exact⟨_,hs,rfl⟩
     ·cases h1
    ·simp_all
   ·intro jd ah;rcases List.mem_cons.1 ah with rfl|ah
    ·split at h1
     ·rename_i s xs hs;exact⟨_,hs,rfl⟩
     ·cases h1
    ·exact ih jd ah
   ·intro jd ah;rcases List.mem_cons.1 ah with rfl|ah
    ·split at h1
     ·rename_i xs hs;exact⟨_,hs,rfl⟩
     ·cases h1
    simp_all
   ·exact ih
   ·cases h1
  ·cases e
theorem yFa {a b}(h:Py a b=true):∀id∈b,id∉a:=fun id hb ha=>by
 have h:=List.all_eq_true.1 h id ha;have:b.any (Nat.beq id)=true:=List.any_eq_true.2 ⟨id,hb,by simp⟩;simp_all
theorem yKa:∀os cs,(sx os cs).length=os.length
 |[],_=>rfl
 |_::os,cs=>by simp[sx,yKa os]
theorem yRw {M L}{P:zI→Nat→Prop}{R}:∀{ids js css Bs},zK (jv M L) ids js→l9 R js css Bs→l9 (fun id cs B=>∃jd,jv M L id jd∧R jd cs B) ids css Bs
 |[],[],[],[],_,_=>trivial
 |_::_,_::_,_::_,_::_,h,k=>⟨⟨_,h.1,k.1⟩,yRw (P:=P) h.2 k.2⟩
theorem zI.gone_ok {M}(ok:Ok M){nm}(aO:M.h nm=none) C:
  Ok (M.add nm .gone C)∧yD M (M.add nm .gone C)∧(∀b,qJ (M.add nm .gone C) b→qJ M b):=by
 have x:yD M (M.add nm .gone C):=⟨fun id D h=>by
  have bh:id≠nm:=fun e=>by rw[e,ok.non nm aO] at h;cases h
  exact⟨D,by show κset M.κ nm _ id=_;rw[κset_ne _ _ bh];exact h,D.le_refl⟩,fun _ h=>h,fun _ h=>h,fun _ _=>rfl,fun _ _=>rfl,fun _ _=>rfl⟩
 have at':∀o,(M.add nm .gone C).h nm=some o→o=.gone:=fun o h=>by
  have e1:(M.add nm .gone C).h nm=some .gone:=yG _ _ _;simp_all
 refine⟨Ok.build ok x (fun id=>id=nm) (fun id h=>yI _ _ h) (fun id h=>κset_ne _ _ h) (fun _ _ _ _ _ _ _ _ _=>rfl) (fun id o' D h1 h2 h3 h4 b bD=>(ok.own b ⟨id,o',D,h2,h3,h4,bD⟩).1) (Nat.le_refl _)
  (fun id o' e h=>?_) (fun id e h=>?_) (fun id o' D b e h1 h2 h3 h4=>?_) ok.GF ok.Flt,x,fun b bD=>?_⟩
 ·subst e;rw[at' o' h];exact⟨_,κset_same _ _ _,trivial⟩
 ·have e1:(M.add id .gone C).h id=some .gone:=yG _ _ _;simp_all
 ·subst e;rw[at' o' h1] at h2;cases h2
 ·obtain⟨id,o',D,h1,h2,h3,h4⟩:=bD;by_cases e:id=nm
  ·subst e;rw[at' o' h1] at h2;cases h2
  ·exact⟨id,o',D,by rw[←h1];exact(yI _ _ e).symm,h2,by rw[←h3];exact(κset_ne _ _ e).symm,h4⟩
theorem yQp:∀{n nm Bs M},Ok M→(∀i,i<n→M.h (nm+i)=none)→Bs.length=n→
  ∃M':zI,M'.H=M.H∧M'.G=M.G∧M'.F=M.F∧M'.h=qF M.h (mN (jt nm n))∧Ok M'∧yD M M'∧(∀b,qJ M' b→qJ M b)∧zK (fun id B=>∃C,M'.κ id=some C∧C.blk=some B) (jt nm n) Bs
 |0,nm,[],M,ok,_,_=>⟨M,rfl,rfl,rfl,rfl,ok,.refl M,by simp,trivial⟩
 |n+1,nm,B::Bs,M,ok,hf,hl=>by
  obtain⟨k1,k2,k3⟩:=zI.gone_ok ok (hf 0 (by omega)) ⟨some B,0,0,0,[]⟩;obtain ⟨M', a1, a2, a3, a4, a5, a6, a7, a8⟩ := yQp (n := n) (nm := nm + 1) (Bs := Bs) k1 (fun i hi=>by
   have:=hf (i+1) (by omega);rw[show nm+1+i=nm+(i+1) by omega,←this];exact yI _ _ (by omega)) (by simp_all)
  refine⟨M',a1,a2,a3,a4,a5,yD.trans (M:=M) (M':=M.add nm .gone ⟨some B,0,0,0,[]⟩) (Nat.le_refl _) k2 a6,by grind,?_,a8⟩;obtain⟨C,h1,h2⟩:=a6.κ nm _ (κset_same _ _ _);exact⟨C,h1,h2.blk⟩
theorem PH {L M ids js}(hs:zK (jv M L) ids js):∀{l cs ds vs},nZ l js cs=true→zK (zQ L) cs vs→zK (zQ M) ds vs→zK (zQ M) (vj l ids ds) vs
 |[],cs,ds,vs,_,_,hd=>by exact hd
 |none::l,[],[],[],_,_,_=>trivial
 |none::l,c::cs,d::ds,v::vs,h,hc,hd=>⟨hd.1,PH hs (l:=l) h hc.2 hd.2⟩
 |some j::l,c::cs,d::ds,v::vs,h,hc,hd=>by
  obtain⟨id,rfl,ah,h'⟩:=yG9 h;refine⟨?_,PH hs h' hc.2 hd.2⟩;have hj:=(List.getElem?_eq_some_iff.1 ah).1;have hi:j<ids.length:=by rw[hs.length];exact hj
  have:=hs.get j hi hj;rw[(List.getElem?_eq_some_iff.1 ah).2] at this;obtain⟨C,D,B,q1,q2,q3,q4⟩:=this;obtain⟨D',B',p1,p2,p3⟩:=hc.1;rw[q3] at p1;cases p1;rw[q4] at p2;cases p2;rw[List.getElem?_eq_getElem hi];exact⟨C,B,q1,q2,p3⟩
 |_,[],_::_,[],_,_,hd=>hd.elim
 |_,_::_,[],[],_,hc,_=>hc.elim
theorem vDa {h ns cs nw}(e:Px h ns cs=some nw):nw.length=ns:=by
 unfold Px at e;cases h0:Nat.beq ns 0 with
 |true=>simp_all
 |false=>
  rw[h0] at e;split at e
  ·exact(PB e).2
  ·cases e
def PI (w:World)(na:Nat)(chn:Bool)(M:zI)(vs:Array Value)(rv:Value)(w':World)(v:zW)(st:St):Prop:=
 ∃M':zI,M'.h=st.h∧M'.H=w'.heap∧Ok M'∧gG M M'∧(chn=true→Ji M M')∧zP M' v rv∧w'.os=w.os∧w'.tape=w.tape∧w'.output=w.output∧(∀t,t<na→zP M' (st.t t) (vs.getD t undef))
theorem yCa {n}:∀{l nm d hh},(∀j,j<l.length→n≠nm+j)→qF hh (lV nm l d).2 n=hh n
 |[],_,_,_,_=>rfl
 |r::l,nm,d,hh,h=>by
  show qF hh ((nS nm r d.1).2++(lV (nm+1) l d.2).2) n=_;rw[iN,yCa fun j hj=>by have:=h (j+1) (by simp_all);omega,yMi (by have:=h 0 (by simp);omega)]
theorem vJo {M}(ok:Ok M){io id cells}(h:Af M.h io id=some cells):∃C B,M.κ id=some C∧C.blk=some B:=by
 have h':zw M.h id=some cells:=by
  unfold Af at h;unfold zw;grind
 obtain⟨C,h1,B,_,_,h2,_⟩:=yD9 ok h';simp_all
theorem JF {M}(ok:Ok M):∀{ls is cs bs},gH M.h ls is=some (cs,bs)→∀q∈bs,∃C B,M.κ q.2=some C∧C.blk=some B
 |[],[],_,_,e=>by cases e;simp
 |(io,l)::ls,i::is,cs,bs,e=>by
  unfold gH at e;split at e
  ·rename_i cells rest vk h1 h2;obtain⟨_,e⟩:=vP e;cases e;intro q hq;rcases List.mem_cons.1 hq with rfl|hq
   ·exact vJo ok h1
   ·exact JF ok h2 q hq
  ·cases e
theorem yPr {M}(ok:Ok M):∀{l as cs bs},iw M.h l as=some (cs,bs)→∀q∈bs,∃C B,M.κ q.2=some C∧C.blk=some B
 |[],[],_,_,e=>by cases e;simp
 |s::l,a::as,cs,bs,e=>by
  unfold iw at e;split at e
  ·rename_i c1 b1 c2 b2 h1 h2;cases e;intro q hq;rcases List.mem_append.1 hq with hq|hq
   ·unfold AX.get at h1;split at h1
    ·simp_all
    ·grind
    ·exact JF ok h1 q hq
    ·obtain⟨_,h1⟩:=vP h1;exact JF ok h1 q hq
    ·split at h1
     ·exact JF ok h1 q hq
     ·cases h1
    ·cases h1
   ·exact yPr ok h2 q hq
  ·cases e
theorem ySv {L}(ok:Ok L):∀{os ids bs},Ag L.h os ids=some bs→∀j∈ids,∃cells C B,L.h j=some (.box true cells)∧L.κ j=some C∧C.blk=some B
 |[],[],_,_=>by simp
 |o::os,n::ns,bs,h=>by
  unfold Ag at h;split at h
  ·rename_i cells rest h1 h2;intro j hj;rcases List.mem_cons.1 hj with rfl|hj
   ·obtain⟨C,hC,B,vals,e,q1,_⟩:=ok.obj _ _ h1;simp_all
   ·exact ySv ok h2 j hj
  ·cases h
theorem yE9 {L}(ok:Ok L):∀{js:List Nat},js.Nodup→(∀j∈js,∃cells C B,L.h j=some (.box true cells)∧L.κ j=some C∧C.blk=some B)→(js.map fun id=>((L.κ id).bind zZ.blk).getD 0).Nodup
 |[],_,_=>by simp
 |a::js,hn,bb=>by
  obtain⟨n1,n2⟩:=List.nodup_cons.1 hn;refine List.nodup_cons.2 ⟨fun sC=>?_,yE9 ok n2 (by grind)⟩;obtain⟨j,hj,vp⟩:=List.mem_map.1 sC;obtain⟨c1',C,B,q1,q2,q3⟩:=bb a (by simp);obtain⟨c2',D,B',q4,q5,q6⟩:=bb j (by grind);have vp:((L.κ j).bind zZ.blk).getD 0=((L.κ a).bind zZ.blk).getD 0:=vp;rw[q2,q5] at vp;have vp:(D.blk.getD 0)=(C.blk.getD 0):=vp;rw[q3,q6] at vp;subst vp;exact ok.disj a j _ _ C D B' (by grind) q1 q4 rfl rfl q2 q5 (by simp[zZ.fp,q3]) (by simp[zZ.fp,q6])
theorem vMq {na as}(pN:E4 as na=true){nm n args h u0 io rows d}(he:Aj as nm n args h=some (u0,io,rows,d)) M w vs (hh:M.h=h)(hH:M.H=w.heap)(ok:Ok M)(hv:zK (zP M) args vs.toList):
  ∃Ml:zI,Ml.h=(mM as d).2∧Ml.H=w.heap∧Ok Ml∧zK (zP Ml) (mM as d).1 vs.toList∧
   ∀rv w' v0 st,PI w na (as.any AX.isChn) Ml vs rv w' v0 st→∀rs os ns dx,Ah st as rs os ns v0=some dx→(rs.cells++os.flatten).length+ns≤n→
    ∃Mf,pz M w (Pz u0 io rows rs os ns nm dx).2 Mf w'∧zP Mf (Pz u0 io rows rs os ns nm dx).1 rv:=by
 unfold Aj at he;split at he
 ·cases he
 rename_i dR u vd;split at he
 ·cases he
 rename_i cs bs dj;split at he
 ·cases he
 rename_i d' hd;dsimp only at he;obtain⟨hc,he⟩:=ld he;cases he;simp only[Bool.and_eq_true] at hc;obtain⟨⟨⟨⟨⟨⟨mO,cT⟩,dB⟩,fg⟩,kB⟩,Am⟩,An⟩:=hc;subst hh;obtain⟨M1,a1,a2,a3,a4,a5,a6⟩:=yAr ok (wF.refl _) hv vd;rw[←a2] at hd dj;obtain⟨aac,jm⟩:=yQu dj;have aU:=yR3 hd;have dF:lj M1 (vC bs++wK (as.flatMap AX.cells) cs):=fun id ah=>(List.mem_append.1 ah).elim (jm id) (aU id)
 have PJ:=zl fg;obtain⟨Ml,lo,b2,b3,b4,b5,b6⟩:=vOc a3 a5 dj hd PJ (yFa kB) (yFa Am) (Nat.le_of_ble_eq_true dB) An dF;generalize fG:vC bs++wK (as.flatMap AX.cells) cs=aj at*
 refine⟨Ml,b2,by rw[lo.H,a1];exact hH,b3,b5,fun rv w' v0 st ⟨L0,c1,c2,c3,c4,ck,c5,c6,c7,c8,c9⟩ rs os ns dx hK hn=>?_⟩;unfold Ah at hK;split at hK
 ·cases hK
 rename_i PK jl;split at hK
 ·cases hK
 rename_i ccs lg;split at hK
 ·cases hK
 rename_i nw hnw;split at hK
 ·cases hK
 rename_i bcs pO;obtain⟨Fg,JG⟩:=ld hK;clear hK;split at JG
 case h_2=>cases JG
 rename_i aM u1 vg;obtain⟨df,hK⟩:=ld JG;clear JG;rw[Bool.and_eq_true] at df;obtain⟨df,Fh⟩:=df;have PM:=vDa hnw;obtain⟨hlen,us,d1,d2⟩:=yL0 lg c5;rw[←c1] at vg hK pO;obtain⟨js,rV⟩:∃js,js=PK++nw:=⟨_,rfl⟩;rw[←rV] at pO Fg Fh;obtain⟨k1,k2,JH,k3,k4⟩:=yBc c3 pO;obtain⟨L,e1,e2,e3,e4,e5,e6⟩:=sr c3 (wF.refl _) (d1.append k3) vg;rw[←e2] at hK;have g:gG Ml L:=c4.trans e4.grow;obtain⟨f1,f2,f3⟩:=zI.overX_ok a3 e3 lo dF b4 g;have cF : zK (jv M1 L0) (vC bs) PK := yCd dj jl a5 (fun i hi s hs pL=>by
  have bE:i<vs.size:=by simpa using hi
  have bn:i<na:=by
   have:=List.all_eq_true.1 pN (s,i) (List.mk_mem_zipIdx_iff_getElem?.2 hs);simp only[pL,Bool.not_true,Bool.false_or] at this;exact NP this
  have:=c9 i bn;rw[Nat.zero_add];have e:vs.getD i undef=vs.toList[i]:=by simp[bE]
  rw[←e];exact this) fun sD i q hq=>by
   obtain⟨C,B,p1,p2⟩:=yPr a3 dj q (List.mem_of_getElem? hq);have hi:i<bs.length:=(List.getElem?_eq_some_iff.1 hq).1;have hκ:Ml.κ i=some C:=by
    rw[b6];unfold κX;have:Nat.ble vR i=false:=by
     cases h:Nat.ble vR i with
     |false=>rfl
     |true=>have h1:=Nat.le_of_ble_eq_true h;have h2:=Nat.le_of_ble_eq_true dB;omega
    rw[this,hq];exact p1
   obtain⟨C',p3,p4⟩:=ck sD i C hκ;rw[Nat.zero_add];exact⟨C,C',B,p1,p2,p3,p4.trans p2⟩
 have mP:∀i,i<n→(M1.overX L aj).h (nm+i)=none:=fun i hi=>by
  have h1:=Pe mO i hi;have h2:M1.h (nm+i)=none:=by
   rw[a2];rcases a6 (nm+i) with h|⟨own,t,xs,h,_⟩|⟨ver,xs,h,_⟩
   ·rw[a2] at h;rw[h];exact h1
   ·rw[h1] at h;cases h
   ·rw[h1] at h;cases h
  show qF M1.h (mN aj) (nm+i)=none;rw[sB,if_neg,h2];intro sC;obtain⟨o,ho,_⟩:=dF _ sC;rw[h2] at ho;cases ho
 have mJ:∀i,i<(rs.cells++os.flatten).length→(M1.overX L aj).h (nm+i)=none:=fun i hi=>mP i (by omega)
 have pP:∀b,qJ L b→b<M1.H.size→iR M1 aj b:=fun b hb bn=>b4 b (g.own b hb (by rw[lo.H];exact bn))
 have sE:∀b,qJ L b→¬(M1.overX L aj).F b:=fun b hb h=>by
  rcases h with h|h
  ·exact(pK a3 dF h).2 (pP b hb (a3.Flt b h))
  ·exact(e3.own b hb).1 (e3.GF b h)
 have sF:∀b,qJ L b→¬qJ (M1.overX L aj) b:=fun b hb h=>by
  obtain⟨q1,q2⟩:=f3 b h;exact q2 (pP b hb (a3.own b q1).2)
 obtain ⟨Mc, g1, g2, g3, g4, g5, g6, g7, g8⟩ := Pf e3 f1 ⟨rfl, rfl⟩ mJ hK (zl df) (su hK) (fun id ah C hC b hb=>by
  obtain⟨o,ho,fV⟩:=su hK id ah;have aJ:qJ L b:=⟨id,o,C,ho,fV,hC,hb⟩;exact⟨sF b aJ,sE b aJ,(e3.own b aJ).2⟩)
 obtain ⟨Mg, n1, n2, n3, n4, n5, n6, n7, n8⟩ := yQp (n := ns) (nm := nm + (rs.cells ++ os.flatten).length) (Bs := nw.map fun id => ((L0.κ id).bind zZ.blk).getD 0) g5 (fun i hi=>by
  rw[g4,yCa (fun j hj=>by omega),Nat.add_assoc];exact mP _ (by omega)) (by simp[PM])
 have mQ:∀j∈js,∃cells C B,L0.h j=some (.box true cells)∧L0.κ j=some C∧C.blk=some B:=ySv c3 pO;have JI:yD M1 Mg:=(f2.ext.trans f2.size g6).trans (by rw[g1];exact f2.size) n6;have zp:zK (jv Mg L0) (vC bs) PK:=cF.mono fun id jd hq=>by
  obtain⟨C,D,B,q1,q2,q3,q4⟩:=hq;obtain⟨C',p3,le⟩:=JI.κ id C q1;exact⟨C',D,B,p3,le.blk.trans q2,q3,q4⟩
 have Ao:zK (jv Mg L0) (jt (nm+(rs.cells++os.flatten).length) ns) nw:=by
  have hl8:=n8.length;rw[List.length_map] at hl8;refine zK.of_get hl8 fun i h1 h2=>?_
  obtain⟨C,q1,q2⟩:=n8.get i h1 (by simpa using h2);obtain⟨cells,D,B,p1,p2,p3⟩:=mQ nw[i] (by rw[rV];exact List.mem_append_right _ (List.getElem_mem _));refine⟨C,D,B,q1,?_,p2,p3⟩;rw[q2,List.getElem_map,p2];show some (D.blk.getD 0)=_;rw[p3];rfl
 have jw:zK (jv Mg L0) (vC bs++jt (nm+(rs.cells++os.flatten).length) ns) js:=by
  rw[rV];exact zp.append Ao
 have pQ:zK (jv Mg L) (vC bs++jt (nm+(rs.cells++os.flatten).length) ns) js:=jw.mono fun id jd hq=>by
  obtain⟨C,D,B,q1,q2,q3,q4⟩:=hq;obtain⟨D',p3,le⟩:=e4.ext.κ jd D q3;exact⟨C,D',B,q1,q2,p3,le.blk.trans q4⟩
 have vq:=PH pQ Fh e5 ((g8 _ e5).mono fun _ _ h=>h.ext n6);obtain⟨G,hG⟩:∃G,G=vj ((rs.cells++os.flatten).map RC.lnk) (vC bs++jt (nm+(rs.cells++os.flatten).length) ns) (lV nm (rs.cells++os.flatten) dx).1:=⟨_,rfl⟩;rw[←hG] at vq;have zd:us.length=rs.cells.length:=by rw[←d1.length,hlen]
 have hgr:zK (zQ Mg) (G.take rs.cells.length) us:=by
  have:=zK.take rs.cells.length vq
  rwa [show(us++JH).take rs.cells.length=us from by rw[←zd,List.take_left]] at this
 have hgb:zK (zQ Mg) (G.drop rs.cells.length) JH:=by
  have:=zK.drop rs.cells.length vq
  rwa [show(us++JH).drop rs.cells.length=JH from by rw[←zd,List.drop_left]] at this
 have hHc:Mg.H=L0.H:=by rw[n1,g1];exact e1
 have Fi:=yRw (P:=fun _ _=>True) jw (k4 hHc hgb);have sG:∀jd B,(∃cells,L0.h jd=some (.box true cells))→(∃C,L0.κ jd=some C∧C.blk=some B)→∃cells C,L.h jd=some (.box true cells)∧L.κ jd=some C∧B∈C.fp:=fun jd B ⟨cells,q1⟩ ⟨C,q2,q3⟩=>by
  obtain⟨C',q4,le⟩:=e4.ext.κ jd C q2;refine⟨cells,C',?_,q4,?_⟩
  ·rcases e6 jd with h|⟨own,t,xs,h,_⟩|⟨ver,xs,h,_⟩
   ·rw[h,q1]
   ·rw[q1] at h;cases h
   ·rw[q1] at h;cases h
  ·have:C'.blk=some B:=le.blk.trans q3;simp[zZ.fp,this]
 have Fj:∀b,b∈(js.map fun id=>((L0.κ id).bind zZ.blk).getD 0)→qJ L b:=fun b hb=>by
  obtain⟨j,hj,rfl⟩:=List.mem_map.1 hb;obtain⟨cells,C,B,q1,q2,q3⟩:=mQ j hj;obtain⟨bB,D,p4,p5,p6⟩:=sG j B ⟨cells,q1⟩ ⟨C,q2,q3⟩;have e:((L0.κ j).bind zZ.blk).getD 0=B:=by rw[q2];show C.blk.getD 0=B;rw[q3];rfl
  rw[e];exact⟨j,_,D,p4,rfl,p5,p6⟩
 have vr : l9 (yCs Mg) (vC bs ++ jt (nm + (rs.cells ++ os.flatten).length) ns) (sx os (G.drop rs.cells.length)) (js.map fun id => ((L0.κ id).bind zZ.blk).getD 0) := l9.mono (fun id css B _ ⟨jd,q1,q2,⟨D0,q3,q3b,_⟩,q4⟩=>by
  obtain⟨C,D1,B',p1,p2,p3,p3b⟩:=q1;rw[q3] at p3;cases p3;rw[q3b] at p3b;cases p3b;obtain⟨cells,D,p4,p5,p6⟩:=sG jd B q2 ⟨_,q3,q3b⟩;have aJ:qJ L B:=⟨jd,_,D,p4,rfl,p5,p6⟩;refine⟨⟨C,p1,p2⟩,q4,fun ho=>?_,?_⟩
  ·rcases g7 B (n7 B ho) with h|⟨kd,JJ,D',p7,p8⟩
   ·exact sF B aJ h
   ·obtain⟨o,p9,pM⟩:=su hK kd JJ;refine e3.disj jd kd _ o D D' B (fun e=>?_) p4 p9 rfl pM p5 p7 p6 p8;exact qUm hK kd JJ true cells (by rw[←e];exact p4)
  ·rw[n3,g3];exact sE B aJ) Fi
 have hBs:(js.map fun id=>((L0.κ id).bind zZ.blk).getD 0).Nodup:=yE9 c3 (zl Fg) mQ;obtain⟨Mf,r1,r2,r3,r4,r5,r6,r7⟩:=yAj n5 vr hBs;have Pm:yS M1 Mf:=by
  have aJ:∀b,qJ Mf b→b<M1.H.size→qJ M1 b:=fun b hb bn=>by
   rcases r7 b hb with hb|hb
   ·rcases g7 b (n7 b hb) with h|⟨id,ah,C,hC,zy⟩
    ·exact(f3 b h).1
    ·obtain⟨o,ho,fV⟩:=su hK id ah;exact(pP b ⟨id,o,C,ho,fV,hC,zy⟩ bn).own dF
   ·exact(pP b (Fj b hb) bn).own dF
  have Ju:Mf.H=(M1.overX L aj).H:=r1.trans (n1.trans g1);refine⟨JI.trans ?_ r6,?_,fun b hb hn=>?_,aJ,fun b hb bn=>?_,fun b hb bn=>?_⟩
  ·rw[n1,g1];exact f2.size
  ·rw[Ju];exact f2.size
  ·rw[Ju];exact f2.frame b hb hn
  ·rw[r2,n2,g2] at hb;exact f2.Gb b hb bn
  ·rw[r3,n3,g3] at hb;exact f2.Fb b hb bn
 have mR:(vC bs++jt (nm+(rs.cells++os.flatten).length) ns).length=(sx os (G.drop rs.cells.length)).length:=by
  rw[yKa,jw.length,k2]
 refine⟨Mf,⟨c6,c7,c8,?_,?_,r5,a4.trans Pm⟩,?_⟩
 ·rw[r1,n1,g1];show L.H=_;rw[e1,c2]
 ·rw[r4,n4,g4];show _=qF M.h (u0++(mN (wK (as.flatMap AX.cells) cs)++((lV nm (rs.cells++os.flatten) dx).2++Ai (vC bs++jt (nm+(rs.cells++os.flatten).length) ns) (sx os ((vj ((rs.cells++os.flatten).map RC.lnk) (vC bs++jt (nm+(rs.cells++os.flatten).length) ns) (lV nm (rs.cells++os.flatten) dx).1).drop rs.cells.length)))));rw[←hG,iN,iN,iN,←a2];refine yF1 mR fun m hm=>?_
  rw[List.mem_append,not_or] at hm;rw[sB,if_neg hm.2];refine uS ?_;show qF M1.h (mN aj) m=_;rw[sB,sB,←fG];simp[hm.1]
 ·show zP Mf (rs.mk ((vj ((rs.cells++os.flatten).map RC.lnk) (vC bs++jt (nm+(rs.cells++os.flatten).length) ns) (lV nm (rs.cells++os.flatten) dx).1).take rs.cells.length)) rv;rw[←hG];exact d2 Mf _ (hgr.mono fun _ _ h=>h.ext r6)
theorem yLh {P na f}(dq:∀vs w,(callFunc f vs).run P w=.ok (.enter f vs) w)
  {as rs os ns X} {S:XD as→Option X} {pack unpack} (iu:∀d,pack (unpack d)=d) (pN:E4 as na=true)
  (vt:∀d x,S d=some x→∀M w vs,M.h=(mM as d).2→M.H=w.heap→Ok M→zK (zP M) (mM as d).1 vs.toList→Calls P f vs w fun
   |.returned rv,w'=>∃(v:zW) (st:St),Fa as rs os ns unpack v st=some x∧PI w na (as.any AX.isChn) M vs rv w' v st
   |_,_=>False)
  {nm args h v u} (hy:yE (oc as rs os ns S pack nm args h) v u):uN P f args h v u:=by
 intro M w vs hh hH ok hv;refine .inl ⟨dq vs w,?_⟩;unfold oc at hy;split at hy
 ·exact hy.elim
 rename_i u0 io rows d he;obtain⟨x,hx,rfl,rfl⟩:=hy;obtain⟨Ml,b1,b2,b3,b4,b5⟩:=vMq pN he M w vs hh hH ok hv;refine Calls.mono (vt d x hx Ml w vs b1 b2 b3 b4) fun e w' hl=>?_
 cases e with
 |panicked _=>omega
 |outgrown=>omega
 |returned rv=>
  obtain⟨v0,st,hK,hl⟩:=hl;have hK:Ah st as rs os ns v0=some (pack x):=by
   unfold Fa at hK;grind
  grind
theorem vFn {E}(hE:fa E)(hS:ik E.sums)(hm:E.P.follows .mixedOrders=true){A k pre na f fn}(hf:E.P.funcs[f]? =some fn)(hL:∀c,fn.body=some c→vZ E.P A pre na fn.ntmps c){chn}(sD:(!chn||A.loops.isEmpty)=true)
  {R K} {x:R} {args h} (aX:iY E A k pre na fn args h K=some x) {M w vs} (h1:M.h=h) (h2:M.H=w.heap) (h3:Ok M) (h4:zK (zP M) args vs.toList):
  Calls E.P f vs w fun
   |.returned rv,w'=>∃(v:zW) (st:St),K v st=some x∧PI w na chn M vs rv w' v st
   |_,_=>False:=by
 refine Calls.mono (O4 hE hS hm hf hL aX h1 h2 h3 h4) fun e w' hl=>?_
 cases e with
 |panicked _=>omega
 |outgrown=>omega
 |returned rv=>
  obtain⟨M',v,st,a1,a2,a3,a4,a5,a6,a7,a8,a9,a10,a11⟩:=hl;refine⟨v,st,a1,M',a2,a3,a4,a5,fun hc=>a6 ?_,a7,a8,a9,a10,a11⟩;simp_all
theorem vL3 {E}(hE:fa E)(hS:ik E.sums)(hm:E.P.follows .mixedOrders=true){A k pre na f fn}(hf:E.P.funcs[f]? =some fn)(hL:∀c,fn.body=some c→vZ E.P A pre na fn.ntmps c)(dq:∀vs w,(callFunc f vs).run E.P w=.ok (.enter f vs) w)
  {as rs os ns X} {S:XD as→Option X} {pack unpack} (iu:∀d,pack (unpack d)=d) (pN:E4 as na=true) (sD:(!as.any AX.isChn||A.loops.isEmpty)=true)
  (aX:∀d,iY E A k pre na fn (mM as d).1 (mM as d).2 (Fa as rs os ns unpack)=S d)
  {nm args h v u} (hy:yE (oc as rs os ns S pack nm args h) v u):uN E.P f args h v u:=
 yLh dq iu pN (fun d x hx M w vs h1 h2 h3 h4=>vFn hE hS hm hf hL sD ((aX d).trans hx) h1 h2 h3 h4) hy
section
variable {h h':Hp}
theorem vOe {x c}(hh:∀id∈yY c,h id=h' id):E5 h x c=E5 h' x c:=by
 unfold E5;split
 ·exact yGj hh
 ·rename_i id;rw[hh id (by simp[yY])]
 ·rename_i id;rw[hh id (by simp[yY])]
 ·rename_i id;rw[hh id (by simp[yY])]
 ·rfl
 ·rfl
theorem qW2:∀{l cs},(∀id∈cs.flatMap yY,h id=h' id)→mL h l cs=mL h' l cs
 |[],[],_
 |[],_::_,_
 |_::_,[],_=>rfl
 |p::l,c::cs,hh=>by
  simp  at hh;unfold mL;rw[vOe fun id hi=>hh id (.inl hi),qW2 (by grind)]
theorem vA3 {ls}:gH h ls []=gH h' ls []:=by
 cases ls<;>rfl
theorem vNu {s:AX}{a}(hb:vS a=false):s.get h a=s.get h' a:=by
 unfold AX.get;cases s with
 |c p=>grind
 |agg l=>grind
 |ptr io l=>
  cases a with
  |c x=>cases x<;>first|rfl|(exact absurd hb (by simp[vS]))
  |_=>rfl
 |fn f bp=>
  cases a with
  |c x=>cases x with
   |fn g ids=>
    cases ids with
    |nil=>dsimp only;rw[vA3]
    |cons _ _=>exact absurd hb (by nofun)
   |_=>rfl
  |_=>rfl
 |chn ls=>
  cases a with
  |c x=>cases x<;>first|rfl|(exact absurd hb (by nofun))
  |_=>rfl
theorem vJj {s:AX}{a cs bs}(hb:vS a=false)(e:s.get h a=some (cs,bs)):∀id∈cs.flatMap yY,id∈yF a:=by
 unfold AX.get at e;split at e
 ·cases e;intro id ah;simp  at ah;exact ah
 ·obtain⟨_,e⟩:=vP e;cases e;exact fun id ah=>ah
 ·exact absurd hb (by nofun)
 ·rename_i f bp g ids;obtain⟨_,e⟩:=vP e;cases ids with
  |nil=>cases bp with
   |nil=>cases e;simp
   |cons _ _=>cases e
  |cons _ _=>exact absurd hb (by nofun)
 ·exact absurd hb (by nofun)
 ·cases e
theorem yKb:∀{l as},as.any vS=false→iw h l as=iw h' l as
 |[],[],_
 |[],_::_,_
 |_::_,[],_=>rfl
 |s::l,a::as,hb=>by
  simp only[List.any_cons,Bool.or_eq_false_iff] at hb;unfold iw;rw[vNu (h:=h) (h':=h') hb.1,yKb hb.2]
theorem qZw:∀{l as cs bs},as.any vS=false→iw h l as=some (cs,bs)→∀id∈cs.flatMap yY,id∈as.flatMap yF
 |[],[],cs,bs,_,e=>by cases e;simp
 |s::l,a::as,cs,bs,hb,e=>by
  simp only[List.any_cons,Bool.or_eq_false_iff] at hb;unfold iw at e;split at e
  ·rename_i c1 b1 c2 b2 e1 e2;cases e;intro id ah;rw[List.flatMap_append,List.mem_append] at ah;rw[List.flatMap_cons,List.mem_append];rcases ah with ah|ah
   ·exact .inl (vJj hb.1 e1 id ah)
   ·exact .inr (qZw hb.2 e2 id ah)
  ·cases e
theorem vMy {s a}(hh:∀id∈yF a,h id=h' id):sy h s a=sy h' s a:=by
 unfold sy;split
 ·rename_i p x;have:=z9 (h:=h) (h':=h') (l:=[p.isKept]) (cs:=[x]) (by rw[zz];exact hh);simp_all
 ·rename_i l xs;have:=z9 (h:=h) (h':=h') (l:=l.map PC.isKept) (cs:=xs) hh;simp_all
 ·rfl
theorem vDe {s a a' u}(e:sy h s a=some (a',u)):(∀id∈yF a',id∈yF a)∧(vS a=false→vS a'=false):=by
 unfold sy at e;split at e
 ·rename_i p x;split at e
  ·rename_i y u1 e1;cases e;refine⟨fun id ah=>by have:=Ac e1 id (by rw[zz];omega);rwa [zz] at this,fun hb=>?_⟩;cases hk:p.isKept with
   |false=>rw[hk] at e1;cases e1;exact hb
   |true=>
    rw[hk] at e1;unfold jV at e1;split at e1
    ·rename_i c1 u2 ku nG e2 e3;cases e1;cases hy:vS (.c y) with
     |false=>rfl
     |true=>rw[(Pn e2).2 hy] at hb;cases hb
    ·cases e1
  ·cases e
 ·split at e
  ·rename_i ys u1 e1;cases e;exact⟨Ac e1,fun _=>rfl⟩
  ·cases e
 simp_all
theorem ySb:∀{l as},(∀id∈as.flatMap yF,h id=h' id)→n9 h l as=n9 h' l as
 |[],as,_=>by rfl
 |_::_,[],_=>rfl
 |s::l,a::as,hh=>by
  simp  at hh;unfold n9;rw[vMy fun id hi=>hh id (.inl hi),ySb (by grind)]
theorem yIo:∀{l as dV u},n9 h l as=some (dV,u)→(∀id∈dV.flatMap yF,id∈as.flatMap yF)∧(as.any vS=false→dV.any vS=false)
 |[],as,dV,u,e=>by cases as<;>cases e<;>exact by simp
 |s::l,[],dV,u,e=>by cases e;simp
 |s::l,a::as,dV,u,e=>by
  unfold n9 at e;split at e
  ·rename_i a1 u1 Pk nG e1 e2;obtain⟨k1,k2⟩:=vDe e1;obtain⟨k3,k4⟩:=yIo e2;grind
  ·cases e
theorem vE9 {as nm n args}(h1:args.any vS=false→∀id,(id∈args.flatMap yF∨kT nm id=true)→h id=h' id)(h2:args.any vS=true→h=h'):Aj as nm n args h=Aj as nm n args h':=by
 cases hb:args.any vS with
 |true=>rw[h2 hb]
 |false=>
  have hh:=h1 hb;unfold Aj;rw[ySb (h:=h) (h':=h') (by grind)];cases e:n9 h' as args with
  |none=>rfl
  |some p=>
   obtain⟨dR,u⟩:=p;obtain⟨k1,k2⟩:=yIo e;dsimp only;rw[yKb (h:=qF h u) (h':=qF h' u) (k2 hb)];cases e2:iw (qF h' u) as dR with
   |none=>rfl
   |some q=>
    obtain⟨cs,bs⟩:=q;dsimp only;rw[qW2 (h:=qF h u) (h':=qF h' u) fun id ah=>uS (hh id (.inl (k1 id (qZw (k2 hb) e2 id ah))))];cases mL (qF h' u) (as.flatMap AX.cells) cs with
    |none=>rfl
    |some d=>
     cases hle:Nat.ble n 100 with
     |false=>simp
     |true=>
      have hle:=Nat.le_of_ble_eq_true hle;rw [Po (h := h) (h' := h') fun i hi => hh _ (.inr (by
       simp only[kT,Bool.and_eq_true];exact⟨by simp,by simp[Nat.blt_eq];omega⟩))]
end
theorem yB4 {as rs os ns X}{S:Nat→XD as→Option X}{pack}:Jv fun k nm args h=>oc as rs os ns (S k) pack nm args h:=by
 intro k nm args h h' h1 h2;show oc as rs os ns (S k) pack nm args h=oc as rs os ns (S k) pack nm args h';unfold oc;rw[vE9 h1 h2]
structure zD (P:Program) (r:Nat×lY):Prop where
 ok:yJp P r
 loc:Jv r.2
def Ap (P:Program):List (Nat×lY)→Prop
 |[]=>True
 |r::l=>zD P r∧Ap P l
theorem Ap.all {P}:∀{l},Ap P l→∀r∈l,zD P r
 |a::l,h,r,hr=>by
  rcases List.mem_cons.1 hr with rfl|hr
  ·exact h.1
  ·exact Ap.all h.2 r hr
structure jA (E:Env):Prop where
 ok:fa E
 loc:ik E.sums
 ord:E.P.follows .mixedOrders=true
theorem Aq {P l eqT}(he:En P eqT)(hm:P.follows .mixedOrders=true)(h:Ap P l):jA ⟨P,eqT,jQ l⟩:=
 ⟨⟨he,qTt fun r hr=>(h.all r hr).ok⟩,yL2 fun r hr=>(h.all r hr).loc,hm⟩
theorem mS {P l}(hm:P.follows .mixedOrders=true)(h:Ap P l):jA ⟨P,fun _=>false,jQ l⟩:=Aq yTb hm h
theorem qC {P A pre na nt c L}(h:zU P pre na nt (zO c 0) L)(hn:(lh c).length=1:=by kernel_rfl) (hl:rR A (zO c 0)=some L:=by kernel_rfl):vZ P A pre na nt c:=
 nU hn (by grind)
theorem loops0 {P A pre na nt c}(hn:(lh c).length=0:=by kernel_rfl):vZ P A pre na nt c:=yVc hn
def yRm (E:Env)(A:zY)(na nt:Nat)(b:Code) ins outs {X Y:Type}(kj:rM outs→X)(c:Y→o9 ins→Option X)(bf:Nat→Y→Y):Prop:=
 ∀k rec d,c (bf k rec) d=II (1000+fD) ins d fun st=>gZ E A k 1000 na nt b st (Yj 1000 ins outs kj (c rec))
abbrev vC6 (X:Type):=Nat→X→(R:Type)→(Ex→St→Option R)→Option R
theorem vR7 {E A na nt b ins outs X Y kj c bf}(hE:jA E)(hs:yRm E A na nt b ins outs kj c bf)(f:Nat→Nat→Y)(elim:vC6 X)
  (hX:∀o R K,elim (1000+fD) (kj o) R K=yr (1000+fD) outs o K) (hL:vZ E.P A 1000 na nt b) (h0:∀k d,c (f k 0) d=none:=by intros;rfl) (h1:∀k n,f k (n+1)=bf k (f k n):=by intros;rfl):
  zU E.P 1000 na nt b ⟨ins,outs,X,fun k d=>c (f k k) d,elim⟩:=
 vCd hE.ok hE.loc hE.ord hL kj elim hX (fun k n d=>c (f k n) d) h0 (fun k n d=>by rw[h1];exact hs k (f k n) d)
def PN (E:Env)(A:zY)(na:Nat)(fn:Func) as (rs:RS){X}(up:RL rs.cells→X)(S:Nat→AD as→Option X):Prop:=
 ∀k d,iY E A k 1000 na fn (mH as d).1 (mH as d).2 (kz rs up)=S k d
def yN0 (E:Env)(A:zY)(na:Nat)(fn:Func) as (rs:RS)(os:List (List RC))(ns:Nat){X}(up:RL (rs.cells++os.flatten)→X)(S:Nat→XD as→Option X):Prop:=
 ∀k d,iY E A k 1000 na fn (mM as d).1 (mM as d).2 (Fa as rs os ns up)=S k d
theorem vRi {E A na f fn as rs X S pack}{unpack:RL rs.cells→X}(hE:jA E)(aX:PN E A na fn as rs unpack S)(hL:vZ E.P A 1000 na fn.ntmps (zS fn))
  (hf:E.P.funcs[f]? =some fn:=by kernel_rfl) (hb:fn.body.isNone=false:=by kernel_rfl) (hn:(fn.name== "runtime.NumGoroutine")=false:=by kernel_rfl) (iu:∀d,pack (unpack d)=d:=by intro d;rfl):
  zD E.P (f,fun k nm args h=>lW as rs (S k) pack nm args h):=
 ⟨fun k _ _ _ _ _ hy=>yXi hE.ok hE.loc hE.ord hf (body_loops hL) (Jw hf hb hn) iu (aX k) hy,yNj⟩
theorem vIt {E A na f fn as rs os ns X}{S:Nat→XD as→Option X}{pack unpack}(hE:jA E)(aX:yN0 E A na fn as rs os ns unpack S)
  (hL:vZ E.P A 1000 na fn.ntmps (zS fn)) (hf:E.P.funcs[f]? =some fn:=by kernel_rfl) (hb:fn.body.isNone=false:=by kernel_rfl) (hn:(fn.name== "runtime.NumGoroutine")=false:=by kernel_rfl) (pN:E4 as na=true:=by kernel_rfl) (sD:(!as.any AX.isChn||A.loops.isEmpty)=true:=by kernel_rfl) (iu:∀d,pack (unpack d)=d:=by intro d;rfl):
  zD E.P (f,fun k nm args h=>oc as rs os ns (S k) pack nm args h):=
 ⟨fun k _ _ _ _ _ hy=>vL3 hE.ok hE.loc hE.ord hf (body_loops hL) (Jw hf hb hn) iu pN sD (aX k) hy,yB4⟩
theorem yUa {E A na f fn sh t rs X}{S:Nat→List t.den→Option X}{pack unpack}(hE:jA E)(cA:∀k,iY E A k 1000 na fn [.c .nsl] (jq []) (kz rs unpack)=S k [])
  (aX:∀k xs,iY E A k 1000 na fn [.c (.nfl sh t xs)] (jq []) (kz rs unpack)=S k xs) (hL:vZ E.P A 1000 na fn.ntmps (zS fn)) (hf:E.P.funcs[f]? =some fn:=by kernel_rfl) (hb:fn.body.isNone=false:=by kernel_rfl) (hn:(fn.name== "runtime.NumGoroutine")=false:=by kernel_rfl) (iu:∀d,pack (unpack d)=d:=by intro d;rfl):
  zD E.P (f,fun k nm args h=>lW [.c (.dat sh t)] rs (fun d=>S k d.1) pack nm args h):=
 ⟨fun k _ _ _ _ _ hy=>yVk hE.ok hE.loc hE.ord hf (body_loops hL) (Jw hf hb hn) iu (fun x hx=>(cA k).trans hx) (by grind) hy,yNj⟩
def Ar (k:Nat)(a b c:Int):Option (Int×Int):=
 bif decide (c=0) then some (Int.ofNat ((a.toNat+b.toNat+0)%18446744073709551616),Int.ofNat ((a.toNat+b.toNat+0)/18446744073709551616)) else none
def JK:lY:=fun k nm args h=>match args with
 |[.c (.int .u64 a),.c (.int .u64 b),.c (.int .u64 c)]=>.call (Int×Int) (Ar k a b c) (fun r=>(.tup [(false,[.int .u64 r.1]),(false,[.int .u64 r.2])],[]))
 |_=>.stuck
theorem vQu {P} a b w:
  (add64Entry #[.int .u64 a,.int .u64 b,.int .u64 0]).run P w=.ok (.tuple #[.int .u64 (Int.ofNat ((a.toNat+b.toNat+0)%18446744073709551616)),.int .u64 (Int.ofNat ((a.toNat+b.toNat+0)/18446744073709551616))]) w:=rfl
theorem vB3 {P f fn}(hf:P.funcs[f]? =some fn:=by kernel_rfl) (mT:(fn.name== "runtime.NumGoroutine")=false:=by kernel_rfl) (hb:fn.body.isNone=true:=by kernel_rfl)
  (hn:Extern.findNext fn=none:=by kernel_rfl) (he:Extern.find fn=some add64Entry:=by kernel_rfl):
  zD P (f,JK):=by
 refine⟨fun k nm args h v u hy=>?_,fun _ _ _ _ _ _ _=>rfl⟩;intro M w vs hh hH ok hv;refine .inr ?_;replace hy:yE (JK k nm args h) v u:=hy;unfold JK at hy;split at hy
 ·rename_i a b c;obtain⟨x,hx,rfl,rfl⟩:=hy
  match hl:vs.toList,hv with
  |[v1,v2,v3],hv=>
   obtain⟨h1,h2,h3,_⟩:=hv;cases h1;cases h2;cases h3;obtain rfl:vs=#[.int .u64 a,.int .u64 b,.int .u64 c]:=by grind
   obtain⟨hc,hx⟩:=vP hx;cases hx;have hc:c=0:=by simp_all
   subst hc;refine⟨.tuple #[.int .u64 (Int.ofNat ((a.toNat+b.toNat+0)%18446744073709551616)),.int .u64 (Int.ofNat ((a.toNat+b.toNat+0)/18446744073709551616))],w,M,?_,⟨rfl,rfl,rfl,hH,rfl,ok,.refl M⟩,?_⟩
   ·rw[run_callFunc_extern hf mT hb hn he,vQu a b w];rfl
   ·exact⟨#[.int .u64 (Int.ofNat ((a.toNat+b.toNat+0)%18446744073709551616)),.int .u64 (Int.ofNat ((a.toNat+b.toNat+0)/18446744073709551616))],rfl,rfl,rfl,trivial⟩
 ·exact hy.elim
end Go.Ab
