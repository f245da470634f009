/- part 2 -/
import Derived.Test.YthpehdcmpldloaaGreatGiAbB
import Derived.ProofKit
import Derived.Below
import Derived.Carry
import Derived.Laws.Externs
set_option linter.unusedVariables false
set_option linter.unusedSimpArgs false
set_option linter.unusedSectionVars false
namespace Go.Ab
def Ex.toExit:Ex→Exit
 |.normal=>.normal
 |.ret=>.ret
 |.exit id=>.exit id
theorem yRg {P Q c}(I:Nat→Act→World→Prop)(round:∀n a w,I n a w→c.wp P (Exit.then (fun a' w'=>∃m,m<n∧I m a' w') Q) a w){n a w}(h₀:I n a w):(Code.loop c).wp P Q a w:=by
 intro b k cs;have key:∀n a w,I n a w→∃e a' w',Q e a' w'∧Arrives P (lone (b.at a (.code c::.inLoop c::k)) cs w) b k cs e a' w':=by
  intro n
  induction n using Nat.strongRecOn with
  |_ n ih=>
   intro a w hI;obtain⟨e,a₁,w₁,hq,kC⟩:=round n a w hI b (.inLoop c::k) cs;cases e with
   |normal=>
    obtain⟨m,hm,hI₁⟩:=hq;obtain⟨e₂,a₂,w₂,hq₂,harr₂⟩:=ih m hm a₁ w₁ hI₁;exact⟨e₂,a₂,w₂,hq₂,.of_steps (Steps.trans kC (.one step_inLoop)) harr₂⟩
   |exit id=>exact⟨_,a₁,w₁,hq,.pass (x:=.inLoop c) rfl (by simp) kC⟩
   |goto l=>exact⟨_,a₁,w₁,hq,.pass (x:=.inLoop c) rfl (by simp) kC⟩
   |ret=>exact⟨_,a₁,w₁,hq,.pass (x:=.inLoop c) rfl (fun _ _=>.inl (by simp)) kC⟩
   |panic ch=>exact⟨_,a₁,w₁,hq,.pass (x:=.inLoop c) rfl (fun _ _=>.inl (by simp)) kC⟩
   |outgrown=>exact⟨_,a₁,w₁,hq,.pass (x:=.inLoop c) rfl (by simp) kC⟩
 obtain⟨e,a',w',hq,kC⟩:=key n a w h₀;exact⟨e,a',w',hq,.of_steps (.one step_loop) kC⟩
def ME (tmps:Array Value):ResultVar→Sem Value
 |.tmp t=>pure (tmps.getD t undef)
 |.cell c t=>do loadVar t (←asAddr (tmps.getD c undef))
def zw (base:Nat):(l:List (Ex×zE))→uZ l→Ex×St
 |[],d=>(.normal,⟨fun _=>.undef,fun _=>none⟩)
 |[p],d=>(p.1,zM base p.2 d)
 |p::q::l,d=>match d with
  |.inl d=>(p.1,zM base p.2 d)
  |.inr d=>zw base (q::l) d
theorem yDh {R base K}{out:R}:∀{l d},Cy base l d K=some out→K (zw base l d).1 (zw base l d).2=some out
 |[p],_,h
 |p::q::l,.inl d,h=>h
 |p::q::l,.inr d,h=>yDh (l:=q::l) h
def H3 (base:Nat):(l:List zE)→tc l→St
 |[],_=>⟨fun _=>.undef,fun _=>none⟩
 |[S],d=>zM base S d
 |S::T::l,d=>match d with
  |.inl d=>zM base S d
  |.inr d=>H3 base (T::l) d
theorem yAc {R base K}{out:R}:∀{l d},LR base l d K=some out→K (H3 base l d)=some out
 |[S],_,h
 |S::T::l,.inl d,h=>h
 |S::T::l,.inr d,h=>yAc (l:=T::l) h
def zU (P:Program)(pre na nt:Nat)(b:Code)(L:zV):Prop:=∀k d x,L.sum k d=some x→∀(a0:Nat→Value) (M0:zK) (w0:World) (a:Act) (w:World) (Q:Exit→Act→World→Prop),
 vV false na nt a0 M0 w0 (H3 (pre+hZ) L.ins d) a w→
 (∀(o:uZ L.outs) a' w',(∀R K,L.elim (pre+hZ) x R K=Cy (pre+hZ) L.outs o K)→vV false na nt a0 M0 w0 (zw (pre+hZ) L.outs o).2 a' w'→Q (zw (pre+hZ) L.outs o).1.toExit a' w')→
 (Code.loop b).wp P Q a w
def wF (P:Program)(A:zZ)(pre na nt:Nat):Code→Prop
 |.seq a b=>wF P A pre na nt a∧wF P A pre na nt b
 |.cond _ a b=>wF P A pre na nt a∧wF P A pre na nt b
 |.block _ b=>wF P A pre na nt b
 |.loop b=>(∀L,vh A b=some L→zU P pre na nt b L)∧(vh A b=none→wF P A pre na nt b)
 |_=>True
theorem yKx {A c b st}(h:st.ev c=.c (.bool b)):LS A c b st=st:=by
 unfold LS;split
 ·rw[SP h]
 ·rfl
section
variable {nl:Bool} {E:Env} {A:zZ} {k pre na nt:Nat} {a0:Nat→Value} {R:Type} {M0:zK} {w0:World} {out:R}
theorem S8 {a w st}(r:vV false na nt a0 M0 w0 st a w):∀{l x},Cx pre l st=some x→vV false na nt a0 M0 w0 (H3 (pre+hZ) l x) a w
 |[S],x,h=>MD r h
 |S::T::l,x,h=>by
  unfold Cx at h;split at h
  ·rename_i d hd;cases h;exact MD r hd
  ·split at h
   ·rename_i d hd;cases h;exact S8 r (l:=T::l) hd
   ·cases h
theorem yZp (hE:gd E)(hS:jt E.sums)(hm:E.P.follows .mixedOrders=true)(Mo:nl=true→A.loops=[]):∀c,wF E.P A pre na nt c→∀st K a w Q,kj E A k pre na nt c st K=some out→vV nl na nt a0 M0 w0 st a w→
  (∀e bK a' w',vV nl na nt a0 M0 w0 bK a' w'→K e bK=some out→Q e.toExit a' w')→c.wp E.P Q a w:=by
 intro c
 induction c with
 |skip=>exact fun _ st K a w Q h r hK=>wp_skip (hK .normal st a w r h)
 |region id ops draw=>
  intro _ st K a w Q h r hK;cases draw with
  |true=>
   cases he:Hm ops with
   |false=>simp only[kj,he] at h;cases h
   |true=>
    simp only[kj,he] at h;exact vV0 hE hS hm he h r fun bK a' w' r' h'=>hK .normal bK a' w' r' h'
  |false=>
   have:=yBz hE (Q:=Q) _ _ _ _ a w (by grind) h r fun bK a' w' r' h'=>hK .normal bK a' w' r' h'
   refine wp_region ?_;have e:(ops.toList.zipIdx.map fun p=>(p.2,p.1)).map (·.1)=List.range ops.size:=by
    rw[List.map_map];have e2:((fun x:Nat×Oper=>x.1)∘fun p:Oper×Nat=>(p.2,p.1))=Prod.snd:=rfl;rw[e2,List.zipIdx_map_snd,←List.range_eq_range'];simp
   simp_all
 |seq x y S9 Ta=>
  intro hL st K a w Q h r hK;simp only[kj] at h;refine wp_seq (S9 hL.1 st _ a w _ h r fun e bK a' w' r' h'=>?_);cases e with
  |normal=>exact Ta hL.2 bK K a' w' Q h' r' hK
  |ret=>exact hK .ret bK a' w' r' h'
  |exit id=>exact hK (.exit id) bK a' w' r' h'
 |cond c x y S9 Ta=>
  intro hL st K a w Q h r hK;simp only[kj] at h;split at h
  ·rename_i t ht;obtain⟨M,_,_,_,_,hv⟩:=r.ex;have hc:=yNg hv c;rw[ht] at hc;refine wp_cond (t:=t) hc ?_;cases t with
   |true=>
    rw[yKx ht,cond_true] at h;exact S9 hL.1 st K a w Q h r hK
   |false=>
    rw[yKx ht,cond_false] at h;exact Ta hL.2 st K a w Q h r hK
  ·cases h
 |block id b ih=>
  intro hL st K a w Q h r hK;simp only[kj] at h;refine wp_block (ih hL st _ a w _ h r fun e bK a' w' r' h'=>?_);cases e with
  |normal=>exact hK .normal bK a' w' r' h'
  |ret=>exact hK .ret bK a' w' r' h'
  |exit i=>
   show if i=id then Q .normal a' w' else Q (.exit i) a' w'
   dsimp only at h';cases e:Nat.beq i id with
   |true=>
    rw[e] at h';rw[if_pos (by simpa using e)];exact hK .normal bK a' w' r' h'
   |false=>
    rw[e] at h';rw[if_neg (fun e'=>by simp_all)];exact hK (.exit i) bK a' w' r' h'
 |loop b ih=>
  intro hL st K a w Q h r hK;simp only[kj] at h;split at h
  ·rename_i hN;refine yRg (fun n a w=>∃st,vV nl na nt a0 M0 w0 st a w∧Ry (kj E A k pre na nt b) n st K=some out) (fun n a w ⟨st,r,hi⟩=>?_) ⟨st,r,h⟩;cases n with
   |zero=>cases hi
   |succ n=>
    refine ih (hL.2 hN) st _ a w _ hi r fun e bK a' w' r' h'=>?_
    cases e with
    |normal=>exact⟨n,by simp,bK,r',h'⟩
    |ret=>exact hK .ret bK a' w' r' h'
    |exit id=>exact hK (.exit id) bK a' w' r' h'
  ·rename_i L hN;split at h
   ·cases h
   ·rename_i d hd;obtain⟨x,hx,h⟩:=Option.bind_eq_some_iff.1 h;cases nl with
    |true=>
     unfold vh at hN;grind
    |false=>exact hL.1 L hN k d x hx a0 M0 w0 a w Q (S8 r hd) fun o a' w' ho r'=>hK _ _ a' w' r' (yDh (by simp_all))
 |exit id=>exact fun _ st K a w Q h r hK=>wp_exit (hK (.exit id) st a w r h)
 |ret=>exact fun _ st K a w Q h r hK=>wp_ret (hK .ret st a w r h)
 |_=>nofun
theorem yM9 {a b}(h:Rs a b=true):a=b:=by
 cases a<;>cases b<;>first|rfl|(cases h)|skip
 rw[Nat.eq_of_beq_eq_true h]
theorem vA1 {a w st e}(r:vV false na nt a0 M0 w0 st a w):∀{l x},Ho pre l e st=some x→(zw (pre+hZ) l x).1=e∧vV false na nt a0 M0 w0 (zw (pre+hZ) l x).2 a w
 |[p],x,h=>by
  obtain⟨he,h⟩:=ny h;exact⟨yM9 he,MD r h⟩
 |p::q::l,x,h=>by
  unfold Ho at h;split at h
  ·rename_i d hd;cases h;obtain⟨he,hd⟩:=ny hd;exact⟨yM9 he,MD r hd⟩
  ·split at h
   ·rename_i d hd;cases h;exact vA1 r (l:=q::l) hd
   ·cases h
theorem vUs (hE:gd E)(hS:jt E.sums)(hm:E.P.follows .mixedOrders=true){b ins outs}(hL:wF E.P A pre na nt b){X} mv elim (hX:∀o R K,elim (pre+hZ) (mv o) R K=Cy (pre+hZ) outs o K)
  (rec:Nat→Nat→tc ins→Option X) (h0:∀k d,rec k 0 d=none)
  (aK:∀k n d,rec k (n+1) d=LR (pre+hZ) ins d fun st=>kj E A k pre na nt b st (yTi pre ins outs mv (rec k n))):zU E.P pre na nt b ⟨ins,outs,X,fun k d=>rec k k d,elim⟩:=by
 intro k d x hx a0 M0 w0 a w Q r hQ;refine yRg (fun n a w=>∃d,vV false na nt a0 M0 w0 (H3 (pre+hZ) ins d) a w∧rec k n d=some x) (fun n a w ⟨d,r,hi⟩=>?_) ⟨d,r,hx⟩;cases n with
 |zero=>simp_all
 |succ n=>
  rw[aK k n d] at hi;refine yZp hE hS hm (by simp) b hL _ _ a w _ (yAc hi) r fun e bK a' w' r' h'=>?_
  have out:∀e,(match Ho pre outs e bK with|some o=>some (mv o)|none=>none)=some x→Q e.toExit a' w':=fun e h'=>by
   split at h'
   ·rename_i o ho;obtain⟨h1,h2⟩:=vA1 (pre:=pre) r' ho;grind
   ·cases h'
  cases e with
  |normal=>
   have h':(match Cx pre ins bK with|some d=>rec k n d|none=>none)=some x:=h';split at h'
   ·rename_i d' hd;exact⟨n,by simp,d',S8 r' hd,h'⟩
   ·cases h'
  |ret=>exact out .ret h'
  |exit id=>exact out (.exit id) h'
theorem vF6 fn tmps:results fn tmps=(do let vs←fn.results.mapM (ME tmps);pure (if h:vs.size=1 then vs[0] else .tuple vs)):=rfl
theorem vDf (hE:gd E)(hS:jt E.sums)(hm:E.P.follows .mixedOrders=true){st}{a:Act}{w x v M}(hM:M.h=st.h)(hH:M.H=w.heap)(ok:Ok M)(ht:∀t,zT M (st.t t) (a.tmps.getD t undef))(h:vi E st x=some v):
  ∃rv,(ME a.tmps x).run E.P w=.ok rv w∧zT M v rv:=by
 unfold vi at h;split at h
 ·rename_i t;cases h;exact⟨_,rfl,ht t⟩
 ·rename_i c t;split at h
  ·rename_i id off hc;split at h
   ·split at h
    ·rename_i vs eM;have hv:=ht c;rw[hc] at hv;obtain⟨C,B,hC,hB,e⟩:=hv;obtain⟨C',aD,hO⟩:=ok.obj id _ (by rw[hM];omega);rw[hC] at aD;cases aD;obtain⟨B',kq,aF⟩:=yX1 hO;rw[hB] at kq;cases kq;obtain⟨rv2,nv,dp⟩:∃rv,(loadVar t ⟨B,0+off,none⟩).run E.P w=.ok rv w∧zT M v rv:=yHk ok hH aF eM h;refine⟨rv2,?_,dp⟩;simp  at nv;unfold ME;dsimp only;rw[e];simp[asAddr,nv]
    ·cases h
   ·cases h
  ·cases h
theorem vEo {M v p rv}(h:Cz v=some p)(hv:zT M v rv):vj M p rv:=by
 unfold Cz at h;split at h
 ·cases h;exact hv
 ·cases h;exact hv
 ·cases h
theorem yFq {M}:∀{vs xs rs},zL (fun a b=>Cz a=some b) vs xs→zL (zT M) vs rs→zL (vj M) xs rs
 |[],[],[],_,_=>trivial
 |_::_,_::_,_::_,h,k=>⟨vEo h.1 k.1,yFq h.2 k.2⟩
theorem yIm {st}:∀(l:List ResultVar) xs,l.mapM (fun r=>(vi E st r).bind Cz)=some xs→∃vs,l.mapM (vi E st)=some vs∧vs.mapM Cz=some xs
 |[],xs,h=>by simp_all
 |x::l,xs,h=>by
  simp only[List.mapM_cons,Option.bind_eq_bind,Option.bind_eq_some_iff] at h;obtain⟨p,⟨v,h1,h2⟩,ps,h3,h4⟩:=h;obtain⟨vs,k1,k2⟩:=yIm l ps h3;simp_all
theorem vDy (hE:gd E)(hS:jt E.sums)(hm:E.P.follows .mixedOrders=true){fn st}{a:Act}{w v M}(hM:M.h=st.h)(hH:M.H=w.heap)(ok:Ok M)(ht:∀t,zT M (st.t t) (a.tmps.getD t undef))(h:LU E fn st=some v):
  ∃rv,(results fn a.tmps).run E.P w=.ok rv w∧zT M v rv:=by
 have one:=fun x v=>vDf hE hS hm (x:=x) (v:=v) hM hH ok ht
 have key:∀(l:List ResultVar) (vs:List zW),l.mapM (vi E st)=some vs→∃rs:List Value,(l.mapM (ME a.tmps)).run E.P w=.ok rs w∧zL (zT M) vs rs:=by
  intro l
  induction l with
  |nil=>exact fun vs h=>by simp at h;subst h;exact⟨[],rfl,trivial⟩
  |cons x l ih=>
   intro vs h;simp[Option.bind_eq_some_iff] at h;obtain⟨v,h1,R2,h2,h3⟩:=h;cases h3;obtain⟨rv,k1,k2⟩:=one x v h1;obtain⟨rs,k3,k4⟩:=ih R2 h2;refine⟨rv::rs,?_,k2,k4⟩;simp_all
 have run:∀(vs:List zW),fn.results.toList.mapM (vi E st)=some vs→∃rs:List Value,(results fn a.tmps).run E.P w=.ok (if h:rs.length=1 then rs[0] else .tuple rs.toArray) w∧zL (zT M) vs rs:=fun vs h=>by
  obtain⟨rs,k1,k2⟩:=key _ vs h;refine⟨rs,?_,k2⟩;rw[vF6,Array.mapM_eq_mapM_toList];simp_all
 unfold LU at h;split at h
 ·cases h;obtain⟨rs,k1,k2⟩:=run [] (by simp_all);cases rs with
  |cons _ _=>exact k2.elim
  |nil=>exact⟨_,k1,#[],rfl,trivial⟩
 ·obtain⟨rs,k1,k2⟩:=run [v] (by simp_all)
  match rs,k2 with
  |[r],k2=>exact⟨_,k1,k2.1⟩
 ·split at h
  ·rename_i xs HS;cases h;obtain⟨vs,k1,k2⟩:=yIm _ _ HS;obtain⟨rs,r1,r2⟩:=run vs k1;have hlen:rs.length≠1:=fun e=>by
    have e1:=r2.length;have e2:=(HR _ _ _ k1).length;have h3:fn.results.toList.length=1:=by omega
    match hl:fn.results.toList,h3 with
    |[x],_=>simp_all
   rw[dif_neg hlen] at r1;exact⟨_,r1,rs.toArray,rfl,yFq (HR _ _ _ k2) r2⟩
  ·cases h
theorem Tb (hE:gd E)(hS:jt E.sums)(hm:E.P.follows .mixedOrders=true){f fn}(hf:E.P.funcs[f]? =some fn)(hL:∀c,fn.body=some c→wF E.P A pre na fn.ntmps c){args h K}(aQ:kk E A k pre na fn args h K=some out){M w vs}(hh:M.h=h)(hH:M.H=w.heap)(ok:Ok M)
  (hv:zL (zT M) args vs.toList):Calls E.P f vs w fun
   |.returned rv,w'=>∃(M':zK) (v:zW) (st:St),K v st=some out∧M'.h=st.h∧M'.H=w'.heap∧Ok M'∧ju M M'∧(A.loops=[]→fF M M')∧zT M' v rv∧w'.os=w.os∧w'.tape=w.tape∧w'.output=w.output∧
     (∀t,t<na→zT M' (st.t t) (vs.getD t undef))
   |_,_=>False:=by
 unfold kk at aQ;cases hb:fn.body with
 |none=>simp_all
 |some c=>
  rw[hb] at aQ;dsimp only at aQ;cases hle:Nat.ble args.length fn.ntmps with
  |false=>simp_all
  |true=>
   rw[hle] at aQ;rw[cond_true] at aQ;have hl:=hv.length;have hle:args.length≤fn.ntmps:=Nat.le_of_ble_eq_true hle;have dV:vs.size≤fn.ntmps:=by simp at hl;omega
   have H4:∀t,zT M (LV args t) ((vs++Array.replicate (fn.ntmps-vs.size) undef).getD t undef):=fun t=>by
    unfold LV;by_cases ht:t<args.length
    ·have Tc:t<vs.size:=by simp at hl;omega
     have:=hv.get t ht (by simpa using Tc);simp only[List.getD_eq_getElem?_getD,List.getElem?_eq_getElem ht,Option.getD_some];simp only[Array.getD_eq_getD_getElem?,Array.getElem?_append_left Tc,Array.getElem?_eq_getElem Tc,Option.getD_some]
     simpa using this
    ·simp only[List.getD_eq_getElem?_getD,List.getElem?_eq_none (Nat.not_lt.1 ht),Option.getD_none];show _=undef;simp;grind
   have r:vV A.loops.isEmpty na fn.ntmps (fun t=>(vs++Array.replicate (fn.ntmps-vs.size) undef).getD t undef) M w {t:=LV args,h:=h} {tmps:=vs++Array.replicate (fn.ntmps-vs.size) undef,defers:=[]} w:=
    ⟨⟨M,hh,hH,ok,⟨.refl M,fun _ _ C h=>⟨C,h,rfl⟩⟩,H4⟩,rfl,by simp;omega,rfl,rfl,rfl,fun _ _=>rfl⟩
   refine calls_of_wp hf hb (yZp hE hS hm (by simp) c (hL c hb) _ _ _ _ _ aQ r fun e bK a' w' r' hK=>?_);obtain⟨M',q1,q2,q3,q4,q5⟩:=r'.ex;have fin:∀v,LU E fn bK=some v→K v bK=some out→a'.defers=[]∧∃rv,(results fn a'.tmps).run E.P w'=.ok rv w'∧∃(M':zK) (v:zW) (st:St),K v st=some out∧M'.h=st.h∧M'.H=w'.heap∧Ok M'∧ju M M'∧(A.loops=[]→fF M M')∧zT M' v rv∧w'.os=w.os∧w'.tape=w.tape∧w'.output=w.output∧
     (∀t,t<na→zT M' (st.t t) (vs.getD t undef)):=fun v kD hK=>by
    obtain⟨rv,k1,k2⟩:=vDy hE hS hm q1 q2 q3 q5 kD;refine⟨r'.defers,rv,k1,M',v,bK,hK,q1,q2,q3,q4.g,fun h=>q4.k (by grind),k2,r'.os,r'.tape,r'.output,fun t ht=>?_⟩;have:=q5 t;rw[r'.keep t ht] at this;have e:(vs++Array.replicate (fn.ntmps-vs.size) undef).getD t undef=vs.getD t undef:=by
     by_cases h1:t<vs.size
     ·simp[Array.getD_eq_getD_getElem?,Array.getElem?_append_left h1]
     ·simp;grind
    simp_all
   cases e with
   |exit id=>cases hK
   |normal=>
    dsimp only at hK;split at hK
    ·rename_i v kD;exact fin v kD hK
    ·cases hK
   |ret=>
    dsimp only at hK;split at hK
    ·rename_i v kD;exact fin v kD hK
    ·cases hK
end
inductive PC where
 |int (k:IntKind)|bool|dat (sh:Bool) (t:Ty)|fn (f:Nat)
 |nil|nilp
abbrev PC.den:PC→Type
 |.int _=>Int|.bool=>Bool|.dat _ t=>List t.den|.fn _=>Unit|.nil=>Unit|.nilp=>Unit
abbrev PL:List PC→Type
 |[]=>Unit
 |p::l=>p.den×PL l
inductive AS where
 |c (p:PC)|agg (l:List PC)|ptr (l:List PC)|fn (f:Nat) (bA:List (List PC))
def AS.cells:AS→List PC
 |.c p=>[p]
 |.agg l=>l
 |.ptr l=>l
 |.fn _ bA=>bA.flatten
abbrev AD (l:List AS):Type:=PL (l.flatMap AS.cells)
def zx (h:Hp)(t:Ty):zY→Option (List t.den)
 |.nsl=>some []
 |c=>match ki h c with
  |some ⟨s,xs⟩=>gY s t xs
  |none=>none
def tK (h:Hp):(p:PC)→zY→Option p.den
 |.int k,.int j n=>bif fW j k then some n else none
 |.bool,.bool b=>some b
 |.dat false t,c=>zx h t c
 |.dat true t,.fsl true s xs=>gY s t xs
 |.dat true t,.nsl=>some []
 |.fn f,.fn g []=>bif Nat.beq f g then some () else none
 |.nil,.nsl=>some ()
 |.nilp,.nilp=>some ()
 |_,_=>none
def zy (h:Hp):(l:List PC)→List zY→Option (PL l)
 |[],[]=>some ()
 |p::l,c::cs=>match tK h p c,zy h l cs with
  |some d,some ds=>some (d,ds)
  |_,_=>none
 |_,_=>none
def C6 (h:Hp)(id:Nat):Option (List zY):=match h id with
 |some (.box _ cells)=>some cells
 |some (.robox cells)=>some cells
 |_=>none
def tL (h:Hp):List (List PC)→List Nat→Option (List zY)
 |[],[]=>some []
 |l::ls,id::ids=>match C6 h id,tL h ls ids with
  |some cells,some rest=>bif Nat.beq cells.length l.length then some (cells++rest) else none
  |_,_=>none
 |_,_=>none
def AS.get (h:Hp):AS→zW→Option (List zY)
 |.c _,.c x=>some [x]
 |.agg l,.agg xs=>bif Nat.beq xs.length l.length then some xs else none
 |.ptr l,.c (.ptr id 0)=>tL h [l] [id]
 |.fn f bA,.c (.fn g ids)=>bif Nat.beq f g then tL h bA ids else none
 |_,_=>none
def rM (h:Hp):List AS→List zW→Option (List zY)
 |[],[]=>some []
 |s::l,a::as=>match s.get h a,rM h l as with
  |some cs,some rest=>some (cs++rest)
  |_,_=>none
 |_,_=>none
def zz (h:Hp) l (as:List zW):Option (AD l):=match rM h l as with
 |some cs=>zy h (l.flatMap AS.cells) cs
 |none=>none
def C7:(p:PC)→p.den→zY
 |.int k,n=>.int k n
 |.bool,b=>.bool b
 |.dat sh t,xs=>.fsl sh t xs
 |.fn f,_=>.fn f []
 |.nil,_=>.nsl
 |.nilp,_=>.nilp
def vY:(l:List PC)→PL l→List zY
 |[],_=>[]
 |p::l,d=>C7 p d.1::vY l d.2
def MF:List (List PC)→List zY→List (List zY)
 |[],_=>[]
 |l::ls,cs=>cs.take l.length::MF ls (cs.drop l.length)
def AS.mk (n:Nat)(cs:List zY):AS→zW
 |.c _=>match cs with|x::_=>.c x|[]=>.undef
 |.agg _=>.agg cs
 |.ptr _=>.c (.ptr n 0)
 |.fn f bA=>.c (.fn f ((List.range bA.length).map (n+·)))
def AS.boxes (cs:List zY):AS→List (List zY)
 |.ptr _=>[cs]
 |.fn _ bA=>MF bA cs
 |_=>[]
def lI:List AS→List zY→Nat→List zW×List (List zY)
 |[],_,_=>([],[])
 |s::l,cs,n=>
  let ao:=cs.take s.cells.length;let bs:=s.boxes ao;let rest:=lI l (cs.drop s.cells.length) (n+bs.length)
  (s.mk n ao::rest.1,bs++rest.2)
def lJ (bs:List (List zY)):Hp:=fun n=>match bs[n]? with
 |some cells=>some (.robox cells)
 |none=>none
def pt l (d:AD l):List zW×Hp:=
 let r:=lI l (vY (l.flatMap AS.cells) d) 0
 (r.1,lJ r.2)
inductive RC where
 |int (k:IntKind)|bool|fro (t:Ty)|own (t:Ty)|mat
 |jun
 |map
 |nilp|link (j:Nat)|nil
abbrev RC.den:RC→Type
 |.int _=>Int|.bool=>Bool|.fro t=>List t.den|.own t=>List t.den|.mat=>List (List Int)|.jun=>Nat|.map=>List (Int×Bool)|.nilp=>Unit|.link _=>Unit|.nil=>Unit
abbrev RL:List RC→Type
 |[]=>Unit
 |r::l=>r.den×RL l
inductive RS where
 |c (r:RC)|agg (l:List RC)|tup (l:List (Bool×List RC))
def RS.cells:RS→List RC
 |.c r=>[r]
 |.agg l=>l
 |.tup l=>l.flatMap (·.2)
def Td:List (Bool×List RC)→List (Bool×List zY)→Option (List zY)
 |[],[]=>some []
 | (b, l) :: ls, (g, cs) :: rest => bif (bif b then g else !g && Nat.beq cs.length 1) && Nat.beq cs.length l.length then (match Td ls rest with
   |some r=>some (cs++r)
   |none=>none) else none
 |_,_=>none
def RS.get:RS→zW→Option (List zY)
 |.c _,.c x=>some [x]
 |.agg l,.agg xs=>bif Nat.beq xs.length l.length then some xs else none
 |.tup l,.tup xs=>Td l xs
 |_,_=>none
def Te:List (Bool×List RC)→List zY→List (Bool×List zY)
 |[],_=>[]
 |(b,l)::ls,cs=>(b,cs.take l.length)::Te ls (cs.drop l.length)
def RS.mk (cs:List zY):RS→zW
 |.c _=>match cs with|x::_=>.c x|[]=>.undef
 |.agg _=>.agg cs
 |.tup l=>.tup (Te l cs)
def gf (h:Hp):List Bool→List zY→Option (List zY×vG)
 |true::l,c::cs=>match oc h c,gf h l cs with
  |some (c,u),some (cs,us)=>some (c::cs,u++us)
  |_,_=>none
 |false::l,c::cs=>match gf h l cs with
  |some (cs,us)=>some (c::cs,us)
  |none=>none
 |_,cs=>some (cs,[])
def RC.isFro:RC→Bool
 |.fro _=>true
 |_=>false
def PC.isKept:PC→Bool
 |.dat true _=>true
 |_=>false
def pv (h:Hp):(r:RC)→zY→Option r.den
 |.int k,.int j n=>bif fW j k then some n else none
 |.bool,.bool b=>some b
 |.fro t,.fsl true s xs=>gY s t xs
 |.fro t,.nsl=>some []
 |.own t,.osl id none=>match h id with
  |some (.arr true s xs)=>gY s t xs
  |_=>none
 |.own t,.osl id (some (0,n))=>match h id with
  |some (.arr true s xs)=>gY s t (xs.take n)
  |_=>none
 |.own t,.nsl=>some []
 |.mat,.osl id none=>match h id with
  |some (.mat _ xs)=>some xs
  |some (.pmat _ xs n)=>bif Nat.beq xs.length n then some xs else none
  |_=>none
 |.mat,.nsl=>some []
 |.jun,.osl id none=>match h id with
  |some (.arr true (.sl (.int .i64)) xs)=>some xs.length
  |_=>none
 |.jun,.nsl=>some 0
 |.map,.map id=>match h id with
  |some (.imap cY)=>some cY
  |_=>none
 |.nilp,.nilp=>some ()
 |.link _,.ptr _ 0=>some ()
 |.nil,.nsl=>some ()
 |_,_=>none
def kE (h:Hp):(l:List RC)→List zY→Option (RL l)
 |[],[]=>some ()
 |r::l,c::cs=>match pv h r c,kE h l cs with
  |some d,some ds=>some (d,ds)
  |_,_=>none
 |_,_=>none
def wE:List RC→List zY→List Nat
 |.own _::l,.osl id _::cs=>id::wE l cs
 |.mat::l,.osl id _::cs=>id::wE l cs
 |.jun::l,.osl id _::cs=>id::wE l cs
 |.map::l,.map id::cs=>id::wE l cs
 |_::l,_::cs=>wE l cs
 |_,_=>[]
def H5 (h:Hp)(s:RS)(v:zW):Option (RL s.cells):=match s.get v with
 |some cs=>match gf h (s.cells.map RC.isFro) cs with
  |some (cs,u)=>bif sY (wE s.cells cs) then kE (qH h u) s.cells cs else none
  |none=>none
 |none=>none
def mH (rs:RS){X:Type}(unpack:RL rs.cells→X)(v:zW)(st:St):Option X:=match H5 st.h rs v with
 |some d=>some (unpack d)
 |none=>none
def rN (nm:Nat):(r:RC)→r.den→zY×vG
 |.int k,n=>(.int k n,[])
 |.bool,b=>(.bool b,[])
 |.fro t,xs=>(.fsl true t xs,[])
 |.own t,xs=>(.osl nm none,[(nm,.arr true t xs)])
 |.mat,xs=>(.osl nm none,[(nm,.mat 0 xs)])
 |.jun,n=>(.osl nm none,[(nm,.pmat 0 [] n)])
 |.map,cY=>(.map nm,[(nm,.imap cY)])
 |.nilp,_=>(.nilp,[])
 |.link _,_=>(.undef,[])
 |.nil,_=>(.nsl,[])
def oD (nm:Nat):(l:List RC)→RL l→List zY×vG
 |[],_=>([],[])
 |r::l,d=>
  let x:=rN nm r d.1;let y:=oD (nm+1) l d.2
  (x.1::y.1,x.2++y.2)
def ySq (nm:Nat)(s:RS)(d:RL s.cells):zW×vG:=
 let r:=oD nm s.cells d
 (s.mk r.1,r.2)
def vy (h:Hp):Nat→Nat→Bool
 |_,0=>true
 |nm,n+1=>(match h nm with|none=>true|some _=>false)&&vy h (nm+1) n
def vz (h:Hp):AS→zW→Option (zW×vG)
 |.c p,.c x=>match gf h [p.isKept] [x] with
  |some ([x],u)=>some (.c x,u)
  |_=>none
 |.agg l,.agg xs=>match gf h (l.map PC.isKept) xs with
  |some (xs,u)=>some (.agg xs,u)
  |none=>none
 |_,a=>some (a,[])
def rO (h:Hp):List AS→List zW→Option (List zW×vG)
 |s::l,a::as=>match vz h s a,rO h l as with
  |some (a,u),some (as,us)=>some (a::as,u++us)
  |_,_=>none
 |_,as=>some (as,[])
def oE as (rs:RS){X}(S:AD as→Option X)(pack:X→RL rs.cells)(nm:Nat)(args:List zW)(h:Hp):yQ:=
 match rO h as args with
 |none=>.stuck
 |some (args,u)=>match zz (qH h u) as args with
  |some d=>bif vy h nm rs.cells.length&&Nat.ble rs.cells.length 100 then .call X (S d) (fun r=>((ySq nm rs (pack r)).1,u++(ySq nm rs (pack r)).2)) else .stuck
  |none=>.stuck
structure Lo (M Ml:zK):Prop where
 H:Ml.H=M.H
 F:Ml.F=fun b=>b<M.H.size
 G:Ml.G=M.G
theorem Tf {M M':zK}(ok:Ok M')(hH:M'.H=M.H){t}{xs:List t.den}{v}(h:qC M'.H M'.G (.sl t) xs (fun _=>some v)):qC M.H (fun b=>b<M.H.size) (.sl t) xs (fun _=>some v):=by
 refine vB (fun b hb=>?_) (by grind) _ _ _ _ (by simp) h;have:=ok.Flt b (ok.GF b hb);simp_all
theorem vQ8 {M}(ok:Ok M){c v t xs}(hv:zX M c v)(h:ki M.h c=some ⟨t,xs⟩):qC M.H (fun b=>b<M.H.size) (.sl t) xs (fun _=>some v):=by
 unfold ki at h;split at h
 ·rename_i sh s ys;cases h;cases sh with
  |true=>exact vB (fun b hb=>ok.Flt b (ok.GF b hb)) (by simp) _ _ _ _ (fun _ _=>rfl) hv
  |false=>exact vB (fun b hb=>ok.Flt b hb) (by simp) _ _ _ _ (fun _ _=>rfl) hv
 ·rename_i id r;split at h
  ·rename_i own s ys an;cases h;cases own with
   |false=>
    obtain⟨C,hC,hO⟩:=ok.obj _ _ an;exact Tf ok rfl (y8 hC hO hv)
   |true=>
    obtain⟨M',h1,h2,h3,h4⟩:=yU7 ok an;obtain⟨C,hC,hO⟩:=h3.obj id _ (by rw[h2];exact yK _ _ _);exact Tf h3 h1 (y8 hC hO (hv.ext h4.ext))
  ·rename_i ver ys an;cases r with
   |some p=>cases h
   |none=>
    cases h;obtain⟨M',h1,h2,h3,h4⟩:=yMr ok an;obtain⟨C,hC,hO⟩:=h3.obj id _ (by rw[h2];exact yK _ _ _);exact Tf h3 h1 (y8 (r:=none) hC hO (hv.ext h4.ext))
  ·cases h
 ·rename_i id i ver;split at h
  ·rename_i v' ys an;cases fE:Nat.beq v' ver with
   |false=>simp_all
   |true=>
    rw[fE] at h;cases h;have e:v'=ver:=by simpa using fE
    subst e;obtain⟨C,hC,hO⟩:=ok.obj _ _ an;obtain⟨C',aD,cn,_,aW⟩:=hv;rw[hC] at aD;cases aD;obtain⟨rb,rl,vq,rH⟩:=aW hO.1;by_cases hi:i<ys.length
    ·obtain⟨B,pb,v2,k1,k2,k3,k4,k5,k6⟩:=CD hO hi;rw[vq] at k3;cases k3;rw[show ys.getD i []=ys[i] by simp_all];simp only[qC];cases rb with
     |none=>
      obtain⟨rfl,h0⟩:=rH;grind
     |some R=>
      obtain⟨a,c,rfl,h1,h2,h3⟩:=rH;refine⟨_,_,c,rfl,rfl,h1,?_⟩;by_cases h0:ys[i].length=0
      ·simp_all
      ·have ha:a=0:=by omega
       subst ha;refine .inr ⟨R,0,rfl,?_,fun j hj=>?_⟩
       ·have:=k6 R rfl 0 (by omega);unfold yP at this;grind
       ·simp only[Ty.size];simp_all
    ·have:C.rows[i]? =none:=List.getElem?_eq_none (by have:=hO.2.2.2.1;omega);simp_all
  ·cases h
 ·cases h
theorem H6 {H F t}:qC H F (.sl t) ([]:List t.den) (fun _=>some (.slice none 0 0)):=⟨none,0,0,rfl,rfl,by simp,by simp⟩
theorem vD2 {M}(ok:Ok M){c v t xs}(hv:zX M c v)(h:zx M.h t c=some xs):qC M.H (fun b=>b<M.H.size) (.sl t) xs (fun _=>some v):=by
 unfold zx at h;split at h
 ·cases h;rw[show v=.slice none 0 0 from hv];exact H6
 ·split at h
  ·rename_i s ys hr;obtain⟨e,hx⟩:=kY h;subst e;subst hx;exact vQ8 ok hv hr
  ·cases h
def Tr (M:zK)(c c':zY):Prop:=∀v Ml,Lo M Ml→zX M c v→zX Ml c' v
theorem Tg {M}(ok:Ok M){p c d}(h:tK M.h p c=some d):Tr M c (C7 p d):=by
 intro v Ml lo hv;unfold tK at h;split at h
 ·rename_i k j n;cases e:fW j k with
  |false=>simp_all
  |true=>rw[e] at h;cases h;rw[←sU e];exact hv
 ·cases h;exact hv
 ·have:=vD2 ok hv h;show qC Ml.H Ml.F _ _ _;rw[lo.H,lo.F];omega
 ·obtain⟨e,hx⟩:=kY h;subst e;subst hx;show qC Ml.H Ml.G _ _ _;rw[lo.H,lo.G];exact hv
 ·cases h;rw[show v=.slice none 0 0 from hv];exact H6
 ·rename_i f g;cases e:Nat.beq f g with
  |false=>simp_all
  |true=>
   have:f=g:=by simp_all
   subst this;obtain⟨cv,rfl,hc⟩:=hv;refine⟨cv,rfl,?_⟩;generalize cv.toList=l at hc;cases l with
   |nil=>trivial
   |cons _ _=>exact hc.elim
 ·exact hv
 ·exact hv
 ·cases h
theorem yLi {M}(ok:Ok M):∀{l cs d},zy M.h l cs=some d→zL (Tr M) cs (vY l d)
 |[],[],_,_=>trivial
 |p::l,c::cs,d,h=>by
  unfold zy at h;split at h
  ·rename_i x xs h1 h2;cases h;exact⟨Tg ok h1,yLi ok h2⟩
  ·cases h
theorem Th {M Ml}(lo:Lo M Ml):∀{cs aP vs},zL (Tr M) cs aP→zL (zX M) cs vs→zL (zX Ml) aP vs
 |[],[],[],_,_=>trivial
 |_::_,_::_,_::_,h,k=>⟨h.1 _ _ lo k.1,Th lo h.2 k.2⟩
def v9 (M:zK)(C:qA)(cells:List zY):Prop:=∃B vals e,C.blk=some B∧C.rows=[]∧M.H[B]? =some (.cells vals e (0,0))∧zL (zX M) cells vals.toList
theorem yMd {M}(ok:Ok M){id cells}(h:C6 M.h id=some cells):∃C,M.κ id=some C∧v9 M C cells:=by
 unfold C6 at h;split at h
 ·rename_i own cs an;cases h;obtain⟨C,hC,B,vals,e,h1,h2,h3,h4,_⟩:=ok.obj id _ an;exact⟨C,hC,B,vals,e,h1,h2,h3,h4⟩
 ·rename_i cs an;cases h;obtain⟨C,hC,B,vals,e,h1,h2,h3,h4,_⟩:=ok.obj id _ an;exact⟨C,hC,B,vals,e,h1,h2,h3,h4⟩
 ·cases h
theorem v9.tr {M Ml}(lo:Lo M Ml){C cs aP}(h:v9 M C cs)(ht:zL (Tr M) cs aP):v9 Ml C aP:=by
 obtain⟨B,vals,e,h1,h2,h3,h4⟩:=h;exact⟨B,vals,e,h1,h2,by rw[lo.H];exact h3,Th lo ht h4⟩
theorem Ti {M}(ok:Ok M):∀{ls ids cs aP},tL M.h ls ids=some cs→zL (Tr M) cs aP→cs.length=ls.flatten.length∧ids.length=ls.length∧
  ∃Cs:List qA,zL (fun id C=>M.κ id=some C) ids Cs∧∀Ml,Lo M Ml→zL (v9 Ml) Cs (MF ls aP)
 |[],[],cs,aP,h,ht=>by cases h;exact⟨rfl,rfl,[],trivial,fun _ _=>trivial⟩
 |l::ls,id::ids,cs,aP,h,ht=>by
  unfold tL at h;split at h
  ·rename_i cells rest h1 h2;obtain⟨hl,h⟩:cells.length=l.length∧cells++rest=cs:=by
    cases e:Nat.beq cells.length l.length with
    |false=>simp_all
    |true=>simp_all
   subst h;have oF:=zL.take l.length ht;have nz:=zL.drop l.length ht;rw[←hl,List.take_left] at oF;rw[←hl,List.drop_left] at nz;obtain⟨C,hC,hB⟩:=yMd ok h1;obtain⟨k1,k2,Cs,k3,k4⟩:=Ti ok h2 nz;refine⟨by simp_all,by simp[k2],C::Cs,⟨hC,k3⟩,fun Ml lo=>⟨?_,?_⟩⟩
   ·rw[←hl];exact hB.tr lo oF
   simp_all
  ·cases h
theorem vNt {M}(ok:Ok M){s:AS}{a v cs aP n}(hv:zT M a v)(h:s.get M.h a=some cs)(ht:zL (Tr M) cs aP):
  ∃Cs:List qA,(∀Ml,Lo M Ml→zL (v9 Ml) Cs (s.boxes aP))∧(∀Ml,Lo M Ml→(∀i C,Cs[i]? =some C→Ml.κ (n+i)=some C)→zT Ml (s.mk n aP) v):=by
 unfold AS.get at h;split at h
 ·cases h
  match aP,ht with
  |[c'],ht=>exact⟨[],fun _ _=>trivial,fun Ml lo _=>ht.1 v Ml lo hv⟩
 ·rename_i l xs;cases e:Nat.beq xs.length l.length with
  |false=>simp_all
  |true=>
   rw[e] at h;cases h;obtain⟨vs,rfl,hx⟩:=hv;exact⟨[],fun _ _=>trivial,fun Ml lo _=>⟨vs,rfl,Th lo ht hx⟩⟩
 ·rename_i l id;have:=Ti ok h ht;obtain⟨k1,k2,Cs,k3,k4⟩:=this;obtain⟨C,B,hC,hB,e⟩:=hv;have hl:aP.length=l.length:=by rw[←ht.length,k1];simp
  match Cs,k3 with
  |[C'],k3=>
   have e':C'=C:=by
    have:M.κ id=some C':=k3.1;simp_all
   subst e';refine⟨[C'],fun Ml lo=>?_,fun Ml lo hκ=>⟨C',B,hκ 0 C' rfl,hB,e⟩⟩;have:=k4 Ml lo;simp[MF] at this;rw[List.take_of_length_le (by omega)] at this;exact this
 ·rename_i f bA g ids;cases e:Nat.beq f g with
  |false=>simp_all
  |true=>
   rw[e] at h;have Tj:f=g:=by simp_all
   subst Tj;obtain⟨k1,k2,Cs,k3,k4⟩:=Ti ok h ht;refine⟨Cs,k4,fun Ml lo hκ=>?_⟩;obtain⟨cv,rfl,hc⟩:=hv;refine⟨cv,rfl,?_⟩;have l1:=k3.length;have l2:=hc.length;refine zL.of_get (by simp_all) fun i h1 h2=>?_
   simp;have hi:i<ids.length:=by omega
   have bH:i<Cs.length:=by omega
   obtain⟨C,B,q1,q2,q3⟩:=hc.get i hi h2;have q4:=k3.get i hi bH;simp_all
 ·cases h
theorem Tl {h}:∀{ls ids cs},tL h ls ids=some cs→cs.length=ls.flatten.length
 |[],[],cs,e=>by cases e;rfl
 |l::ls,id::ids,cs,e=>by
  unfold tL at e;split at e
  ·rename_i cells rest h1 h2;cases el:Nat.beq cells.length l.length with
   |false=>simp_all
   |true=>
    rw[el] at e;cases e;have:cells.length=l.length:=by simp_all
    simp[this,Tl h2]
  ·cases e
theorem vWw {h}{s:AS}{a cs}(e:s.get h a=some cs):cs.length=s.cells.length:=by
 unfold AS.get at e;split at e
 ·cases e;rfl
 ·rename_i l xs;cases el:Nat.beq xs.length l.length with
  |false=>simp_all
  |true=>rw[el] at e;cases e;exact Nat.eq_of_beq_eq_true el
 ·rw[Tl e];simp[AS.cells]
 ·rename_i f bA g ids;cases el:Nat.beq f g with
  |false=>simp_all
  |true=>rw[el] at e;exact Tl e
 ·cases e
theorem yR3 {M}(ok:Ok M):∀{l as vs cs aP n},zL (zT M) as vs→rM M.h l as=some cs→zL (Tr M) cs aP→
  ∃Cs:List qA,(∀Ml,Lo M Ml→zL (v9 Ml) Cs (lI l aP n).2)∧(∀Ml,Lo M Ml→(∀i C,Cs[i]? =some C→Ml.κ (n+i)=some C)→zL (zT Ml) (lI l aP n).1 vs)
 |[],[],[],cs,aP,n,_,_,_=>⟨[],fun _ _=>trivial,fun _ _ _=>trivial⟩
 |s::l,a::as,v::vs,cs,aP,n,hv,h,ht=>by
  unfold rM at h;split at h
  ·rename_i mD rest h1 h2;cases h;have hl:=vWw h1;have oF:=zL.take s.cells.length ht;have nz:=zL.drop s.cells.length ht;rw[←hl,List.take_left,hl] at oF;rw[←hl,List.drop_left,hl] at nz;obtain⟨C1,k1,k2⟩:=vNt ok (n:=n) hv.1 h1 oF;obtain⟨C2,k3,k4⟩:=yR3 ok (n:=n+(s.boxes (aP.take s.cells.length)).length) hv.2 h2 nz;refine⟨C1++C2,fun Ml lo=>(k1 Ml lo).append (k3 Ml lo),fun Ml lo hκ=>⟨k2 Ml lo fun i C hi=>hκ i C ?_,k4 Ml lo fun i C hi=>?_⟩⟩
   ·grind
   ·have hb:=(k1 Ml lo).length;have:=hκ (C1.length+i) C (by grind);grind
  ·cases h
def zK.below (M:zK)(Cs:List qA)(bs:List (List zY)):zK:={κ:=fun n=>Cs[n]?,F:=fun b=>b<M.H.size,G:=M.G,h:=lJ bs,H:=M.H}
theorem zK.below_lo M Cs bs:Lo M (M.below Cs bs):=⟨rfl,rfl,rfl⟩
theorem zK.below_ok {M}(ok:Ok M){Cs bs}(h:zL (v9 (M.below Cs bs)) Cs bs):Ok (M.below Cs bs)∧∀b,¬qM (M.below Cs bs) b:=by
 have hr:∀id o,(M.below Cs bs).h id=some o→∃cells,bs[id]? =some cells∧o=.robox cells:=fun id o e=>by
  have e:lJ bs id=some o:=e;unfold lJ at e;grind
 have H7:∀b,¬qM (M.below Cs bs) b:=fun b ⟨id,o,C,h1,h2,_,_⟩=>by
  obtain⟨cells,_,rfl⟩:=hr id o h1;cases h2
 refine⟨⟨fun id o e=>?_,fun id e=>?_,fun i j oi oj Ci Cj b _ h1 _ h3 _ _ _ _ _=>?_,by grind,fun b hb=>ok.Flt b (ok.GF b hb),fun b hb=>hb⟩,H7⟩
 ·obtain⟨cells,hc,rfl⟩:=hr id o e;have bh:id<bs.length:=by
   grind
  have kl:id<Cs.length:=by rw[h.length];omega
  obtain⟨B,vals,ev,q1,q2,q3,q4⟩:=h.get id kl bh;rw[List.getElem?_eq_getElem bh] at hc;cases hc;refine⟨Cs[id],List.getElem?_eq_getElem kl,B,vals,ev,q1,q2,q3,q4,?_⟩;exact(Array.getElem?_eq_some_iff.1 q3).1
 ·have e:lJ bs id=none:=e;unfold lJ at e;split at e
  ·cases e
  ·rename_i hc;show Cs[id]? =none;rw[List.getElem?_eq_none_iff] at hc⊢;rw[h.length];exact hc
 ·obtain⟨cells,_,rfl⟩:=hr i oi h1;cases h3
theorem Tm {M}(ok:Ok M){l as vs d}(hv:zL (zT M) as vs)(h:zz M.h l as=some d):
  ∃Ml:zK,Lo M Ml∧Ml.h=(pt l d).2∧Ok Ml∧(∀b,¬qM Ml b)∧zL (zT Ml) (pt l d).1 vs:=by
 unfold zz at h;split at h
 ·rename_i cs hg;obtain⟨Cs,h1,h2⟩:=yR3 ok (n:=0) hv hg (yLi ok h);have lo:=M.below_lo Cs (lI l (vY (l.flatMap AS.cells) d) 0).2;have:=zK.below_ok ok (h1 _ lo);exact⟨_,lo,rfl,this.1,this.2,h2 _ lo fun i C hi=>by rw[Nat.zero_add];exact hi⟩
 ·cases h
theorem wa {h0}:∀{l cs aP vs u M},Ok M→jC h0 M.h→zL (zX M) cs vs→gf h0 l cs=some (aP,u)→
  ∃L:zK,L.H=M.H∧L.h=qH M.h u∧Ok L∧vC M L∧zL (zX L) aP vs∧jC h0 L.h
 |[],cs,aP,vs,u,M,ok,hf,hc,h=>by
  cases cs<;>cases h<;>exact⟨M,rfl,rfl,ok,.refl M,hc,hf⟩
 |true::l,[],aP,vs,u,M,ok,hf,hc,h
 |false::l,[],aP,vs,u,M,ok,hf,hc,h=>by cases h;exact⟨M,rfl,rfl,ok,.refl M,hc,hf⟩
 |true::l,c::cs,aP,v::vs,u,M,ok,hf,hc,h=>by
  unfold gf at h;split at h
  ·rename_i c1 u1 mD rr e1 e2;cases h;obtain⟨M1,h1,h2,h3,h4,h5,h6,_⟩:=Ht ok hf hc.1 e1;obtain⟨M2,k1,k2,k3,k4,k5,k6⟩:=wa h3 h6 (hc.2.mono fun _ _ h=>h.ext h4.ext) e2;exact⟨M2,k1.trans h1,by rw[k2,h2,kX],k3,h4.trans k4,⟨h5.ext k4.ext,k5⟩,k6⟩
  ·cases h
 |false::l,c::cs,aP,v::vs,u,M,ok,hf,hc,h=>by
  unfold gf at h;split at h
  ·rename_i mD rr e2;cases h;obtain⟨M2,k1,k2,k3,k4,k5,k6⟩:=wa ok hf hc.2 e2;exact⟨M2,k1,k2,k3,k4,⟨hc.1.ext k4.ext,k5⟩,k6⟩
  ·cases h
def zK.add (M:zK)(nm:Nat)(o:Obj)(C:qA):zK:={M with κ:=κset M.κ nm C,h:=yG M.h nm o}
theorem zK.add_ok {M}(ok:Ok M){nm}(aS:M.h nm=none){o C}(hO:yW (M.add nm o C) o C)(hb:∀b∈C.fp,¬qM M b∧¬M.F b∧b<M.H.size):
  Ok (M.add nm o C)∧yL M (M.add nm o C)∧(∀b,qM (M.add nm o C) b→qM M b∨b∈C.fp):=by
 have x:yL M (M.add nm o C):=⟨fun id D h=>by
  have bm:id≠nm:=fun e=>by rw[e,ok.non nm aS] at h;cases h
  exact⟨D,by show κset M.κ nm _ id=_;rw[κset_ne _ _ bm];exact h,D.le_refl⟩,fun _ h=>h,fun _ h=>h,fun _ _=>rfl,fun _ _=>rfl,fun _ _=>rfl⟩
 refine⟨Ok.build ok x (fun id=>id=nm) (fun id h=>yO _ _ h) (fun id h=>κset_ne _ _ h) (fun _ _ _ _ _ _ _ _ _=>rfl) (fun id o' D h1 h2 h3 h4 b bF=>(ok.own b ⟨id,o',D,h2,h3,h4,bF⟩).1) (Nat.le_refl _)
  (fun id o' e h=>?_) (fun id e h=>?_) (fun id o' D b e h1 h2 h3 h4=>?_) ok.GF ok.Flt,x,fun b bF=>?_⟩
 ·subst e;have e1:(M.add id o C).h id=some o:=yK _ _ _;rw[e1] at h;cases h;exact⟨_,κset_same _ _ _,hO⟩
 ·have e1:(M.add id o C).h id=some o:=yK _ _ _;simp_all
 ·subst e;have e1:(M.add id o C).κ id=some C:=κset_same _ _ _;rw[e1] at h3;cases h3;obtain⟨k1,k2,k3⟩:=hb b h4;refine⟨fun j oj Cj hj q1 q2 q3 q4=>k1 ⟨j,oj,Cj,?_,q2,?_,q4⟩,k2,k3⟩
  ·rw[←q1];exact(yO _ _ hj).symm
  ·rw[←q3];exact(κset_ne _ _ hj).symm
 ·obtain⟨id,o',D,h1,h2,h3,h4⟩:=bF;by_cases e:id=nm
  ·have e1:(M.add id o C).κ id=some C:=κset_same _ _ _;simp_all
  ·exact .inl ⟨id,o',D,by rw[←h1];exact(yO _ _ e).symm,h2,by rw[←h3];exact(κset_ne _ _ e).symm,h4⟩
structure Up (L Mc:zK):Prop where
 H:Mc.H=L.H
 G:Mc.G=L.G
theorem yAu {L Mc}(up:Up L Mc){t xs C}(h:yW L (.arr true t xs) C):yW Mc (.arr true t xs) C:=by
 obtain⟨h1,h2,h3,h4⟩:=h;refine⟨h1,h2,h3,?_⟩;rw[up.H,up.G];exact h4
theorem vJg {L Mc}(up:Up L Mc){ver xs C}(h:yW L (.mat ver xs) C):yW Mc (.mat 0 xs) {C with ver:=0}:=by
 obtain⟨h1,h2⟩:=h;refine⟨rfl,?_⟩;rw[up.H];exact h2
theorem vUj {L Mc}(up:Up L Mc){ver n xs C}(h:yW L (.pmat ver xs n) C)(hn:xs.length=n):yW Mc (.mat 0 xs) {C with ver:=0}:=by
 obtain⟨h1,h2,h3,h4,h5,_,h6⟩:=h;refine⟨rfl,by rw[hn];exact h2,h3,h4,h5,?_⟩;rw[up.H];subst hn;simp_all
theorem vSo {L Mc}(up:Up L Mc){xs:List (List Int)}{C}(h:yW L (.arr true (.sl (.int .i64)) xs) C):yW Mc (.pmat 0 [] xs.length) {C with ver:=0}:=by
 obtain⟨h1,h2,h3,h4⟩:=h;have hr:=h3 rfl;refine⟨rfl,h1,h2,by simp_all,?_,by simp,?_⟩
 ·simp[qA.fp];grind
 ·cases hB:C.blk with
  |none=>simp_all
  |some B=>
   rw[hB] at h4;obtain⟨vals,e,h5,_,h7,_⟩:=h4;refine⟨vals,e,by rw[up.H];exact h5,by simpa[Ty.size] using h7,by simp⟩
theorem vIq {L Mc}(iG:Ok L)(ok:Ok Mc)(up:Up L Mc){nm}(aS:Mc.h nm=none){r c d}(h:pv L.h r c=some d)
  (hb:∀id∈wE [r] [c],∀C,L.κ id=some C→∀b∈C.fp,¬qM Mc b∧¬Mc.F b∧b<Mc.H.size):
  ∃eJ:zK,eJ.H=Mc.H∧eJ.G=Mc.G∧eJ.F=Mc.F∧eJ.h=qH Mc.h (rN nm r d).2∧Ok eJ∧yL Mc eJ∧
   (∀b,qM eJ b→qM Mc b∨∃id∈wE [r] [c],∃C,L.κ id=some C∧b∈C.fp)∧∀v,zX L c v→zX eJ (rN nm r d).1 v:=by
 have same : (rN nm r d).2 = [] → (∀ v, zX L c v → zX Mc (rN nm r d).1 v) → _ := fun e hv => (⟨Mc,rfl,rfl,rfl,by rw[e];rfl,ok,.refl Mc,by grind,hv⟩:
  ∃eJ:zK,eJ.H=Mc.H∧eJ.G=Mc.G∧eJ.F=Mc.F∧eJ.h=qH Mc.h (rN nm r d).2∧Ok eJ∧yL Mc eJ∧
   (∀b,qM eJ b→qM Mc b∨∃id∈wE [r] [c],∃C,L.κ id=some C∧b∈C.fp)∧∀v,zX L c v→zX eJ (rN nm r d).1 v)
 unfold pv at h;split at h
 ·rename_i k j n;cases e:fW j k with
  |false=>rw[e] at h;cases h
  |true=>
   rw[e] at h;cases h;exact same rfl fun v hv=>by rw[←sU e];exact hv
 ·cases h;exact same rfl fun v hv=>hv
 ·obtain⟨e,hx⟩:=kY h;subst e;subst hx;refine same rfl fun v hv=>?_
  show qC Mc.H Mc.G _ _ _;rw[up.H,up.G];exact hv
 ·cases h;refine same rfl fun v hv=>?_
  rw[show v=.slice none 0 0 from hv];exact H6
 ·rename_i t id;split at h
  ·rename_i s xs an;obtain⟨e,hx⟩:=kY h;subst e;subst hx;obtain⟨C,hC,hO⟩:=iG.obj id _ an;obtain⟨k1,k2,k3⟩:=zK.add_ok ok aS (o:=.arr true s xs) (C:=C) (yAu (Mc:=Mc.add nm (.arr true s xs) C) ⟨up.H,up.G⟩ hO) (hb id (by simp[wE]) C hC);refine⟨Mc.add nm (.arr true s xs) C,rfl,rfl,rfl,rfl,k1,k2,fun b bF=>(k3 b bF).imp (fun h=>h) fun h=>⟨id,by simp[wE],C,hC,h⟩,fun v hv=>?_⟩;obtain⟨C',aD,hS⟩:=hv;rw[hC] at aD;cases aD;refine⟨C,κset_same _ _ _,?_⟩;show jA Mc.H C 0 C.len v;rw[up.H];exact hS
  ·cases h
 ·rename_i t id n;split at h
  ·rename_i s xs an;obtain⟨e,hx⟩:=kY h;subst e;subst hx;obtain⟨C,hC,hO⟩:=iG.obj id _ an;let C':qA:={C with len:=(xs.take n).length};have tm:yW (Mc.add nm (.arr true s (xs.take n)) C') (.arr true s (xs.take n)) C':=by
    obtain⟨q1,q2,q3,q4⟩:=yAu (Mc:=Mc.add nm (.arr true s (xs.take n)) C') ⟨up.H,up.G⟩ hO;refine⟨rfl,q2,q3,?_⟩;show match C.blk with
     |none=>_
     |some B=>_
    cases hB:C.blk with
    |none=>rw[hB] at q4;show xs.take n=[];rw[q4];simp
    |some B=>
     rw[hB] at q4;obtain⟨vals,e,r1,r2,r3,r4⟩:=q4;have hle:(xs.take n).length≤xs.length:=by rw[List.length_take];omega
     have:=Nat.mul_le_mul_right s.size hle;refine⟨vals,e,r1,r2,by omega,fun i hi=>?_⟩;rw[List.getElem_take];exact r4 i (by omega)
   obtain⟨k1,k2,k3⟩:=zK.add_ok ok aS (o:=.arr true s (xs.take n)) (C:=C') tm (hb id (by simp[wE]) C hC);refine⟨Mc.add nm (.arr true s (xs.take n)) C',rfl,rfl,rfl,rfl,k1,k2,fun b bF=>(k3 b bF).imp (fun h=>h) fun h=>⟨id,by simp[wE],C,hC,h⟩,fun v hv=>?_⟩;obtain⟨C1,iE,h1,hS,_⟩:=hv;rw[hC] at iE;cases iE;have hl:(xs.take n).length=n:=by rw[List.length_take,←hO.1];omega
   refine⟨C',κset_same _ _ _,?_⟩;show jA Mc.H C' 0 (xs.take n).length v;rw[hl,up.H];exact hS
  ·cases h
 ·rename_i t;cases h;obtain⟨k1,k2,k3⟩:=Mc.nilObj_ok ok aS t false;refine⟨Mc.nilObj nm (kB t false) (lH t false),rfl,rfl,rfl,rfl,k1,k2,by grind,fun v hv=>?_⟩;rw[show v=.slice none 0 0 from hv];exact⟨_,κset_same _ _ _,none,0,rfl,rfl,rfl,rfl⟩
 ·rename_i id;split at h
  ·rename_i ver xs an;cases h;obtain⟨C,hC,hO⟩:=iG.obj id _ an;obtain⟨k1,k2,k3⟩:=zK.add_ok ok aS (o:=.mat 0 d) (C:={C with ver:=0}) (vJg (Mc:=Mc.add nm (.mat 0 d) {C with ver:=0}) ⟨up.H,up.G⟩ hO) (hb id (by simp[wE]) C hC);refine⟨Mc.add nm (.mat 0 d) {C with ver:=0},rfl,rfl,rfl,rfl,k1,k2,fun b bF=>(k3 b bF).imp (fun h=>h) fun h=>⟨id,by simp[wE],C,hC,h⟩,fun v hv=>?_⟩;obtain⟨C',aD,hS⟩:=hv;rw[hC] at aD;cases aD;refine⟨_,κset_same _ _ _,?_⟩;show jA Mc.H C 0 C.len v;rw[up.H];exact hS
  ·rename_i ver xs n an;obtain⟨hc,h⟩:Nat.beq xs.length n=true∧some xs=some d:=by
    cases e:Nat.beq xs.length n with
    |true=>rw[e] at h;exact⟨rfl,h⟩
    |false=>rw[e] at h;cases h
   cases h;obtain⟨C,hC,hO⟩:=iG.obj id _ an;obtain⟨k1,k2,k3⟩:=zK.add_ok ok aS (o:=.mat 0 d) (C:={C with ver:=0}) (vUj (Mc:=Mc.add nm (.mat 0 d) {C with ver:=0}) ⟨up.H,up.G⟩ hO (Nat.eq_of_beq_eq_true hc)) (hb id (by simp[wE]) C hC);refine⟨Mc.add nm (.mat 0 d) {C with ver:=0},rfl,rfl,rfl,rfl,k1,k2,fun b bF=>(k3 b bF).imp (fun h=>h) fun h=>⟨id,by simp[wE],C,hC,h⟩,fun v hv=>?_⟩;obtain⟨C',aD,hS⟩:=hv;rw[hC] at aD;cases aD;refine⟨_,κset_same _ _ _,?_⟩;show jA Mc.H C 0 C.len v;rw[up.H];exact hS
  ·cases h
 ·cases h;obtain⟨k1,k2,k3⟩:=Mc.nilObj_ok ok aS (.int .i64) true;refine⟨Mc.nilObj nm (kB (.int .i64) true) (lH (.int .i64) true),rfl,rfl,rfl,rfl,k1,k2,by grind,fun v hv=>?_⟩;rw[show v=.slice none 0 0 from hv];exact⟨_,κset_same _ _ _,none,0,rfl,rfl,rfl,rfl⟩
 ·rename_i id;split at h
  ·rename_i xs an;cases h;obtain⟨C,hC,hO⟩:=iG.obj id _ an;obtain⟨k1,k2,k3⟩:=zK.add_ok ok aS (o:=.pmat 0 [] xs.length) (C:={C with ver:=0}) (vSo (Mc:=Mc.add nm (.pmat 0 [] xs.length) {C with ver:=0}) ⟨up.H,up.G⟩ hO) (hb id (by simp[wE]) C hC);refine⟨Mc.add nm (.pmat 0 [] xs.length) {C with ver:=0},rfl,rfl,rfl,rfl,k1,k2,fun b bF=>(k3 b bF).imp (fun h=>h) fun h=>⟨id,by simp[wE],C,hC,h⟩,fun v hv=>?_⟩;obtain⟨C',aD,hS⟩:=hv;rw[hC] at aD;cases aD;refine⟨_,κset_same _ _ _,?_⟩;show jA Mc.H C 0 C.len v;rw[up.H];exact hS
  ·cases h
 ·cases h;obtain⟨k1,k2,k3⟩:=zK.add_ok ok aS (o:=.pmat 0 [] 0) (C:=⟨none,0,1,0,[]⟩) ⟨rfl,rfl,rfl,rfl,by simp[qA.fp],Nat.le_refl _,rfl⟩ (nofun);refine⟨Mc.add nm (.pmat 0 [] 0) ⟨none,0,1,0,[]⟩,rfl,rfl,rfl,rfl,k1,k2,fun b bF=>(k3 b bF).imp (fun h=>h) nofun,fun v hv=>?_⟩;rw[show v=.slice none 0 0 from hv];exact⟨_,κset_same _ _ _,none,0,rfl,rfl,rfl,rfl⟩
 ·rename_i id;split at h
  ·rename_i cY an;cases h;obtain⟨C,hC,hO⟩:=iG.obj id _ an;have tm:yW (Mc.add nm (.imap d) C) (.imap d) C:=by
    obtain⟨B,es,ck,h1,h2,h3,h4,h5⟩:=hO;refine⟨B,es,ck,h1,h2,?_,h4,h5⟩;show Mc.H[B]? =_;rw[up.H];exact h3
   obtain⟨k1,k2,k3⟩:=zK.add_ok ok aS (o:=.imap d) (C:=C) tm (hb id (by simp[wE]) C hC);refine⟨Mc.add nm (.imap d) C,rfl,rfl,rfl,rfl,k1,k2,fun b bF=>(k3 b bF).imp (fun h=>h) fun h=>⟨id,by simp[wE],C,hC,h⟩,fun v hv=>?_⟩;obtain⟨C',B,aD,hB,e⟩:=hv;rw[hC] at aD;cases aD;exact⟨C,B,κset_same _ _ _,hB,e⟩
  ·cases h
 ·exact same rfl fun v hv=>hv
 ·exact same rfl fun v hv=>hv.one
 ·exact same rfl fun v hv=>hv
 ·cases h
theorem MG r c l cs:wE (r::l) (c::cs)=wE [r] [c]++wE l cs:=by
 cases r<;>cases c<;>rfl
theorem vBb {nm r d n}(h:n≠nm) hh:qH hh (rN nm r d).2 n=hh n:=by
 cases r<;>first|rfl|exact yO _ _ h
theorem Tn {h}:∀{n nm},vy h nm n=true→∀i,i<n→h (nm+i)=none
 |n+1,nm,e,i,hi=>by
  unfold vy at e;rw[Bool.and_eq_true] at e;cases i with
  |zero=>
   grind
  |succ i=>rw[←Tn e.2 i (by omega)];grind
theorem To {L:zK}(iG:Ok L):∀{l:List RC} {cs:List zY} {d:RL l} {nm:Nat} {Mc:zK},Ok Mc→Up L Mc→(∀i,i<l.length→Mc.h (nm+i)=none)→kE L.h l cs=some d→(wE l cs).Nodup→
  (∀id∈wE l cs,∃o,L.h id=some o∧o.owned=true)→
  (∀id∈wE l cs,∀C,L.κ id=some C→∀b∈C.fp,¬qM Mc b∧¬Mc.F b∧b<Mc.H.size)→
  ∃eJ:zK,eJ.H=Mc.H∧eJ.G=Mc.G∧eJ.F=Mc.F∧eJ.h=qH Mc.h (oD nm l d).2∧Ok eJ∧yL Mc eJ∧
   (∀b,qM eJ b→qM Mc b∨∃id∈wE l cs,∃C,L.κ id=some C∧b∈C.fp)∧∀vs,zL (zX L) cs vs→zL (zX eJ) (oD nm l d).1 vs
 |[],[],d,nm,Mc,ok,up,_,_,_,_,_=>⟨Mc,rfl,rfl,rfl,rfl,ok,.refl Mc,fun b h=>.inl h,fun vs h=>by
  cases vs with
  |nil=>trivial
  |cons _ _=>exact h.elim⟩
 |r::l,c::cs,d,nm,Mc,ok,up,hf,h,dF,aL,hb=>by
  unfold kE at h;split at h
  ·rename_i x xs e1 e2;cases h;rw[MG] at dF aL hb;obtain⟨nd1,nd2,nd3⟩:=List.nodup_append.1 dF;obtain⟨M1,a1,a2,a3,a4,a5,a6,a7,a8⟩:=vIq iG ok up (by have:=hf 0 (by simp);simpa using this) e1 (by grind);have up1:Up L M1:=⟨a1.trans up.H,a2.trans up.G⟩;obtain ⟨M2, b1, b2, b3, b4, b5, b6, b7, b8⟩ := To iG (nm := nm + 1) a5 up1 (fun i hi=>by
     rw[a4,vBb (by omega)];have:=hf (i+1) (by simp;omega);grind) e2 nd2 (fun id an => aL id (by grind)) (fun id an C hC b C8=>by
     obtain⟨q1,q2,q3⟩:=hb id (List.mem_append_right _ an) C hC b C8;refine⟨fun ho=>?_,by simp_all,by simp_all⟩;rcases a7 b ho with ho|⟨jd,cZ,D,hD,Tp⟩
     ·exact q1 ho
     ·have bm:id≠jd:=by grind
      obtain⟨o1,p1,p2⟩:=aL id (by grind);obtain⟨o2,p3,p4⟩:=aL jd (List.mem_append_left _ cZ);exact iG.disj id jd o1 o2 C D b bm p1 p3 p2 p4 hC hD C8 Tp)
   refine⟨M2,b1.trans a1,b2.trans a2,b3.trans a3,?_,b5,a6.trans (by simp_all) b6,fun b bF=>?_,fun vs dE=>?_⟩
   ·show M2.h=qH Mc.h ((rN nm r x).2++(oD (nm+1) l xs).2);rw[kX,←a4];exact b4
   ·rw[MG];grind
   ·cases vs with
    |nil=>exact dE.elim
    |cons v vs=>exact⟨(a8 v dE.1).ext b6,b8 vs dE.2⟩
  ·cases h
 |[],_::_,_,_,_,_,_,_,h,_,_,_=>by cases h
 |_::_,[],_,_,_,_,_,_,h,_,_,_=>by cases h
theorem wJ {α:Type}{c x}{y:α}(h:(bif c then x else none)=some y):c=true∧x=some y:=by
 grind
theorem yYf {M}:∀{l xs cs vs},Td l xs=some cs→zL (vj M) xs vs→
  cs.length=(l.flatMap (·.2)).length∧∃us:List Value,zL (zX M) cs us∧∀M' aP,zL (zX M') aP us→zL (vj M') (Te l aP) vs
 |[],[],cs,[],h,_=>by cases h;exact⟨rfl,[],trivial,fun _ _ _=>trivial⟩
 |(b,l)::ls,(g,mD)::rest,cs,v::vs,h,hv=>by
  obtain⟨hc,h⟩:=wJ h;split at h
  ·rename_i r hr;cases h;rw[Bool.and_eq_true] at hc;have hl:mD.length=l.length:=by simp_all
   obtain⟨k1,us,k2,k3⟩:=yYf hr hv.2;refine⟨by simp_all,?_⟩;cases b with
   |true=>
    have hg:g=true:=hc.1;subst hg;obtain⟨ws,rfl,hw⟩:=hv.1;refine⟨ws.toList++us,hw.append k2,fun M' aP h'=>⟨?_,?_⟩⟩
    ·have h1:=zL.take l.length h';have Tq:=hw.length;rw[show(ws.toList++us).take l.length=ws.toList from by simp_all] at h1;exact⟨ws,rfl,h1⟩
    ·have h1:=zL.drop l.length h';have Tq:=hw.length;simp_all
   |false=>
    have hg:=hc.1;simp  at hg;obtain⟨MH,hg2⟩:=hg;subst MH;have tt:mD.length=1:=by simp_all
    match mD,tt with
    |[c],_=>
     have nu:zX M c v:=hv.1;refine⟨v::us,⟨nu,k2⟩,fun M' aP h'=>?_⟩
     match aP,h' with
     |c'::Ts,h'=>
      have e:l.length=1:=by omega
      refine⟨?_,?_⟩
      ·rw[e];exact h'.1
      ·rw[e];exact k3 M' Ts h'.2
  ·cases h
 |[],[],_,_::_,_,hv=>hv.elim
theorem yDp {M}{s:RS}{v cs rv}(h:s.get v=some cs)(hv:zT M v rv):
  cs.length=s.cells.length∧∃us:List Value,zL (zX M) cs us∧∀M' aP,zL (zX M') aP us→zT M' (s.mk aP) rv:=by
 unfold RS.get at h;split at h
 ·cases h;refine⟨rfl,[rv],⟨hv,trivial⟩,fun M' aP h'=>?_⟩
  match aP,h' with
  |[c'],h'=>exact h'.1
 ·obtain⟨hl,h⟩:=wJ h;cases h;obtain⟨vs,rfl,hx⟩:=hv;exact⟨Nat.eq_of_beq_eq_true hl,vs.toList,hx,fun M' aP h'=>⟨vs,rfl,h'⟩⟩
 ·obtain⟨vs,rfl,hx⟩:=hv;obtain⟨k1,us,k2,k3⟩:=yYf h hx;exact⟨k1,us,k2,fun M' aP h'=>⟨vs,rfl,by grind⟩⟩
 ·cases h
theorem vHf {h0 s a a' v u M}(ok:Ok M)(hf:jC h0 M.h)(hv:zT M a v)(h:vz h0 s a=some (a',u)):
  ∃L:zK,L.H=M.H∧L.h=qH M.h u∧Ok L∧vC M L∧zT L a' v∧jC h0 L.h:=by
 unfold vz at h;split at h
 ·rename_i p x;split at h
  ·rename_i y u1 e;cases h;obtain⟨L,h1,h2,h3,h4,h5,h6⟩:=wa (cs:=[x]) (vs:=[v]) ok hf ⟨hv,trivial⟩ e;exact⟨L,h1,h2,h3,h4,h5.1,h6⟩
  ·cases h
 ·split at h
  ·rename_i ys u1 e;cases h;obtain⟨vs,rfl,hx⟩:=hv;obtain⟨L,h1,h2,h3,h4,h5,h6⟩:=wa ok hf hx e;exact⟨L,h1,h2,h3,h4,⟨vs,rfl,h5⟩,h6⟩
  ·cases h
 ·cases h;exact⟨M,rfl,rfl,ok,.refl M,hv,hf⟩
theorem wb.ext {M M'}(x:yL M M'):∀{as vs},zL (zT M) as vs→zL (zT M') as vs:=fun h=>h.mono fun _ _ h=>h.ext x
theorem yVi {h0}:∀{l as eN vs u M},Ok M→jC h0 M.h→zL (zT M) as vs→rO h0 l as=some (eN,u)→
  ∃L:zK,L.H=M.H∧L.h=qH M.h u∧Ok L∧vC M L∧zL (zT L) eN vs∧jC h0 L.h
 |s::l,a::as,eN,v::vs,u,M,ok,hf,hv,h=>by
  unfold rO at h;split at h
  ·rename_i a1 u1 Tt rr e1 e2;cases h;obtain⟨M1,h1,h2,h3,h4,h5,h6⟩:=vHf ok hf hv.1 e1;obtain⟨M2,k1,k2,k3,k4,k5,k6⟩:=yVi h3 h6 (wb.ext h4.ext hv.2) e2;exact⟨M2,k1.trans h1,by rw[k2,h2,kX],k3,h4.trans k4,⟨h5.ext k4.ext,k5⟩,k6⟩
  ·cases h
 |[],as,eN,vs,u,M,ok,hf,hv,h=>by
  cases as<;>cases h<;>exact⟨M,rfl,rfl,ok,.refl M,hv,hf⟩
 |s::l,[],eN,vs,u,M,ok,hf,hv,h=>by cases h;exact⟨M,rfl,rfl,ok,.refl M,hv,hf⟩
def zK.over (M L:zK):zK:={κ:=M.κ,F:=fun b=>M.F b∨L.G b,G:=L.G,h:=M.h,H:=L.H}
theorem zK.over_ok {M Ml L}(ok:Ok M)(iG:Ok L)(lo:Lo M Ml)(H7:∀b,¬qM Ml b)(g:ju Ml L):Ok (M.over L)∧vC M (M.over L):=by
 have bh:∀b,Ml.F b↔b<M.H.size:=fun b=>by rw[lo.F]
 have cQ:∀b,b<M.H.size→L.H[b]? =M.H[b]? :=fun b hb=>by rw[g.same b (by grind),lo.H]
 have dV:M.H.size≤L.H.size:=by grind
 have hG:∀b,L.G b→b<M.H.size→M.G b:=fun b hb hs=>by
  rcases g.Gb b hb (by rw[lo.H];exact hs) with h|h
  ·rw[lo.G] at h;exact h
  simp_all
 have kl:∀b,M.F b→b<M.H.size:=ok.Flt;have x:yL M (M.over L):=⟨fun id C h=>⟨C,h,C.le_refl⟩,fun b h=>.inl h,fun b h=>g.G b (by rw[lo.G];exact h),fun b h=>cQ b (by grind),fun b h=>cQ b (ok.Flt b (ok.GF b h)),fun b h=>CA (cQ b h)⟩;have aL:∀b,qM (M.over L) b→qM M b:=fun b h=>h
 refine⟨⟨fun id o h=>?_,fun id h=>ok.non id h,ok.disj,fun b h=>⟨fun hf=>?_,?_⟩,fun b h=>.inr h,fun b h=>?_⟩,⟨x,dV,fun b hb _=>cQ b hb,by grind,fun b h hs=>.inl (hG b h hs),fun b h hs=>?_⟩⟩
 ·obtain⟨C,hC,hO⟩:=ok.obj id o h;exact⟨C,hC,hO.ext x fun ho b hb=>cQ b (ok.own b ⟨id,o,C,h,ho,hC,hb⟩).2⟩
 ·have:=ok.own b (aL b h);rcases hf with hf|hf
  ·simp_all
  ·exact this.1 (ok.GF b (by grind))
 ·have h1:=(ok.own b (aL b h)).2;show b<L.H.size;omega
 ·show b<L.H.size;rcases h with h|h
  ·grind
  ·exact iG.Flt b (iG.GF b h)
 ·rcases h with h|h
  ·simp_all
  ·exact .inl (ok.GF b (hG b h hs))
theorem vPq {h0 r c d}(h:pv h0 r c=some d):∀id∈wE [r] [c],∃o,h0 id=some o∧o.owned=true:=by
 unfold pv at h;split at h;all_goals (try (intro id an;simp[wE] at an;done))
 ·intro CZ an;have:=List.mem_singleton.1 an;subst this;split at h
  ·exact⟨_,by assumption,rfl⟩
  ·cases h
 ·intro CZ an;have:=List.mem_singleton.1 an;subst this;split at h
  ·exact⟨_,by omega,rfl⟩
  ·cases h
 ·rename_i id;intro CZ an;have:=List.mem_singleton.1 an;subst this;split at h
  ·exact⟨_,by assumption,rfl⟩
  ·exact⟨_,by omega,rfl⟩
  ·cases h
 ·intro CZ an;have:=List.mem_singleton.1 an;subst this;split at h
  ·exact⟨_,by assumption,rfl⟩
  ·cases h
 ·intro CZ an;have:=List.mem_singleton.1 an;subst this;split at h
  ·exact⟨_,by assumption,rfl⟩
  ·cases h
 ·cases h
theorem wc {L:zK}:∀{l cs d},kE L.h l cs=some d→∀id∈wE l cs,∃o,L.h id=some o∧o.owned=true
 |r::l,c::cs,d,h,id,an=>by
  unfold kE at h;split at h
  ·rename_i x xs e1 e2;rw[MG] at an;rcases List.mem_append.1 an with an|an
   ·exact vPq e1 id an
   ·exact wc e2 id an
  ·cases h
theorem yIk {E}(hE:gd E)(hS:jt E.sums)(hm:E.P.follows .mixedOrders=true){A k pre na f fn}(hf:E.P.funcs[f]? =some fn)(hL:∀c,fn.body=some c→wF E.P A pre na fn.ntmps c)(ca:∀vs w,(callFunc f vs).run E.P w=.ok (.enter f vs) w)
  {as rs X S pack} {unpack:RL rs.cells→X} (fi:∀d,pack (unpack d)=d) (aQ:∀d x,S d=some x→∀Ml vs,zL (zT Ml) (pt as d).1 vs→∃eK,zL (zT Ml) eK vs∧kk E A k pre na fn eK (pt as d).2 (mH rs unpack)=some x)
  {nm args h v u} (hy:yI (oE as rs S pack nm args h) v u):tE E.P f args h v u:=by
 intro M w vs hh hH ok hv;refine .inl ⟨ca vs w,?_⟩;unfold oE at hy;split at hy
 ·exact hy.elim
 rename_i eK u0 z9;split at hy
 case h_2=>exact hy.elim
 rename_i d hd;obtain⟨hc,hy⟩:=zk hy;rw[Bool.and_eq_true] at hc;obtain⟨x,hx,rfl,rfl⟩:=hy;subst hh;obtain⟨M1,a1,a2,a3,a4,a5,a6⟩:=yVi ok (jC.refl _) hv z9;rw[←a2] at hd;obtain⟨Ml,lo,b2,b3,b4,b5⟩:=Tm a3 a5 hd;obtain⟨aa1,Au,Tu⟩:=aQ d x hx Ml _ b5;refine Calls.mono (Tb hE hS hm hf hL Tu b2 (by rw[lo.H,a1];exact hH) b3 Au) fun e w' he=>?_
 cases e with
 |panicked _=>omega
 |outgrown=>omega
 |returned rv=>
  obtain⟨L0,v0,st,hK,c1,c2,c3,c4,_,c5,c6,c7,c8,_⟩:=he;have hK:H5 st.h rs v0=some (pack x):=by
   unfold mH at hK;grind
  unfold H5 at hK;split at hK
  case h_2=>cases hK
  rename_i cs nA;split at hK
  case h_2=>cases hK
  rename_i aP u1 Av;obtain⟨dF,hK⟩:=wJ hK;obtain⟨hlen,us,d1,d2⟩:=yDp nA c5;rw[←c1] at Av hK;obtain⟨L,e1,e2,e3,e4,e5,e6⟩:=wa c3 (jC.refl _) d1 Av;rw[←e2] at hK;have g:ju Ml L:=c4.trans e4.grow;obtain⟨f1,f2⟩:=zK.over_ok a3 e3 lo b4 g;have pw:∀i,i<rs.cells.length→(M1.over L).h (nm+i)=none:=fun i hi=>by
   have h1:=Tn hc.1 i hi;show M1.h (nm+i)=none;rcases a6 (nm+i) with h|⟨own,t,xs,h,_⟩|⟨ver,xs,h,_⟩
   all_goals simp_all
  obtain ⟨Mc, g1, g2, g3, g4, g5, g6, g7, g8⟩ := To e3 f1 ⟨rfl, rfl⟩ pw hK (CU dF) (wc hK) (fun id an C hC b hb=>by
   obtain⟨o,ho,iF⟩:=wc hK id an;have aL:qM L b:=⟨id,o,C,ho,iF,hC,hb⟩;have og:¬b<M1.H.size:=fun bh=>b4 b (g.own b aL (by rw[lo.H];omega))
   refine⟨fun h=>og (a3.own b h).2,fun h=>?_,(e3.own b aL).2⟩;rcases h with h|h
   ·exact og (a3.Flt b h)
   ·exact(e3.own b aL).1 (e3.GF b h))
  have Tv:vC M1 Mc:=by
   have aL:∀b,qM Mc b→b<M1.H.size→qM M1 b:=fun b hb bh=>by
    rcases g7 b hb with h|⟨id,an,C,hC,C8⟩
    ·exact h
    ·obtain⟨o,ho,iF⟩:=wc hK id an;exact absurd (g.own b ⟨id,o,C,ho,iF,hC,C8⟩ (by rw[lo.H];omega)) (b4 b)
   refine⟨f2.ext.trans f2.size g6,?_,fun b hb hn=>?_,aL,fun b hb bh=>?_,fun b hb bh=>?_⟩
   ·rw[g1];exact f2.size
   ·rw[g1];exact f2.frame b hb hn
   ·rw[g2] at hb;exact f2.Gb b hb bh
   ·rw[g3] at hb;exact f2.Fb b hb bh
  refine⟨Mc,⟨c6,c7,c8,?_,?_,g5,a4.trans Tv⟩,?_⟩
  ·rw[g1];show L.H=_;rw[e1,c2]
  ·rw[kX,←a2];exact g4
  ·exact d2 Mc _ (g8 us e5)
theorem vH3 {E}(hE:gd E)(hS:jt E.sums)(hm:E.P.follows .mixedOrders=true){A k pre na f fn}(hf:E.P.funcs[f]? =some fn)(hL:∀c,fn.body=some c→wF E.P A pre na fn.ntmps c)(ca:∀vs w,(callFunc f vs).run E.P w=.ok (.enter f vs) w)
  {as rs X S} {pack:X→RL rs.cells} {unpack} (fi:∀d,pack (unpack d)=d) (aQ:∀d,kk E A k pre na fn (pt as d).1 (pt as d).2 (mH rs unpack)=S d)
  {nm args h v u} (hy:yI (oE as rs S pack nm args h) v u):tE E.P f args h v u:=
 yIk hE hS hm hf hL ca fi (fun d x hx _ _ hv=>⟨_,hv,(aQ d).trans hx⟩) hy
theorem vZd {E}(hE:gd E)(hS:jt E.sums)(hm:E.P.follows .mixedOrders=true){A k pre na f fn}(hf:E.P.funcs[f]? =some fn)(hL:∀c,fn.body=some c→wF E.P A pre na fn.ntmps c)(ca:∀vs w,(callFunc f vs).run E.P w=.ok (.enter f vs) w)
  {sh t rs X} {S:List t.den→Option X} {pack unpack} (fi:∀d,pack (unpack d)=d) (cJ:∀x,S []=some x→kk E A k pre na fn [.c .nsl] (lJ []) (mH rs unpack)=some x)
  (aQ:∀xs x,S xs=some x→kk E A k pre na fn [.c (.nfl sh t xs)] (lJ []) (mH rs unpack)=some x)
  {nm args h v u} (hy:yI (oE [.c (.dat sh t)] rs (fun d=>S d.1) pack nm args h) v u):tE E.P f args h v u:=
 yIk hE hS hm hf hL ca fi (fun d x hx Ml vs hv=>by
  obtain⟨xs,_⟩:=d
  match vs,hv with
  |[v],hv=>
   have nu:qC Ml.H (bif sh then Ml.G else Ml.F) (.sl t) xs (fun _=>some v):=hv.1;have pg:=nu;simp[qC] at nu;obtain⟨A',n,c,rfl,hn,hc,h⟩:=nu;cases A' with
   |some a=>exact⟨[.c (.nfl sh t xs)],⟨⟨by simp,pg⟩,trivial⟩,aQ xs x hx⟩
   |none=>
    rcases h with⟨rfl,h0⟩|⟨B,o,e,_⟩
    ·have h0:=h0 rfl;subst h0;subst hn;exact⟨[.c .nsl],⟨rfl,trivial⟩,cJ x hx⟩
    ·cases e) hy
def yQ.orElse:yQ→yQ→yQ
 |.alts [],b=>b
 |a,_=>a
abbrev nB:=Nat→Nat→List zW→Hp→yQ
def fj:List (Nat×nB)→LF
 |[],_,_,_,_,_=>.stuck
 |(g,e)::l,k,nm,f,args,h=>bif Nat.beq g f then(e k nm args h).orElse (fj l k nm f args h) else fj l k nm f args h
def yI0 (P:Program)(r:Nat×nB):Prop:=∀k nm args h v u,yI (r.2 k nm args h) v u→tE P r.1 args h v u
def H8 (e:nB):Prop:=∀k nm (args:List zW) h h',(args.any wQ=false→∀id,(id∈args.flatMap yN∨nj nm id=true)→h id=h' id)→(args.any wQ=true→h=h')→e k nm args h=e k nm args h'
theorem vH9 {a b v u}(h:yI (a.orElse b) v u):yI a v u∨yI b v u:=by
 unfold yQ.orElse at h;grind
theorem yWg {P}:∀{l},(∀r∈l,yI0 P r)→yYo P (fj l)
 |[],_=>nofun
 |(g,e)::l,hl=>fun k nm f args h v u hy=>by
  have ih:=yWg (l:=l) fun r hr=>hl r (by grind)
  unfold fj at hy;cases hg:Nat.beq g f with
  |false=>rw[hg] at hy;exact ih k nm f args h v u hy
  |true=>
   rw[hg] at hy;have:g=f:=by simp_all
   subst this;rcases vH9 hy with hy|hy
   ·exact hl (g,e) (by simp) k nm args h v u hy
   ·exact ih k nm g args h v u hy
theorem yT2:∀{l},(∀r∈l,H8 r.2)→jt (fj l)
 |[],_=>fun k nm f args h h' _ _=>rfl
 |(g,e)::l,hl=>fun k nm f args h h' h1 h2=>by
  have ih:=yT2 (l:=l) (by grind) k nm f args h h' h1 h2;unfold fj;have he:e k nm args h=e k nm args h':=hl (g,e) (by simp) k nm args h h' h1 h2;rw[ih,he]
section
variable {h h':Hp}
theorem Tw {t c}(hh:∀id∈vL c,h id=h' id):zx h t c=zx h' t c:=by
 have e:=Mv hh;unfold zx;grind
theorem yNn {p c}(hh:∀id∈vL c,h id=h' id):tK h p c=tK h' p c:=by
 have e:=fun t=>Tw (t:=t) hh
 unfold tK;grind
theorem yV1:∀{l cs},(∀id∈cs.flatMap vL,h id=h' id)→zy h l cs=zy h' l cs
 |[],[],_
 |[],_::_,_
 |_::_,[],_=>rfl
 |p::l,c::cs,hh=>by
  simp  at hh;unfold zy;rw[yNn fun id hi=>hh id (.inl hi),yV1 (by grind)]
theorem Tx {ls}:tL h ls []=tL h' ls []:=by
 cases ls<;>rfl
theorem vRs {s:AS}{a}(hb:wQ a=false):s.get h a=s.get h' a:=by
 unfold AS.get;cases s with
 |c p=>grind
 |agg l=>grind
 |ptr l=>
  cases a with
  |c x=>cases x<;>first|rfl|(exact absurd hb (by nofun))
  |_=>rfl
 |fn f bA=>
  cases a with
  |c x=>cases x with
   |fn g ids=>
    cases ids with
    |nil=>dsimp only;rw[Tx]
    |cons _ _=>exact absurd hb (by nofun)
   |_=>rfl
  |_=>rfl
theorem vG1 {s:AS}{a cs}(hb:wQ a=false)(e:s.get h a=some cs):∀id∈cs.flatMap vL,id∈yN a:=by
 unfold AS.get at e;split at e
 ·cases e;intro id an;simp  at an;exact an
 ·obtain⟨_,e⟩:=wJ e;cases e;exact fun id an=>an
 ·exact absurd hb (by nofun)
 ·rename_i f bA g ids;obtain⟨_,e⟩:=wJ e;cases ids with
  |nil=>cases bA with
   |nil=>cases e;simp
   |cons _ _=>cases e
  |cons _ _=>exact absurd hb (by nofun)
 ·cases e
theorem ySm:∀{l as},as.any wQ=false→rM h l as=rM h' l as
 |[],[],_
 |[],_::_,_
 |_::_,[],_=>rfl
 |s::l,a::as,hb=>by
  simp only[List.any_cons,Bool.or_eq_false_iff] at hb;unfold rM;rw[vRs (h:=h) (h':=h') hb.1,ySm hb.2]
theorem yPi:∀{l as cs},as.any wQ=false→rM h l as=some cs→∀id∈cs.flatMap vL,id∈as.flatMap yN
 |[],[],cs,_,e=>by cases e;simp
 |s::l,a::as,cs,hb,e=>by
  simp only[List.any_cons,Bool.or_eq_false_iff] at hb;unfold rM at e;split at e
  ·rename_i c1 rest e1 e2;cases e;intro id an;rw[List.flatMap_append,List.mem_append] at an;rw[List.flatMap_cons,List.mem_append];rcases an with an|an
   ·exact .inl (vG1 hb.1 e1 id an)
   ·exact .inr (yPi hb.2 e2 id an)
  ·cases e
theorem vCb {l as}(hb:as.any wQ=false)(hh:∀id∈as.flatMap yN,h id=h' id):zz h l as=zz h' l as:=by
 unfold zz;rw[ySm (h:=h) (h':=h') hb];cases e:rM h' l as with
 |none=>rfl
 |some cs=>exact yV1 fun id an=>hh id (yPi hb e id an)
theorem C9 {x}:[x].flatMap vL=yN (.c x):=by simp[yN]
theorem Tz {c c' u}(e:oc h c=some (c',u)):(∀id∈vL c',id∈vL c)∧(wQ (.c c')=true→wQ (.c c)=true):=by
 cases c with
 |osl id r=>
  unfold oc at e;dsimp only at e;split at e
  ·cases e;exact⟨nofun,nofun⟩
  ·cases r with
   |none=>cases e;exact⟨nofun,nofun⟩
   |some _=>cases e
  ·cases e
 |mrow _ _ _=>cases e
 |_=>cases e;simp
theorem Da:∀{l cs},(∀id∈cs.flatMap vL,h id=h' id)→gf h l cs=gf h' l cs
 |[],cs,_=>by rfl
 |true::l,[],_
 |false::l,[],_=>rfl
 |true::l,c::cs,hh=>by
  simp  at hh;unfold gf;rw[yJx fun id hi=>hh id (.inl hi),Da (by grind)]
 |false::l,c::cs,hh=>by
  unfold gf;rw[Da (by grind)]
theorem Db:∀{l cs aP u},gf h l cs=some (aP,u)→∀id∈aP.flatMap vL,id∈cs.flatMap vL
 |[],cs,aP,u,e=>by cases cs<;>cases e<;>exact by simp
 |true::l,[],aP,u,e
 |false::l,[],aP,u,e=>by cases e;simp
 |true::l,c::cs,aP,u,e=>by
  unfold gf at e;split at e
  ·rename_i c1 u1 mD rr e1 e2;cases e;intro id an;rw[List.flatMap_cons,List.mem_append] at an⊢;exact an.imp ((Tz e1).1 id) (Db e2 id)
  ·cases e
 |false::l,c::cs,aP,u,e=>by
  unfold gf at e;split at e
  ·rename_i mD rr e2;cases e;intro id an;rw[List.flatMap_cons,List.mem_append] at an⊢;exact an.imp (by simp) (Db e2 id)
  ·cases e
theorem vNp {s a}(hh:∀id∈yN a,h id=h' id):vz h s a=vz h' s a:=by
 unfold vz;cases s with
 |c p=>cases a with
  |c x=>
   have:=Da (h:=h) (h':=h') (l:=[p.isKept]) (cs:=[x]) (by rw[C9];exact hh);simp_all
  |_=>rfl
 |agg l=>cases a with
  |agg xs=>
   have:=Da (h:=h) (h':=h') (l:=l.map PC.isKept) (cs:=xs) hh;simp_all
  |_=>rfl
 |_=>rfl
theorem vSv {s a a' u}(e:vz h s a=some (a',u)):(∀id∈yN a',id∈yN a)∧(wQ a=false→wQ a'=false):=by
 unfold vz at e;split at e
 ·rename_i p x;split at e
  ·rename_i y u1 e1;cases e;refine⟨fun id an=>by have:=Db e1 id (by rw[C9];omega);rwa [C9] at this,fun hb=>?_⟩;cases hk:p.isKept with
   |false=>rw[hk] at e1;cases e1;exact hb
   |true=>
    rw[hk] at e1;unfold gf at e1;split at e1
    ·rename_i c1 u2 mD rr e2 e3;cases e1;cases hy:wQ (.c y) with
     |false=>rfl
     |true=>rw[(Tz e2).2 hy] at hb;cases hb
    ·cases e1
  ·cases e
 ·split at e
  ·rename_i ys u1 e1;cases e;exact⟨Db e1,fun _=>rfl⟩
  ·cases e
 simp_all
theorem yNm:∀{l as},(∀id∈as.flatMap yN,h id=h' id)→rO h l as=rO h' l as
 |[],as,_=>by rfl
 |_::_,[],_=>rfl
 |s::l,a::as,hh=>by
  simp  at hh;unfold rO;rw[vNp fun id hi=>hh id (.inl hi),yNm (by grind)]
theorem yIa:∀{l as eN u},rO h l as=some (eN,u)→(∀id∈eN.flatMap yN,id∈as.flatMap yN)∧(as.any wQ=false→eN.any wQ=false)
 |[],as,eN,u,e=>by cases as<;>cases e<;>exact by simp
 |s::l,[],eN,u,e=>by cases e;simp
 |s::l,a::as,eN,u,e=>by
  unfold rO at e;split at e
  ·rename_i a1 u1 Tt rr e1 e2;obtain⟨k1,k2⟩:=vSv e1;obtain⟨k3,k4⟩:=yIa e2;grind
  ·cases e
theorem TA:∀{n nm},(∀i,i<n→h (nm+i)=h' (nm+i))→vy h nm n=vy h' nm n
 |0,_,_=>rfl
 |n+1,nm,hh=>by
  unfold vy;have:=hh 0 (by omega);rw[Nat.add_zero] at this;rw[this,TA (by grind)]
end
theorem yB1 {as rs X}{S:Nat→AD as→Option X}{pack}:H8 fun k nm args h=>oE as rs (S k) pack nm args h:=by
 intro k nm args h h' h1 h2;cases hb:args.any wQ with
 |true=>rw[h2 hb]
 |false=>
  have hh:=h1 hb;show oE as rs (S k) pack nm args h=oE as rs (S k) pack nm args h';unfold oE;rw[yNm (h:=h) (h':=h') (by grind)];cases e:rO h' as args with
  |none=>rfl
  |some p=>
   obtain⟨eK,u⟩:=p;obtain⟨k1,k2⟩:=yIa e;dsimp only;rw[vCb (h:=qH h u) (h':=qH h' u) (k2 hb) fun id an=>zq (by grind)];cases zz (qH h' u) as eK with
   |none=>rfl
   |some d=>
    cases hle:Nat.ble rs.cells.length 100 with
    |false=>simp
    |true=>
     have hle:=Nat.le_of_ble_eq_true hle;rw [TA (h := h) (h' := h') fun i hi => hh _ (.inr (by
      simp only[nj,Bool.and_eq_true];exact⟨by simp,by simp[Nat.blt_eq];omega⟩))]
def nC:Code→List Code
 |.seq a b=>nC a++nC b
 |.cond _ a b=>nC a++nC b
 |.block _ b=>nC b
 |.loop b=>[b]
 |_=>[]
def zQ (c:Code)(i:Nat):Code:=match(nC c)[i]? with
 |some b=>b
 |none=>.skip
def zS (fn:Func):Code:=match fn.body with
 |some c=>c
 |none=>.skip
def yCb (P:Program)(A:zZ)(pre na nt:Nat)(b:Code):Prop:=(∃L,vh A b=some L∧zU P pre na nt b L)∨(vh A b=none∧wF P A pre na nt b)
theorem vS1 {P A pre na nt}:∀c,(∀b∈nC c,yCb P A pre na nt b)→wF P A pre na nt c:=by
 intro c
 induction c with
 |seq a b CQ CR=>exact fun h=>⟨CQ fun x hx=>h x (List.mem_append_left _ hx),CR fun x hx=>h x (List.mem_append_right _ hx)⟩
 |cond t a b CQ CR=>exact fun h=>⟨CQ fun x hx=>h x (List.mem_append_left _ hx),CR fun x hx=>h x (List.mem_append_right _ hx)⟩
 |block id b ih=>exact fun h=>ih h
 |loop b ih=>
  intro h;rcases h b (List.mem_cons_self ..) with⟨L,h1,h2⟩|⟨h1,h2⟩
  ·refine⟨by grind,by grind⟩
  ·refine⟨fun L' h3=>?_,fun _=>h2⟩;simp_all
 |_=>exact fun _=>trivial
theorem H9 {P A pre na nt c n}(hn:(nC c).length=n)(h:∀i,i<n→yCb P A pre na nt (zQ c i)):wF P A pre na nt c:=
 vS1 c fun b hb=>by
  obtain⟨i,hi,rfl⟩:=List.getElem_of_mem hb;have e:zQ c i=(nC c)[i]:=by
   unfold zQ;grind
  grind
theorem oG {P A pre na nt c n}(hn:(nC c).length=n)(h:∀i,i<n→∃L,vh A (zQ c i)=some L∧zU P pre na nt (zQ c i) L):wF P A pre na nt c:=
 H9 hn fun i hi=>.inl (h i hi)
theorem vC7 {P A pre na nt c}(hn:(nC c).length=0):wF P A pre na nt c:=oG hn (by simp)
theorem body_loops {P A pre na fn}(h:wF P A pre na fn.ntmps (zS fn)):∀c,fn.body=some c→wF P A pre na fn.ntmps c:=fun c hc=>by
 unfold zS at h;simp_all
theorem Ia {P f fn}(hf:P.funcs[f]? =some fn)(hb:fn.body.isNone=false)(hn:(fn.name== "runtime.NumGoroutine")=false):∀vs w,(callFunc f vs).run P w=.ok (.enter f vs) w:=fun vs w=>by
 have h1:(program).run P w=.ok P w:=rfl;unfold callFunc;simp only[Sem.run_bind,h1,Result.andThen_ok,hf,hn,hb,Bool.false_eq_true,if_false,Sem.run_pure]
abbrev zA (x:Int):Int:=IntKind.wrap .i64 x
abbrev yJ (k:IntKind)(x y:Int):Int:=sX (fun _ a b=>a&&&b) k x y
abbrev wG (k:IntKind)(x y:Int):Int:=sX (fun _ a b=>a|||b) k x y
abbrev shl (k:IntKind)(x y:Int):Int:=k.wrap (x*2^(min y.toNat k.bits))
abbrev shr (k:IntKind)(x y:Int):Int:=x.fdiv (2^(min y.toNat k.bits))
abbrev zP (n b:Nat):Bool:=Nat.ble (n*b) 140737488355328&&Nat.ble n 140737488355328
abbrev rP (l c:Int)(b:Nat):Bool:=decide (0≤l)&&decide (l≤c)&&decide (c*(b:Int)≤140737488355328)&&decide (c≤140737488355328)
abbrev wC (lt:Bool)(x y:Int):Int:=bif lt then(bif decide (y<x) then y else x) else(bif decide (y>x) then y else x)
abbrev TB (xs:List (List Int))(n:Nat):Option (List (List Int)):=
 mH (.c .mat) (fun d=>d.1) (.c (.osl 0 none)) ⟨fun _=>.undef,fun _=>some (.pmat 0 xs n)⟩
theorem vNn xs n:TB xs n=bif Nat.beq xs.length n then some xs else none:=by
 unfold TB mH H5 RS.get RS.cells;dsimp only[List.map,RC.isFro,gf,wE,sY,qH];cases h:Nat.beq xs.length n<;>simp[kE,pv,h]
theorem TC {l:List Nat}{p:Nat→Bool}(hl:∀t∈l,p t=true)(t:Nat)(h:l.any (Nat.beq t)=true):p t=true:=by
 simp_all
theorem vLd {P}:HA P (fun _=>false):=nofun
open Go.ChangeShapes Go.WideShapes Go.ChangeAt Go.RowKit
def Ib (f:TypeId→Option Ty):Nat→List (Nat×TypeId)→Option Ty
 |_,[]=>none
 |off,[x]=>bif Nat.beq x.1 off then f x.2 else none
 | off, x :: y :: l => bif Nat.beq x.1 off then (match f x.2 with
  |some a=>(match Ib f (off+a.size) (y::l) with|some b=>some (.pair a b)|none=>none)
  |none=>none) else none
def rQ (P:Program):TypeDesc→List (Nat×TypeId)
 |.struct fs=>fs.toList.map fun f=>(f.offset,f.type)
 |.array n e=>(List.range n).map fun i=>(i*P.cellsOf e,e)
 |_=>[]
def oH (P:Program):Nat→TypeId→Option Ty
 |0,_=>none
 |d+1,t=>match P.underlying t with
  |some (.int k)=>bif Nat.beq (P.cellsOf t) 1 then some (.int k) else none
  |some .bool=>bif Nat.beq (P.cellsOf t) 1 then some .bool else none
  |some (.slice e)=>bif Nat.beq (P.cellsOf t) 1&&Nat.ble 1 (P.bytesOf e) then(match oH P d e with|some a=>some (.sl a)|none=>none) else none
  |some x=>match Ib (oH P d) 0 (rQ P x) with
   |some a=>bif Nat.beq (P.cellsOf t) a.size then some a else none
   |none=>none
  |none=>none
def Wf:(t:Ty)→t.den→Prop
 |.int k,n=>(Lit.int k n).wf=true
 |.bool,_=>True
 |.sl t,xs=>xs.length≤reachBytes∧∀i (h:i<xs.length),Wf t xs[i]
 |.pair a b,p=>Wf a p.1∧Wf b p.2
theorem TD {P}:∀{d t ty},oH P d t=some ty→P.cellsOf t=ty.size
 |d+1,t,ty,h=>by
  unfold oH at h;split at h
  ·obtain⟨h1,h2⟩:=wJ h;cases h2;exact Nat.eq_of_beq_eq_true h1
  ·obtain⟨h1,h2⟩:=wJ h;cases h2;exact Nat.eq_of_beq_eq_true h1
  ·obtain⟨h1,h2⟩:=wJ h;rw[Bool.and_eq_true] at h1;split at h2
   ·cases h2;exact Nat.eq_of_beq_eq_true h1.1
   ·cases h2
  ·split at h
   ·obtain⟨h1,h2⟩:=wJ h;simp_all
   ·cases h
  ·cases h
section
variable {H:Type} {enc:TypeId×Value→H} {P:Program} {w:World}
abbrev Ic (w:World):Nat→Prop:=fun b=>b<w.heap.size
theorem vVh {a n cs}(h:w.cells? 0 a n=some cs):cs.length=n∧∀i,i<n→∃v,cs[i]? =some v∧w.cell? (a.add i)=some v:=by
 have hl:=mapM_some_length h;have hg:=mapM_some_get h;simp at hl;refine⟨hl,fun i hi=>?_⟩;have:=hg i i (by simp[hi]);simp_all
theorem yRe {a v}(h:w.cell? a=some v):a.spot=none∧a.block<w.heap.size∧yP w.heap a.block a.off=some v:=by
 unfold World.cell? at h;cases hb:w.heap[a.block]? with
 |none=>simp_all
 |some o=>
  rw[hb] at h;cases o with
  |cells c e z=>
   dsimp only at h;split at h
   ·cases h
   ·refine⟨by simp_all,?_,?_⟩
    ·grind
    ·unfold yP;simp_all
  |_=>cases h
theorem yXv {α:Type}{p:Nat→α→Prop}:∀n,(∀i,i<n→∃x,p i x)→∃xs:List α,xs.length=n∧∀i h,p i xs[i]
 |0,_=>by simp
 |n+1,h=>by
  obtain⟨xs,h1,h2⟩:=yXv n fun i hi=>h i (by omega)
  obtain⟨x,hx⟩:=h n (by omega);refine⟨xs++[x],by simp[h1],fun i hi=>?_⟩;grind
def jZ (l:List Nat):Prop:=l.all (· ≤reachBytes)=true
theorem px {l m}:jZ (l++m)↔jZ l∧jZ m:=by simp[jZ]
theorem yV7 {P e}{d:DataW H}:∀{l},jZ (DataW.weightsAll P e l)→d∈l→jZ (d.weights P e)
 |a::l,h,hd=>by
  have h:=px.1 h;rcases List.mem_cons.1 hd with rfl|hd
  ·exact h.1
  ·exact yV7 h.2 hd
theorem yMu {P e}:∀{ts} {ds:List (DataW H)},(∀t∈ts,t=e)→jZ (DataW.weightsAll P e ds)→jZ (DataW.weightsEach P ts ds)
 |t::ts,d::ds,ht,h=>by
  have h:=px.1 h;rw[ht t (by simp)];exact px.2 ⟨h.1,yMu (by grind) h.2⟩
 |[],_,_,_=>by simp[DataW.weightsEach,jZ]
 |_::_,[],_,_=>by rfl
def MI (P:Program)(w:World)(ty:Ty)(cs:List Value):Prop:=∃x:ty.den,cs.length=ty.size∧qC w.heap (Ic w) ty x (fun j=>cs[j]?)∧Wf ty x
theorem qZ8 {d fuel}(ih:∀t ty cs x,oH P d t=some ty→DataW.trod enc P w 0 (fun _=>true) true fuel t cs=some x→jZ (x.1.weights P t)→MI P w ty cs):
  ∀l off ty (cs:List Value) out,Ib (oH P d) off l=some ty→off+ty.size≤cs.length→
   (l.mapM fun p=>DataW.trod enc P w 0 (fun _=>true) true fuel p.2 ((cs.drop p.1).take (P.cellsOf p.2)))=some out→jZ (DataW.weightsEach P (l.map (·.2)) (out.map (·.1)))→MI P w ty ((cs.drop off).take ty.size)
 |[x],off,ty,cs,out,h,hc,hm,hw=>by
  obtain⟨h1,h2⟩:=wJ h;have ho:x.1=off:=by simpa using h1
  simp only[List.mapM_cons,List.mapM_nil,Option.pure_def,Option.bind_eq_bind,Option.bind_eq_some_iff] at hm;obtain⟨y,hy,_,e,e'⟩:=hm;cases e;cases e';rw[ho,TD h2] at hy;exact ih _ _ _ _ h2 hy (px.1 hw).1
 |x::y::l,off,ty,cs,out,h,hc,hm,hw=>by
  obtain⟨h1,h2⟩:=wJ h;have ho:x.1=off:=by simpa using h1
  split at h2
  ·rename_i a ha;split at h2
   ·rename_i b hb;cases h2;simp only[Ty.size] at hc⊢;rw[List.mapM_cons] at hm;simp only[Option.pure_def,Option.bind_eq_bind,Option.bind_eq_some_iff] at hm;obtain⟨z,hz,zs,hzs,e⟩:=hm;cases e;rw[ho,TD ha] at hz;have hw:=px.1 hw;obtain⟨p,p1,p2,p3⟩:=ih _ _ _ _ ha hz hw.1;obtain⟨q,q1,q2,q3⟩:=qZ8 ih (y::l) (off+a.size) b cs zs hb (by omega) hzs hw.2;refine⟨(p,q),by simp only[List.length_take,List.length_drop,Ty.size];omega,⟨?_,?_⟩,p3,q3⟩
    ·refine vB (fun _ h=>h) (by simp) a p _ _ (fun j hj=>?_) p2;simp only[List.getElem?_take,List.getElem?_drop];rw[if_pos (by omega),if_pos hj]
    grind
   ·cases h2
  ·cases h2
theorem TE:∀d t ty fuel cs x,oH P d t=some ty→DataW.trod enc P w 0 (fun _=>true) true fuel t cs=some x→jZ (x.1.weights P t)→MI P w ty cs
 |0,_,_,_,_,_,h,_,_=>by cases h
 |d+1,t,ty,0,cs,x,_,h,_=>by simp[DataW.trod] at h
 |d+1,t,ty,fuel+1,cs,x,hl,h,hw=>by
  unfold oH at hl;split at hl
  ·rename_i k hu;obtain⟨_,hl⟩:=wJ hl;cases hl;obtain⟨n,rfl,_,oI⟩:=DataW.trod_int hu h;exact⟨n,rfl,rfl,oI⟩
  ·rename_i hu;obtain⟨_,hl⟩:=wJ hl;cases hl;obtain⟨b,rfl,_⟩:=DataW.trod_bool hu h;exact⟨b,rfl,rfl,trivial⟩
  ·rename_i e hu;obtain⟨fg,hl⟩:=wJ hl;rw[Bool.and_eq_true] at fg;have fg:=Nat.le_of_ble_eq_true fg.2;split at hl
   ·rename_i a ha;cases hl;rcases DataW.trod_slice hu h with⟨rfl,_⟩|⟨ad,len,cap,elems,rest,n,hn,rfl,rfl,_,R3,hm,hel,hg,_,_⟩
    ·refine⟨([]:List a.den),rfl,?_,?_⟩
     ·simp only[qC];exact⟨none,0,0,rfl,rfl,Nat.le_refl _,.inl ⟨trivial,fun _=>rfl⟩⟩
     ·simp only[Wf];exact by simp
    ·unfold DataW.weights at hw;rw[hu] at hw;have hw:jZ ([((elems.map (·.1)).length+(rest.map (·.1)).length)*P.bytesOf e]++(DataW.weightsAll P e (elems.map (·.1))++DataW.weightsAll P e (rest.map (·.1)))):=hw;obtain⟨rR,hw⟩:=px.1 hw;have hw2:=(px.1 hw).1;have hlen:len≤reachBytes:=by
      simp only[jZ,List.all_cons,List.all_nil,Bool.and_true,decide_eq_true_eq,List.length_map] at rR;have:=Nat.mul_le_mul_left (elems.length+rest.length) fg;omega
     have key:∀i,i<len→∃x:a.den,(qC w.heap (Ic w) a x (fun j=>yP w.heap ad.block (ad.off+i*a.size+j))∧(i=0→ad.spot=none)∧ad.block<w.heap.size)∧Wf a x:=by
      intro i hi;have h1:=hg i hi;have SZ:i<elems.length:=by omega
      rw[List.getElem?_eq_getElem SZ,Option.bind_eq_some_iff] at h1;obtain⟨cs,nA,htr⟩:=h1;rw[TD ha] at nA;obtain⟨y,y1,y2,y3⟩:=TE d e a n cs _ ha htr (yV7 hw2 (by grind));obtain⟨c1,c2⟩:=vVh nA;have Aw:∀j,((ad.add (i*a.size)).add j).block=ad.block∧((ad.add (i*a.size)).add j).off=ad.off+i*a.size+j:=by
       intro j;unfold Addr.add;constructor
       ·split<;>split<;>rfl
       ·split<;>split<;>simp_all
      have at0:(i=0→ad.spot=none)∧ad.block<w.heap.size:=by
       obtain⟨v,_,hv⟩:=c2 0 a.size_pos;have h1:=yRe hv;refine⟨fun h0=>?_,by have:=h1.2.1;rwa [(Aw 0).1] at this⟩;have h2:=h1.1;subst h0
       simpa[Addr.add] using h2
      refine⟨y,⟨vB (fun _ h=>h) (fun _ _=>rfl) a y _ _ (fun j hj=>?_) y2,at0⟩,y3⟩;obtain⟨v,v1,v2⟩:=c2 j hj;rw[v1];have h1:=(yRe v2).2.2
      rwa [(Aw j).1,(Aw j).2] at h1
     obtain⟨xs,x1,x2⟩:=yXv len key;refine⟨xs,rfl,?_,?_⟩
     ·simp only[qC];refine⟨some ad,len,cap,rfl,x1.symm,R3,?_⟩;by_cases h0:xs=[]
      ·exact by grind
      ·refine .inr ⟨ad.block,ad.off,?_,?_,fun i hi=>(x2 i hi).1.1⟩
       ·have:=(x2 0 (List.length_pos_iff.2 h0)).1.2.1 rfl;cases ad;simp at this;rw[this]
       ·exact by grind
     ·simp only[Wf];exact by grind
   ·cases hl
  ·rename_i y n1 n2 n3 hu;split at hl
   ·rename_i a ha;obtain⟨dV,hl⟩:=wJ hl;cases hl;have dV:P.cellsOf t=ty.size:=by simpa using dV
    have fin:∀out,cs.length=P.cellsOf t→((rQ P y).mapM fun p=>DataW.trod enc P w 0 (fun _=>true) true fuel p.2 ((cs.drop p.1).take (P.cellsOf p.2)))=some out→jZ (DataW.weightsEach P ((rQ P y).map (·.2)) (out.map (·.1)))→MI P w ty cs:=by
     intro out hlen ky hw;have:=qZ8 (fun t' ty' aP x' h1 h2 h3=>TE d t' ty' fuel aP x' h1 h2 h3) (rQ P y) 0 ty cs out ha (by omega) ky hw
     rwa [List.drop_zero,List.take_of_length_le (by omega)] at this
    unfold DataW.trod at h;rw[hu] at h;cases y with
    |struct fs=>
     dsimp only at h;split at h
     ·rename_i hlen;rw[Option.map_eq_some_iff] at h;obtain⟨out,ho,rfl⟩:=h;unfold DataW.weights at hw;rw[hu] at hw;refine fin out hlen ?_ (by rw[rQ,List.map_map];exact hw);simp only[rQ,List.mapM_map];exact ho
     ·cases h
    |array n e=>
     dsimp only at h;split at h
     ·rename_i hlen;rw[Option.map_eq_some_iff] at h;obtain⟨out,ho,rfl⟩:=h;unfold DataW.weights at hw;rw[hu] at hw;refine fin out hlen ?_ (yMu (fun t ht=>by simp[rQ] at ht;exact ht.2.symm) hw);simp only[rQ,List.mapM_map];exact ho
     ·cases h
    |_=>simp[rQ,Ib] at ha
   ·cases hl
  ·cases hl
end
open Go.ChangeShapes Go.WideShapes Go.ChangeAt Go.RowKit
def tM (sh:Bool):Ty→List PC
 |.int k=>[.int k]
 |.bool=>[.bool]
 |.sl t=>[.dat sh t]
 |.pair a b=>tM sh a++tM sh b
def we:(l m:List PC)→PL l→PL m→PL (l++m)
 |[],_,_,e=>e
 |_::l,m,d,e=>(d.1,we l m d.2 e)
theorem TF:∀l m d e,vY (l++m) (we l m d e)=vY l d++vY m e
 |[],_,_,_=>rfl
 |p::l,m,d,e=>by
  show C7 p d.1::vY (l++m) (we l m d.2 e)=C7 p d.1::(vY l d.2++vY m e);rw[TF l m d.2 e]
def rS sh:(t:Ty)→t.den→PL (tM sh t)
 |.int _,n=>(n,())
 |.bool,b=>(b,())
 |.sl _,xs=>(xs,())
 |.pair a b,p=>we _ _ (rS sh a p.1) (rS sh b p.2)
def WfP:(p:PC)→p.den→Prop
 |.int k,n=>(Lit.int k n).wf=true
 |.bool,_=>True
 |.dat _ t,xs=>Wf (.sl t) xs
 |.fn _,_=>True
 |.nil,_=>True
 |.nilp,_=>True
def tN:(l:List PC)→PL l→Prop
 |[],_=>True
 |p::l,d=>WfP p d.1∧tN l d.2
theorem TG:∀l m d e,tN l d→tN m e→tN (l++m) (we l m d e)
 |[],_,_,_,_,h=>h
 |_::l,m,d,e,h,h'=>⟨h.1,TG l m d.2 e h.2 h'⟩
theorem TH sh:∀t x,Wf t x→tN (tM sh t) (rS sh t x)
 |.int _,_,h
 |.bool,_,h
 |.sl _,_,h=>⟨h,trivial⟩
 |.pair a b,p,h=>TG _ _ _ _ (TH sh a p.1 h.1) (TH sh b p.2 h.2)
theorem MJ:∀l d,(vY l d).length=l.length
 |[],_=>rfl
 |p::l,d=>by
  show(vY l d.2).length+1=l.length+1;rw[MJ l d.2]
def M0 (w:World):zK:=⟨fun _=>none,Ic w,Ic w,lJ [],w.heap⟩
theorem vCj w:Ok (M0 w) where
 obj:=nofun
 non:=fun _ _=>rfl
 disj:=fun i j oi oj Ci Cj b _ h=>by cases h
 own:=nofun
 GF:=fun _ h=>h
 Flt:=fun _ h=>h
theorem TI sh {w}:∀t x cs,cs.length=t.size→qC w.heap (Ic w) t x (fun j=>cs[j]?)→zL (zX (M0 w)) (vY (tM sh t) (rS sh t x)) cs
 |.int k,n,cs,hl,h=>by
  match cs,hl with
  |[c],_=>
   have e:c=.int k n:=by simpa[qC] using h
   exact⟨e,trivial⟩
 |.bool,b,cs,hl,h=>by
  match cs,hl with
  |[c],_=>
   have e:c=.bool b:=by simpa[qC] using h
   exact⟨e,trivial⟩
 |.sl t,xs,cs,hl,h=>by
  match cs,hl with
  |[c],_=>
   refine⟨?_,trivial⟩;have h':=vB (F':=(bif sh then(M0 w).G else(M0 w).F)) (fun b h=>by cases sh<;>exact h) (fun b _=>rfl) (.sl t) xs (fun j=>[c][j]?) (fun _=>some c) (by grind) h;exact h'
 |.pair a b,p,cs,hl,h=>by
  have dM:cs.length=a.size+b.size:=hl;have h1:=TI sh a p.1 (cs.take a.size) (by grind) (vB (fun _ h=>h) (by simp) a p.1 _ _ (by grind) h.1);have h2:=TI sh b p.2 (cs.drop a.size) (by grind) (vB (by simp) (fun _ _=>rfl) b p.2 _ _ (by grind) h.2);show zL _ (vY (tM sh a++tM sh b) (we _ _ (rS sh a p.1) (rS sh b p.2))) cs;rw[TF];have:=zL.append h1 h2;simp_all
def rT (sh : Bool) (P : Program) (t : TypeId) (ty : Ty) : AS := bif jW P t == some true then .agg (tM sh ty) else (match ty with
 |.int k=>.c (.int k)|.bool=>.c .bool|.sl t=>.c (.dat sh t)|.pair a b=>.agg (tM sh (.pair a b)))
def MK (P:Program):List TypeId→Option (List Ty)
 |[]=>some []
 |t::ts=>match oH P 8 t,MK P ts with
  |some a,some l=>some (a::l)
  |_,_=>none
def tO (sh:Bool)(P:Program):List TypeId→List Ty→List AS
 |t::ts,a::l=>rT sh P t a::tO sh P ts l
 |_,_=>[]
theorem vQz {P t ty}(h:oH P 8 t=some ty)(ha:(jW P t==some true)=false):(∃k,P.underlying t=some (.int k)∧ty=.int k)∨(P.underlying t=some .bool∧ty=.bool)∨∃e a,P.underlying t=some (.slice e)∧ty=.sl a:=by
 unfold oH at h;split at h
 ·grind
 ·grind
 ·grind
 ·rename_i x _ _ _ hu;split at h
  ·rename_i a hx;unfold jW at ha;rw[hu] at ha;cases x<;>first|(simp[rQ,Ib] at hx;done)|(cases ha)
  ·cases h
 ·cases h
section
variable {H:Type} {enc:TypeId×Value→H} {P:Program} {w:World}
theorem vRr sh {t ty v d ps base}(hl:oH P 8 t=some ty)(fD:Value.okWide P w .any base t v)(h:DataW.Trod enc P w 0 (fun _=>true) true t v d ps)(hw:jZ (d.weights P t)):
  ∃x:PL (rT sh P t ty).cells,(∀n,zT (M0 w) ((rT sh P t ty).mk n (vY _ x)) v)∧(rT sh P t ty).boxes (vY _ x)=[]∧tN _ x:=by
 obtain⟨fuel,hf⟩:=h;obtain⟨x,x1,x2,x3⟩:=TE 8 t ty fuel _ _ hl hf hw;have dp:=TI sh ty x _ x1 x2;have tP:=TH sh ty x x3;unfold rT;cases ha:(jW P t==some true) with
 |true=>
  refine⟨rS sh ty x,fun n=>?_,rfl,tP⟩;have rq:jW P t=some true:=by simp_all
  have hv:∃cs,v=.agg cs:=by
   unfold jW at rq;unfold Value.okWide at fD;grind
  obtain⟨cs,rfl⟩:=hv;exact⟨cs,rfl,dp⟩
 |false=>
  rcases vQz hl ha with⟨k,hu,rfl⟩|⟨hu,rfl⟩|⟨e,a,hu,rfl⟩
  ·have hv:∃n,v=.int k n:=by
    simp[Value.okWide,Cell.okWide] at fD;cases v<;>simp_all[Cell.ok]
   obtain⟨n0,rfl⟩:=hv;exact⟨rS sh _ x,fun n=>dp.1,rfl,tP⟩
  ·have hv:∃b,v=.bool b:=by
    simp[Value.okWide,Cell.okWide] at fD;cases v<;>simp_all[Cell.ok]
   obtain⟨b,rfl⟩:=hv;exact⟨rS sh _ x,fun n=>dp.1,rfl,tP⟩
  ·obtain⟨ad,len,cap,rfl⟩:=okWide_slice hu fD;exact⟨rS sh _ x,fun n=>dp.1,rfl,tP⟩
theorem yZz sh {base}:∀ts tys vs ds ps n,MK P ts=some tys→(∀(j:Nat) t v,ts[j]? =some t→vs[j]? =some v→Value.okWide P w .any base t v)→
  DataW.TrodAll enc P w 0 (fun _=>true) true ts vs ds ps→jZ (DataW.weightsEach P ts ds)→∃x:AD (tO sh P ts tys),zL (zT (M0 w)) (lI (tO sh P ts tys) (vY _ x) n).1 vs∧(lI (tO sh P ts tys) (vY _ x) n).2=[]∧tN _ x
 |[],tys,vs,ds,ps,n,hl,fD,h,_=>by
  match vs,ds,h with
  |[],[],_=>exact⟨(),trivial,rfl,trivial⟩
 |t::ts,tys,vs,ds,ps,n,hl,fD,h,hw=>by
  unfold MK at hl;split at hl
  ·rename_i a l ha dM;cases hl
   match vs,ds,h with
   |v::vs,d::ds,h=>
    obtain⟨p,q,h1,h2,_⟩:=h;have hw:=px.1 hw;obtain⟨x,x1,x2,x3⟩:=vRr sh ha (fD 0 t v rfl rfl) h1 hw.1;obtain⟨y,y1,y2,y3⟩:=yZz sh ts l vs ds q n dM (fun j t' v' h1 h2=>fD (j+1) t' v' h1 h2) h2 hw.2;refine⟨we _ _ x y,?_⟩;have e:vY ((tO sh P (t::ts) (a::l)).flatMap AS.cells) (we _ _ x y)=vY _ x++vY _ y:=TF _ _ _ _;have ht:(vY _ x++vY _ y).take (rT sh P t a).cells.length=vY _ x:=by
     rw[List.take_append_of_le_length (by rw[MJ];omega),List.take_of_length_le (by rw[MJ];omega)]
    have hd:(vY _ x++vY _ y).drop (rT sh P t a).cells.length=vY _ y:=by
     rw[List.drop_append_of_le_length (by rw[MJ];exact by simp),List.drop_of_length_le (by grind),List.nil_append]
    rw[e];have em:lI (tO sh P (t::ts) (a::l)) (vY _ x++vY _ y) n=((rT sh P t a).mk n (vY _ x)::(lI (tO sh P ts l) (vY _ y) n).1,(lI (tO sh P ts l) (vY _ y) n).2):=by
     show((rT sh P t a).mk n _::_,(rT sh P t a).boxes _++_)=_;simp_all
    rw[em];exact⟨⟨x1 n,y1⟩,y2,TG _ _ _ _ x3 y3⟩
  ·cases hl
theorem yOz {us}{gs:List (DataW H)}:∀{ts ds},ts.length=ds.length→jZ (DataW.weightsEach P (ts++us) (ds++gs))→jZ (DataW.weightsEach P ts ds)
 |[],[],_,_=>by rfl
 |t::ts,d::ds,hl,h=>px.2 ⟨(px.1 h).1,yOz (by simp_all) (px.1 h).2⟩
theorem yTr:∀{ts vs ds ps},DataW.TrodAll enc P w 0 (fun _=>true) true ts vs ds ps→ts.length=ds.length
 |[],[],[],_,_=>rfl
 |_::_,_::_,_::_,_,⟨_,_,_,h,_⟩=>by rw[List.length_cons,List.length_cons,yTr h]
theorem lawArgs sh {base ts tys asp vs ds ps}(hl:MK P ts=some tys)(has:tO sh P ts tys=asp)
  (fD:∀(j:Nat) t v,ts[j]? =some t→vs[j]? =some v→Value.okWide P w .any base t v) (h:DataW.TrodAll enc P w 0 (fun _=>true) true ts vs ds ps) {us gs} (hw:jZ (DataW.weightsEach P (ts++us) (ds++gs))):
  ∃x:AD asp,zL (zT (M0 w)) (lI asp (vY _ x) 0).1 vs∧(lI asp (vY _ x) 0).2=[]∧tN _ x:=by
 subst has;exact yZz sh ts tys vs ds ps 0 hl fD h (yOz (yTr h) hw)
theorem law_calls {E}(hE:gd E)(hS:jt E.sums)(hm:E.P.follows .mixedOrders=true){A k pre f fn}(hf:E.P.funcs[f]? =some fn)(hL:∀c,fn.body=some c→wF E.P A pre 0 fn.ntmps c)
  {as d unpack} (hup:∀d,unpack d=d.1) (aQ:kk E A k pre 0 fn (pt as d).1 (pt as d).2 (mH (.c .bool) unpack)=some true) (hb:(lI as (vY _ d) 0).2=[]) {vs} (hv:zL (zT (M0 w)) (lI as (vY _ d) 0).1 vs.toList):
  Calls E.P f vs w fun e w'=>e=.returned (.bool true)∧Below w.heap.size w w':=by
 have hh:(M0 w).h=(pt as d).2:=by
  show lJ []=lJ (lI as (vY _ d) 0).2;rw[hb]
 refine Calls.mono (Tb hE hS hm hf hL aQ (M:=M0 w) (w:=w) hh rfl (vCj w) hv) fun e w' he=>?_
 cases e with
 |returned rv=>
  obtain⟨M',v,st,hK,_,hH,_,hg,_,hrv,o1,o2,o3,_⟩:=he;refine⟨?_,o1,o2,o3,?_,fun b hb=>?_⟩
  ·unfold mH at hK;split at hK
   ·rename_i r hr;unfold H5 at hr;split at hr
    ·rename_i cs nA;split at hr
     ·rename_i aP u CI;cases v with
      |c x=>
       cases nA;have e1:aP=[x]:=by
        simp[RS.cells,RC.isFro,gf] at CI;simp_all
       subst e1;have ot:kE (qH st.h u) [.bool] [x]=some r:=hr;cases x with
       |bool b=>
        have e2:r=(b,()):=by simp[kE,pv] at ot;grind
        have:rv=.bool b:=hrv;grind
       |_=>simp[kE,pv] at ot
      |_=>cases nA
     ·cases hr
    ·cases hr
   ·cases hK
  ·have:=hg.size;rw[hH] at this;exact this
  ·have:=hg.same b hb;rw[hH] at this;exact this
 |_=>simp_all
end
inductive XC where
 |p (c:PC)|own (t:Ty)|mat|map
 |link (j:Nat)
abbrev XC.den:XC→Type
 |.p c=>c.den|.own t=>List t.den|.mat=>List (List Int)|.map=>List (Int×Bool)|.link _=>Unit
def XC.lnk:XC→Option Nat
 |.link j=>some j
 |_=>none
def RC.lnk:RC→Option Nat
 |.link j=>some j
 |_=>none
def rU:List (Option Nat)→List Nat→List zY→Bool
 |none::l,ids,_::cs=>rU l ids cs
 |some j::l,ids,.ptr id 0::cs=>(match ids[j]? with|some k=>Nat.beq id k|none=>false)&&rU l ids cs
 |some _::_,_,_=>false
 |_,_,_=>true
def Ax:List (Option Nat)→List Nat→List zY→List zY
 |none::l,ids,c::cs=>c::Ax l ids cs
 |some j::l,ids,c::cs=>(match ids[j]? with|some id=>.ptr id 0|none=>c)::Ax l ids cs
 |_,_,cs=>cs
def TJ:List zY→Option Nat
 |[]=>none
 |.ptr id 0::_=>some id
 |_::l=>TJ l
def Ie (h:Hp):Nat→Nat→Option (List Nat)
 |0,_=>none
 |1,id=>some [id]
 |n+2,id=>match C6 h id with
  | some cells => (match TJ cells with
   |some id2=>(match Ie h (n+1) id2 with|some l=>some (id::l)|none=>none)
   |none=>none)
  |none=>none
def lK:Nat→Nat→List Nat
 |_,0=>[]
 |n,m+1=>n::lK (n+1) m
abbrev XL:List XC→Type
 |[]=>Unit
 |c::l=>c.den×XL l
inductive AX where
 |c (x:XC)|agg (l:List PC)|ptr (io:Bool) (l:List XC)|fn (f:Nat) (bA:List (Bool×List XC))
 |chn (ls:List (List XC))
def AX.cells:AX→List XC
 |.c x=>[x]
 |.agg l=>l.map .p
 |.ptr _ l=>l
 |.fn _ bA=>bA.flatMap (·.2)
 |.chn ls=>ls.flatten
def AX.nb:AX→Nat
 |.ptr _ _=>1
 |.fn _ bA=>bA.length
 |.chn ls=>ls.length
 |_=>0
def AX.isChn:AX→Bool
 |.chn _=>true
 |_=>false
def Dc (ls:List (List XC)):List (Bool×List XC):=ls.map fun l=>(true,l)
abbrev XD (l:List AX):Type:=XL (l.flatMap AX.cells)
def AX.looks:AX→Bool
 |.ptr _ _=>true
 |.fn _ _=>true
 |_=>false
def tQ (l:List AX)(na:Nat):Bool:=l.zipIdx.all fun p=> !p.1.looks||Nat.blt p.2 na
def Dd (h:Hp)(io:Bool)(id:Nat):Option (List zY):=match io,h id with
 |true,some (.box true cells)=>some cells
 |false,some (.box _ cells)=>some cells
 |false,some (.robox cells)=>some cells
 |_,_=>none
def jv (h:Hp):List (Bool×List XC)→List Nat→Option (List zY×List (Bool×Nat))
 |[],[]=>some ([],[])
 |(io,l)::ls,id::ids=>match Dd h io id,jv h ls ids with
  |some cells,some (rest,bs)=>bif Nat.beq cells.length l.length then some (cells++rest,(io,id)::bs) else none
  |_,_=>none
 |_,_=>none
def AX.get (h:Hp):AX→zW→Option (List zY×List (Bool×Nat))
 |.c _,.c x=>some ([x],[])
 |.agg l,.agg xs=>bif Nat.beq xs.length l.length then some (xs,[]) else none
 |.ptr io l,.c (.ptr id 0)=>jv h [(io,l)] [id]
 |.fn f bA,.c (.fn g ids)=>bif Nat.beq f g then jv h bA ids else none
 |.chn ls,.c (.ptr id 0)=>match Ie h ls.length id with
  |some ids=>jv h (Dc ls) ids
  |none=>none
 |_,_=>none
def kF (h:Hp):List AX→List zW→Option (List zY×List (Bool×Nat))
 |[],[]=>some ([],[])
 |s::l,a::as=>match s.get h a,kF h l as with
  |some (cs,bs),some (aP,Ay)=>some (cs++aP,bs++Ay)
  |_,_=>none
 |_,_=>none
def Ig (h:Hp):(x:XC)→zY→Option x.den
 |.p p,c=>tK h p c
 |.own t,.osl id none=>match h id with
  |some (.arr true s xs)=>gY s t xs
  |_=>none
 |.mat,.osl id none=>match h id with
  |some (.mat _ xs)=>some xs
  |_=>none
 |.map,.map id=>match h id with
  |some (.imap cY)=>some cY
  |_=>none
 |.link _,.ptr _ 0=>some ()
 |_,_=>none
def py (h:Hp):(l:List XC)→List zY→Option (XL l)
 |[],[]=>some ()
 |x::l,c::cs=>match Ig h x c,py h l cs with
  |some d,some ds=>some (d,ds)
  |_,_=>none
 |_,_=>none
def jK:List XC→List zY→List Nat
 |.p _::l,_::cs=>jK l cs
 |.link _::l,_::cs=>jK l cs
 |_::l,.osl id _::cs=>id::jK l cs
 |_::l,.map id::cs=>id::jK l cs
 |_::l,_::cs=>jK l cs
 |_,_=>[]
def Ih:List XC→List zY→List Nat
 |.p _::l,c::cs=>vL c++Ih l cs
 |_::l,_::cs=>Ih l cs
 |_,_=>[]
def wR:Nat:=500
def ie:(l:List XC)→XL l→Nat→List zY×List Obj
 |[],_,_=>([],[])
 |.p p::l,d,n=>let r:=ie l d.2 n;(C7 p d.1::r.1,r.2)
 |.own t::l,d,n=>let r:=ie l d.2 (n+1);(.osl n none::r.1,.arr true t d.1::r.2)
 |.mat::l,d,n=>let r:=ie l d.2 (n+1);(.osl n none::r.1,.mat 0 d.1::r.2)
 |.map::l,d,n=>let r:=ie l d.2 (n+1);(.map n::r.1,.imap d.1::r.2)
 |.link j::l,d,n=>let r:=ie l d.2 n;(.ptr j 0::r.1,r.2)
def Ii:List (Bool×List XC)→List zY→List Obj
 |[],_=>[]
 |(io,l)::ls,cs=>(bif io then .box true (cs.take l.length) else .robox (cs.take l.length))::Ii ls (cs.drop l.length)
def AX.mk (n:Nat)(cs:List zY):AX→zW
 |.c _=>match cs with|x::_=>.c x|[]=>.undef
 |.agg _=>.agg cs
 |.ptr _ _=>.c (.ptr n 0)
 |.fn f bA=>.c (.fn f ((List.range bA.length).map (n+·)))
 |.chn _=>.c (.ptr n 0)
def AX.boxes (cs:List zY):AX→List Obj
 |.ptr io l=>Ii [(io,l)] cs
 |.fn _ bA=>Ii bA cs
 |.chn ls=>Ii (Dc ls) cs
 |_=>[]
def Az:List AX→List zY→Nat→List zW×List Obj
 |[],_,_=>([],[])
 |s::l,cs,n=>
  let ao:=cs.take s.cells.length;let bs:=s.boxes ao;let rest:=Az l (cs.drop s.cells.length) (n+bs.length)
  (s.mk n ao::rest.1,bs++rest.2)
def Ij (bs rows:List Obj):Hp:=fun n=>bif Nat.ble wR n then rows[n-wR]? else bs[n]?
def kG l (d:XD l):List zW×Hp:=
 let r:=ie (l.flatMap AX.cells) d wR;let m:=Az l r.1 0
 (m.1,Ij m.2 r.2)
def Ik:List (Bool×List XC)→List Nat→Option (List Nat)
 |[],[]=>some []
 |(io,_)::ls,id::ids=>match Ik ls ids with
  |some l=>some (bif io then id::l else l)
  |none=>none
 |_,_=>none
def AX.io (b:Nat):AX→zW→Option (List Nat)
 |.c _,_=>some []
 |.agg _,_=>some []
 |.ptr io l,.c (.ptr id 0)=>Ik [(io,l)] [id]
 |.fn _ bA,.c (.fn _ ids)=>Ik bA ids
 |.chn ls,_=>some (lK b ls.length)
 |_,_=>none
def ML:List AX→(Nat→zW)→Nat→Nat→Option (List Nat)
 |[],_,_,_=>some []
 |s::l,t,n,b=>match s.io b (t n),ML l t (n+1) (b+s.nb) with
  |some a,some b=>some (a++b)
  |_,_=>none
def De (h:Hp):List (List RC)→List Nat→Option (List zY)
 |[],[]=>some []
 |o::os,n::ns=>match h n,De h os ns with
  |some (.box true cells),some rest=>bif Nat.beq cells.length o.length then some (cells++rest) else none
  |_,_=>none
 |_,_=>none
def TK (h:Hp)(ns:Nat)(cs:List zY):Option (List Nat):=bif Nat.beq ns 0 then some [] else match TJ cs with
 |some id=>Ie h ns id
 |none=>none
def wg (st:St)(as:List AX)(rs:RS)(os:List (List RC))(ns:Nat)(v:zW):Option (RL (rs.cells++os.flatten)):=
 match ML as st.t 0 0 with
 |none=>none
 |some io=>match rs.get v with
  |none=>none
  |some cs=>match TK st.h ns cs with
   |none=>none
   |some nw=>match De st.h os (io++nw) with
    |none=>none
    | some bs => bif sY (io ++ nw) then (match gf st.h ((rs.cells++os.flatten).map RC.isFro) (cs++bs) with
     |some (cs,u)=>bif sY (wE (rs.cells++os.flatten) cs)&&rU ((rs.cells++os.flatten).map RC.lnk) (io++nw) cs then kE (qH st.h u) (rs.cells++os.flatten) cs else none
     |none=>none) else none
def Il (as:List AX)(rs:RS)(os:List (List RC))(ns:Nat){X:Type}(unpack:RL (rs.cells++os.flatten)→X)(v:zW)(st:St):Option X:=match wg st as rs os ns v with
 |some d=>some (unpack d)
 |none=>none
def MM (as:List AX)(rs:RS)(os:List (List RC))(ns:Nat)(dq:RS)(dr:List (List RC))(fk:Nat){X Y:Type}(up:RL (rs.cells++os.flatten)→X)(ld:RL (dq.cells++dr.flatten)→Y)(v:zW)(st:St):Option (X⊕Y):=match wg st as rs os ns v with
 |some d=>some (.inl (up d))
 |none=>match wg st as dq dr fk v with
  |some d=>some (.inr (ld d))
  |none=>none
def wh:List (List RC)→List zY→List (List zY)
 |[],_=>[]
 |o::os,cs=>cs.take o.length::wh os (cs.drop o.length)
def vR:List (Bool×Nat)→List Nat
 |[]=>[]
 |(true,id)::l=>id::vR l
 |(false,_)::l=>vR l
def MN:List (Bool×Nat)→List Nat
 |[]=>[]
 |(true,_)::l=>MN l
 |(false,id)::l=>id::MN l
def Df:List Nat→List (List zY)→vG
 |id::ids,cs::css=>(id,.box true cs)::Df ids css
 |_,_=>[]
def pz (ids:List Nat):vG:=ids.map fun id=>(id,.gone)
def vFq (nm:Nat)(rs:RS)(os:List (List RC))(ids:List Nat)(d:RL (rs.cells++os.flatten)):zW×vG:=
 let r:=oD nm (rs.cells++os.flatten) d;let cs:=Ax ((rs.cells++os.flatten).map RC.lnk) ids r.1
 (rs.mk (cs.take rs.cells.length),r.2++Df ids (wh os (cs.drop rs.cells.length)))
def TL (a b:List Nat):Bool:=a.all fun x=> !b.any (Nat.beq x)
def wi (h:Hp):AX→zW→Option (zW×vG)
 |.c (.p p),.c x=>match gf h [p.isKept] [x] with
  |some ([x],u)=>some (.c x,u)
  |_=>none
 |.agg l,.agg xs=>match gf h (l.map PC.isKept) xs with
  |some (xs,u)=>some (.agg xs,u)
  |none=>none
 |_,a=>some (a,[])
def rV (h:Hp):List AX→List zW→Option (List zW×vG)
 |s::l,a::as=>match wi h s a,rV h l as with
  |some (a,u),some (as,us)=>some (a::as,u++us)
  |_,_=>none
 |_,as=>some (as,[])
def AA as (nm n:Nat)(args:List zW)(h:Hp):Option (vG×List Nat×List Nat×XD as):=
 match rV h as args with
 |none=>none
 |some (args,u)=>match kF (qH h u) as args with
  |none=>none
  |some (cs,bs)=>match py (qH h u) (as.flatMap AX.cells) cs with
   |none=>none
   |some d=>
    let rows:=jK (as.flatMap AX.cells) cs;let ao:=vR bs++rows
    bif vy h nm n&&Nat.ble n 100&&Nat.ble bs.length wR&&sY ao&&TL ao (Ih (as.flatMap AX.cells) cs)&&TL ao (MN bs)&&rU ((as.flatMap AX.cells).map XC.lnk) (bs.map (·.2)) cs then
     some (u,vR bs,rows,d)
    else none
def Im (u:vG)(io rows:List Nat)(rs:RS)(os:List (List RC))(ns nm:Nat)(d:RL (rs.cells++os.flatten)):zW×vG:=
 let r:=vFq nm rs os (io++lK (nm+(rs.cells++os.flatten).length) ns) d
 (r.1,u++(pz rows++r.2))
def rW as (rs:RS)(os:List (List RC))(ns:Nat){X}(S:XD as→Option X)(pack:X→RL (rs.cells++os.flatten))(nm:Nat)(args:List zW)(h:Hp):yQ:=
 match AA as nm ((rs.cells++os.flatten).length+ns) args h with
 |none=>.stuck
 |some (u,io,rows,d)=>.call X (S d) fun r=>Im u io rows rs os ns nm (pack r)
def tR as (rs:RS)(os:List (List RC))(ns:Nat)(dq:RS)(dr:List (List RC))(fk:Nat){X Y}(S:XD as→Option (X⊕Y))(pk:X→RL (rs.cells++os.flatten))(iH:Y→RL (dq.cells++dr.flatten))(nm:Nat)(args:List zW)(h:Hp):yQ:=
 match AA as nm (((rs.cells++os.flatten).length+ns)+((dq.cells++dr.flatten).length+fk)) args h with
 |none=>.stuck
 |some (u,io,rows,d)=>.call2 X Y (S d) (fun r=>Im u io rows rs os ns nm (pk r)) (fun r=>Im u io rows dq dr fk nm (iH r))
def lf (M:zK)(ao:List Nat)(b:Nat):Prop:=∃id∈ao,∃C,M.κ id=some C∧b∈C.fp
structure rY (M:zK) (ao:List Nat) (Ml:zK):Prop where
 H:Ml.H=M.H
 F:Ml.F=fun b=>b<M.H.size∧¬lf M ao b
 G:Ml.G=M.G
def nD (M:zK)(ao:List Nat):Prop:=∀id∈ao,∃o,M.h id=some o∧o.owned=true
theorem lf.own {M ao}(ho:nD M ao){b}(h:lf M ao b):qM M b:=by
 obtain⟨id,an,C,hC,hb⟩:=h;obtain⟨o,h1,h2⟩:=ho id an;exact⟨id,o,C,h1,h2,hC,hb⟩
theorem tS {M}(ok:Ok M){ao}(ho:nD M ao){b}(h:M.F b):b<M.H.size∧¬lf M ao b:=⟨ok.Flt b h,fun hh=>(ok.own b (hh.own ho)).1 h⟩
theorem yHw {M M'}(ok:Ok M){ao}(ho:nD M ao){id o}(hn:id∉ao)(hh:M'.h=yG M.h id o)(hκ:M'.κ=M.κ)(hH:M'.H=M.H)(kt:Ok M'){b}(h:M'.G b):b<M.H.size∧¬lf M ao b:=by
 have hf:=kt.GF b h;refine⟨by have:=kt.Flt b hf;simp_all,fun hd=>?_⟩;obtain⟨jd,hj,C,hC,hb⟩:=hd;obtain⟨q,h1,h2⟩:=ho jd hj;refine(kt.own b ⟨jd,q,C,?_,h2,?_,hb⟩).1 hf
 ·rw[hh,yO _ _ (by grind)];exact h1
 simp_all
theorem vLm {M}(ok:Ok M){ao}(ho:nD M ao){c v t xs}(hn:∀id∈vL c,id∉ao)(hv:zX M c v)(h:ki M.h c=some ⟨t,xs⟩):
  qC M.H (fun b=>b<M.H.size∧¬lf M ao b) (.sl t) xs (fun _=>some v):=by
 unfold ki at h;split at h
 ·rename_i sh s ys;cases h;cases sh with
  |true=>exact vB (fun b hb=>tS ok ho (ok.GF b hb)) (by simp) _ _ _ _ (fun _ _=>rfl) hv
  |false=>exact vB (fun b hb=>tS ok ho hb) (by simp) _ _ _ _ (fun _ _=>rfl) hv
 ·rename_i id r;have o9:id∉ao:=hn id (by simp[vL]);split at h
  ·rename_i own s ys an;cases h;cases own with
   |false=>
    obtain⟨C,hC,hO⟩:=ok.obj _ _ an;exact vB (fun b hb=>tS ok ho (ok.GF b hb)) (by simp) _ _ _ _ (by simp) (y8 hC hO hv)
   |true=>
    obtain⟨M',h1,h2,h3,h4,h5⟩:=yP1 ok an;obtain⟨C,hC,hO⟩:=h3.obj id _ (by rw[h2];exact yK _ _ _);have:=y8 hC hO (hv.ext h4.ext);exact vB (fun b hb=>yHw ok ho o9 h2 h5 h1 h3 hb) (by grind) _ _ _ _ (by simp) this
  ·rename_i ver ys an;cases r with
   |some p=>cases h
   |none=>
    cases h;obtain⟨M',h1,h2,h3,h4,h5⟩:=yU2 ok an;obtain⟨C,hC,hO⟩:=h3.obj id _ (by rw[h2];exact yK _ _ _);have:=y8 (r:=none) hC hO (hv.ext h4.ext);exact vB (fun b hb=>yHw ok ho o9 h2 h5 h1 h3 hb) (by grind) _ _ _ _ (by simp) this
  ·cases h
 ·rename_i id i ver;have o9:id∉ao:=hn id (by simp[vL]);split at h
  ·rename_i v' ys an;cases fE:Nat.beq v' ver with
   |false=>rw[fE] at h;cases h
   |true=>
    rw[fE] at h;cases h;have e:v'=ver:=by simpa using fE
    subst e;obtain⟨C,hC,hO⟩:=ok.obj _ _ an;obtain⟨C',aD,cn,_,aW⟩:=hv;rw[hC] at aD;cases aD;obtain⟨rb,rl,vq,rH⟩:=aW hO.1;by_cases hi:i<ys.length
    ·obtain⟨B,pb,v2,k1,k2,k3,k4,k5,k6⟩:=CD hO hi;rw[vq] at k3;cases k3;rw[show ys.getD i []=ys[i] by simp[List.getD,hi]];simp only[qC];cases rb with
     |none=>
      obtain⟨rfl,h0⟩:=rH;grind
     |some R=>
      obtain⟨a,c,rfl,h1,h2,h3⟩:=rH;refine⟨_,_,c,rfl,rfl,h1,?_⟩;by_cases h0:ys[i].length=0
      ·simp_all
      ·have ha:a=0:=by omega
       subst ha;have hR:R∈C.fp:=by
        simp only[qA.fp,List.mem_append,List.mem_filterMap];grind
       refine .inr ⟨R,0,rfl,⟨?_,fun hd=>?_⟩,fun j hj=>?_⟩
       ·have:=k6 R rfl 0 (by omega);unfold yP at this;grind
       ·obtain⟨jd,hj,D,hD,hb⟩:=hd;obtain⟨q,q1,q2⟩:=ho jd hj;exact ok.disj jd id q _ D C R (by grind) q1 an q2 rfl hD hC hb hR
       ·simp only[qC,Ty.size,Nat.zero_add,Nat.mul_one,Nat.add_zero];exact by grind
    ·have:C.rows[i]? =none:=List.getElem?_eq_none (by have:=hO.2.2.2.1;omega);simp_all
  ·cases h
 ·cases h
def TrX (M:zK)(ao:List Nat)(c c':zY):Prop:=∀v Ml,rY M ao Ml→zX M c v→zX Ml c' v
theorem vVi {M}(ok:Ok M){ao}(ho:nD M ao){p c d}(hn:∀id∈vL c,id∉ao)(h:tK M.h p c=some d):TrX M ao c (C7 p d):=by
 intro v Ml lo hv;unfold tK at h;split at h
 ·rename_i k j n;cases e:fW j k with
  |false=>simp_all
  |true=>rw[e] at h;cases h;rw[←sU e];exact hv
 ·cases h;exact hv
 ·show qC Ml.H Ml.F _ _ _;rw[lo.H,lo.F];unfold zx at h;split at h
  ·cases h;rw[show v=.slice none 0 0 from hv];exact H6
  ·split at h
   ·rename_i s ys hr;obtain⟨e,hx⟩:=kY h;subst e;subst hx;exact vLm ok ho hn hv hr
   ·cases h
 ·obtain⟨e,hx⟩:=kY h;subst e;subst hx;show qC Ml.H Ml.G _ _ _;rw[lo.H,lo.G];exact hv
 ·cases h;rw[show v=.slice none 0 0 from hv];exact H6
 ·rename_i f g;cases e:Nat.beq f g with
  |false=>simp_all
  |true=>
   have:f=g:=by simp_all
   subst this;obtain⟨cv,rfl,hc⟩:=hv;refine⟨cv,rfl,?_⟩;generalize cv.toList=l at hc;cases l with
   |nil=>trivial
   |cons _ _=>exact hc.elim
 ·exact hv
 ·exact hv
 ·cases h
def rZ (M:zK)(ao:List Nat)(κ:Nat→Option qA)(c c':zY):Prop:=∀v Ml,rY M ao Ml→Ml.κ=κ→zX M c v→zX Ml c' v
structure TM (M:zK) (id:Nat) (o:Obj) (C:qA):Prop where
 κ:M.κ id=some C
 rep:∀Ml:zK,Ml.H=M.H→Ml.G=M.G→yW Ml o {C with ver:=0}
 own:o.owned=true
 was:∃q,M.h id=some q∧q.owned=true
theorem vOr {M Ml}(hH:Ml.H=M.H){cY C}(h:yW M (.imap cY) C):yW Ml (.imap cY) {C with ver:=0}:=by
 obtain⟨B,es,ck,h1,h2,h3,h4,h5⟩:=h;exact⟨B,es,ck,h1,h2,by simp_all,h4,h5⟩
theorem yU8 {j l ids c cs}(h:rU (some j::l) ids (c::cs)=true):∃id,c=.ptr id 0∧ids[j]? =some id∧rU l ids cs=true:=by
 cases c with
 |ptr id off=>
  cases off with
  |zero=>
   have h:((match ids[j]? with|some k=>Nat.beq id k|none=>false)&&rU l ids cs)=true:=h;rw[Bool.and_eq_true] at h;have h1:=h.1;split at h1;all_goals simp_all
  |succ _=>cases h
 |_=>cases h
theorem Dg {M}(ok:Ok M){ao}(ho:nD M ao){κ}:∀{l cs d n ids},py M.h l cs=some d→rU (l.map XC.lnk) ids cs=true→(∀id∈Ih l cs,id∉ao)→
  (jK l cs).length=(ie l d n).2.length∧(∀(i:Nat) id o,(jK l cs)[i]? =some id→(ie l d n).2[i]? =some o→∃C,TM M id o C)∧
   ((∀i id C,(jK l cs)[i]? =some id→M.κ id=some C→κ (n+i)=some {C with ver:=0})→(∀j id,ids[j]? =some id→κ j=M.κ id)→zL (rZ M ao κ) cs (ie l d n).1)
 |[],[],_,n,_,_,_,_=>⟨rfl,nofun,fun _ _=>trivial⟩
 |x::l,c::cs,d,n,ids,h,hl,hn=>by
  unfold py at h;split at h
  ·rename_i y ys h1 h2;cases h;cases x with
   |p p=>
    have lL:∀id∈vL c,id∉ao:=fun id an=>hn id (List.mem_append_left _ an)
    obtain⟨k1,k2,k3⟩:=Dg ok ho (κ:=κ) (n:=n) (ids:=ids) h2 hl (fun id an=>hn id (List.mem_append_right _ an));exact⟨k1,k2,fun hκ hj=>⟨fun v Ml lo _ hv=>vVi ok ho lL h1 v Ml lo hv,k3 hκ hj⟩⟩
   |own t=>
    cases c with
    |osl id r=>
     cases r with
     |some _=>cases h1
     |none=>
      have h1:(match M.h id with|some (.arr true s xs)=>gY s t xs|_=>none)=some y:=h1;split at h1
      ·rename_i s xs an;obtain⟨e,hx⟩:=kY h1;subst e;subst hx;obtain⟨C,hC,hO⟩:=ok.obj id _ an;obtain⟨k1,k2,k3⟩:=Dg ok ho (κ:=κ) (n:=n+1) (ids:=ids) h2 hl hn;refine⟨by simp only[jK,ie,List.length_cons,k1],fun i jd o hi lA=>?_,fun hκ hj=>⟨fun v Ml lo hk hv=>?_,k3 (fun i jd D hi hD=>?_) hj⟩⟩
       ·cases i with
        |zero=>
         cases hi;cases lA;refine⟨C,hC,fun Ml e1 e2=>?_,rfl,_,an,rfl⟩;obtain⟨q1,q2,q3,q4⟩:=hO;refine⟨q1,q2,q3,?_⟩;rw[e1,e2];exact q4
        |succ i=>exact k2 i jd o hi lA
       ·obtain⟨D,hD,hS⟩:=hv;rw[hC] at hD;cases hD;refine⟨{C with ver:=0},by rw[hk];exact hκ 0 id C rfl hC,?_⟩;rw[lo.H];exact hS
       ·have:=hκ (i+1) jd D hi hD;rw[←this];congr 1;omega
      ·cases h1
    |_=>cases h1
   |mat=>
    cases c with
    |osl id r=>
     cases r with
     |some _=>cases h1
     |none=>
      have h1:(match M.h id with|some (.mat _ xs)=>some xs|_=>none)=some y:=h1;split at h1
      ·rename_i ver xs an;cases h1;obtain⟨C,hC,hO⟩:=ok.obj id _ an;obtain⟨k1,k2,k3⟩:=Dg ok ho (κ:=κ) (n:=n+1) (ids:=ids) h2 hl hn;refine⟨by simp only[jK,ie,List.length_cons,k1],fun i jd o hi lA=>?_,fun hκ hj=>⟨fun v Ml lo hk hv=>?_,k3 (fun i jd D hi hD=>?_) hj⟩⟩
       ·cases i with
        |zero=>
         cases hi;cases lA;refine⟨C,hC,fun Ml e1 e2=>?_,rfl,_,an,rfl⟩;obtain⟨q1,q2⟩:=hO;refine⟨rfl,?_⟩;rw[e1];exact q2
        |succ i=>exact k2 i jd o hi lA
       ·obtain⟨D,hD,hS⟩:=hv;rw[hC] at hD;cases hD;refine⟨{C with ver:=0},by rw[hk];exact hκ 0 id C rfl hC,?_⟩;show jA Ml.H {C with ver:=0} 0 C.len v;rw[lo.H];exact hS
       ·have:=hκ (i+1) jd D hi hD;rw[←this];congr 1;omega
      ·cases h1
    |_=>cases h1
   |map=>
    cases c with
    |map id=>
     have h1:(match M.h id with|some (.imap cY)=>some cY|_=>none)=some y:=h1;split at h1
     ·rename_i cY an;cases h1;obtain⟨C,hC,hO⟩:=ok.obj id _ an;obtain⟨k1,k2,k3⟩:=Dg ok ho (κ:=κ) (n:=n+1) (ids:=ids) h2 hl hn;refine⟨by simp only[jK,ie,List.length_cons,k1],fun i jd o hi lA=>?_,fun hκ hj=>⟨fun v Ml lo hk hv=>?_,k3 (fun i jd D hi hD=>?_) hj⟩⟩
      ·cases i with
       |zero=>
        cases hi;cases lA;exact⟨C,hC,fun Ml e1 e2=>vOr e1 hO,rfl,_,an,rfl⟩
       |succ i=>exact k2 i jd o hi lA
      ·obtain⟨D,B,hD,hB,e⟩:=hv;rw[hC] at hD;cases hD;exact⟨{C with ver:=0},B,by rw[hk];exact hκ 0 id C rfl hC,hB,e⟩
      ·have:=hκ (i+1) jd D hi hD;rw[←this];congr 1;omega
     ·cases h1
    |_=>cases h1
   |link j=>
    obtain⟨id,rfl,an,dM⟩:=yU8 hl;obtain⟨k1,k2,k3⟩:=Dg ok ho (κ:=κ) (n:=n) (ids:=ids) h2 dM hn;refine⟨k1,k2,fun hκ hj=>⟨fun v Ml lo hk hv=>?_,k3 hκ hj⟩⟩;obtain⟨C,B,hC,hB,e⟩:=hv;exact⟨C,B,by rw[hk,hj j id an];exact hC,hB,e⟩
  ·cases h
 |[],_::_,_,_,_,h,_,_=>by cases h
 |_::_,[],_,_,_,h,_,_=>by cases h
theorem Io {M Ml ao}(lo:rY M ao Ml):∀{cs aP vs},zL (rZ M ao Ml.κ) cs aP→zL (zX M) cs vs→zL (zX Ml) aP vs
 |[],[],[],_,_=>trivial
 |_::_,_::_,_::_,h,k=>⟨h.1 _ _ lo rfl k.1,Io lo h.2 k.2⟩
def Dh (ao:List Nat)(bs:List (Bool×Nat)):Prop:=∀b∈bs,(b.1=true→b.2∈ao)∧(b.1=false→b.2∉ao)
theorem vWg {M}(ok:Ok M){ao}(ho:nD M ao){io id cells}(h:Dd M.h io id=some cells)(hm:(io=true→id∈ao)∧(io=false→id∉ao)):
  ∃C B,M.κ id=some C∧C.blk=some B∧∀Ml bI,rY M ao Ml→zL (rZ M ao Ml.κ) cells bI→yW Ml (bif io then .box true bI else .robox bI) C:=by
 unfold Dd at h;split at h
 ·rename_i cs an;cases h;obtain⟨C,hC,B,vals,e,h1,h2,h3,h4,h5⟩:=ok.obj id _ an;exact⟨C,B,hC,h1,fun Ml bI lo ht=>⟨B,vals,e,h1,h2,by rw[lo.H];exact h3,Io lo ht h4,by simp⟩⟩
 ·rename_i own cs an;cases h;obtain⟨C,hC,B,vals,e,h1,h2,h3,h4,h5⟩:=ok.obj id _ an;refine⟨C,B,hC,h1,fun Ml bI lo ht=>⟨B,vals,e,h1,h2,by rw[lo.H];exact h3,Io lo ht h4,?_⟩⟩;rw[lo.F];cases own with
  |false=>exact tS ok ho (ok.GF B (h5 rfl))
  |true=>
   refine⟨by grind,fun hd=>?_⟩;obtain⟨jd,hj,D,hD,hb⟩:=hd;obtain⟨q,q1,q2⟩:=ho jd hj;exact ok.disj jd id q _ D C B (by grind) q1 an q2 rfl hD hC hb (by simp[qA.fp,h1])
 ·rename_i cs an;cases h;obtain⟨C,hC,B,vals,e,h1,h2,h3,h4,h5⟩:=ok.obj id _ an;refine⟨C,B,hC,h1,fun Ml bI lo ht=>⟨B,vals,e,h1,h2,by rw[lo.H];exact h3,Io lo ht h4,?_⟩⟩;rw[lo.F];exact tS ok ho h5
 ·cases h
def TN (M:zK)(ao:List Nat)(bs:List (Bool×Nat))(mk:List zY→List Obj)(cs:List zY):Prop:=∀(Ml:zK) (aP:List zY),rY M ao Ml→zL (rZ M ao Ml.κ) cs aP→
 zL (fun(b:Bool×Nat) o=>∃C B,M.κ b.2=some C∧C.blk=some B∧yW Ml o C∧o.owned=b.1) bs (mk aP)
theorem MO {M}(ok:Ok M){ao}(ho:nD M ao):∀{ls ids cs bs},jv M.h ls ids=some (cs,bs)→Dh ao bs→
  cs.length=(ls.flatMap (·.2)).length∧bs=(ls.map (·.1)).zip ids∧ids.length=ls.length∧TN M ao bs (Ii ls) cs
 |[],[],cs,bs,h,_=>by cases h;exact⟨rfl,rfl,rfl,fun _ _ _ _=>trivial⟩
 |(io,l)::ls,id::ids,cs,bs,h,hf=>by
  unfold jv at h;split at h
  ·rename_i cells rest Ay h1 h2;obtain⟨hl,h⟩:=wJ h;cases h;have hl:cells.length=l.length:=Nat.eq_of_beq_eq_true hl;obtain⟨C,B,hC,hB,hO⟩:=vWg ok ho h1 (hf _ (List.mem_cons_self ..));obtain⟨k1,k2,k3,k4⟩:=MO ok ho h2 fun b hb=>hf b (by grind)
   refine⟨by simp_all,by simp_all,by simp[k3],fun Ml aP lo ht=>?_⟩;have oF:=zL.take l.length ht;have nz:=zL.drop l.length ht;rw[←hl,List.drop_left] at nz;refine⟨⟨C,B,hC,hB,?_,?_⟩,?_⟩
   ·simp_all
   ·cases io<;>rfl
   ·rw[←hl];exact k4 Ml _ lo nz
  ·cases h
theorem Ip {h}:∀{ls ids cs bs},jv h ls ids=some (cs,bs)→bs.length=ls.length
 |[],[],_,_,e=>by cases e;rfl
 |(io,l)::ls,id::ids,cs,bs,e=>by
  unfold jv at e;split at e
  ·rename_i cells rest Ay h1 h2;obtain⟨_,e⟩:=wJ e;cases e;simp[Ip h2]
  ·cases e
theorem vGy {h}{s:AX}{a cs bs}(e:s.get h a=some (cs,bs)):bs.length=s.nb:=by
 unfold AX.get at e;split at e
 ·cases e;rfl
 ·obtain⟨_,e⟩:=wJ e;cases e;rfl
 ·rw[Ip e];rfl
 ·obtain⟨_,e⟩:=wJ e;rw[Ip e];rfl
 ·split at e
  ·rw[Ip e];simp[Dc,AX.nb]
  ·cases e
 ·cases e
theorem TO {h}:∀{n id ids},Ie h n id=some ids→ids.head? =some id∧ids.length=n
 |1,_,_,e=>by cases e;simp
 |n+2,id,ids,e=>by
  unfold Ie at e;split at e
  ·split at e
   ·split at e
    ·rename_i l hl;cases e;exact⟨rfl,by simp[(TO hl).2]⟩
    ·cases e
   ·cases e
  ·cases e
theorem vFk {M}(ok:Ok M){ao}(ho:nD M ao){s:AX}{a v cs bs}(hv:zT M a v)(h:s.get M.h a=some (cs,bs))(hf:Dh ao bs):
  cs.length=s.cells.length∧TN M ao bs (fun aP=>s.boxes aP) cs∧∀Ml aP n,rY M ao Ml→zL (rZ M ao Ml.κ) cs aP→(∀i b,bs[i]? =some b→Ml.κ (n+i)=M.κ b.2)→zT Ml (s.mk n aP) v:=by
 unfold AX.get at h;split at h
 ·cases h;refine⟨rfl,fun Ml aP lo ht=>trivial,fun Ml aP n lo ht _=>?_⟩
  match aP,ht with
  |[c'],ht=>exact ht.1 v Ml lo rfl hv
 ·rename_i l xs;obtain⟨hl,h'⟩:=wJ h;cases h';have hl:cs.length=l.length:=Nat.eq_of_beq_eq_true hl;obtain⟨vs,rfl,hx⟩:=hv;exact⟨by simp[AX.cells,hl],fun Ml aP lo ht=>trivial,fun Ml aP n lo ht _=>⟨vs,rfl,Io lo ht hx⟩⟩
 ·rename_i io l id;obtain⟨k1,k2,k3,k4⟩:=MO ok ho h hf;refine⟨by rw[k1];simp[AX.cells],k4,fun Ml aP n lo ht hκ=>?_⟩;obtain⟨C,B,hC,hB,e⟩:=hv;exact⟨C,B,by have:=hκ 0 (io,id) (by rw[k2];rfl);simp_all,hB,e⟩
 ·rename_i f bA g ids;obtain⟨hg,h'⟩:=wJ h;have Tj:f=g:=Nat.eq_of_beq_eq_true hg;subst Tj;obtain⟨k1,k2,k3,k4⟩:=MO ok ho h' hf;refine⟨by rw[k1];rfl,k4,fun Ml aP n lo ht hκ=>?_⟩;obtain⟨cv,rfl,hc⟩:=hv;refine⟨cv,rfl,?_⟩;have l2:=hc.length;refine zL.of_get (by simp_all) fun i h1 h2=>?_
  have hi:i<ids.length:=by omega
  obtain⟨C,B,q1,q2,q3⟩:=hc.get i hi h2;have hb:bs[i]? =some ((bA.map (·.1))[i]'(by simp at h1⊢;omega),ids[i]):=by
   grind
  grind
 ·rename_i ls id;split at h
  ·rename_i ids lG;obtain⟨k1,k2,k3,k4⟩:=MO ok ho h hf;refine⟨by rw[k1];simp[AX.cells,Dc,List.flatMap_map],k4,fun Ml aP n lo ht hκ=>?_⟩;obtain⟨C,B,hC,hB,e⟩:=hv;have hb:bs[0]? =some (true,id):=by
    obtain⟨h1,h2⟩:=TO lG;rw[k2];cases ids with
    |nil=>cases h1
    |cons i ids=>
     cases h1;cases ls with
     |nil=>cases k3
     |cons l ls=>rfl
   exact⟨C,B,by grind,hB,e⟩
  ·cases h
 ·cases h
theorem yTm {M}(ok:Ok M){ao}(ho:nD M ao):∀{l as vs cs bs},zL (zT M) as vs→kF M.h l as=some (cs,bs)→Dh ao bs→
  cs.length=(l.flatMap AX.cells).length∧(∀n,TN M ao bs (fun aP=>(Az l aP n).2) cs)∧
   ∀Ml aP n,rY M ao Ml→zL (rZ M ao Ml.κ) cs aP→(∀i b,bs[i]? =some b→Ml.κ (n+i)=M.κ b.2)→zL (zT Ml) (Az l aP n).1 vs
 |[],[],[],cs,bs,_,h,_=>by cases h;exact⟨rfl,fun _ _ _ _ _=>trivial,fun _ _ _ _ _ _=>trivial⟩
 |s::l,a::as,v::vs,cs,bs,hv,h,hf=>by
  unfold kF at h;split at h
  ·rename_i mD bs1 cs2 bs2 h1 h2;cases h;have hf1:Dh ao bs1:=fun b hb=>hf b (by grind)
   have hf2:Dh ao bs2:=fun b hb=>hf b (by grind)
   obtain⟨k1,k2,k3⟩:=vFk ok ho hv.1 h1 hf1;obtain⟨k4,k5,k6⟩:=yTm ok ho hv.2 h2 hf2;have cut:∀{κ:Nat→Option qA} {aP:List zY},zL (rZ M ao κ) (mD++cs2) aP→zL (rZ M ao κ) mD (aP.take s.cells.length)∧zL (rZ M ao κ) cs2 (aP.drop s.cells.length):=by
    intro κ aP ht;have oF:=zL.take s.cells.length ht;have nz:=zL.drop s.cells.length ht;simp_all
   refine⟨by simp_all,fun n Ml aP lo ht=>?_,fun Ml aP n lo ht hκ=>?_⟩
   ·obtain⟨oF,nz⟩:=cut ht;exact(k2 Ml _ lo oF).append (k5 _ Ml _ lo nz)
   ·obtain⟨oF,nz⟩:=cut ht;have hlen:=(k2 Ml _ lo oF).length;refine⟨k3 Ml _ n lo oF fun i b hb=>hκ i b ?_,k6 Ml _ _ lo nz fun i b hb=>?_⟩
    ·grind
    ·have:=hκ (bs1.length+i) b (by grind);grind
  ·cases h
def κX (M : zK) (bs : List (Bool × Nat)) (rows : List Nat) : Nat → Option qA := fun n => bif Nat.ble wR n then (match rows[n-wR]? with
  |some id=>(M.κ id).map fun C=>{C with ver:=0}
  |none=>none)
 else (match bs[n]? with
  |some b=>M.κ b.2
  |none=>none)
theorem AB:∀{bs} {i id:Nat},bs[i]? =some (true,id)→id∈vR bs
 |(true,a)::bs,0,id,h=>by cases h;exact List.mem_cons_self ..
 |(true,a)::bs,i+1,id,h=>List.mem_cons_of_mem _ (AB (bs:=bs) (i:=i) h)
 |(false,a)::bs,i+1,id,h=>AB (bs:=bs) (i:=i) h
theorem TP:∀{bs} {i j id:Nat},(vR bs).Nodup→bs[i]? =some (true,id)→bs[j]? =some (true,id)→i=j
 |(true,a)::bs,0,0,id,_,_,_=>rfl
 |(true,a)::bs,0,j+1,id,hn,h,k=>by
  cases h;exact absurd (AB (bs:=bs) (i:=j) k) (List.nodup_cons.1 hn).1
 |(true,a)::bs,i+1,0,id,hn,h,k=>by
  cases k;exact absurd (AB (bs:=bs) (i:=i) h) (List.nodup_cons.1 hn).1
 |(true,a)::bs,i+1,j+1,id,hn,h,k=>by rw[TP (bs:=bs) (List.nodup_cons.1 hn).2 h k]
 |(false,a)::bs,i+1,j+1,id,hn,h,k=>by rw[TP (bs:=bs) hn h k]
theorem vPn {M}(ok:Ok M){l as vs cs bs}{d:XD l}(hv:zL (zT M) as vs)(hg:kF M.h l as=some (cs,bs))(hd:py M.h (l.flatMap AX.cells) cs=some d)
  (dF:(vR bs++jK (l.flatMap AX.cells) cs).Nodup) (rL:∀id∈Ih (l.flatMap AX.cells) cs,id∉vR bs++jK (l.flatMap AX.cells) cs) (nE:∀id∈MN bs,id∉vR bs++jK (l.flatMap AX.cells) cs) (hlen:bs.length≤wR) (tT:rU ((l.flatMap AX.cells).map XC.lnk) (bs.map (·.2)) cs=true) (ho:nD M (vR bs++jK (l.flatMap AX.cells) cs)):
  ∃Ml:zK,rY M (vR bs++jK (l.flatMap AX.cells) cs) Ml∧Ml.h=(kG l d).2∧Ok Ml∧(∀b,qM Ml b→lf M (vR bs++jK (l.flatMap AX.cells) cs) b)∧zL (zT Ml) (kG l d).1 vs∧Ml.κ=κX M bs (jK (l.flatMap AX.cells) cs):=by
 generalize ig:vR bs++jK (l.flatMap AX.cells) cs=ao at*
 have wj:Dh ao bs:=by
  intro b hb;obtain⟨i,hi,rfl⟩:=List.getElem_of_mem hb;have Hq:bs[i]? =some bs[i]:=List.getElem?_eq_getElem hi;refine⟨fun e=>?_,fun e=>?_⟩
  ·rw[←ig];have:bs[i]? =some (true,bs[i].2):=by rw[Hq,←e]
   exact List.mem_append_left _ (AB this)
  ·apply nE;clear hg hd dF rL nE hlen ho ig hv tT
   induction bs generalizing i with
   |nil=>exact absurd hi (Nat.not_lt_zero i)
   |cons c bs ih=>
    obtain⟨io,a⟩:=c;cases i with
    |zero=>cases io<;>first|exact List.mem_cons_self .. |cases e
    |succ i=>cases io<;>first|exact List.mem_cons_of_mem _ (by grind)|exact ih i (by simpa using hi) (List.getElem_mem _) (List.getElem?_eq_getElem _) e
 let κ:=κX M bs (jK (l.flatMap AX.cells) cs);obtain⟨k1,k2,k3⟩:=Dg ok ho (κ:=κ) (n:=wR) (ids:=bs.map (·.2)) hd tT rL;have ht : zL (rZ M ao κ) cs (ie (l.flatMap AX.cells) d wR).1 := k3 (fun i id C hi hC=>by
  show κX M bs _ (wR+i)=_;unfold κX;rw[Nat.ble_eq_true_of_le (Nat.le_add_right _ _),show wR+i-wR=i by omega,hi];simp[hC]) fun j id hj=>by
  rw[List.getElem?_map] at hj;obtain⟨b,hb,rfl⟩:=Option.map_eq_some_iff.1 hj;have hi:j<bs.length:=by grind
  show κX M bs _ j=_;unfold κX;have:Nat.ble wR j=false:=by
   cases h:Nat.ble wR j with
   |false=>rfl
   |true=>have:=Nat.le_of_ble_eq_true h;omega
  rw[this,hb];rfl
 obtain⟨a1,a2,a3⟩:=yTm ok ho hv hg wj;let Ml:zK:={κ:=κ,F:=fun b=>b<M.H.size∧¬lf M ao b,G:=M.G,h:=(kG l d).2,H:=M.H};have lo:rY M ao Ml:=⟨rfl,rfl,rfl⟩;have AE:=a2 0 Ml _ lo ht;have hκbox:∀i b,bs[i]? =some b→Ml.κ (0+i)=M.κ b.2:=fun i b hb=>by
  have hi:i<bs.length:=by grind
  show κX M bs _ (0+i)=_;unfold κX;have:Nat.ble wR (0+i)=false:=by
   cases h:Nat.ble wR (0+i) with
   |false=>rfl
   |true=>have:=Nat.le_of_ble_eq_true h;omega
  rw[this,Nat.zero_add,hb];rfl
 have lM:∀id o,Ml.h id=some o→∃jd C,Ml.κ id=some C∧yW Ml o C∧(o.owned=true→jd∈ao∧∃D,M.κ jd=some D∧D.fp=C.fp)∧
   ((Nat.ble wR id=true∧(jK (l.flatMap AX.cells) cs)[id-wR]? =some jd)∨(Nat.ble wR id=false∧∃io,bs[id]? =some (io,jd)∧o.owned=io)):=by
  intro id o h;have h:Ij (Az l (ie (l.flatMap AX.cells) d wR).1 0).2 (ie (l.flatMap AX.cells) d wR).2 id=some o:=h;unfold Ij at h;cases hb:Nat.ble wR id with
  |true=>
   rw[hb] at h;have h:(ie (l.flatMap AX.cells) d wR).2[id-wR]? =some o:=h;have hi:=(List.getElem?_eq_some_iff.1 h).1;have hj:(jK (l.flatMap AX.cells) cs)[id-wR]? =some ((jK (l.flatMap AX.cells) cs)[id-wR]'(by omega)):=by simp
   obtain⟨C,hR⟩:=k2 _ _ _ hj h;refine⟨_,{C with ver:=0},?_,hR.rep Ml rfl rfl,fun _=>⟨?_,C,hR.κ,rfl⟩,.inl ⟨rfl,hj⟩⟩
   ·show κX M bs _ id=_;unfold κX;rw[hb,hj];simp[hR.κ]
   ·rw[←ig];exact by simp
  |false=>
   rw[hb] at h;have hi:=(List.getElem?_eq_some_iff.1 h).1;have TQ:id<bs.length:=by rw[AE.length];exact hi
   have hq:=AE.get id TQ hi;rw[List.getElem?_eq_getElem hi] at h;cases h;obtain⟨C,B,q1,q2,q3,q4⟩:=hq;have Hq:bs[id]? =some bs[id]:=List.getElem?_eq_getElem TQ;refine⟨bs[id].2,C,?_,q3,fun e=>⟨(wj _ (List.getElem_mem TQ)).1 (by rw[←q4];exact e),C,q1,rfl⟩,by grind⟩;have:=hκbox id _ Hq;rw[Nat.zero_add] at this;rw[this];exact q1
 have aL:∀b,qM Ml b→lf M ao b:=fun b ⟨id,o,C,h1,h2,h3,h4⟩=>by
  obtain⟨jd,C',q1,_,q3,_⟩:=lM id o h1;rw[h3] at q1;cases q1;obtain⟨p1,D,p2,p3⟩:=q3 h2;exact⟨jd,p1,D,p2,by rw[p3];exact h4⟩
 refine⟨Ml,lo,rfl,⟨fun id o h=>?_,fun id h=>?_,fun i j oi oj Ci Cj b od h1 h2 h3 h4 h5 h6 h7 h8=>?_,fun b hb=>⟨fun hf=>hf.2 (aL b hb),(ok.own b ((aL b hb).own ho)).2⟩,fun b hb=>tS ok ho (ok.GF b hb),fun b hb=>hb.1⟩,aL,a3 Ml _ 0 lo ht hκbox,rfl⟩
 ·obtain⟨jd,C,q1,q2,_⟩:=lM id o h;exact⟨C,q1,q2⟩
 ·have h:Ij (Az l (ie (l.flatMap AX.cells) d wR).1 0).2 (ie (l.flatMap AX.cells) d wR).2 id=none:=h;unfold Ij at h;show κX M bs _ id=none;unfold κX;cases hb:Nat.ble wR id with
  |true=>
   rw[hb] at h;have h:(ie (l.flatMap AX.cells) d wR).2[id-wR]? =none:=h;rw[List.getElem?_eq_none_iff,←k1] at h;rw[List.getElem?_eq_none h];rfl
  |false=>
   rw[hb] at h;have h:(Az l (ie (l.flatMap AX.cells) d wR).1 0).2[id]? =none:=h;rw[List.getElem?_eq_none_iff,←AE.length] at h;rw[List.getElem?_eq_none h];rfl
 ·obtain⟨ji,Ci',p1,_,p3,p4⟩:=lM i oi h1;obtain⟨jj,Cj',q1,_,q3,q4⟩:=lM j oj h2;rw[h5] at p1;cases p1;rw[h6] at q1;cases q1;obtain⟨p5,Di,p6,p7⟩:=p3 h3;obtain⟨q5,Dj,q6,q7⟩:=q3 h4;obtain⟨oi',r1,r2⟩:=ho ji p5;obtain⟨oj',r3,r4⟩:=ho jj q5;refine ok.disj ji jj oi' oj' Di Dj b (fun e=>?_) r1 r3 r2 r4 p6 q6 (by rw[p7];exact h7) (by rw[q7];exact h8);subst e;rw[←ig] at dF;obtain⟨n1,n2,n3⟩:=List.nodup_append.1 dF;rcases p4 with⟨p8,p9⟩|⟨p8,io,p9,tU⟩<;>rcases q4 with⟨q8,q9⟩|⟨q8,io',q9,MP⟩
  ·have:=(List.getElem?_inj (by grind) n2).1 (p9.trans q9.symm);have e1:=Nat.le_of_ble_eq_true p8;have e2:=Nat.le_of_ble_eq_true q8;exact od (by omega)
  ·rw[h4] at MP;subst MP;exact n3 _ (AB q9) _ (List.mem_of_getElem? p9) rfl
  ·rw[h3] at tU;subst tU;exact n3 _ (AB p9) _ (List.mem_of_getElem? q9) rfl
  ·rw[h3] at tU;rw[h4] at MP;subst tU;subst MP;exact od (TP n1 p9 q9)
theorem wk {n}:∀{ids h},qH h (pz ids) n=if n∈ids then some .gone else h n
 |[],_=>by rfl
 |id::ids,h=>by
  show qH (yG h id .gone) (pz ids) n=_;rw[wk (ids:=ids)];by_cases e:n=id
  ·subst e;simp[yK]
  ·rw[yO _ _ e];simp[e]
def zK.overX (M L:zK)(ao:List Nat):zK:={κ:=M.κ,F:=fun b=>M.F b∨L.G b,G:=L.G,h:=qH M.h (pz ao),H:=L.H}
theorem zK.overX_ok {M Ml L ao}(ok:Ok M)(iG:Ok L)(lo:rY M ao Ml)(ho:nD M ao)(hand:∀b,qM Ml b→lf M ao b)(g:ju Ml L):
  Ok (M.overX L ao)∧vC M (M.overX L ao)∧(∀b,qM (M.overX L ao) b→qM M b∧¬lf M ao b):=by
 have cQ:∀b,b<M.H.size→¬lf M ao b→L.H[b]? =M.H[b]? :=fun b hb hn=>by rw[g.same b (by rw[lo.F];simp_all),lo.H]
 have dV:M.H.size≤L.H.size:=by have:=g.size;rw[lo.H] at this;exact this
 have hG:∀b,L.G b→b<M.H.size→M.G b∨lf M ao b:=fun b hb hs=>by
  rcases g.Gb b hb (by rw[lo.H];exact hs) with h|h
  ·rw[lo.G] at h;simp_all
  simp_all
 have hsF:∀b,M.F b→L.H[b]? =M.H[b]? :=fun b h=>cQ b (tS ok ho h).1 (tS ok ho h).2
 have x:yL M (M.overX L ao):=⟨fun id C h=>⟨C,h,C.le_refl⟩,fun b h=>.inl h,fun b h=>g.G b (by rw[lo.G];exact h),fun b h=>hsF b h,fun b h=>hsF b (ok.GF b h),fun b h=>by
  have:=g.bsz b (by rw[lo.H];exact h);rw[lo.H] at this;exact this⟩
 have lM:∀id o,(M.overX L ao).h id=some o→o.owned=true→id∉ao∧M.h id=some o:=fun id o h iF=>by
  have h:qH M.h (pz ao) id=some o:=h;rw[wk] at h;by_cases hm:id∈ao
  ·rw[if_pos hm] at h;cases h;cases iF
  simp_all
 have TR:∀id o C,id∉ao→M.h id=some o→o.owned=true→M.κ id=some C→∀b∈C.fp,¬lf M ao b:=fun id o C hm h iF hC b hb ⟨jd,hj,D,hD,Tp⟩=>by
  obtain⟨q,q1,q2⟩:=ho jd hj;exact ok.disj id jd o q C D b (by grind) h q1 iF q2 hC hD hb Tp
 have aL:∀b,qM (M.overX L ao) b→qM M b∧¬lf M ao b:=fun b ⟨id,o,C,h1,h2,h3,h4⟩=>by
  obtain⟨k1,k2⟩:=lM id o h1 h2;exact⟨⟨id,o,C,k2,h2,h3,h4⟩,TR id o C k1 k2 h2 h3 b h4⟩
 refine⟨⟨fun id o h=>?_,fun id h=>?_,fun i j oi oj Ci Cj b od h1 h2 h3 h4 h5 h6 h7 h8=>?_,fun b h=>⟨fun hf=>?_,?_⟩,fun b h=>.inr h,fun b h=>?_⟩,⟨x,dV,fun b hb hn=>cQ b hb fun hh=>hn (hh.own ho),by grind,fun b h hs=>?_,fun b h hs=>?_⟩,aL⟩
 ·have h:qH M.h (pz ao) id=some o:=h;rw[wk] at h;by_cases hm:id∈ao
  ·rw[if_pos hm] at h;cases h;obtain⟨q,q1,q2⟩:=ho id hm;obtain⟨C,hC,_⟩:=ok.obj id q q1;exact⟨C,hC,trivial⟩
  ·rw[if_neg hm] at h;obtain⟨C,hC,hO⟩:=ok.obj id o h;exact⟨C,hC,hO.ext x fun iF b hb=>cQ b (ok.own b ⟨id,o,C,h,iF,hC,hb⟩).2 (by grind)⟩
 ·have h:qH M.h (pz ao) id=none:=h;rw[wk] at h;by_cases hm:id∈ao
  ·simp_all
  ·rw[if_neg hm] at h;exact ok.non id h
 ·exact ok.disj i j oi oj Ci Cj b od (lM i oi h1 h3).2 (by grind) h3 h4 h5 h6 h7 h8
 ·obtain⟨k1,k2⟩:=aL b h;have:=ok.own b k1;rcases hf with hf|hf
  ·simp_all
  ·rcases hG b hf this.2 with h|h
   ·exact this.1 (ok.GF b h)
   simp_all
 ·have h1:=(ok.own b (aL b h).1).2;show b<L.H.size;omega
 ·show b<L.H.size;rcases h with h|h
  ·have:=ok.Flt b h;omega
  ·exact iG.Flt b (iG.GF b h)
 ·rcases hG b h hs with h|h
  ·simp_all
  ·exact .inr (h.own ho)
 ·rcases h with h|h
  ·simp_all
  ·rcases hG b h hs with h|h
   ·exact .inl (ok.GF b h)
   ·exact .inr (h.own ho)
def qA.bare (C:qA):qA:={C with ver:=C.ver+1,rows:=[]}
def zK.revive (M:zK)(id:Nat)(C:qA)(cs:List zY):zK:={M with κ:=κset M.κ id C.bare,h:=yG M.h id (.box true cs)}
theorem zK.revive_ok {M}(ok:Ok M){id C B vals e cs}(hC:M.κ id=some C)(hB:C.blk=some B)(hH:M.H[B]? =some (.cells vals e (0,0)))(hc:zL (zX M) cs vals.toList)
  (h1:¬qM M B) (h2:¬M.F B):Ok (M.revive id C cs)∧yL M (M.revive id C cs)∧(∀b,qM (M.revive id C cs) b→qM M b∨b=B):=by
 have hκ:(M.revive id C cs).κ id=some C.bare:=κset_same _ _ _;have x:yL M (M.revive id C cs):=⟨fun jd D h=>by
  by_cases e':jd=id
  ·subst e';rw[hC] at h;cases h;exact⟨_,hκ,rfl,rfl,rfl,Nat.le_succ _,fun h=>absurd h (by simp[qA.bare])⟩
  ·exact⟨D,by show κset M.κ id _ jd=_;rw[κset_ne _ _ e'];exact h,D.le_refl⟩,fun _ h=>h,fun _ h=>h,fun _ _=>rfl,fun _ _=>rfl,fun _ _=>rfl⟩
 have rp:C.bare.fp=[B]:=by simp[qA.fp,qA.bare,hB]
 have zm:(M.revive id C cs).h id=some (.box true cs):=yK _ _ _;refine⟨Ok.build ok x (fun jd=>jd=id) (fun jd h=>yO _ _ h) (fun jd h=>κset_ne _ _ h) (fun _ _ _ _ _ _ _ _ _=>rfl) (fun jd o' D k1 k2 k3 k4 b bF=>(ok.own b ⟨jd,o',D,k2,k3,k4,bF⟩).1) (Nat.le_refl _)
  (fun jd o' e' h=>?_) (fun jd e' h=>?_) (fun jd o' D b e' k1 k2 k3 k4=>?_) ok.GF ok.Flt,x,fun b bF=>?_⟩
 ·subst e';rw[zm] at h;cases h;exact⟨_,hκ,B,vals,e,hB,rfl,hH,hc.mono fun _ _ h=>h.ext x,by simp⟩
 ·simp_all
 ·subst e';rw[hκ] at k3;cases k3;rw[rp,List.mem_singleton] at k4;subst k4;refine⟨fun j oj Cj hj q1 q2 q3 q4=>h1 ⟨j,oj,Cj,?_,q2,?_,q4⟩,h2,(Array.getElem?_eq_some_iff.1 hH).1⟩
  ·rw[←q1];exact(yO _ _ hj).symm
  ·rw[←q3];exact(κset_ne _ _ hj).symm
 ·obtain⟨jd,o',D,k1,k2,k3,k4⟩:=bF;by_cases e':jd=id
  ·simp_all
  ·exact .inl ⟨jd,o',D,by rw[←k1];exact(yO _ _ e').symm,k2,by rw[←k3];exact(κset_ne _ _ e').symm,k4⟩
structure yUz (M:zK) (id:Nat) (cs:List zY) (B:Nat):Prop where
 at':∃C,M.κ id=some C∧C.blk=some B
 rep:∃vals e,M.H[B]? =some (.cells vals e (0,0))∧zL (zX M) cs vals.toList
 own:¬qM M B
 F:¬M.F B
def oJ (R:Nat→List zY→Nat→Prop):List Nat→List (List zY)→List Nat→Prop
 |[],[],[]=>True
 |a::l,b::m,c::n=>R a b c∧oJ R l m n
 |_,_,_=>False
theorem oJ.mono {R S}:∀{l m n},(∀a b c,c∈n→R a b c→S a b c)→oJ R l m n→oJ S l m n
 |[],[],[],_,_=>trivial
 |_::_,_::_,_::_,h,k=>⟨h _ _ _ (by simp) k.1,oJ.mono (by grind) k.2⟩
theorem yUf:∀{ids css Bs M},Ok M→oJ (yUz M) ids css Bs→Bs.Nodup→
  ∃M':zK,M'.H=M.H∧M'.G=M.G∧M'.F=M.F∧M'.h=qH M.h (Df ids css)∧Ok M'∧yL M M'∧(∀b,qM M' b→qM M b∨b∈Bs)
 |[],[],[],M,ok,_,_=>⟨M,rfl,rfl,rfl,rfl,ok,.refl M,by simp⟩
 |id::ids,cs::css,B::Bs,M,ok,h,hn=>by
  obtain⟨C,hC,hB⟩:=h.1.at';obtain⟨vals,e,hH,hc⟩:=h.1.rep;obtain⟨k1,k2,k3⟩:=zK.revive_ok ok hC hB hH hc h.1.own h.1.F;obtain⟨n1,n2⟩:=List.nodup_cons.1 hn;obtain ⟨M', a1, a2, a3, a4, a5, a6, a7⟩ := yUf (M := M.revive id C cs) k1 (oJ.mono (fun a b c hcB hb=>by
   refine⟨?_,?_,fun ho=>?_,hb.F⟩
   ·obtain⟨D,q1,q2⟩:=hb.at';obtain⟨D',q3,le⟩:=k2.κ _ _ q1;exact⟨D',q3,le.blk.trans q2⟩
   ·obtain⟨vals,e,q1,q2⟩:=hb.rep;exact⟨vals,e,q1,q2.mono fun _ _ h=>h.ext k2⟩
   ·rcases k3 _ ho with h|h
    ·exact hb.own h
    simp_all) h.2) n2
  exact⟨M',a1,a2,a3,a4,a5,yL.trans (M:=M) (M':=M.revive id C cs) (Nat.le_refl _) k2 a6,by grind⟩
theorem yUn:∀{ids css h h'},ids.length=css.length→(∀n,n∉ids→h n=h' n)→qH h (Df ids css)=qH h' (Df ids css)
 |[],[],h,h',_,e=>funext fun n=>e n (by simp)
 |id::ids,cs::css,h,h',hl,e=>yUn (ids:=ids) (css:=css) (by simp_all) fun n hn=>by
   by_cases k:n=id
   ·subst k;rw[yK,yK]
   ·rw[yO _ _ k,yO _ _ k];simp_all
theorem vG6 {h0 s a a' v u M}(ok:Ok M)(hf:jC h0 M.h)(hv:zT M a v)(h:wi h0 s a=some (a',u)):
  ∃L:zK,L.H=M.H∧L.h=qH M.h u∧Ok L∧vC M L∧zT L a' v∧jC h0 L.h:=by
 unfold wi at h;split at h
 ·rename_i p x;split at h
  ·rename_i y u1 e;cases h;obtain⟨L,h1,h2,h3,h4,h5,h6⟩:=wa (cs:=[x]) (vs:=[v]) ok hf ⟨hv,trivial⟩ e;exact⟨L,h1,h2,h3,h4,h5.1,h6⟩
  ·cases h
 ·split at h
  ·rename_i ys u1 e;cases h;obtain⟨vs,rfl,hx⟩:=hv;obtain⟨L,h1,h2,h3,h4,h5,h6⟩:=wa ok hf hx e;exact⟨L,h1,h2,h3,h4,⟨vs,rfl,h5⟩,h6⟩
  ·cases h
 ·cases h;exact⟨M,rfl,rfl,ok,.refl M,hv,hf⟩
theorem vAm {h0}:∀{l as eN vs u M},Ok M→jC h0 M.h→zL (zT M) as vs→rV h0 l as=some (eN,u)→
  ∃L:zK,L.H=M.H∧L.h=qH M.h u∧Ok L∧vC M L∧zL (zT L) eN vs∧jC h0 L.h
 |s::l,a::as,eN,v::vs,u,M,ok,hf,hv,h=>by
  unfold rV at h;split at h
  ·rename_i a1 u1 Tt rr e1 e2;cases h;obtain⟨M1,h1,h2,h3,h4,h5,h6⟩:=vG6 ok hf hv.1 e1;obtain⟨M2,k1,k2,k3,k4,k5,k6⟩:=vAm h3 h6 (wb.ext h4.ext hv.2) e2;exact⟨M2,k1.trans h1,by rw[k2,h2,kX],k3,h4.trans k4,⟨h5.ext k4.ext,k5⟩,k6⟩
  ·cases h
 |[],as,eN,vs,u,M,ok,hf,hv,h=>by
  cases as<;>cases h<;>exact⟨M,rfl,rfl,ok,.refl M,hv,hf⟩
 |s::l,[],eN,vs,u,M,ok,hf,hv,h=>by cases h;exact⟨M,rfl,rfl,ok,.refl M,hv,hf⟩
def lN (M L:zK)(id jd:Nat):Prop:=∃C D B,M.κ id=some C∧C.blk=some B∧L.κ jd=some D∧D.blk=some B
theorem TS {M L}:∀{ls is js out} {us:List Value} {cs bs},jv M.h ls is=some (cs,bs)→Ik ls js=some out→
  zL (fun id u=>∃C B,M.κ id=some C∧C.blk=some B∧u=.pointer (some ⟨B,0,none⟩)) is us→zL (fun id u=>∃C B,L.κ id=some C∧C.blk=some B∧u=.pointer (some ⟨B,0,none⟩)) js us→zL (lN M L) (vR bs) out
 |[],[],[],out,us,cs,bs,h,k,_,_=>by cases h;cases k;exact trivial
 |(io,l)::ls,i::is,j::js,out,u::us,cs,bs,h,k,p,q=>by
  unfold jv at h;split at h
  ·rename_i cells rest Ay h1 h2;obtain⟨_,h⟩:=wJ h;cases h;unfold Ik at k;split at k
   ·rename_i o ho;cases k;have ih:=TS h2 ho p.2 q.2;cases io with
    |false=>exact ih
    |true=>
     obtain⟨C,B,k1,k2,k3⟩:=p.1;obtain⟨D,B',k4,k5,k6⟩:=q.1;rw[k3] at k6;cases k6;exact⟨⟨C,D,B,k1,k2,k4,k5⟩,ih⟩
   ·cases k
  ·cases h
theorem yL7 {M L}:∀{bs n},(∀q∈bs,q.1=true)→(∀i q,bs[i]? =some q→lN M L q.2 (n+i))→zL (lN M L) (vR bs) (lK n bs.length)
 |[],n,_,_=>trivial
 |(true,id)::bs,n,h,k=>⟨k 0 _ rfl,yL7 (by grind) fun i q hq=>by
   have:=k (i+1) q hq;grind⟩
 |(false,id)::bs,n,h,k=>by simp_all
theorem yAs {h}:∀{ls ids cs bs},jv h ls ids=some (cs,bs)→bs.map (·.1)=ls.map (·.1)
 |[],[],_,_,e=>by cases e;rfl
 |(io,l)::ls,id::ids,cs,bs,e=>by
  unfold jv at e;split at e
  ·rename_i cells rest Ay h1 h2;obtain⟨_,e⟩:=wJ e;cases e;simp[yAs h2]
  ·cases e
theorem vEi {M L}{s:AX}{a b v cs bs out}(h:s.get M.h a=some (cs,bs)){n}(k:s.io n b=some out)(p:zT M a v)(q:s.looks=true→zT L b v)(hk:s.isChn=true→∀i q,bs[i]? =some q→lN M L q.2 (n+i)):zL (lN M L) (vR bs) out:=by
 unfold AX.get at h;split at h
 ·cases h;cases k;exact trivial
 ·obtain⟨_,h'⟩:=wJ h;cases h';cases k;exact trivial
 ·unfold AX.io at k;split at k
  ·rename_i e;cases e
  ·rename_i e;cases e
  ·rename_i io' l' jd e;cases e;exact TS (us:=[v]) h k ⟨p,trivial⟩ ⟨q rfl,trivial⟩
  all_goals simp_all
 ·obtain⟨hg,h'⟩:=wJ h;unfold AX.io at k;split at k
  ·simp_all
  ·simp_all
  ·simp_all
  ·rename_i f' aa2 g' js e;cases e;obtain⟨cv,rfl,hc⟩:=p;obtain⟨cv',e',lB⟩:=q rfl;cases e';exact TS h' k hc lB
  all_goals simp_all
 ·rename_i ls id;split at h
  ·cases k;have h1:=Ip h;have h2:ls.length=bs.length:=by rw[h1];simp[Dc]
   rw[h2];exact yL7 (fun q hq=>by
    have:q.1∈bs.map (·.1):=by grind
    rw[yAs h] at this;exact(by simpa[Dc] using this:_∧_).2) (hk rfl)
  ·cases h
 ·cases h
theorem vBx {M L}:∀{l as vs t n cs bs out m},kF M.h l as=some (cs,bs)→ML l t n m=some out→zL (zT M) as vs→(∀i h s,l[i]? =some s→s.looks=true→zT L (t (n+i)) vs[i])→(l.any AX.isChn=true→∀i q,bs[i]? =some q→lN M L q.2 (m+i))→
  zL (lN M L) (vR bs) out
 |[],[],[],t,n,cs,bs,out,m,h,k,_,_,_=>by cases h;cases k;exact trivial
 |s::l,a::as,v::vs,t,n,cs,bs,out,m,h,k,p,q,hk=>by
  unfold kF at h;split at h
  ·rename_i c1 b1 c2 b2 h1 h2;cases h;unfold ML at k;split at k
   ·rename_i o1 o2 k1 k2;cases k;have e:∀b1 b2:List (Bool×Nat),vR (b1++b2)=vR b1++vR b2:=fun b1 b2=>by
     induction b1 with
     |nil=>rfl
     |cons x b1 ih=>obtain⟨io,y⟩:=x;cases io<;>simp[vR,ih]
    rw[e];have hnb:=vGy h1;refine(vEi h1 k1 p.1 (q 0 (by simp) s rfl) (by grind)).append (vBx h2 k2 p.2 (fun i hi s' hs hl=>?_) fun hc i q hq=>?_)
    rotate_left
    ·have:=hk (by simp_all) (b1.length+i) q (by grind);grind
    have:=q (i+1) (by simp_all) s' (by simp_all) hl;grind
   ·cases k
  ·cases h
 |[],_::_,_,_,_,_,_,_,_,h,_,_,_,_=>by cases h
theorem yXz {L}(iG:Ok L):∀{os ids bs},De L.h os ids=some bs→bs.length=os.flatten.length∧ids.length=os.length∧
  ∃us:List Value,zL (zX L) bs us∧∀{M cs},M.H=L.H→zL (zX M) cs us→oJ (fun id cs B=>(∃cells,L.h id=some (.box true cells))∧(∃C,L.κ id=some C∧C.blk=some B∧C.rows=[])∧∃vals e,M.H[B]? =some (.cells vals e (0,0))∧zL (zX M) cs vals.toList) ids (wh os cs) (ids.map fun id=>((L.κ id).bind qA.blk).getD 0)
 |[],[],bs,h=>by cases h;exact⟨rfl,rfl,[],trivial,fun _ _=>trivial⟩
 |o::os,n::ns,bs,h=>by
  unfold De at h;split at h
  ·rename_i cells rest h1 h2;obtain⟨hl,h⟩:=wJ h;cases h;obtain⟨C,hC,B,vals,e,q1,q2,q3,q4,_⟩:=iG.obj n _ h1;obtain⟨k1,k2,us,k3,k4⟩:=yXz iG h2;refine⟨by simp_all,by simp[k2],vals.toList++us,q4.append k3,fun{M cs} hH hc=>⟨⟨by grind,⟨C,hC,?_,q2⟩,vals,e,?_,?_⟩,?_⟩⟩
   ·simp_all
   ·simp_all
   ·have h1:=zL.take o.length hc;have Tq:=q4.length;simp_all
   ·have h1:=zL.drop o.length hc;have Tq:=q4.length;simp_all
  ·cases h
theorem vNf {h0 r c d}(h:pv h0 r c=some d):∀id∈wE [r] [c],∀own cells,h0 id≠some (.box own cells):=by
  unfold pv at h;split at h;all_goals (try (intro id an;simp[wE] at an;done))
  all_goals first
    |(done)
    | (intro CZ an own cells hb
       have:=List.mem_singleton.1 an;simp_all)
    |(cases h)
theorem yTw {L}:∀{l cs d},kE L l cs=some d→∀id∈wE l cs,∀own cells,L id≠some (.box own cells)
 |r::l,c::cs,d,h,id,an=>by
  unfold kE at h;split at h
  ·rename_i x xs e1 e2;rw[MG] at an;rcases List.mem_append.1 an with an|an
   ·exact vNf e1 id an
   ·exact yTw e2 id an
  ·cases h
theorem yGk:∀a b,vR (a++b)=vR a++vR b
 |[],_=>rfl
 |(true,_)::a,b
 |(false,_)::a,b=>by simp[vR,yGk a b]
theorem Iq {h}:∀{ls is cs bs},jv h ls is=some (cs,bs)→∀id∈vR bs,∃o,h id=some o∧o.owned=true
 |[],[],_,_,e=>by cases e;nofun
 |(io,l)::ls,i::is,cs,bs,e=>by
  unfold jv at e;split at e
  ·rename_i cells rest Ay h1 h2;obtain⟨_,e⟩:=wJ e;cases e;intro id an;cases io with
   |false=>exact Iq h2 id an
   |true=>
    rcases List.mem_cons.1 an with rfl|an
    ·unfold Dd at h1;split at h1
     ·rename_i c hc;exact⟨_,hc,rfl⟩
     all_goals simp_all
    ·exact Iq h2 id an
  ·cases e
theorem TT {h}{s:AX}{a cs bs}(e:s.get h a=some (cs,bs)):∀id∈vR bs,∃o,h id=some o∧o.owned=true:=by
 unfold AX.get at e;split at e
 ·cases e;nofun
 ·obtain⟨_,e⟩:=wJ e;cases e;nofun
 ·exact Iq e
 ·obtain⟨_,e⟩:=wJ e;exact Iq e
 ·split at e
  ·exact Iq e
  ·cases e
 ·cases e
theorem yOd {h}:∀{l as cs bs},kF h l as=some (cs,bs)→l.length=as.length∧∀id∈vR bs,∃o,h id=some o∧o.owned=true
 |[],[],_,_,e=>by cases e;exact⟨rfl,nofun⟩
 |s::l,a::as,cs,bs,e=>by
  unfold kF at e;split at e
  ·rename_i c1 b1 c2 b2 h1 h2;cases e;obtain⟨k1,k2⟩:=yOd h2;refine⟨by simp[k1],fun id an=>?_⟩;rw[yGk] at an;rcases List.mem_append.1 an with an|an
   ·exact TT h1 id an
   simp_all
  ·cases e
theorem yPq {h}:∀{l cs d},py h l cs=some d→∀id∈jK l cs,∃o,h id=some o∧o.owned=true
 |[],[],_,_=>nofun
 |x::l,c::cs,d,e=>by
  unfold py at e;split at e
  ·rename_i y ys h1 h2;have ih:=yPq h2;unfold Ig at h1;split at h1
   ·exact ih
   ·intro jd an;rcases List.mem_cons.1 an with rfl|an
    ·split at h1
     ·rename_i s xs hs;exact⟨_,hs,rfl⟩
     ·cases h1
    ·simp_all
   ·intro jd an;rcases List.mem_cons.1 an with rfl|an
    ·split at h1
     ·rename_i s xs hs;exact⟨_,hs,rfl⟩
     ·cases h1
    ·exact ih jd an
   ·intro jd an;rcases List.mem_cons.1 an with rfl|an
    ·split at h1
     ·rename_i xs hs;exact⟨_,hs,rfl⟩
     ·cases h1
    simp_all
   ·exact ih
   ·cases h1
  ·cases e
theorem yT8 {a b}(h:TL a b=true):∀id∈b,id∉a:=fun id hb ha=>by
 have h:=List.all_eq_true.1 h id ha;have:b.any (Nat.beq id)=true:=List.any_eq_true.2 ⟨id,hb,by simp⟩;simp_all
theorem yE4:∀os cs,(wh os cs).length=os.length
 |[],_=>rfl
 |_::os,cs=>by simp[wh,yE4 os]
theorem vBw {M L}{P:zK→Nat→Prop}{R}:∀{ids js css Bs},zL (lN M L) ids js→oJ R js css Bs→oJ (fun id cs B=>∃jd,lN M L id jd∧R jd cs B) ids css Bs
 |[],[],[],[],_,_=>trivial
 |_::_,_::_,_::_,_::_,h,k=>⟨⟨_,h.1,k.1⟩,vBw (P:=P) h.2 k.2⟩
theorem zK.gone_ok {M}(ok:Ok M){nm}(aS:M.h nm=none) C:
  Ok (M.add nm .gone C)∧yL M (M.add nm .gone C)∧(∀b,qM (M.add nm .gone C) b→qM M b):=by
 have x:yL M (M.add nm .gone C):=⟨fun id D h=>by
  have bm:id≠nm:=fun e=>by rw[e,ok.non nm aS] at h;cases h
  exact⟨D,by show κset M.κ nm _ id=_;rw[κset_ne _ _ bm];exact h,D.le_refl⟩,fun _ h=>h,fun _ h=>h,fun _ _=>rfl,fun _ _=>rfl,fun _ _=>rfl⟩
 have at':∀o,(M.add nm .gone C).h nm=some o→o=.gone:=fun o h=>by
  have e1:(M.add nm .gone C).h nm=some .gone:=yK _ _ _;simp_all
 refine⟨Ok.build ok x (fun id=>id=nm) (fun id h=>yO _ _ h) (fun id h=>κset_ne _ _ h) (fun _ _ _ _ _ _ _ _ _=>rfl) (fun id o' D h1 h2 h3 h4 b bF=>(ok.own b ⟨id,o',D,h2,h3,h4,bF⟩).1) (Nat.le_refl _)
  (fun id o' e h=>?_) (fun id e h=>?_) (fun id o' D b e h1 h2 h3 h4=>?_) ok.GF ok.Flt,x,fun b bF=>?_⟩
 ·subst e;rw[at' o' h];exact⟨_,κset_same _ _ _,trivial⟩
 ·have e1:(M.add id .gone C).h id=some .gone:=yK _ _ _;simp_all
 ·subst e;rw[at' o' h1] at h2;cases h2
 ·obtain⟨id,o',D,h1,h2,h3,h4⟩:=bF;by_cases e:id=nm
  ·subst e;rw[at' o' h1] at h2;cases h2
  ·exact⟨id,o',D,by rw[←h1];exact(yO _ _ e).symm,h2,by rw[←h3];exact(κset_ne _ _ e).symm,h4⟩
theorem yOg:∀{n nm Bs M},Ok M→(∀i,i<n→M.h (nm+i)=none)→Bs.length=n→
  ∃M':zK,M'.H=M.H∧M'.G=M.G∧M'.F=M.F∧M'.h=qH M.h (pz (lK nm n))∧Ok M'∧yL M M'∧(∀b,qM M' b→qM M b)∧zL (fun id B=>∃C,M'.κ id=some C∧C.blk=some B) (lK nm n) Bs
 |0,nm,[],M,ok,_,_=>⟨M,rfl,rfl,rfl,rfl,ok,.refl M,by simp,trivial⟩
 |n+1,nm,B::Bs,M,ok,hf,hl=>by
  obtain⟨k1,k2,k3⟩:=zK.gone_ok ok (hf 0 (by omega)) ⟨some B,0,0,0,[]⟩;obtain ⟨M', a1, a2, a3, a4, a5, a6, a7, a8⟩ := yOg (n := n) (nm := nm + 1) (Bs := Bs) k1 (fun i hi=>by
   have:=hf (i+1) (by omega);rw[show nm+1+i=nm+(i+1) by omega,←this];exact yO _ _ (by omega)) (by simp_all)
  refine⟨M',a1,a2,a3,a4,a5,yL.trans (M:=M) (M':=M.add nm .gone ⟨some B,0,0,0,[]⟩) (Nat.le_refl _) k2 a6,by grind,?_,a8⟩;obtain⟨C,h1,h2⟩:=a6.κ nm _ (κset_same _ _ _);exact⟨C,h1,h2.blk⟩
theorem TU {L M ids js}(hs:zL (lN M L) ids js):∀{l cs ds vs},rU l js cs=true→zL (zX L) cs vs→zL (zX M) ds vs→zL (zX M) (Ax l ids ds) vs
 |[],cs,ds,vs,_,_,hd=>by exact hd
 |none::l,[],[],[],_,_,_=>trivial
 |none::l,c::cs,d::ds,v::vs,h,hc,hd=>⟨hd.1,TU hs (l:=l) h hc.2 hd.2⟩
 |some j::l,c::cs,d::ds,v::vs,h,hc,hd=>by
  obtain⟨id,rfl,an,h'⟩:=yU8 h;refine⟨?_,TU hs h' hc.2 hd.2⟩;have hj:=(List.getElem?_eq_some_iff.1 an).1;have hi:j<ids.length:=by rw[hs.length];exact hj
  have:=hs.get j hi hj;rw[(List.getElem?_eq_some_iff.1 an).2] at this;obtain⟨C,D,B,q1,q2,q3,q4⟩:=this;obtain⟨D',B',p1,p2,p3⟩:=hc.1;rw[q3] at p1;cases p1;rw[q4] at p2;cases p2;rw[List.getElem?_eq_getElem hi];exact⟨C,B,q1,q2,p3⟩
 |_,[],_::_,[],_,_,hd=>hd.elim
 |_,_::_,[],[],_,hc,_=>hc.elim
theorem vIc {h ns cs nw}(e:TK h ns cs=some nw):nw.length=ns:=by
 unfold TK at e;cases h0:Nat.beq ns 0 with
 |true=>simp_all
 |false=>
  rw[h0] at e;split at e
  ·exact(TO e).2
  ·cases e
def MQ (w:World)(na:Nat)(chn:Bool)(M:zK)(vs:Array Value)(rv:Value)(w':World)(v:zW)(st:St):Prop:=
 ∃M':zK,M'.h=st.h∧M'.H=w'.heap∧Ok M'∧ju M M'∧(chn=true→fF M M')∧zT M' v rv∧w'.os=w.os∧w'.tape=w.tape∧w'.output=w.output∧(∀t,t<na→zT M' (st.t t) (vs.getD t undef))
theorem yHz {n}:∀{l nm d hh},(∀j,j<l.length→n≠nm+j)→qH hh (oD nm l d).2 n=hh n
 |[],_,_,_,_=>rfl
 |r::l,nm,d,hh,h=>by
  show qH hh ((rN nm r d.1).2++(oD (nm+1) l d.2).2) n=_;rw[kX,yHz fun j hj=>by have:=h (j+1) (by simp_all);omega,vBb (by have:=h 0 (by simp);omega)]
theorem vHm {M}(ok:Ok M){io id cells}(h:Dd M.h io id=some cells):∃C B,M.κ id=some C∧C.blk=some B:=by
 have h':C6 M.h id=some cells:=by
  unfold Dd at h;unfold C6;grind
 obtain⟨C,h1,B,_,_,h2,_⟩:=yMd ok h';simp_all
theorem MR {M}(ok:Ok M):∀{ls is cs bs},jv M.h ls is=some (cs,bs)→∀q∈bs,∃C B,M.κ q.2=some C∧C.blk=some B
 |[],[],_,_,e=>by cases e;simp
 |(io,l)::ls,i::is,cs,bs,e=>by
  unfold jv at e;split at e
  ·rename_i cells rest Ay h1 h2;obtain⟨_,e⟩:=wJ e;cases e;intro q hq;rcases List.mem_cons.1 hq with rfl|hq
   ·exact vHm ok h1
   ·exact MR ok h2 q hq
  ·cases e
theorem yL9 {M}(ok:Ok M):∀{l as cs bs},kF M.h l as=some (cs,bs)→∀q∈bs,∃C B,M.κ q.2=some C∧C.blk=some B
 |[],[],_,_,e=>by cases e;simp
 |s::l,a::as,cs,bs,e=>by
  unfold kF at e;split at e
  ·rename_i c1 b1 c2 b2 h1 h2;cases e;intro q hq;rcases List.mem_append.1 hq with hq|hq
   ·unfold AX.get at h1;split at h1
    ·simp_all
    ·grind
    ·exact MR ok h1 q hq
    ·obtain⟨_,h1⟩:=wJ h1;exact MR ok h1 q hq
    ·split at h1
     ·exact MR ok h1 q hq
     ·cases h1
    ·cases h1
   ·exact yL9 ok h2 q hq
  ·cases e
theorem yA4 {L}(ok:Ok L):∀{os ids bs},De L.h os ids=some bs→∀j∈ids,∃cells C B,L.h j=some (.box true cells)∧L.κ j=some C∧C.blk=some B
 |[],[],_,_=>by simp
 |o::os,n::ns,bs,h=>by
  unfold De at h;split at h
  ·rename_i cells rest h1 h2;intro j hj;rcases List.mem_cons.1 hj with rfl|hj
   ·obtain⟨C,hC,B,vals,e,q1,_⟩:=ok.obj _ _ h1;simp_all
   ·exact yA4 ok h2 j hj
  ·cases h
theorem yI8 {L}(ok:Ok L):∀{js:List Nat},js.Nodup→(∀j∈js,∃cells C B,L.h j=some (.box true cells)∧L.κ j=some C∧C.blk=some B)→(js.map fun id=>((L.κ id).bind qA.blk).getD 0).Nodup
 |[],_,_=>by simp
 |a::js,hn,bn=>by
  obtain⟨n1,n2⟩:=List.nodup_cons.1 hn;refine List.nodup_cons.2 ⟨fun lO=>?_,yI8 ok n2 (by grind)⟩;obtain⟨j,hj,pA⟩:=List.mem_map.1 lO;obtain⟨c1',C,B,q1,q2,q3⟩:=bn a (by simp);obtain⟨c2',D,B',q4,q5,q6⟩:=bn j (by grind);have pA:((L.κ j).bind qA.blk).getD 0=((L.κ a).bind qA.blk).getD 0:=pA;rw[q2,q5] at pA;have pA:(D.blk.getD 0)=(C.blk.getD 0):=pA;rw[q3,q6] at pA;subst pA;exact ok.disj a j _ _ C D B' (by grind) q1 q4 rfl rfl q2 q5 (by simp[qA.fp,q3]) (by simp[qA.fp,q6])
theorem yNt {na as}(kH:tQ as na=true){nm n args h u0 io rows d}(he:AA as nm n args h=some (u0,io,rows,d)) M w vs (hh:M.h=h)(hH:M.H=w.heap)(ok:Ok M)(hv:zL (zT M) args vs.toList):
  ∃Ml:zK,Ml.h=(kG as d).2∧Ml.H=w.heap∧Ok Ml∧zL (zT Ml) (kG as d).1 vs.toList∧
   ∀rv w' v0 st,MQ w na (as.any AX.isChn) Ml vs rv w' v0 st→∀rs os ns dx,wg st as rs os ns v0=some dx→(rs.cells++os.flatten).length+ns≤n→
    ∃Mf,tD M w (Im u0 io rows rs os ns nm dx).2 Mf w'∧zT Mf (Im u0 io rows rs os ns nm dx).1 rv:=by
 unfold AA at he;split at he
 ·cases he
 rename_i eK u z9;split at he
 ·cases he
 rename_i cs bs dJ;split at he
 ·cases he
 rename_i d' hd;dsimp only at he;obtain⟨hc,he⟩:=ny he;cases he;simp only[Bool.and_eq_true] at hc;obtain⟨⟨⟨⟨⟨⟨nF,cL⟩,dH⟩,gD⟩,mI⟩,Dl⟩,Dm⟩:=hc;subst hh;obtain⟨M1,a1,a2,a3,a4,a5,a6⟩:=vAm ok (jC.refl _) hv z9;rw[←a2] at hd dJ;obtain⟨aa3,vu⟩:=yOd dJ;have aW:=yPq hd;have eg:nD M1 (vR bs++jK (as.flatMap AX.cells) cs):=fun id an=>(List.mem_append.1 an).elim (vu id) (aW id)
 have TV:=CU gD;obtain⟨Ml,lo,b2,b3,b4,b5,b6⟩:=vPn a3 a5 dJ hd TV (yT8 mI) (yT8 Dl) (Nat.le_of_ble_eq_true dH) Dm eg;generalize ig:vR bs++jK (as.flatMap AX.cells) cs=ao at*
 refine⟨Ml,b2,by rw[lo.H,a1];exact hH,b3,b5,fun rv w' v0 st ⟨L0,c1,c2,c3,c4,ck,c5,c6,c7,c8,c9⟩ rs os ns dx hK hn=>?_⟩;unfold wg at hK;split at hK
 ·cases hK
 rename_i TW lG;split at hK
 ·cases hK
 rename_i ccs nA;split at hK
 ·cases hK
 rename_i nw hnw;split at hK
 ·cases hK
 rename_i bcs tV;obtain⟨Ir,MS⟩:=ny hK;clear hK;split at MS
 case h_2=>cases MS
 rename_i aP u1 Av;obtain⟨dF,hK⟩:=ny MS;clear MS;rw[Bool.and_eq_true] at dF;obtain⟨dF,Is⟩:=dF;have TX:=vIc hnw;obtain⟨hlen,us,d1,d2⟩:=yDp nA c5;rw[←c1] at Av hK tV;obtain⟨js,vl⟩:∃js,js=TW++nw:=⟨_,rfl⟩;rw[←vl] at tV Ir Is;obtain⟨k1,k2,MU,k3,k4⟩:=yXz c3 tV;obtain⟨L,e1,e2,e3,e4,e5,e6⟩:=wa c3 (jC.refl _) (d1.append k3) Av;rw[←e2] at hK;have g:ju Ml L:=c4.trans e4.grow;obtain⟨f1,f2,f3⟩:=zK.overX_ok a3 e3 lo eg b4 g;have cQ : zL (lN M1 L0) (vR bs) TW := vBx dJ lG a5 (fun i hi s hs tT=>by
  have bH:i<vs.size:=by simpa using hi
  have bh:i<na:=by
   have:=List.all_eq_true.1 kH (s,i) (List.mk_mem_zipIdx_iff_getElem?.2 hs);simp only[tT,Bool.not_true,Bool.false_or] at this;exact RP this
  have:=c9 i bh;rw[Nat.zero_add];have e:vs.getD i undef=vs.toList[i]:=by simp[bH]
  rw[←e];exact this) fun mJ i q hq=>by
   obtain⟨C,B,p1,p2⟩:=yL9 a3 dJ q (List.mem_of_getElem? hq);have hi:i<bs.length:=(List.getElem?_eq_some_iff.1 hq).1;have hκ:Ml.κ i=some C:=by
    rw[b6];unfold κX;have:Nat.ble wR i=false:=by
     cases h:Nat.ble wR i with
     |false=>rfl
     |true=>have h1:=Nat.le_of_ble_eq_true h;have h2:=Nat.le_of_ble_eq_true dH;omega
    rw[this,hq];exact p1
   obtain⟨C',p3,p4⟩:=ck mJ i C hκ;rw[Nat.zero_add];exact⟨C,C',B,p1,p2,p3,p4.trans p2⟩
 have pB:∀i,i<n→(M1.overX L ao).h (nm+i)=none:=fun i hi=>by
  have h1:=Tn nF i hi;have h2:M1.h (nm+i)=none:=by
   rw[a2];rcases a6 (nm+i) with h|⟨own,t,xs,h,_⟩|⟨ver,xs,h,_⟩
   ·rw[a2] at h;rw[h];exact h1
   ·rw[h1] at h;cases h
   ·rw[h1] at h;cases h
  show qH M1.h (pz ao) (nm+i)=none;rw[wk,if_neg,h2];intro lO;obtain⟨o,ho,_⟩:=eg _ lO;rw[h2] at ho;cases ho
 have pw:∀i,i<(rs.cells++os.flatten).length→(M1.overX L ao).h (nm+i)=none:=fun i hi=>pB i (by omega)
 have tW:∀b,qM L b→b<M1.H.size→lf M1 ao b:=fun b hb bh=>b4 b (g.own b hb (by rw[lo.H];exact bh))
 have wm:∀b,qM L b→¬(M1.overX L ao).F b:=fun b hb h=>by
  rcases h with h|h
  ·exact(tS a3 eg h).2 (tW b hb (a3.Flt b h))
  ·exact(e3.own b hb).1 (e3.GF b h)
 have wo:∀b,qM L b→¬qM (M1.overX L ao) b:=fun b hb h=>by
  obtain⟨q1,q2⟩:=f3 b h;exact q2 (tW b hb (a3.own b q1).2)
 obtain ⟨Mc, g1, g2, g3, g4, g5, g6, g7, g8⟩ := To e3 f1 ⟨rfl, rfl⟩ pw hK (CU dF) (wc hK) (fun id an C hC b hb=>by
  obtain⟨o,ho,iF⟩:=wc hK id an;have aL:qM L b:=⟨id,o,C,ho,iF,hC,hb⟩;exact⟨wo b aL,wm b aL,(e3.own b aL).2⟩)
 obtain ⟨Mg, n1, n2, n3, n4, n5, n6, n7, n8⟩ := yOg (n := ns) (nm := nm + (rs.cells ++ os.flatten).length) (Bs := nw.map fun id => ((L0.κ id).bind qA.blk).getD 0) g5 (fun i hi=>by
  rw[g4,yHz (fun j hj=>by omega),Nat.add_assoc];exact pB _ (by omega)) (by simp[TX])
 have pC:∀j∈js,∃cells C B,L0.h j=some (.box true cells)∧L0.κ j=some C∧C.blk=some B:=yA4 c3 tV;have MV:yL M1 Mg:=(f2.ext.trans f2.size g6).trans (by rw[g1];exact f2.size) n6;have CY:zL (lN Mg L0) (vR bs) TW:=cQ.mono fun id jd hq=>by
  obtain⟨C,D,B,q1,q2,q3,q4⟩:=hq;obtain⟨C',p3,le⟩:=MV.κ id C q1;exact⟨C',D,B,p3,le.blk.trans q2,q3,q4⟩
 have Dn:zL (lN Mg L0) (lK (nm+(rs.cells++os.flatten).length) ns) nw:=by
  have hl8:=n8.length;rw[List.length_map] at hl8;refine zL.of_get hl8 fun i h1 h2=>?_
  obtain⟨C,q1,q2⟩:=n8.get i h1 (by simpa using h2);obtain⟨cells,D,B,p1,p2,p3⟩:=pC nw[i] (by rw[vl];exact List.mem_append_right _ (List.getElem_mem _));refine⟨C,D,B,q1,?_,p2,p3⟩;rw[q2,List.getElem_map,p2];show some (D.blk.getD 0)=_;rw[p3];rfl
 have lP:zL (lN Mg L0) (vR bs++lK (nm+(rs.cells++os.flatten).length) ns) js:=by
  rw[vl];exact CY.append Dn
 have tX:zL (lN Mg L) (vR bs++lK (nm+(rs.cells++os.flatten).length) ns) js:=lP.mono fun id jd hq=>by
  obtain⟨C,D,B,q1,q2,q3,q4⟩:=hq;obtain⟨D',p3,le⟩:=e4.ext.κ jd D q3;exact⟨C,D',B,q1,q2,p3,le.blk.trans q4⟩
 have AF:=TU tX Is e5 ((g8 _ e5).mono fun _ _ h=>h.ext n6);obtain⟨G,hG⟩:∃G,G=Ax ((rs.cells++os.flatten).map RC.lnk) (vR bs++lK (nm+(rs.cells++os.flatten).length) ns) (oD nm (rs.cells++os.flatten) dx).1:=⟨_,rfl⟩;rw[←hG] at AF;have CL:us.length=rs.cells.length:=by rw[←d1.length,hlen]
 have hgr:zL (zX Mg) (G.take rs.cells.length) us:=by
  have:=zL.take rs.cells.length AF
  rwa [show(us++MU).take rs.cells.length=us from by rw[←CL,List.take_left]] at this
 have hgb:zL (zX Mg) (G.drop rs.cells.length) MU:=by
  have:=zL.drop rs.cells.length AF
  rwa [show(us++MU).drop rs.cells.length=MU from by rw[←CL,List.drop_left]] at this
 have hHc:Mg.H=L0.H:=by rw[n1,g1];exact e1
 have Iu:=vBw (P:=fun _ _=>True) lP (k4 hHc hgb);have wq:∀jd B,(∃cells,L0.h jd=some (.box true cells))→(∃C,L0.κ jd=some C∧C.blk=some B)→∃cells C,L.h jd=some (.box true cells)∧L.κ jd=some C∧B∈C.fp:=fun jd B ⟨cells,q1⟩ ⟨C,q2,q3⟩=>by
  obtain⟨C',q4,le⟩:=e4.ext.κ jd C q2;refine⟨cells,C',?_,q4,?_⟩
  ·rcases e6 jd with h|⟨own,t,xs,h,_⟩|⟨ver,xs,h,_⟩
   ·rw[h,q1]
   ·rw[q1] at h;cases h
   ·rw[q1] at h;cases h
  ·have:C'.blk=some B:=le.blk.trans q3;simp[qA.fp,this]
 have Iv:∀b,b∈(js.map fun id=>((L0.κ id).bind qA.blk).getD 0)→qM L b:=fun b hb=>by
  obtain⟨j,hj,rfl⟩:=List.mem_map.1 hb;obtain⟨cells,C,B,q1,q2,q3⟩:=pC j hj;obtain⟨bI,D,p4,p5,p6⟩:=wq j B ⟨cells,q1⟩ ⟨C,q2,q3⟩;have e:((L0.κ j).bind qA.blk).getD 0=B:=by rw[q2];show C.blk.getD 0=B;rw[q3];rfl
  rw[e];exact⟨j,_,D,p4,rfl,p5,p6⟩
 have AG : oJ (yUz Mg) (vR bs ++ lK (nm + (rs.cells ++ os.flatten).length) ns) (wh os (G.drop rs.cells.length)) (js.map fun id => ((L0.κ id).bind qA.blk).getD 0) := oJ.mono (fun id css B _ ⟨jd,q1,q2,⟨D0,q3,q3b,_⟩,q4⟩=>by
  obtain⟨C,D1,B',p1,p2,p3,p3b⟩:=q1;rw[q3] at p3;cases p3;rw[q3b] at p3b;cases p3b;obtain⟨cells,D,p4,p5,p6⟩:=wq jd B q2 ⟨_,q3,q3b⟩;have aL:qM L B:=⟨jd,_,D,p4,rfl,p5,p6⟩;refine⟨⟨C,p1,p2⟩,q4,fun ho=>?_,?_⟩
  ·rcases g7 B (n7 B ho) with h|⟨kd,wu,D',p7,p8⟩
   ·exact wo B aL h
   ·obtain⟨o,p9,tU⟩:=wc hK kd wu;refine e3.disj jd kd _ o D D' B (fun e=>?_) p4 p9 rfl tU p5 p7 p6 p8;exact yTw hK kd wu true cells (by rw[←e];exact p4)
  ·rw[n3,g3];exact wm B aL) Iu
 have hBs:(js.map fun id=>((L0.κ id).bind qA.blk).getD 0).Nodup:=yI8 c3 (CU Ir) pC;obtain⟨Mf,r1,r2,r3,r4,r5,r6,r7⟩:=yUf n5 AG hBs;have Tv:vC M1 Mf:=by
  have aL:∀b,qM Mf b→b<M1.H.size→qM M1 b:=fun b hb bh=>by
   rcases r7 b hb with hb|hb
   ·rcases g7 b (n7 b hb) with h|⟨id,an,C,hC,C8⟩
    ·exact(f3 b h).1
    ·obtain⟨o,ho,iF⟩:=wc hK id an;exact(tW b ⟨id,o,C,ho,iF,hC,C8⟩ bh).own eg
   ·exact(tW b (Iv b hb) bh).own eg
  have MH:Mf.H=(M1.overX L ao).H:=r1.trans (n1.trans g1);refine⟨MV.trans ?_ r6,?_,fun b hb hn=>?_,aL,fun b hb bh=>?_,fun b hb bh=>?_⟩
  ·rw[n1,g1];exact f2.size
  ·rw[MH];exact f2.size
  ·rw[MH];exact f2.frame b hb hn
  ·rw[r2,n2,g2] at hb;exact f2.Gb b hb bh
  ·rw[r3,n3,g3] at hb;exact f2.Fb b hb bh
 have pD:(vR bs++lK (nm+(rs.cells++os.flatten).length) ns).length=(wh os (G.drop rs.cells.length)).length:=by
  rw[yE4,lP.length,k2]
 refine⟨Mf,⟨c6,c7,c8,?_,?_,r5,a4.trans Tv⟩,?_⟩
 ·rw[r1,n1,g1];show L.H=_;rw[e1,c2]
 ·rw[r4,n4,g4];show _=qH M.h (u0++(pz (jK (as.flatMap AX.cells) cs)++((oD nm (rs.cells++os.flatten) dx).2++Df (vR bs++lK (nm+(rs.cells++os.flatten).length) ns) (wh os ((Ax ((rs.cells++os.flatten).map RC.lnk) (vR bs++lK (nm+(rs.cells++os.flatten).length) ns) (oD nm (rs.cells++os.flatten) dx).1).drop rs.cells.length)))));rw[←hG,kX,kX,kX,←a2];refine yUn pD fun m hm=>?_
  rw[List.mem_append,not_or] at hm;rw[wk,if_neg hm.2];refine zq ?_;show qH M1.h (pz ao) m=_;rw[wk,wk,←ig];simp[hm.1]
 ·show zT Mf (rs.mk ((Ax ((rs.cells++os.flatten).map RC.lnk) (vR bs++lK (nm+(rs.cells++os.flatten).length) ns) (oD nm (rs.cells++os.flatten) dx).1).take rs.cells.length)) rv;rw[←hG];exact d2 Mf _ (hgr.mono fun _ _ h=>h.ext r6)
theorem yWr {P na f}(ca:∀vs w,(callFunc f vs).run P w=.ok (.enter f vs) w)
  {as rs os ns X} {S:XD as→Option X} {pack unpack} (fi:∀d,pack (unpack d)=d) (kH:tQ as na=true)
  (lQ:∀d x,S d=some x→∀M w vs,M.h=(kG as d).2→M.H=w.heap→Ok M→zL (zT M) (kG as d).1 vs.toList→Calls P f vs w fun
   |.returned rv,w'=>∃(v:zW) (st:St),Il as rs os ns unpack v st=some x∧MQ w na (as.any AX.isChn) M vs rv w' v st
   |_,_=>False)
  {nm args h v u} (hy:yI (rW as rs os ns S pack nm args h) v u):tE P f args h v u:=by
 intro M w vs hh hH ok hv;refine .inl ⟨ca vs w,?_⟩;unfold rW at hy;split at hy
 ·exact hy.elim
 rename_i u0 io rows d he;obtain⟨x,hx,rfl,rfl⟩:=hy;obtain⟨Ml,b1,b2,b3,b4,b5⟩:=yNt kH he M w vs hh hH ok hv;refine Calls.mono (lQ d x hx Ml w vs b1 b2 b3 b4) fun e w' hl=>?_
 cases e with
 |panicked _=>omega
 |outgrown=>omega
 |returned rv=>
  obtain⟨v0,st,hK,hl⟩:=hl;have hK:wg st as rs os ns v0=some (pack x):=by
   unfold Il at hK;grind
  grind
theorem vJs {P na f}(ca:∀vs w,(callFunc f vs).run P w=.ok (.enter f vs) w)
  {as rs dq os dr ns fk X Y} {S:XD as→Option (X⊕Y)} {pk up iH ld}
  (fi:∀d,pk (up d)=d) (nG:∀d,iH (ld d)=d) (kH:tQ as na=true)
  (lQ:∀d x,S d=some x→∀M w vs,M.h=(kG as d).2→M.H=w.heap→Ok M→zL (zT M) (kG as d).1 vs.toList→Calls P f vs w fun
   |.returned rv,w'=>∃(v:zW) (st:St),MM as rs os ns dq dr fk up ld v st=some x∧MQ w na (as.any AX.isChn) M vs rv w' v st
   |_,_=>False)
  {nm args h v u} (hy:yI (tR as rs os ns dq dr fk S pk iH nm args h) v u):tE P f args h v u:=by
 intro M w vs hh hH ok hv;refine .inl ⟨ca vs w,?_⟩;unfold tR at hy;split at hy
 ·exact hy.elim
 rename_i u0 io rows d he;obtain⟨Ml,b1,b2,b3,b4,b5⟩:=yNt kH he M w vs hh hH ok hv;rcases hy with⟨x,hx,rfl,rfl⟩|⟨x,hx,rfl,rfl⟩<;>
 ·refine Calls.mono (lQ d _ hx Ml w vs b1 b2 b3 b4) fun e w' hl=>?_
  cases e with
  |panicked _=>omega
  |outgrown=>omega
  |returned rv=>
   obtain⟨v0,st,hK,hl⟩:=hl;unfold MM at hK;grind
theorem yU9 {E}(hE:gd E)(hS:jt E.sums)(hm:E.P.follows .mixedOrders=true){A k pre na f fn}(hf:E.P.funcs[f]? =some fn)(hL:∀c,fn.body=some c→wF E.P A pre na fn.ntmps c){chn}(mJ:(!chn||A.loops.isEmpty)=true)
  {R K} {x:R} {args h} (aQ:kk E A k pre na fn args h K=some x) {M w vs} (h1:M.h=h) (h2:M.H=w.heap) (h3:Ok M) (h4:zL (zT M) args vs.toList):
  Calls E.P f vs w fun
   |.returned rv,w'=>∃(v:zW) (st:St),K v st=some x∧MQ w na chn M vs rv w' v st
   |_,_=>False:=by
 refine Calls.mono (Tb hE hS hm hf hL aQ h1 h2 h3 h4) fun e w' hl=>?_
 cases e with
 |panicked _=>omega
 |outgrown=>omega
 |returned rv=>
  obtain⟨M',v,st,a1,a2,a3,a4,a5,a6,a7,a8,a9,Iw,a11⟩:=hl;refine⟨v,st,a1,M',a2,a3,a4,a5,fun hc=>a6 ?_,a7,a8,a9,Iw,a11⟩;simp_all
theorem vFu {E}(hE:gd E)(hS:jt E.sums)(hm:E.P.follows .mixedOrders=true){A k pre na f fn}(hf:E.P.funcs[f]? =some fn)(hL:∀c,fn.body=some c→wF E.P A pre na fn.ntmps c)(ca:∀vs w,(callFunc f vs).run E.P w=.ok (.enter f vs) w)
  {as rs os ns X} {S:XD as→Option X} {pack unpack} (fi:∀d,pack (unpack d)=d) (kH:tQ as na=true) (mJ:(!as.any AX.isChn||A.loops.isEmpty)=true)
  (aQ:∀d,kk E A k pre na fn (kG as d).1 (kG as d).2 (Il as rs os ns unpack)=S d)
  {nm args h v u} (hy:yI (rW as rs os ns S pack nm args h) v u):tE E.P f args h v u:=
 yWr ca fi kH (fun d x hx M w vs h1 h2 h3 h4=>yU9 hE hS hm hf hL mJ ((aQ d).trans hx) h1 h2 h3 h4) hy
theorem vU0 {E}(hE:gd E)(hS:jt E.sums)(hm:E.P.follows .mixedOrders=true){A k pre na f fn}(hf:E.P.funcs[f]? =some fn)(hL:∀c,fn.body=some c→wF E.P A pre na fn.ntmps c)(ca:∀vs w,(callFunc f vs).run E.P w=.ok (.enter f vs) w)
  {as rs dq os dr ns fk X Y} {S:XD as→Option (X⊕Y)} {pk up iH ld}
  (fi:∀d,pk (up d)=d) (nG:∀d,iH (ld d)=d) (kH:tQ as na=true) (mJ:(!as.any AX.isChn||A.loops.isEmpty)=true)
  (aQ:∀d,kk E A k pre na fn (kG as d).1 (kG as d).2 (MM as rs os ns dq dr fk up ld)=S d)
  {nm args h v u} (hy:yI (tR as rs os ns dq dr fk S pk iH nm args h) v u):tE E.P f args h v u:=
 vJs ca fi nG kH (fun d x hx M w vs h1 h2 h3 h4=>yU9 hE hS hm hf hL mJ ((aQ d).trans hx) h1 h2 h3 h4) hy
section
variable {h h':Hp}
theorem vCz {x c}(hh:∀id∈vL c,h id=h' id):Ig h x c=Ig h' x c:=by
 unfold Ig;split
 ·exact yNn hh
 ·rename_i id;rw[hh id (by simp[vL])]
 ·rename_i id;rw[hh id (by simp[vL])]
 ·rename_i id;rw[hh id (by simp[vL])]
 ·rfl
 ·rfl
theorem yM7:∀{l cs},(∀id∈cs.flatMap vL,h id=h' id)→py h l cs=py h' l cs
 |[],[],_
 |[],_::_,_
 |_::_,[],_=>rfl
 |p::l,c::cs,hh=>by
  simp  at hh;unfold py;rw[vCz fun id hi=>hh id (.inl hi),yM7 (by grind)]
theorem vJp {ls}:jv h ls []=jv h' ls []:=by
 cases ls<;>rfl
theorem vE5 {s:AX}{a}(hb:wQ a=false):s.get h a=s.get h' a:=by
 unfold AX.get;cases s with
 |c p=>grind
 |agg l=>grind
 |ptr io l=>
  cases a with
  |c x=>cases x<;>first|rfl|(exact absurd hb (by simp[wQ]))
  |_=>rfl
 |fn f bA=>
  cases a with
  |c x=>cases x with
   |fn g ids=>
    cases ids with
    |nil=>dsimp only;rw[vJp]
    |cons _ _=>exact absurd hb (by nofun)
   |_=>rfl
  |_=>rfl
 |chn ls=>
  cases a with
  |c x=>cases x<;>first|rfl|(exact absurd hb (by nofun))
  |_=>rfl
theorem vVd {s:AX}{a cs bs}(hb:wQ a=false)(e:s.get h a=some (cs,bs)):∀id∈cs.flatMap vL,id∈yN a:=by
 unfold AX.get at e;split at e
 ·cases e;intro id an;simp  at an;exact an
 ·obtain⟨_,e⟩:=wJ e;cases e;exact fun id an=>an
 ·exact absurd hb (by nofun)
 ·rename_i f bA g ids;obtain⟨_,e⟩:=wJ e;cases ids with
  |nil=>cases bA with
   |nil=>cases e;simp
   |cons _ _=>cases e
  |cons _ _=>exact absurd hb (by nofun)
 ·exact absurd hb (by nofun)
 ·cases e
theorem yFz:∀{l as},as.any wQ=false→kF h l as=kF h' l as
 |[],[],_
 |[],_::_,_
 |_::_,[],_=>rfl
 |s::l,a::as,hb=>by
  simp only[List.any_cons,Bool.or_eq_false_iff] at hb;unfold kF;rw[vE5 (h:=h) (h':=h') hb.1,yFz hb.2]
theorem yYn:∀{l as cs bs},as.any wQ=false→kF h l as=some (cs,bs)→∀id∈cs.flatMap vL,id∈as.flatMap yN
 |[],[],cs,bs,_,e=>by cases e;simp
 |s::l,a::as,cs,bs,hb,e=>by
  simp only[List.any_cons,Bool.or_eq_false_iff] at hb;unfold kF at e;split at e
  ·rename_i c1 b1 c2 b2 e1 e2;cases e;intro id an;rw[List.flatMap_append,List.mem_append] at an;rw[List.flatMap_cons,List.mem_append];rcases an with an|an
   ·exact .inl (vVd hb.1 e1 id an)
   ·exact .inr (yYn hb.2 e2 id an)
  ·cases e
theorem vF0 {s a}(hh:∀id∈yN a,h id=h' id):wi h s a=wi h' s a:=by
 unfold wi;split
 ·rename_i p x;have:=Da (h:=h) (h':=h') (l:=[p.isKept]) (cs:=[x]) (by rw[C9];exact hh);simp_all
 ·rename_i l xs;have:=Da (h:=h) (h':=h') (l:=l.map PC.isKept) (cs:=xs) hh;simp_all
 ·rfl
theorem TY {s a a' u}(e:wi h s a=some (a',u)):(∀id∈yN a',id∈yN a)∧(wQ a=false→wQ a'=false):=by
 unfold wi at e;split at e
 ·rename_i p x;split at e
  ·rename_i y u1 e1;cases e;refine⟨fun id an=>by have:=Db e1 id (by rw[C9];omega);rwa [C9] at this,fun hb=>?_⟩;cases hk:p.isKept with
   |false=>rw[hk] at e1;cases e1;exact hb
   |true=>
    rw[hk] at e1;unfold gf at e1;split at e1
    ·rename_i c1 u2 mD rr e2 e3;cases e1;cases hy:wQ (.c y) with
     |false=>rfl
     |true=>rw[(Tz e2).2 hy] at hb;cases hb
    ·cases e1
  ·cases e
 ·split at e
  ·rename_i ys u1 e1;cases e;exact⟨Db e1,fun _=>rfl⟩
  ·cases e
 simp_all
theorem yU0:∀{l as},(∀id∈as.flatMap yN,h id=h' id)→rV h l as=rV h' l as
 |[],as,_=>by rfl
 |_::_,[],_=>rfl
 |s::l,a::as,hh=>by
  simp  at hh;unfold rV;rw[vF0 fun id hi=>hh id (.inl hi),yU0 (by grind)]
theorem yCk:∀{l as eN u},rV h l as=some (eN,u)→(∀id∈eN.flatMap yN,id∈as.flatMap yN)∧(as.any wQ=false→eN.any wQ=false)
 |[],as,eN,u,e=>by cases as<;>cases e<;>exact by simp
 |s::l,[],eN,u,e=>by cases e;simp
 |s::l,a::as,eN,u,e=>by
  unfold rV at e;split at e
  ·rename_i a1 u1 Tt rr e1 e2;obtain⟨k1,k2⟩:=TY e1;obtain⟨k3,k4⟩:=yCk e2;grind
  ·cases e
theorem yF3 {as nm n args}(h1:args.any wQ=false→∀id,(id∈args.flatMap yN∨nj nm id=true)→h id=h' id)(h2:args.any wQ=true→h=h'):AA as nm n args h=AA as nm n args h':=by
 cases hb:args.any wQ with
 |true=>rw[h2 hb]
 |false=>
  have hh:=h1 hb;unfold AA;rw[yU0 (h:=h) (h':=h') (by grind)];cases e:rV h' as args with
  |none=>rfl
  |some p=>
   obtain⟨eK,u⟩:=p;obtain⟨k1,k2⟩:=yCk e;dsimp only;rw[yFz (h:=qH h u) (h':=qH h' u) (k2 hb)];cases e2:kF (qH h' u) as eK with
   |none=>rfl
   |some q=>
    obtain⟨cs,bs⟩:=q;dsimp only;rw[yM7 (h:=qH h u) (h':=qH h' u) fun id an=>zq (hh id (.inl (k1 id (yYn (k2 hb) e2 id an))))];cases py (qH h' u) (as.flatMap AX.cells) cs with
    |none=>rfl
    |some d=>
     cases hle:Nat.ble n 100 with
     |false=>simp
     |true=>
      have hle:=Nat.le_of_ble_eq_true hle;rw [TA (h := h) (h' := h') fun i hi => hh _ (.inr (by
       simp only[nj,Bool.and_eq_true];exact⟨by simp,by simp[Nat.blt_eq];omega⟩))]
end
theorem yUi {as rs os ns X}{S:Nat→XD as→Option X}{pack}:H8 fun k nm args h=>rW as rs os ns (S k) pack nm args h:=by
 intro k nm args h h' h1 h2;show rW as rs os ns (S k) pack nm args h=rW as rs os ns (S k) pack nm args h';unfold rW;rw[yF3 h1 h2]
theorem vGq {as rs dq os dr ns fk X Y}{S:Nat→XD as→Option (X⊕Y)}{pk iH}:H8 fun k nm args h=>tR as rs os ns dq dr fk (S k) pk iH nm args h:=by
 intro k nm args h h' h1 h2;show tR as rs os ns dq dr fk (S k) pk iH nm args h=tR as rs os ns dq dr fk (S k) pk iH nm args h';unfold tR;rw[yF3 h1 h2]
structure zD (P:Program) (r:Nat×nB):Prop where
 ok:yI0 P r
 loc:H8 r.2
def Dp (P:Program):List (Nat×nB)→Prop
 |[]=>True
 |r::l=>zD P r∧Dp P l
theorem Dp.all {P}:∀{l},Dp P l→∀r∈l,zD P r
 |a::l,h,r,hr=>by
  rcases List.mem_cons.1 hr with rfl|hr
  ·exact h.1
  ·exact Dp.all h.2 r hr
structure jL (E:Env):Prop where
 ok:gd E
 loc:jt E.sums
 ord:E.P.follows .mixedOrders=true
theorem MW {P l eqT}(he:HA P eqT)(hm:P.follows .mixedOrders=true)(h:Dp P l):jL ⟨P,eqT,fj l⟩:=
 ⟨⟨he,yWg fun r hr=>(h.all r hr).ok⟩,yT2 fun r hr=>(h.all r hr).loc,hm⟩
theorem nH {P l}(hm:P.follows .mixedOrders=true)(h:Dp P l):jL ⟨P,fun _=>false,fj l⟩:=MW vLd hm h
theorem loops1 {P A pre na nt c L}(h:zU P pre na nt (zQ c 0) L)(hn:(nC c).length=1:=by kernel_rfl) (hl:vh A (zQ c 0)=some L:=by kernel_rfl):wF P A pre na nt c:=
 oG hn (by grind)
theorem zF {P A pre na nt c}(hn:(nC c).length=0:=by kernel_rfl):wF P A pre na nt c:=vC7 hn
def yPc (E:Env)(A:zZ)(na nt:Nat)(b:Code) ins outs {X Y:Type}(mv:uZ outs→X)(c:Y→tc ins→Option X)(bf:Nat→Y→Y):Prop:=
 ∀k rec d,c (bf k rec) d=LR (1000+hZ) ins d fun st=>kj E A k 1000 na nt b st (yTi 1000 ins outs mv (c rec))
abbrev vSl (X:Type):=Nat→X→(R:Type)→(Ex→St→Option R)→Option R
theorem vXx {E A na nt b ins outs X Y mv c bf}(hE:jL E)(hs:yPc E A na nt b ins outs mv c bf)(f:Nat→Nat→Y)(elim:vSl X)
  (hX:∀o R K,elim (1000+hZ) (mv o) R K=Cy (1000+hZ) outs o K) (hL:wF E.P A 1000 na nt b) (h0:∀k d,c (f k 0) d=none:=by intros;rfl) (h1:∀k n,f k (n+1)=bf k (f k n):=by intros;rfl):
  zU E.P 1000 na nt b ⟨ins,outs,X,fun k d=>c (f k k) d,elim⟩:=
 vUs hE.ok hE.loc hE.ord hL mv elim hX (fun k n d=>c (f k n) d) h0 (fun k n d=>by rw[h1];exact hs k (f k n) d)
def TZ (E:Env)(A:zZ)(na:Nat)(fn:Func) as (rs:RS){X}(up:RL rs.cells→X)(S:Nat→AD as→Option X):Prop:=
 ∀k d,kk E A k 1000 na fn (pt as d).1 (pt as d).2 (mH rs up)=S k d
def yZe (E:Env)(A:zZ)(na:Nat)(fn:Func) as (rs:RS)(os:List (List RC))(ns:Nat){X}(up:RL (rs.cells++os.flatten)→X)(S:Nat→XD as→Option X):Prop:=
 ∀k d,kk E A k 1000 na fn (kG as d).1 (kG as d).2 (Il as rs os ns up)=S k d
def yK8 (E:Env)(A:zZ)(na:Nat)(fn:Func) as (rs:RS)(os:List (List RC))(ns:Nat)(dq:RS)(dr:List (List RC))(fk:Nat){X Y}(up:RL (rs.cells++os.flatten)→X)(ld:RL (dq.cells++dr.flatten)→Y)(S:Nat→XD as→Option (X⊕Y)):Prop:=
 ∀k d,kk E A k 1000 na fn (kG as d).1 (kG as d).2 (MM as rs os ns dq dr fk up ld)=S k d
theorem vVm {E A na f fn as rs X S pack}{unpack:RL rs.cells→X}(hE:jL E)(aQ:TZ E A na fn as rs unpack S)(hL:wF E.P A 1000 na fn.ntmps (zS fn))
  (hf:E.P.funcs[f]? =some fn:=by kernel_rfl) (hb:fn.body.isNone=false:=by kernel_rfl) (hn:(fn.name== "runtime.NumGoroutine")=false:=by kernel_rfl) (fi:∀d,pack (unpack d)=d:=by intro d;rfl):
  zD E.P (f,fun k nm args h=>oE as rs (S k) pack nm args h):=
 ⟨fun k _ _ _ _ _ hy=>vH3 hE.ok hE.loc hE.ord hf (body_loops hL) (Ia hf hb hn) fi (aQ k) hy,yB1⟩
theorem vN2 {E A na f fn as rs os ns X}{S:Nat→XD as→Option X}{pack unpack}(hE:jL E)(aQ:yZe E A na fn as rs os ns unpack S)
  (hL:wF E.P A 1000 na fn.ntmps (zS fn)) (hf:E.P.funcs[f]? =some fn:=by kernel_rfl) (hb:fn.body.isNone=false:=by kernel_rfl) (hn:(fn.name== "runtime.NumGoroutine")=false:=by kernel_rfl) (kH:tQ as na=true:=by kernel_rfl) (mJ:(!as.any AX.isChn||A.loops.isEmpty)=true:=by kernel_rfl) (fi:∀d,pack (unpack d)=d:=by intro d;rfl):
  zD E.P (f,fun k nm args h=>rW as rs os ns (S k) pack nm args h):=
 ⟨fun k _ _ _ _ _ hy=>vFu hE.ok hE.loc hE.ord hf (body_loops hL) (Ia hf hb hn) fi kH mJ (aQ k) hy,yUi⟩
theorem vP2 {E A na f fn as rs dq os dr ns fk X Y}{S:Nat→XD as→Option (X⊕Y)}{pk up iH ld}(hE:jL E)
  (aQ:yK8 E A na fn as rs os ns dq dr fk up ld S)
  (hL:wF E.P A 1000 na fn.ntmps (zS fn)) (hf:E.P.funcs[f]? =some fn:=by kernel_rfl) (hb:fn.body.isNone=false:=by kernel_rfl) (hn:(fn.name== "runtime.NumGoroutine")=false:=by kernel_rfl) (kH:tQ as na=true:=by kernel_rfl) (mJ:(!as.any AX.isChn||A.loops.isEmpty)=true:=by kernel_rfl) (fi:∀d,pk (up d)=d:=by intro d;rfl) (nG:∀d,iH (ld d)=d:=by intro d;rfl):
  zD E.P (f,fun k nm args h=>tR as rs os ns dq dr fk (S k) pk iH nm args h):=
 ⟨fun k _ _ _ _ _ hy=>vU0 hE.ok hE.loc hE.ord hf (body_loops hL) (Ia hf hb hn) fi nG kH mJ (aQ k) hy,vGq⟩
theorem vPc {E A na f fn sh t rs X}{S:Nat→List t.den→Option X}{pack unpack}(hE:jL E)(cJ:∀k,kk E A k 1000 na fn [.c .nsl] (lJ []) (mH rs unpack)=S k [])
  (aQ:∀k xs,kk E A k 1000 na fn [.c (.nfl sh t xs)] (lJ []) (mH rs unpack)=S k xs) (hL:wF E.P A 1000 na fn.ntmps (zS fn)) (hf:E.P.funcs[f]? =some fn:=by kernel_rfl) (hb:fn.body.isNone=false:=by kernel_rfl) (hn:(fn.name== "runtime.NumGoroutine")=false:=by kernel_rfl) (fi:∀d,pack (unpack d)=d:=by intro d;rfl):
  zD E.P (f,fun k nm args h=>oE [.c (.dat sh t)] rs (fun d=>S k d.1) pack nm args h):=
 ⟨fun k _ _ _ _ _ hy=>vZd hE.ok hE.loc hE.ord hf (body_loops hL) (Ia hf hb hn) fi (fun x hx=>(cJ k).trans hx) (by grind) hy,yB1⟩
def Dq (k:Nat)(a b c:Int):Option (Int×Int):=
 bif decide (c=0) then some (Int.ofNat ((a.toNat+b.toNat+0)%18446744073709551616),Int.ofNat ((a.toNat+b.toNat+0)/18446744073709551616)) else none
def MX:nB:=fun k nm args h=>match args with
 |[.c (.int .u64 a),.c (.int .u64 b),.c (.int .u64 c)]=>.call (Int×Int) (Dq k a b c) (fun r=>(.tup [(false,[.int .u64 r.1]),(false,[.int .u64 r.2])],[]))
 |_=>.stuck
theorem vSw {P} a b w:
  (add64Entry #[.int .u64 a,.int .u64 b,.int .u64 0]).run P w=.ok (.tuple #[.int .u64 (Int.ofNat ((a.toNat+b.toNat+0)%18446744073709551616)),.int .u64 (Int.ofNat ((a.toNat+b.toNat+0)/18446744073709551616))]) w:=rfl
theorem T0 {P f fn}(hf:P.funcs[f]? =some fn:=by kernel_rfl) (pE:(fn.name== "runtime.NumGoroutine")=false:=by kernel_rfl) (hb:fn.body.isNone=true:=by kernel_rfl)
  (hn:Extern.findNext fn=none:=by kernel_rfl) (he:Extern.find fn=some add64Entry:=by kernel_rfl):
  zD P (f,MX):=by
 refine⟨fun k nm args h v u hy=>?_,fun _ _ _ _ _ _ _=>rfl⟩;intro M w vs hh hH ok hv;refine .inr ?_;replace hy:yI (MX k nm args h) v u:=hy;unfold MX at hy;split at hy
 ·rename_i a b c;obtain⟨x,hx,rfl,rfl⟩:=hy
  match hl:vs.toList,hv with
  |[v1,v2,v3],hv=>
   obtain⟨h1,h2,h3,_⟩:=hv;cases h1;cases h2;cases h3;obtain rfl:vs=#[.int .u64 a,.int .u64 b,.int .u64 c]:=by grind
   obtain⟨hc,hx⟩:=wJ hx;cases hx;have hc:c=0:=by simp_all
   subst hc;refine⟨.tuple #[.int .u64 (Int.ofNat ((a.toNat+b.toNat+0)%18446744073709551616)),.int .u64 (Int.ofNat ((a.toNat+b.toNat+0)/18446744073709551616))],w,M,?_,⟨rfl,rfl,rfl,hH,rfl,ok,.refl M⟩,?_⟩
   ·rw[run_callFunc_extern hf pE hb hn he,vSw a b w];rfl
   ·exact⟨#[.int .u64 (Int.ofNat ((a.toNat+b.toNat+0)%18446744073709551616)),.int .u64 (Int.ofNat ((a.toNat+b.toNat+0)/18446744073709551616))],rfl,rfl,rfl,trivial⟩
 ·exact hy.elim
end Go.Ab
