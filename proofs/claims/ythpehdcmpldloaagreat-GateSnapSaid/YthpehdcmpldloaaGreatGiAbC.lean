/- part 2 -/
import Derived.Test.YthpehdcmpldloaaGreatGiAbB
import Derived.ProofKit
import Derived.Below
import Derived.Carry
import Derived.Laws.Externs
set_option linter.unusedVariables false
set_option linter.unusedSimpArgs false
set_option linter.unusedSectionVars false
namespace Go.Ab
def Ex.toExit:Ex→Exit
 |.normal=>.normal
 |.ret=>.ret
 |.exit id=>.exit id
theorem yKw {P Q c}(I:Nat→Act→World→Prop)(round:∀n a w,I n a w→c.wp P (Exit.then (fun a' w'=>∃m,m<n∧I m a' w') Q) a w){n a w}(h₀:I n a w):(Code.loop c).wp P Q a w:=by
 intro b k cs;have key:∀n a w,I n a w→∃e a' w',Q e a' w'∧Arrives P (lone (b.at a (.code c::.inLoop c::k)) cs w) b k cs e a' w':=by
  intro n
  induction n using Nat.strongRecOn with
  |_ n ih=>
   intro a w hI;obtain⟨e,a₁,w₁,hq,ki⟩:=round n a w hI b (.inLoop c::k) cs;cases e with
   |normal=>
    obtain⟨m,hm,hI₁⟩:=hq;obtain⟨e₂,a₂,w₂,hq₂,harr₂⟩:=ih m hm a₁ w₁ hI₁;exact⟨e₂,a₂,w₂,hq₂,.of_steps (Steps.trans ki (.one step_inLoop)) harr₂⟩
   |exit id=>exact⟨_,a₁,w₁,hq,.pass (x:=.inLoop c) rfl (by simp) ki⟩
   |goto l=>exact⟨_,a₁,w₁,hq,.pass (x:=.inLoop c) rfl (by simp) ki⟩
   |ret=>exact⟨_,a₁,w₁,hq,.pass (x:=.inLoop c) rfl (fun _ _=>.inl (by simp)) ki⟩
   |panic ch=>exact⟨_,a₁,w₁,hq,.pass (x:=.inLoop c) rfl (fun _ _=>.inl (by simp)) ki⟩
   |outgrown=>exact⟨_,a₁,w₁,hq,.pass (x:=.inLoop c) rfl (by simp) ki⟩
 obtain⟨e,a',w',hq,ki⟩:=key n a w h₀;exact⟨e,a',w',hq,.of_steps (.one step_loop) ki⟩
def MC (tmps:Array Value):ResultVar→Sem Value
 |.tmp t=>pure (tmps.getD t undef)
 |.cell c t=>do loadVar t (←asAddr (tmps.getD c undef))
def zc (base:Nat):(l:List (Ex×zE))→uy l→Ex×St
 |[],d=>(.normal,⟨fun _=>.undef,fun _=>none⟩)
 |[p],d=>(p.1,zM base p.2 d)
 |p::q::l,d=>match d with
  |.inl d=>(p.1,zM base p.2 d)
  |.inr d=>zc base (q::l) d
theorem vAb {R base K}{out:R}:∀{l d},Cf base l d K=some out→K (zc base l d).1 (zc base l d).2=some out
 |[p],_,h
 |p::q::l,.inl d,h=>h
 |p::q::l,.inr d,h=>vAb (l:=q::l) h
def HT (base:Nat):(l:List zE)→su l→St
 |[],_=>⟨fun _=>.undef,fun _=>none⟩
 |[S],d=>zM base S d
 |S::T::l,d=>match d with
  |.inl d=>zM base S d
  |.inr d=>HT base (T::l) d
theorem vBm {R base K}{out:R}:∀{l d},LS base l d K=some out→K (HT base l d)=some out
 |[S],_,h
 |S::T::l,.inl d,h=>h
 |S::T::l,.inr d,h=>vBm (l:=T::l) h
def zS (P:Program)(pre na nt:Nat)(b:Code)(L:zT):Prop:=∀k d x,L.sum k d=some x→∀(a0:Nat→Value) (M0:zK) (w0:World) (a:Act) (w:World) (Q:Exit→Act→World→Prop),
 vQ false na nt a0 M0 w0 (HT (pre+gT) L.ins d) a w→
 (∀(o:uy L.outs) a' w',(∀R K,L.elim (pre+gT) x R K=Cf (pre+gT) L.outs o K)→vQ false na nt a0 M0 w0 (zc (pre+gT) L.outs o).2 a' w'→Q (zc (pre+gT) L.outs o).1.toExit a' w')→
 (Code.loop b).wp P Q a w
def wG (P:Program)(A:zY)(pre na nt:Nat):Code→Prop
 |.seq a b=>wG P A pre na nt a∧wG P A pre na nt b
 |.cond _ a b=>wG P A pre na nt a∧wG P A pre na nt b
 |.block _ b=>wG P A pre na nt b
 |.loop b=>(∀L,uD A b=some L→zS P pre na nt b L)∧(uD A b=none→wG P A pre na nt b)
 |_=>True
theorem yV7 {A c b st}(h:st.ev c=.c (.bool b)):LU A c b st=st:=by
 unfold LU;split
 ·rw[S2 h]
 ·rfl
section
variable {nl:Bool} {E:Env} {A:zY} {k pre na nt:Nat} {a0:Nat→Value} {R:Type} {M0:zK} {w0:World} {out:R}
theorem Tm {a w st}(r:vQ false na nt a0 M0 w0 st a w):∀{l x},Ce pre l st=some x→vQ false na nt a0 M0 w0 (HT (pre+gT) l x) a w
 |[S],x,h=>MB r h
 |S::T::l,x,h=>by
  unfold Ce at h;split at h
  ·rename_i d hd;cases h;exact MB r hd
  ·split at h
   ·rename_i d hd;cases h;exact Tm r (l:=T::l) hd
   ·cases h
theorem yJe (hE:fZ E)(hS:jb E.sums)(hm:E.P.follows .mixedOrders=true)(Mo:nl=true→A.loops=[]):∀c,wG E.P A pre na nt c→∀st K a w Q,j3 E A k pre na nt c st K=some out→vQ nl na nt a0 M0 w0 st a w→
  (∀e bJ a' w',vQ nl na nt a0 M0 w0 bJ a' w'→K e bJ=some out→Q e.toExit a' w')→c.wp E.P Q a w:=by
 intro c
 induction c with
 |skip=>exact fun _ st K a w Q h r hK=>wp_skip (hK .normal st a w r h)
 |region id ops draw=>
  intro _ st K a w Q h r hK;cases draw with
  |true=>
   cases he:He ops with
   |false=>simp only[j3,he] at h;cases h
   |true=>
    simp only[j3,he] at h;exact vQt hE hS hm he h r fun bJ a' w' r' h'=>hK .normal bJ a' w' r' h'
  |false=>
   have:=yCr hE (Q:=Q) _ _ _ _ a w (by grind) h r fun bJ a' w' r' h'=>hK .normal bJ a' w' r' h'
   refine wp_region ?_;have e:(ops.toList.zipIdx.map fun p=>(p.2,p.1)).map (·.1)=List.range ops.size:=by
    rw[List.map_map];have e2:((fun x:Nat×Oper=>x.1)∘fun p:Oper×Nat=>(p.2,p.1))=Prod.snd:=rfl;rw[e2,List.zipIdx_map_snd,←List.range_eq_range'];simp
   simp_all
 |seq x y Tn To=>
  intro hL st K a w Q h r hK;simp only[j3] at h;refine wp_seq (Tn hL.1 st _ a w _ h r fun e bJ a' w' r' h'=>?_);cases e with
  |normal=>exact To hL.2 bJ K a' w' Q h' r' hK
  |ret=>exact hK .ret bJ a' w' r' h'
  |exit id=>exact hK (.exit id) bJ a' w' r' h'
 |cond c x y Tn To=>
  intro hL st K a w Q h r hK;simp only[j3] at h;split at h
  ·rename_i t ht;obtain⟨M,_,_,_,_,hv⟩:=r.ex;have hc:=yU4 hv c;rw[ht] at hc;refine wp_cond (t:=t) hc ?_;cases t with
   |true=>
    rw[yV7 ht,cond_true] at h;exact Tn hL.1 st K a w Q h r hK
   |false=>
    rw[yV7 ht,cond_false] at h;exact To hL.2 st K a w Q h r hK
  ·cases h
 |block id b ih=>
  intro hL st K a w Q h r hK;simp only[j3] at h;refine wp_block (ih hL st _ a w _ h r fun e bJ a' w' r' h'=>?_);cases e with
  |normal=>exact hK .normal bJ a' w' r' h'
  |ret=>exact hK .ret bJ a' w' r' h'
  |exit i=>
   show if i=id then Q .normal a' w' else Q (.exit i) a' w'
   dsimp only at h';cases e:Nat.beq i id with
   |true=>
    rw[e] at h';rw[if_pos (by simpa using e)];exact hK .normal bJ a' w' r' h'
   |false=>
    rw[e] at h';rw[if_neg (fun e'=>by simp_all)];exact hK (.exit i) bJ a' w' r' h'
 |loop b ih=>
  intro hL st K a w Q h r hK;simp only[j3] at h;split at h
  ·rename_i hN;refine yKw (fun n a w=>∃st,vQ nl na nt a0 M0 w0 st a w∧RA (j3 E A k pre na nt b) n st K=some out) (fun n a w ⟨st,r,hi⟩=>?_) ⟨st,r,h⟩;cases n with
   |zero=>cases hi
   |succ n=>
    refine ih (hL.2 hN) st _ a w _ hi r fun e bJ a' w' r' h'=>?_
    cases e with
    |normal=>exact⟨n,by simp,bJ,r',h'⟩
    |ret=>exact hK .ret bJ a' w' r' h'
    |exit id=>exact hK (.exit id) bJ a' w' r' h'
  ·rename_i L hN;split at h
   ·cases h
   ·rename_i d hd;obtain⟨x,hx,h⟩:=Option.bind_eq_some_iff.1 h;cases nl with
    |true=>
     unfold uD at hN;grind
    |false=>exact hL.1 L hN k d x hx a0 M0 w0 a w Q (Tm r hd) fun o a' w' ho r'=>hK _ _ a' w' r' (vAb (by simp_all))
 |exit id=>exact fun _ st K a w Q h r hK=>wp_exit (hK (.exit id) st a w r h)
 |ret=>exact fun _ st K a w Q h r hK=>wp_ret (hK .ret st a w r h)
 |_=>nofun
theorem yVi {a b}(h:Ru a b=true):a=b:=by
 cases a<;>cases b<;>first|rfl|(cases h)|skip
 rw[Nat.eq_of_beq_eq_true h]
theorem yY4 {a w st e}(r:vQ false na nt a0 M0 w0 st a w):∀{l x},Hg pre l e st=some x→(zc (pre+gT) l x).1=e∧vQ false na nt a0 M0 w0 (zc (pre+gT) l x).2 a w
 |[p],x,h=>by
  obtain⟨he,h⟩:=mW h;exact⟨yVi he,MB r h⟩
 |p::q::l,x,h=>by
  unfold Hg at h;split at h
  ·rename_i d hd;cases h;obtain⟨he,hd⟩:=mW hd;exact⟨yVi he,MB r hd⟩
  ·split at h
   ·rename_i d hd;cases h;exact yY4 r (l:=q::l) hd
   ·cases h
theorem vUf (hE:fZ E)(hS:jb E.sums)(hm:E.P.follows .mixedOrders=true){b ins outs}(hL:wG E.P A pre na nt b){X} lV elim (hX:∀o R K,elim (pre+gT) (lV o) R K=Cf (pre+gT) outs o K)
  (rec:Nat→Nat→su ins→Option X) (h0:∀k d,rec k 0 d=none)
  (aK:∀k n d,rec k (n+1) d=LS (pre+gT) ins d fun st=>j3 E A k pre na nt b st (yQy pre ins outs lV (rec k n))):zS E.P pre na nt b ⟨ins,outs,X,fun k d=>rec k k d,elim⟩:=by
 intro k d x hx a0 M0 w0 a w Q r hQ;refine yKw (fun n a w=>∃d,vQ false na nt a0 M0 w0 (HT (pre+gT) ins d) a w∧rec k n d=some x) (fun n a w ⟨d,r,hi⟩=>?_) ⟨d,r,hx⟩;cases n with
 |zero=>simp_all
 |succ n=>
  rw[aK k n d] at hi;refine yJe hE hS hm (by simp) b hL _ _ a w _ (vBm hi) r fun e bJ a' w' r' h'=>?_
  have out:∀e,(match Hg pre outs e bJ with|some o=>some (lV o)|none=>none)=some x→Q e.toExit a' w':=fun e h'=>by
   split at h'
   ·rename_i o ho;obtain⟨h1,h2⟩:=yY4 (pre:=pre) r' ho;grind
   ·cases h'
  cases e with
  |normal=>
   have h':(match Ce pre ins bJ with|some d=>rec k n d|none=>none)=some x:=h';split at h'
   ·rename_i d' hd;exact⟨n,by simp,d',Tm r' hd,h'⟩
   ·cases h'
  |ret=>exact out .ret h'
  |exit id=>exact out (.exit id) h'
theorem vKg fn tmps:results fn tmps=(do let vs←fn.results.mapM (MC tmps);pure (if h:vs.size=1 then vs[0] else .tuple vs)):=rfl
theorem vDf (hE:fZ E)(hS:jb E.sums)(hm:E.P.follows .mixedOrders=true){st}{a:Act}{w x v M}(hM:M.h=st.h)(hH:M.H=w.heap)(ok:Ok M)(ht:∀t,zU M (st.t t) (a.tmps.getD t undef))(h:uE E st x=some v):
  ∃rv,(MC a.tmps x).run E.P w=.ok rv w∧zU M v rv:=by
 unfold uE at h;split at h
 ·rename_i t;cases h;exact⟨_,rfl,ht t⟩
 ·rename_i c t;split at h
  ·rename_i id off hc;split at h
   ·split at h
    ·rename_i vs eK;have hv:=ht c;rw[hc] at hv;obtain⟨C,B,hC,hB,e⟩:=hv;obtain⟨C',aC,hO⟩:=ok.obj id _ (by rw[hM];omega);rw[hC] at aC;cases aC;obtain⟨B',j8,aF⟩:=yIj hO;rw[hB] at j8;cases j8;obtain⟨rv2,mU,dm⟩:∃rv,(loadVar t ⟨B,0+off,none⟩).run E.P w=.ok rv w∧zU M v rv:=yUs ok hH aF eK h;refine⟨rv2,?_,dm⟩;simp  at mU;unfold MC;dsimp only;rw[e];simp[asAddr,mU]
    ·cases h
   ·cases h
  ·cases h
theorem vR4 {M v p rv}(h:Cg v=some p)(hv:zU M v rv):uF M p rv:=by
 unfold Cg at h;split at h
 ·cases h;exact hv
 ·cases h;exact hv
 ·cases h
theorem yTv {M}:∀{vs xs rs},zL (fun a b=>Cg a=some b) vs xs→zL (zU M) vs rs→zL (uF M) xs rs
 |[],[],[],_,_=>trivial
 |_::_,_::_,_::_,h,k=>⟨vR4 h.1 k.1,yTv h.2 k.2⟩
theorem yMk {st}:∀(l:List ResultVar) xs,l.mapM (fun r=>(uE E st r).bind Cg)=some xs→∃vs,l.mapM (uE E st)=some vs∧vs.mapM Cg=some xs
 |[],xs,h=>by simp_all
 |x::l,xs,h=>by
  simp only[List.mapM_cons,Option.bind_eq_bind,Option.bind_eq_some_iff] at h;obtain⟨p,⟨v,h1,h2⟩,ps,h3,h4⟩:=h;obtain⟨vs,k1,k2⟩:=yMk l ps h3;simp_all
theorem Tp (hE:fZ E)(hS:jb E.sums)(hm:E.P.follows .mixedOrders=true){fn st}{a:Act}{w v M}(hM:M.h=st.h)(hH:M.H=w.heap)(ok:Ok M)(ht:∀t,zU M (st.t t) (a.tmps.getD t undef))(h:LV E fn st=some v):
  ∃rv,(results fn a.tmps).run E.P w=.ok rv w∧zU M v rv:=by
 have one:=fun x v=>vDf hE hS hm (x:=x) (v:=v) hM hH ok ht
 have key:∀(l:List ResultVar) (vs:List zV),l.mapM (uE E st)=some vs→∃rs:List Value,(l.mapM (MC a.tmps)).run E.P w=.ok rs w∧zL (zU M) vs rs:=by
  intro l
  induction l with
  |nil=>exact fun vs h=>by simp at h;subst h;exact⟨[],rfl,trivial⟩
  |cons x l ih=>
   intro vs h;simp[Option.bind_eq_some_iff] at h;obtain⟨v,h1,R6,h2,h3⟩:=h;cases h3;obtain⟨rv,k1,k2⟩:=one x v h1;obtain⟨rs,k3,k4⟩:=ih R6 h2;refine⟨rv::rs,?_,k2,k4⟩;simp_all
 have run:∀(vs:List zV),fn.results.toList.mapM (uE E st)=some vs→∃rs:List Value,(results fn a.tmps).run E.P w=.ok (if h:rs.length=1 then rs[0] else .tuple rs.toArray) w∧zL (zU M) vs rs:=fun vs h=>by
  obtain⟨rs,k1,k2⟩:=key _ vs h;refine⟨rs,?_,k2⟩;rw[vKg,Array.mapM_eq_mapM_toList];simp_all
 unfold LV at h;split at h
 ·cases h;obtain⟨rs,k1,k2⟩:=run [] (by simp_all);cases rs with
  |cons _ _=>exact k2.elim
  |nil=>exact⟨_,k1,#[],rfl,trivial⟩
 ·obtain⟨rs,k1,k2⟩:=run [v] (by simp_all)
  match rs,k2 with
  |[r],k2=>exact⟨_,k1,k2.1⟩
 ·split at h
  ·rename_i xs HJ;cases h;obtain⟨vs,k1,k2⟩:=yMk _ _ HJ;obtain⟨rs,r1,r2⟩:=run vs k1;have hlen:rs.length≠1:=fun e=>by
    have e1:=r2.length;have e2:=(HI _ _ _ k1).length;have h3:fn.results.toList.length=1:=by omega
    match hl:fn.results.toList,h3 with
    |[x],_=>simp_all
   rw[dif_neg hlen] at r1;exact⟨_,r1,rs.toArray,rfl,yTv (HI _ _ _ k2) r2⟩
  ·cases h
theorem Tq (hE:fZ E)(hS:jb E.sums)(hm:E.P.follows .mixedOrders=true){f fn}(hf:E.P.funcs[f]? =some fn)(hL:∀c,fn.body=some c→wG E.P A pre na fn.ntmps c){args h K}(aV:j4 E A k pre na fn args h K=some out){M w vs}(hh:M.h=h)(hH:M.H=w.heap)(ok:Ok M)
  (hv:zL (zU M) args vs.toList):Calls E.P f vs w fun
   |.returned rv,w'=>∃(M':zK) (v:zV) (st:St),K v st=some out∧M'.h=st.h∧M'.H=w'.heap∧Ok M'∧jc M M'∧(A.loops=[]→fa M M')∧zU M' v rv∧w'.os=w.os∧w'.tape=w.tape∧w'.output=w.output∧
     (∀t,t<na→zU M' (st.t t) (vs.getD t undef))
   |_,_=>False:=by
 unfold j4 at aV;cases hb:fn.body with
 |none=>simp_all
 |some c=>
  rw[hb] at aV;dsimp only at aV;cases hle:Nat.ble args.length fn.ntmps with
  |false=>simp_all
  |true=>
   rw[hle] at aV;rw[cond_true] at aV;have hl:=hv.length;have hle:args.length≤fn.ntmps:=Nat.le_of_ble_eq_true hle;have dR:vs.size≤fn.ntmps:=by simp at hl;omega
   have HU:∀t,zU M (LW args t) ((vs++Array.replicate (fn.ntmps-vs.size) undef).getD t undef):=fun t=>by
    unfold LW;by_cases ht:t<args.length
    ·have Ts:t<vs.size:=by simp at hl;omega
     have:=hv.get t ht (by simpa using Ts);simp only[List.getD_eq_getElem?_getD,List.getElem?_eq_getElem ht,Option.getD_some];simp only[Array.getD_eq_getD_getElem?,Array.getElem?_append_left Ts,Array.getElem?_eq_getElem Ts,Option.getD_some]
     simpa using this
    ·simp only[List.getD_eq_getElem?_getD,List.getElem?_eq_none (Nat.not_lt.1 ht),Option.getD_none];show _=undef;simp;grind
   have r:vQ A.loops.isEmpty na fn.ntmps (fun t=>(vs++Array.replicate (fn.ntmps-vs.size) undef).getD t undef) M w {t:=LW args,h:=h} {tmps:=vs++Array.replicate (fn.ntmps-vs.size) undef,defers:=[]} w:=
    ⟨⟨M,hh,hH,ok,⟨.refl M,fun _ _ C h=>⟨C,h,rfl⟩⟩,HU⟩,rfl,by simp;omega,rfl,rfl,rfl,fun _ _=>rfl⟩
   refine calls_of_wp hf hb (yJe hE hS hm (by simp) c (hL c hb) _ _ _ _ _ aV r fun e bJ a' w' r' hK=>?_);obtain⟨M',q1,q2,q3,q4,q5⟩:=r'.ex;have fin:∀v,LV E fn bJ=some v→K v bJ=some out→a'.defers=[]∧∃rv,(results fn a'.tmps).run E.P w'=.ok rv w'∧∃(M':zK) (v:zV) (st:St),K v st=some out∧M'.h=st.h∧M'.H=w'.heap∧Ok M'∧jc M M'∧(A.loops=[]→fa M M')∧zU M' v rv∧w'.os=w.os∧w'.tape=w.tape∧w'.output=w.output∧
     (∀t,t<na→zU M' (st.t t) (vs.getD t undef)):=fun v kj hK=>by
    obtain⟨rv,k1,k2⟩:=Tp hE hS hm q1 q2 q3 q5 kj;refine⟨r'.defers,rv,k1,M',v,bJ,hK,q1,q2,q3,q4.g,fun h=>q4.k (by grind),k2,r'.os,r'.tape,r'.output,fun t ht=>?_⟩;have:=q5 t;rw[r'.keep t ht] at this;have e:(vs++Array.replicate (fn.ntmps-vs.size) undef).getD t undef=vs.getD t undef:=by
     by_cases h1:t<vs.size
     ·simp[Array.getD_eq_getD_getElem?,Array.getElem?_append_left h1]
     ·simp;grind
    simp_all
   cases e with
   |exit id=>cases hK
   |normal=>
    dsimp only at hK;split at hK
    ·rename_i v kj;exact fin v kj hK
    ·cases hK
   |ret=>
    dsimp only at hK;split at hK
    ·rename_i v kj;exact fin v kj hK
    ·cases hK
end
inductive PC where
 |int (k:IntKind)|bool|dat (sh:Bool) (t:Ty)|fn (f:Nat)
 |nil|nilp
abbrev PC.den:PC→Type
 |.int _=>Int|.bool=>Bool|.dat _ t=>List t.den|.fn _=>Unit|.nil=>Unit|.nilp=>Unit
abbrev PL:List PC→Type
 |[]=>Unit
 |p::l=>p.den×PL l
inductive AS where
 |c (p:PC)|agg (l:List PC)|ptr (l:List PC)|fn (f:Nat) (bA:List (List PC))
def AS.cells:AS→List PC
 |.c p=>[p]
 |.agg l=>l
 |.ptr l=>l
 |.fn _ bA=>bA.flatten
abbrev AD (l:List AS):Type:=PL (l.flatMap AS.cells)
def zd (h:Hp)(t:Ty):zX→Option (List t.den)
 |.nsl=>some []
 |c=>match j0 h c with
  |some ⟨s,xs⟩=>gM s t xs
  |none=>none
def sZ (h:Hp):(p:PC)→zX→Option p.den
 |.int k,.int j n=>bif fT j k then some n else none
 |.bool,.bool b=>some b
 |.dat false t,c=>zd h t c
 |.dat true t,.fsl true s xs=>gM s t xs
 |.dat true t,.nsl=>some []
 |.fn f,.fn g []=>bif Nat.beq f g then some () else none
 |.nil,.nsl=>some ()
 |.nilp,.nilp=>some ()
 |_,_=>none
def ze (h:Hp):(l:List PC)→List zX→Option (PL l)
 |[],[]=>some ()
 |p::l,c::cs=>match sZ h p c,ze h l cs with
  |some d,some ds=>some (d,ds)
  |_,_=>none
 |_,_=>none
def CN (h:Hp)(id:Nat):Option (List zX):=match h id with
 |some (.box _ cells)=>some cells
 |some (.robox cells)=>some cells
 |_=>none
def ta (h:Hp):List (List PC)→List Nat→Option (List zX)
 |[],[]=>some []
 |l::ls,id::ids=>match CN h id,ta h ls ids with
  |some cells,some rest=>bif Nat.beq cells.length l.length then some (cells++rest) else none
  |_,_=>none
 |_,_=>none
def AS.get (h:Hp):AS→zV→Option (List zX)
 |.c _,.c x=>some [x]
 |.agg l,.agg xs=>bif Nat.beq xs.length l.length then some xs else none
 |.ptr l,.c (.ptr id 0)=>ta h [l] [id]
 |.fn f bA,.c (.fn g ids)=>bif Nat.beq f g then ta h bA ids else none
 |_,_=>none
def qx (h:Hp):List AS→List zV→Option (List zX)
 |[],[]=>some []
 |s::l,a::as=>match s.get h a,qx h l as with
  |some cs,some rest=>some (cs++rest)
  |_,_=>none
 |_,_=>none
def zg (h:Hp) l (as:List zV):Option (AD l):=match qx h l as with
 |some cs=>ze h (l.flatMap AS.cells) cs
 |none=>none
def CO:(p:PC)→p.den→zX
 |.int k,n=>.int k n
 |.bool,b=>.bool b
 |.dat sh t,xs=>.fsl sh t xs
 |.fn f,_=>.fn f []
 |.nil,_=>.nsl
 |.nilp,_=>.nilp
def vU:(l:List PC)→PL l→List zX
 |[],_=>[]
 |p::l,d=>CO p d.1::vU l d.2
def MD:List (List PC)→List zX→List (List zX)
 |[],_=>[]
 |l::ls,cs=>cs.take l.length::MD ls (cs.drop l.length)
def AS.mk (n:Nat)(cs:List zX):AS→zV
 |.c _=>match cs with|x::_=>.c x|[]=>.undef
 |.agg _=>.agg cs
 |.ptr _=>.c (.ptr n 0)
 |.fn f bA=>.c (.fn f ((List.range bA.length).map (n+·)))
def AS.boxes (cs:List zX):AS→List (List zX)
 |.ptr _=>[cs]
 |.fn _ bA=>MD bA cs
 |_=>[]
def ll:List AS→List zX→Nat→List zV×List (List zX)
 |[],_,_=>([],[])
 |s::l,cs,n=>
  let ao:=cs.take s.cells.length;let bs:=s.boxes ao;let rest:=ll l (cs.drop s.cells.length) (n+bs.length)
  (s.mk n ao::rest.1,bs++rest.2)
def lq (bs:List (List zX)):Hp:=fun n=>match bs[n]? with
 |some cells=>some (.robox cells)
 |none=>none
def oX l (d:AD l):List zV×Hp:=
 let r:=ll l (vU (l.flatMap AS.cells) d) 0
 (r.1,lq r.2)
inductive RC where
 |int (k:IntKind)|bool|fro (t:Ty)|own (t:Ty)|mat
 |jun
 |map
 |nilp|link (j:Nat)|nil
abbrev RC.den:RC→Type
 |.int _=>Int|.bool=>Bool|.fro t=>List t.den|.own t=>List t.den|.mat=>List (List Int)|.jun=>Nat|.map=>List (Int×Bool)|.nilp=>Unit|.link _=>Unit|.nil=>Unit
abbrev RL:List RC→Type
 |[]=>Unit
 |r::l=>r.den×RL l
inductive RS where
 |c (r:RC)|agg (l:List RC)|tup (l:List (Bool×List RC))
def RS.cells:RS→List RC
 |.c r=>[r]
 |.agg l=>l
 |.tup l=>l.flatMap (·.2)
def Tt:List (Bool×List RC)→List (Bool×List zX)→Option (List zX)
 |[],[]=>some []
 | (b, l) :: ls, (g, cs) :: rest => bif (bif b then g else !g && Nat.beq cs.length 1) && Nat.beq cs.length l.length then (match Tt ls rest with
   |some r=>some (cs++r)
   |none=>none) else none
 |_,_=>none
def RS.get:RS→zV→Option (List zX)
 |.c _,.c x=>some [x]
 |.agg l,.agg xs=>bif Nat.beq xs.length l.length then some xs else none
 |.tup l,.tup xs=>Tt l xs
 |_,_=>none
def Tu:List (Bool×List RC)→List zX→List (Bool×List zX)
 |[],_=>[]
 |(b,l)::ls,cs=>(b,cs.take l.length)::Tu ls (cs.drop l.length)
def RS.mk (cs:List zX):RS→zV
 |.c _=>match cs with|x::_=>.c x|[]=>.undef
 |.agg _=>.agg cs
 |.tup l=>.tup (Tu l cs)
def ga (h:Hp):List Bool→List zX→Option (List zX×vG)
 |true::l,c::cs=>match nJ h c,ga h l cs with
  |some (c,u),some (cs,us)=>some (c::cs,u++us)
  |_,_=>none
 |false::l,c::cs=>match ga h l cs with
  |some (cs,us)=>some (c::cs,us)
  |none=>none
 |_,cs=>some (cs,[])
def RC.isFro:RC→Bool
 |.fro _=>true
 |_=>false
def PC.isKept:PC→Bool
 |.dat true _=>true
 |_=>false
def oY (h:Hp):(r:RC)→zX→Option r.den
 |.int k,.int j n=>bif fT j k then some n else none
 |.bool,.bool b=>some b
 |.fro t,.fsl true s xs=>gM s t xs
 |.fro t,.nsl=>some []
 |.own t,.osl id none=>match h id with
  |some (.arr true s xs)=>gM s t xs
  |_=>none
 |.own t,.osl id (some (0,n))=>match h id with
  |some (.arr true s xs)=>gM s t (xs.take n)
  |_=>none
 |.own t,.nsl=>some []
 |.mat,.osl id none=>match h id with
  |some (.mat _ xs)=>some xs
  |some (.pmat _ xs n)=>bif Nat.beq xs.length n then some xs else none
  |_=>none
 |.mat,.nsl=>some []
 |.jun,.osl id none=>match h id with
  |some (.arr true (.sl (.int .i64)) xs)=>some xs.length
  |_=>none
 |.jun,.nsl=>some 0
 |.map,.map id=>match h id with
  |some (.imap cY)=>some cY
  |_=>none
 |.nilp,.nilp=>some ()
 |.link _,.ptr _ 0=>some ()
 |.nil,.nsl=>some ()
 |_,_=>none
def kk (h:Hp):(l:List RC)→List zX→Option (RL l)
 |[],[]=>some ()
 |r::l,c::cs=>match oY h r c,kk h l cs with
  |some d,some ds=>some (d,ds)
  |_,_=>none
 |_,_=>none
def vW:List RC→List zX→List Nat
 |.own _::l,.osl id _::cs=>id::vW l cs
 |.mat::l,.osl id _::cs=>id::vW l cs
 |.jun::l,.osl id _::cs=>id::vW l cs
 |.map::l,.map id::cs=>id::vW l cs
 |_::l,_::cs=>vW l cs
 |_,_=>[]
def HV (h:Hp)(s:RS)(v:zV):Option (RL s.cells):=match s.get v with
 |some cs=>match ga h (s.cells.map RC.isFro) cs with
  |some (cs,u)=>bif so (vW s.cells cs) then kk (qJ h u) s.cells cs else none
  |none=>none
 |none=>none
def mg (rs:RS){X:Type}(unpack:RL rs.cells→X)(v:zV)(st:St):Option X:=match HV st.h rs v with
 |some d=>some (unpack d)
 |none=>none
def qy (nm:Nat):(r:RC)→r.den→zX×vG
 |.int k,n=>(.int k n,[])
 |.bool,b=>(.bool b,[])
 |.fro t,xs=>(.fsl true t xs,[])
 |.own t,xs=>(.osl nm none,[(nm,.arr true t xs)])
 |.mat,xs=>(.osl nm none,[(nm,.mat 0 xs)])
 |.jun,n=>(.osl nm none,[(nm,.pmat 0 [] n)])
 |.map,cY=>(.map nm,[(nm,.imap cY)])
 |.nilp,_=>(.nilp,[])
 |.link _,_=>(.undef,[])
 |.nil,_=>(.nsl,[])
def nU (nm:Nat):(l:List RC)→RL l→List zX×vG
 |[],_=>([],[])
 |r::l,d=>
  let x:=qy nm r d.1;let y:=nU (nm+1) l d.2
  (x.1::y.1,x.2++y.2)
def yF0 (nm:Nat)(s:RS)(d:RL s.cells):zV×vG:=
 let r:=nU nm s.cells d
 (s.mk r.1,r.2)
def uS (h:Hp):Nat→Nat→Bool
 |_,0=>true
 |nm,n+1=>(match h nm with|none=>true|some _=>false)&&uS h (nm+1) n
def uT (h:Hp):AS→zV→Option (zV×vG)
 |.c p,.c x=>match ga h [p.isKept] [x] with
  |some ([x],u)=>some (.c x,u)
  |_=>none
 |.agg l,.agg xs=>match ga h (l.map PC.isKept) xs with
  |some (xs,u)=>some (.agg xs,u)
  |none=>none
 |_,a=>some (a,[])
def qz (h:Hp):List AS→List zV→Option (List zV×vG)
 |s::l,a::as=>match uT h s a,qz h l as with
  |some (a,u),some (as,us)=>some (a::as,u++us)
  |_,_=>none
 |_,as=>some (as,[])
def nV as (rs:RS){X}(S:AD as→Option X)(pack:X→RL rs.cells)(nm:Nat)(args:List zV)(h:Hp):yU:=
 match qz h as args with
 |none=>.stuck
 |some (args,u)=>match zg (qJ h u) as args with
  |some d=>bif uS h nm rs.cells.length&&Nat.ble rs.cells.length 100 then .call X (S d) (fun r=>((yF0 nm rs (pack r)).1,u++(yF0 nm rs (pack r)).2)) else .stuck
  |none=>.stuck
structure Lo (M Ml:zK):Prop where
 H:Ml.H=M.H
 F:Ml.F=fun b=>b<M.H.size
 G:Ml.G=M.G
theorem Tv {M M':zK}(ok:Ok M')(hH:M'.H=M.H){t}{xs:List t.den}{v}(h:qF M'.H M'.G (.sl t) xs (fun _=>some v)):qF M.H (fun b=>b<M.H.size) (.sl t) xs (fun _=>some v):=by
 refine vB (fun b hb=>?_) (by grind) _ _ _ _ (by simp) h;have:=ok.Flt b (ok.GF b hb);simp_all
theorem vDd {M}(ok:Ok M){c v t xs}(hv:zW M c v)(h:j0 M.h c=some ⟨t,xs⟩):qF M.H (fun b=>b<M.H.size) (.sl t) xs (fun _=>some v):=by
 unfold j0 at h;split at h
 ·rename_i sh s ys;cases h;cases sh with
  |true=>exact vB (fun b hb=>ok.Flt b (ok.GF b hb)) (by simp) _ _ _ _ (fun _ _=>rfl) hv
  |false=>exact vB (fun b hb=>ok.Flt b hb) (by simp) _ _ _ _ (fun _ _=>rfl) hv
 ·rename_i id r;split at h
  ·rename_i own s ys ak;cases h;cases own with
   |false=>
    obtain⟨C,hC,hO⟩:=ok.obj _ _ ak;exact Tv ok rfl (yf hC hO hv)
   |true=>
    obtain⟨M',h1,h2,h3,h4⟩:=yQt ok ak;obtain⟨C,hC,hO⟩:=h3.obj id _ (by rw[h2];exact yO _ _ _);exact Tv h3 h1 (yf hC hO (hv.ext h4.ext))
  ·rename_i ver ys ak;cases r with
   |some p=>cases h
   |none=>
    cases h;obtain⟨M',h1,h2,h3,h4⟩:=vCl ok ak;obtain⟨C,hC,hO⟩:=h3.obj id _ (by rw[h2];exact yO _ _ _);exact Tv h3 h1 (yf (r:=none) hC hO (hv.ext h4.ext))
  ·cases h
 ·rename_i id i ver;split at h
  ·rename_i v' ys ak;cases fB:Nat.beq v' ver with
   |false=>simp_all
   |true=>
    rw[fB] at h;cases h;have e:v'=ver:=by simpa using fB
    subst e;obtain⟨C,hC,hO⟩:=ok.obj _ _ ak;obtain⟨C',aC,cn,_,aR⟩:=hv;rw[hC] at aC;cases aC;obtain⟨rb,rl,uL,qt⟩:=aR hO.1;by_cases hi:i<ys.length
    ·obtain⟨B,oP,v2,k1,k2,k3,k4,k5,k6⟩:=Cm hO hi;rw[uL] at k3;cases k3;rw[show ys.getD i []=ys[i] by simp_all];simp only[qF];cases rb with
     |none=>
      obtain⟨rfl,h0⟩:=qt;grind
     |some R=>
      obtain⟨a,c,rfl,h1,h2,h3⟩:=qt;refine⟨_,_,c,rfl,rfl,h1,?_⟩;by_cases h0:ys[i].length=0
      ·simp_all
      ·have ha:a=0:=by omega
       subst ha;refine .inr ⟨R,0,rfl,?_,fun j hj=>?_⟩
       ·have:=k6 R rfl 0 (by omega);unfold yQ at this;grind
       ·simp only[Ty.size];simp_all
    ·have:C.rows[i]? =none:=List.getElem?_eq_none (by have:=hO.2.2.2.1;omega);simp_all
  ·cases h
 ·cases h
theorem HW {H F t}:qF H F (.sl t) ([]:List t.den) (fun _=>some (.slice none 0 0)):=⟨none,0,0,rfl,rfl,by simp,by simp⟩
theorem vUi {M}(ok:Ok M){c v t xs}(hv:zW M c v)(h:zd M.h t c=some xs):qF M.H (fun b=>b<M.H.size) (.sl t) xs (fun _=>some v):=by
 unfold zd at h;split at h
 ·cases h;rw[show v=.slice none 0 0 from hv];exact HW
 ·split at h
  ·rename_i s ys hr;obtain⟨e,hx⟩:=kN h;subst e;subst hx;exact vDd ok hv hr
  ·cases h
def Tr (M:zK)(c c':zX):Prop:=∀v Ml,Lo M Ml→zW M c v→zW Ml c' v
theorem vL7 {M}(ok:Ok M){p c d}(h:sZ M.h p c=some d):Tr M c (CO p d):=by
 intro v Ml lo hv;unfold sZ at h;split at h
 ·rename_i k j n;cases e:fT j k with
  |false=>simp_all
  |true=>rw[e] at h;cases h;rw[←sj e];exact hv
 ·cases h;exact hv
 ·have:=vUi ok hv h;show qF Ml.H Ml.F _ _ _;rw[lo.H,lo.F];omega
 ·obtain⟨e,hx⟩:=kN h;subst e;subst hx;show qF Ml.H Ml.G _ _ _;rw[lo.H,lo.G];exact hv
 ·cases h;rw[show v=.slice none 0 0 from hv];exact HW
 ·rename_i f g;cases e:Nat.beq f g with
  |false=>simp_all
  |true=>
   have:f=g:=by simp_all
   subst this;obtain⟨cv,rfl,hc⟩:=hv;refine⟨cv,rfl,?_⟩;generalize cv.toList=l at hc;cases l with
   |nil=>trivial
   |cons _ _=>exact hc.elim
 ·exact hv
 ·exact hv
 ·cases h
theorem yJ2 {M}(ok:Ok M):∀{l cs d},ze M.h l cs=some d→zL (Tr M) cs (vU l d)
 |[],[],_,_=>trivial
 |p::l,c::cs,d,h=>by
  unfold ze at h;split at h
  ·rename_i x xs h1 h2;cases h;exact⟨vL7 ok h1,yJ2 ok h2⟩
  ·cases h
theorem Tw {M Ml}(lo:Lo M Ml):∀{cs aO vs},zL (Tr M) cs aO→zL (zW M) cs vs→zL (zW Ml) aO vs
 |[],[],[],_,_=>trivial
 |_::_,_::_,_::_,h,k=>⟨h.1 _ _ lo k.1,Tw lo h.2 k.2⟩
def uU (M:zK)(C:qB)(cells:List zX):Prop:=∃B vals e,C.blk=some B∧C.rows=[]∧M.H[B]? =some (.cells vals e (0,0))∧zL (zW M) cells vals.toList
theorem yVu {M}(ok:Ok M){id cells}(h:CN M.h id=some cells):∃C,M.κ id=some C∧uU M C cells:=by
 unfold CN at h;split at h
 ·rename_i own cs ak;cases h;obtain⟨C,hC,B,vals,e,h1,h2,h3,h4,_⟩:=ok.obj id _ ak;exact⟨C,hC,B,vals,e,h1,h2,h3,h4⟩
 ·rename_i cs ak;cases h;obtain⟨C,hC,B,vals,e,h1,h2,h3,h4,_⟩:=ok.obj id _ ak;exact⟨C,hC,B,vals,e,h1,h2,h3,h4⟩
 ·cases h
theorem uU.tr {M Ml}(lo:Lo M Ml){C cs aO}(h:uU M C cs)(ht:zL (Tr M) cs aO):uU Ml C aO:=by
 obtain⟨B,vals,e,h1,h2,h3,h4⟩:=h;exact⟨B,vals,e,h1,h2,by rw[lo.H];exact h3,Tw lo ht h4⟩
theorem Tx {M}(ok:Ok M):∀{ls ids cs aO},ta M.h ls ids=some cs→zL (Tr M) cs aO→cs.length=ls.flatten.length∧ids.length=ls.length∧
  ∃Cs:List qB,zL (fun id C=>M.κ id=some C) ids Cs∧∀Ml,Lo M Ml→zL (uU Ml) Cs (MD ls aO)
 |[],[],cs,aO,h,ht=>by cases h;exact⟨rfl,rfl,[],trivial,fun _ _=>trivial⟩
 |l::ls,id::ids,cs,aO,h,ht=>by
  unfold ta at h;split at h
  ·rename_i cells rest h1 h2;obtain⟨hl,h⟩:cells.length=l.length∧cells++rest=cs:=by
    cases e:Nat.beq cells.length l.length with
    |false=>simp_all
    |true=>simp_all
   subst h;have nW:=zL.take l.length ht;have mX:=zL.drop l.length ht;rw[←hl,List.take_left] at nW;rw[←hl,List.drop_left] at mX;obtain⟨C,hC,hB⟩:=yVu ok h1;obtain⟨k1,k2,Cs,k3,k4⟩:=Tx ok h2 mX;refine⟨by simp_all,by simp[k2],C::Cs,⟨hC,k3⟩,fun Ml lo=>⟨?_,?_⟩⟩
   ·rw[←hl];exact hB.tr lo nW
   simp_all
  ·cases h
theorem Tz {M}(ok:Ok M){s:AS}{a v cs aO n}(hv:zU M a v)(h:s.get M.h a=some cs)(ht:zL (Tr M) cs aO):
  ∃Cs:List qB,(∀Ml,Lo M Ml→zL (uU Ml) Cs (s.boxes aO))∧(∀Ml,Lo M Ml→(∀i C,Cs[i]? =some C→Ml.κ (n+i)=some C)→zU Ml (s.mk n aO) v):=by
 unfold AS.get at h;split at h
 ·cases h
  match aO,ht with
  |[c'],ht=>exact⟨[],fun _ _=>trivial,fun Ml lo _=>ht.1 v Ml lo hv⟩
 ·rename_i l xs;cases e:Nat.beq xs.length l.length with
  |false=>simp_all
  |true=>
   rw[e] at h;cases h;obtain⟨vs,rfl,hx⟩:=hv;exact⟨[],fun _ _=>trivial,fun Ml lo _=>⟨vs,rfl,Tw lo ht hx⟩⟩
 ·rename_i l id;have:=Tx ok h ht;obtain⟨k1,k2,Cs,k3,k4⟩:=this;obtain⟨C,B,hC,hB,e⟩:=hv;have hl:aO.length=l.length:=by rw[←ht.length,k1];simp
  match Cs,k3 with
  |[C'],k3=>
   have e':C'=C:=by
    have:M.κ id=some C':=k3.1;simp_all
   subst e';refine⟨[C'],fun Ml lo=>?_,fun Ml lo hκ=>⟨C',B,hκ 0 C' rfl,hB,e⟩⟩;have:=k4 Ml lo;simp[MD] at this;rw[List.take_of_length_le (by omega)] at this;exact this
 ·rename_i f bA g ids;cases e:Nat.beq f g with
  |false=>simp_all
  |true=>
   rw[e] at h;have TA:f=g:=by simp_all
   subst TA;obtain⟨k1,k2,Cs,k3,k4⟩:=Tx ok h ht;refine⟨Cs,k4,fun Ml lo hκ=>?_⟩;obtain⟨cv,rfl,hc⟩:=hv;refine⟨cv,rfl,?_⟩;have l1:=k3.length;have l2:=hc.length;refine zL.of_get (by simp_all) fun i h1 h2=>?_
   simp;have hi:i<ids.length:=by omega
   have bG:i<Cs.length:=by omega
   obtain⟨C,B,q1,q2,q3⟩:=hc.get i hi h2;have q4:=k3.get i hi bG;simp_all
 ·cases h
theorem TB {h}:∀{ls ids cs},ta h ls ids=some cs→cs.length=ls.flatten.length
 |[],[],cs,e=>by cases e;rfl
 |l::ls,id::ids,cs,e=>by
  unfold ta at e;split at e
  ·rename_i cells rest h1 h2;cases el:Nat.beq cells.length l.length with
   |false=>simp_all
   |true=>
    rw[el] at e;cases e;have:cells.length=l.length:=by simp_all
    simp[this,TB h2]
  ·cases e
theorem vP0 {h}{s:AS}{a cs}(e:s.get h a=some cs):cs.length=s.cells.length:=by
 unfold AS.get at e;split at e
 ·cases e;rfl
 ·rename_i l xs;cases el:Nat.beq xs.length l.length with
  |false=>simp_all
  |true=>rw[el] at e;cases e;exact Nat.eq_of_beq_eq_true el
 ·rw[TB e];simp[AS.cells]
 ·rename_i f bA g ids;cases el:Nat.beq f g with
  |false=>simp_all
  |true=>rw[el] at e;exact TB e
 ·cases e
theorem yLu {M}(ok:Ok M):∀{l as vs cs aO n},zL (zU M) as vs→qx M.h l as=some cs→zL (Tr M) cs aO→
  ∃Cs:List qB,(∀Ml,Lo M Ml→zL (uU Ml) Cs (ll l aO n).2)∧(∀Ml,Lo M Ml→(∀i C,Cs[i]? =some C→Ml.κ (n+i)=some C)→zL (zU Ml) (ll l aO n).1 vs)
 |[],[],[],cs,aO,n,_,_,_=>⟨[],fun _ _=>trivial,fun _ _ _=>trivial⟩
 |s::l,a::as,v::vs,cs,aO,n,hv,h,ht=>by
  unfold qx at h;split at h
  ·rename_i mb rest h1 h2;cases h;have hl:=vP0 h1;have nW:=zL.take s.cells.length ht;have mX:=zL.drop s.cells.length ht;rw[←hl,List.take_left,hl] at nW;rw[←hl,List.drop_left,hl] at mX;obtain⟨C1,k1,k2⟩:=Tz ok (n:=n) hv.1 h1 nW;obtain⟨C2,k3,k4⟩:=yLu ok (n:=n+(s.boxes (aO.take s.cells.length)).length) hv.2 h2 mX;refine⟨C1++C2,fun Ml lo=>(k1 Ml lo).append (k3 Ml lo),fun Ml lo hκ=>⟨k2 Ml lo fun i C hi=>hκ i C ?_,k4 Ml lo fun i C hi=>?_⟩⟩
   ·grind
   ·have hb:=(k1 Ml lo).length;have:=hκ (C1.length+i) C (by grind);grind
  ·cases h
def zK.below (M:zK)(Cs:List qB)(bs:List (List zX)):zK:={κ:=fun n=>Cs[n]?,F:=fun b=>b<M.H.size,G:=M.G,h:=lq bs,H:=M.H}
theorem zK.below_lo M Cs bs:Lo M (M.below Cs bs):=⟨rfl,rfl,rfl⟩
theorem zK.below_ok {M}(ok:Ok M){Cs bs}(h:zL (uU (M.below Cs bs)) Cs bs):Ok (M.below Cs bs)∧∀b,¬qM (M.below Cs bs) b:=by
 have hr:∀id o,(M.below Cs bs).h id=some o→∃cells,bs[id]? =some cells∧o=.robox cells:=fun id o e=>by
  have e:lq bs id=some o:=e;unfold lq at e;grind
 have HX:∀b,¬qM (M.below Cs bs) b:=fun b ⟨id,o,C,h1,h2,_,_⟩=>by
  obtain⟨cells,_,rfl⟩:=hr id o h1;cases h2
 refine⟨⟨fun id o e=>?_,fun id e=>?_,fun i j oi oj Ci Cj b _ h1 _ h3 _ _ _ _ _=>?_,by grind,fun b hb=>ok.Flt b (ok.GF b hb),fun b hb=>hb⟩,HX⟩
 ·obtain⟨cells,hc,rfl⟩:=hr id o e;have bj:id<bs.length:=by
   grind
  have j5:id<Cs.length:=by rw[h.length];omega
  obtain⟨B,vals,ev,q1,q2,q3,q4⟩:=h.get id j5 bj;rw[List.getElem?_eq_getElem bj] at hc;cases hc;refine⟨Cs[id],List.getElem?_eq_getElem j5,B,vals,ev,q1,q2,q3,q4,?_⟩;exact(Array.getElem?_eq_some_iff.1 q3).1
 ·have e:lq bs id=none:=e;unfold lq at e;split at e
  ·cases e
  ·rename_i hc;show Cs[id]? =none;rw[List.getElem?_eq_none_iff] at hc⊢;rw[h.length];exact hc
 ·obtain⟨cells,_,rfl⟩:=hr i oi h1;cases h3
theorem vEx {M}(ok:Ok M){l as vs d}(hv:zL (zU M) as vs)(h:zg M.h l as=some d):
  ∃Ml:zK,Lo M Ml∧Ml.h=(oX l d).2∧Ok Ml∧(∀b,¬qM Ml b)∧zL (zU Ml) (oX l d).1 vs:=by
 unfold zg at h;split at h
 ·rename_i cs hg;obtain⟨Cs,h1,h2⟩:=yLu ok (n:=0) hv hg (yJ2 ok h);have lo:=M.below_lo Cs (ll l (vU (l.flatMap AS.cells) d) 0).2;have:=zK.below_ok ok (h1 _ lo);exact⟨_,lo,rfl,this.1,this.2,h2 _ lo fun i C hi=>by rw[Nat.zero_add];exact hi⟩
 ·cases h
theorem uV {h0}:∀{l cs aO vs u M},Ok M→wY h0 M.h→zL (zW M) cs vs→ga h0 l cs=some (aO,u)→
  ∃L:zK,L.H=M.H∧L.h=qJ M.h u∧Ok L∧vA M L∧zL (zW L) aO vs∧wY h0 L.h
 |[],cs,aO,vs,u,M,ok,hf,hc,h=>by
  cases cs<;>cases h<;>exact⟨M,rfl,rfl,ok,.refl M,hc,hf⟩
 |true::l,[],aO,vs,u,M,ok,hf,hc,h
 |false::l,[],aO,vs,u,M,ok,hf,hc,h=>by cases h;exact⟨M,rfl,rfl,ok,.refl M,hc,hf⟩
 |true::l,c::cs,aO,v::vs,u,M,ok,hf,hc,h=>by
  unfold ga at h;split at h
  ·rename_i c1 u1 mb qg e1 e2;cases h;obtain⟨M1,h1,h2,h3,h4,h5,h6,_⟩:=Hk ok hf hc.1 e1;obtain⟨M2,k1,k2,k3,k4,k5,k6⟩:=uV h3 h6 (hc.2.mono fun _ _ h=>h.ext h4.ext) e2;exact⟨M2,k1.trans h1,by rw[k2,h2,kM],k3,h4.trans k4,⟨h5.ext k4.ext,k5⟩,k6⟩
  ·cases h
 |false::l,c::cs,aO,v::vs,u,M,ok,hf,hc,h=>by
  unfold ga at h;split at h
  ·rename_i mb qg e2;cases h;obtain⟨M2,k1,k2,k3,k4,k5,k6⟩:=uV ok hf hc.2 e2;exact⟨M2,k1,k2,k3,k4,⟨hc.1.ext k4.ext,k5⟩,k6⟩
  ·cases h
def zK.add (M:zK)(nm:Nat)(o:Obj)(C:qB):zK:={M with κ:=κset M.κ nm C,h:=yD M.h nm o}
theorem zK.add_ok {M}(ok:Ok M){nm}(aS:M.h nm=none){o C}(hO:yY (M.add nm o C) o C)(hb:∀b∈C.fp,¬qM M b∧¬M.F b∧b<M.H.size):
  Ok (M.add nm o C)∧yM M (M.add nm o C)∧(∀b,qM (M.add nm o C) b→qM M b∨b∈C.fp):=by
 have x:yM M (M.add nm o C):=⟨fun id D h=>by
  have bp:id≠nm:=fun e=>by rw[e,ok.non nm aS] at h;cases h
  exact⟨D,by show κset M.κ nm _ id=_;rw[κset_ne _ _ bp];exact h,D.le_refl⟩,fun _ h=>h,fun _ h=>h,fun _ _=>rfl,fun _ _=>rfl,fun _ _=>rfl⟩
 refine⟨Ok.build ok x (fun id=>id=nm) (fun id h=>yP _ _ h) (fun id h=>κset_ne _ _ h) (fun _ _ _ _ _ _ _ _ _=>rfl) (fun id o' D h1 h2 h3 h4 b bF=>(ok.own b ⟨id,o',D,h2,h3,h4,bF⟩).1) (Nat.le_refl _)
  (fun id o' e h=>?_) (fun id e h=>?_) (fun id o' D b e h1 h2 h3 h4=>?_) ok.GF ok.Flt,x,fun b bF=>?_⟩
 ·subst e;have e1:(M.add id o C).h id=some o:=yO _ _ _;rw[e1] at h;cases h;exact⟨_,κset_same _ _ _,hO⟩
 ·have e1:(M.add id o C).h id=some o:=yO _ _ _;simp_all
 ·subst e;have e1:(M.add id o C).κ id=some C:=κset_same _ _ _;rw[e1] at h3;cases h3;obtain⟨k1,k2,k3⟩:=hb b h4;refine⟨fun j oj Cj hj q1 q2 q3 q4=>k1 ⟨j,oj,Cj,?_,q2,?_,q4⟩,k2,k3⟩
  ·rw[←q1];exact(yP _ _ hj).symm
  ·rw[←q3];exact(κset_ne _ _ hj).symm
 ·obtain⟨id,o',D,h1,h2,h3,h4⟩:=bF;by_cases e:id=nm
  ·have e1:(M.add id o C).κ id=some C:=κset_same _ _ _;simp_all
  ·exact .inl ⟨id,o',D,by rw[←h1];exact(yP _ _ e).symm,h2,by rw[←h3];exact(κset_ne _ _ e).symm,h4⟩
structure Up (L Mc:zK):Prop where
 H:Mc.H=L.H
 G:Mc.G=L.G
theorem yN9 {L Mc}(up:Up L Mc){t xs C}(h:yY L (.arr true t xs) C):yY Mc (.arr true t xs) C:=by
 obtain⟨h1,h2,h3,h4⟩:=h;refine⟨h1,h2,h3,?_⟩;rw[up.H,up.G];exact h4
theorem TC {L Mc}(up:Up L Mc){ver xs C}(h:yY L (.mat ver xs) C):yY Mc (.mat 0 xs) {C with ver:=0}:=by
 obtain⟨h1,h2⟩:=h;refine⟨rfl,?_⟩;rw[up.H];exact h2
theorem vOt {L Mc}(up:Up L Mc){ver n xs C}(h:yY L (.pmat ver xs n) C)(hn:xs.length=n):yY Mc (.mat 0 xs) {C with ver:=0}:=by
 obtain⟨h1,h2,h3,h4,h5,_,h6⟩:=h;refine⟨rfl,by rw[hn];exact h2,h3,h4,h5,?_⟩;rw[up.H];subst hn;simp_all
theorem vZl {L Mc}(up:Up L Mc){xs:List (List Int)}{C}(h:yY L (.arr true (.sl (.int .i64)) xs) C):yY Mc (.pmat 0 [] xs.length) {C with ver:=0}:=by
 obtain⟨h1,h2,h3,h4⟩:=h;have hr:=h3 rfl;refine⟨rfl,h1,h2,by simp_all,?_,by simp,?_⟩
 ·simp[qB.fp];grind
 ·cases hB:C.blk with
  |none=>simp_all
  |some B=>
   rw[hB] at h4;obtain⟨vals,e,h5,_,h7,_⟩:=h4;refine⟨vals,e,by rw[up.H];exact h5,by simpa[Ty.size] using h7,by simp⟩
theorem TD {L Mc}(ix:Ok L)(ok:Ok Mc)(up:Up L Mc){nm}(aS:Mc.h nm=none){r c d}(h:oY L.h r c=some d)
  (hb:∀id∈vW [r] [c],∀C,L.κ id=some C→∀b∈C.fp,¬qM Mc b∧¬Mc.F b∧b<Mc.H.size):
  ∃eH:zK,eH.H=Mc.H∧eH.G=Mc.G∧eH.F=Mc.F∧eH.h=qJ Mc.h (qy nm r d).2∧Ok eH∧yM Mc eH∧
   (∀b,qM eH b→qM Mc b∨∃id∈vW [r] [c],∃C,L.κ id=some C∧b∈C.fp)∧∀v,zW L c v→zW eH (qy nm r d).1 v:=by
 have same : (qy nm r d).2 = [] → (∀ v, zW L c v → zW Mc (qy nm r d).1 v) → _ := fun e hv => (⟨Mc,rfl,rfl,rfl,by rw[e];rfl,ok,.refl Mc,by grind,hv⟩:
  ∃eH:zK,eH.H=Mc.H∧eH.G=Mc.G∧eH.F=Mc.F∧eH.h=qJ Mc.h (qy nm r d).2∧Ok eH∧yM Mc eH∧
   (∀b,qM eH b→qM Mc b∨∃id∈vW [r] [c],∃C,L.κ id=some C∧b∈C.fp)∧∀v,zW L c v→zW eH (qy nm r d).1 v)
 unfold oY at h;split at h
 ·rename_i k j n;cases e:fT j k with
  |false=>rw[e] at h;cases h
  |true=>
   rw[e] at h;cases h;exact same rfl fun v hv=>by rw[←sj e];exact hv
 ·cases h;exact same rfl fun v hv=>hv
 ·obtain⟨e,hx⟩:=kN h;subst e;subst hx;refine same rfl fun v hv=>?_
  show qF Mc.H Mc.G _ _ _;rw[up.H,up.G];exact hv
 ·cases h;refine same rfl fun v hv=>?_
  rw[show v=.slice none 0 0 from hv];exact HW
 ·rename_i t id;split at h
  ·rename_i s xs ak;obtain⟨e,hx⟩:=kN h;subst e;subst hx;obtain⟨C,hC,hO⟩:=ix.obj id _ ak;obtain⟨k1,k2,k3⟩:=zK.add_ok ok aS (o:=.arr true s xs) (C:=C) (yN9 (Mc:=Mc.add nm (.arr true s xs) C) ⟨up.H,up.G⟩ hO) (hb id (by simp[vW]) C hC);refine⟨Mc.add nm (.arr true s xs) C,rfl,rfl,rfl,rfl,k1,k2,fun b bF=>(k3 b bF).imp (fun h=>h) fun h=>⟨id,by simp[vW],C,hC,h⟩,fun v hv=>?_⟩;obtain⟨C',aC,hS⟩:=hv;rw[hC] at aC;cases aC;refine⟨C,κset_same _ _ _,?_⟩;show jA Mc.H C 0 C.len v;rw[up.H];exact hS
  ·cases h
 ·rename_i t id n;split at h
  ·rename_i s xs ak;obtain⟨e,hx⟩:=kN h;subst e;subst hx;obtain⟨C,hC,hO⟩:=ix.obj id _ ak;let C':qB:={C with len:=(xs.take n).length};have sD:yY (Mc.add nm (.arr true s (xs.take n)) C') (.arr true s (xs.take n)) C':=by
    obtain⟨q1,q2,q3,q4⟩:=yN9 (Mc:=Mc.add nm (.arr true s (xs.take n)) C') ⟨up.H,up.G⟩ hO;refine⟨rfl,q2,q3,?_⟩;show match C.blk with
     |none=>_
     |some B=>_
    cases hB:C.blk with
    |none=>rw[hB] at q4;show xs.take n=[];rw[q4];simp
    |some B=>
     rw[hB] at q4;obtain⟨vals,e,r1,r2,r3,r4⟩:=q4;have hle:(xs.take n).length≤xs.length:=by rw[List.length_take];omega
     have:=Nat.mul_le_mul_right s.size hle;refine⟨vals,e,r1,r2,by omega,fun i hi=>?_⟩;rw[List.getElem_take];exact r4 i (by omega)
   obtain⟨k1,k2,k3⟩:=zK.add_ok ok aS (o:=.arr true s (xs.take n)) (C:=C') sD (hb id (by simp[vW]) C hC);refine⟨Mc.add nm (.arr true s (xs.take n)) C',rfl,rfl,rfl,rfl,k1,k2,fun b bF=>(k3 b bF).imp (fun h=>h) fun h=>⟨id,by simp[vW],C,hC,h⟩,fun v hv=>?_⟩;obtain⟨C1,iu,h1,hS,_⟩:=hv;rw[hC] at iu;cases iu;have hl:(xs.take n).length=n:=by rw[List.length_take,←hO.1];omega
   refine⟨C',κset_same _ _ _,?_⟩;show jA Mc.H C' 0 (xs.take n).length v;rw[hl,up.H];exact hS
  ·cases h
 ·rename_i t;cases h;obtain⟨k1,k2,k3⟩:=Mc.nilObj_ok ok aS t false;refine⟨Mc.nilObj nm (kh t false) (lk t false),rfl,rfl,rfl,rfl,k1,k2,by grind,fun v hv=>?_⟩;rw[show v=.slice none 0 0 from hv];exact⟨_,κset_same _ _ _,none,0,rfl,rfl,rfl,rfl⟩
 ·rename_i id;split at h
  ·rename_i ver xs ak;cases h;obtain⟨C,hC,hO⟩:=ix.obj id _ ak;obtain⟨k1,k2,k3⟩:=zK.add_ok ok aS (o:=.mat 0 d) (C:={C with ver:=0}) (TC (Mc:=Mc.add nm (.mat 0 d) {C with ver:=0}) ⟨up.H,up.G⟩ hO) (hb id (by simp[vW]) C hC);refine⟨Mc.add nm (.mat 0 d) {C with ver:=0},rfl,rfl,rfl,rfl,k1,k2,fun b bF=>(k3 b bF).imp (fun h=>h) fun h=>⟨id,by simp[vW],C,hC,h⟩,fun v hv=>?_⟩;obtain⟨C',aC,hS⟩:=hv;rw[hC] at aC;cases aC;refine⟨_,κset_same _ _ _,?_⟩;show jA Mc.H C 0 C.len v;rw[up.H];exact hS
  ·rename_i ver xs n ak;obtain⟨hc,h⟩:Nat.beq xs.length n=true∧some xs=some d:=by
    cases e:Nat.beq xs.length n with
    |true=>rw[e] at h;exact⟨rfl,h⟩
    |false=>rw[e] at h;cases h
   cases h;obtain⟨C,hC,hO⟩:=ix.obj id _ ak;obtain⟨k1,k2,k3⟩:=zK.add_ok ok aS (o:=.mat 0 d) (C:={C with ver:=0}) (vOt (Mc:=Mc.add nm (.mat 0 d) {C with ver:=0}) ⟨up.H,up.G⟩ hO (Nat.eq_of_beq_eq_true hc)) (hb id (by simp[vW]) C hC);refine⟨Mc.add nm (.mat 0 d) {C with ver:=0},rfl,rfl,rfl,rfl,k1,k2,fun b bF=>(k3 b bF).imp (fun h=>h) fun h=>⟨id,by simp[vW],C,hC,h⟩,fun v hv=>?_⟩;obtain⟨C',aC,hS⟩:=hv;rw[hC] at aC;cases aC;refine⟨_,κset_same _ _ _,?_⟩;show jA Mc.H C 0 C.len v;rw[up.H];exact hS
  ·cases h
 ·cases h;obtain⟨k1,k2,k3⟩:=Mc.nilObj_ok ok aS (.int .i64) true;refine⟨Mc.nilObj nm (kh (.int .i64) true) (lk (.int .i64) true),rfl,rfl,rfl,rfl,k1,k2,by grind,fun v hv=>?_⟩;rw[show v=.slice none 0 0 from hv];exact⟨_,κset_same _ _ _,none,0,rfl,rfl,rfl,rfl⟩
 ·rename_i id;split at h
  ·rename_i xs ak;cases h;obtain⟨C,hC,hO⟩:=ix.obj id _ ak;obtain⟨k1,k2,k3⟩:=zK.add_ok ok aS (o:=.pmat 0 [] xs.length) (C:={C with ver:=0}) (vZl (Mc:=Mc.add nm (.pmat 0 [] xs.length) {C with ver:=0}) ⟨up.H,up.G⟩ hO) (hb id (by simp[vW]) C hC);refine⟨Mc.add nm (.pmat 0 [] xs.length) {C with ver:=0},rfl,rfl,rfl,rfl,k1,k2,fun b bF=>(k3 b bF).imp (fun h=>h) fun h=>⟨id,by simp[vW],C,hC,h⟩,fun v hv=>?_⟩;obtain⟨C',aC,hS⟩:=hv;rw[hC] at aC;cases aC;refine⟨_,κset_same _ _ _,?_⟩;show jA Mc.H C 0 C.len v;rw[up.H];exact hS
  ·cases h
 ·cases h;obtain⟨k1,k2,k3⟩:=zK.add_ok ok aS (o:=.pmat 0 [] 0) (C:=⟨none,0,1,0,[]⟩) ⟨rfl,rfl,rfl,rfl,by simp[qB.fp],Nat.le_refl _,rfl⟩ (nofun);refine⟨Mc.add nm (.pmat 0 [] 0) ⟨none,0,1,0,[]⟩,rfl,rfl,rfl,rfl,k1,k2,fun b bF=>(k3 b bF).imp (fun h=>h) nofun,fun v hv=>?_⟩;rw[show v=.slice none 0 0 from hv];exact⟨_,κset_same _ _ _,none,0,rfl,rfl,rfl,rfl⟩
 ·rename_i id;split at h
  ·rename_i cY ak;cases h;obtain⟨C,hC,hO⟩:=ix.obj id _ ak;have sD:yY (Mc.add nm (.imap d) C) (.imap d) C:=by
    obtain⟨B,es,ck,h1,h2,h3,h4,h5⟩:=hO;refine⟨B,es,ck,h1,h2,?_,h4,h5⟩;show Mc.H[B]? =_;rw[up.H];exact h3
   obtain⟨k1,k2,k3⟩:=zK.add_ok ok aS (o:=.imap d) (C:=C) sD (hb id (by simp[vW]) C hC);refine⟨Mc.add nm (.imap d) C,rfl,rfl,rfl,rfl,k1,k2,fun b bF=>(k3 b bF).imp (fun h=>h) fun h=>⟨id,by simp[vW],C,hC,h⟩,fun v hv=>?_⟩;obtain⟨C',B,aC,hB,e⟩:=hv;rw[hC] at aC;cases aC;exact⟨C,B,κset_same _ _ _,hB,e⟩
  ·cases h
 ·exact same rfl fun v hv=>hv
 ·exact same rfl fun v hv=>hv.one
 ·exact same rfl fun v hv=>hv
 ·cases h
theorem ME r c l cs:vW (r::l) (c::cs)=vW [r] [c]++vW l cs:=by
 cases r<;>cases c<;>rfl
theorem yO4 {nm r d n}(h:n≠nm) hh:qJ hh (qy nm r d).2 n=hh n:=by
 cases r<;>first|rfl|exact yP _ _ h
theorem TE {h}:∀{n nm},uS h nm n=true→∀i,i<n→h (nm+i)=none
 |n+1,nm,e,i,hi=>by
  unfold uS at e;rw[Bool.and_eq_true] at e;cases i with
  |zero=>
   grind
  |succ i=>rw[←TE e.2 i (by omega)];grind
theorem TF {L:zK}(ix:Ok L):∀{l:List RC} {cs:List zX} {d:RL l} {nm:Nat} {Mc:zK},Ok Mc→Up L Mc→(∀i,i<l.length→Mc.h (nm+i)=none)→kk L.h l cs=some d→(vW l cs).Nodup→
  (∀id∈vW l cs,∃o,L.h id=some o∧o.owned=true)→
  (∀id∈vW l cs,∀C,L.κ id=some C→∀b∈C.fp,¬qM Mc b∧¬Mc.F b∧b<Mc.H.size)→
  ∃eH:zK,eH.H=Mc.H∧eH.G=Mc.G∧eH.F=Mc.F∧eH.h=qJ Mc.h (nU nm l d).2∧Ok eH∧yM Mc eH∧
   (∀b,qM eH b→qM Mc b∨∃id∈vW l cs,∃C,L.κ id=some C∧b∈C.fp)∧∀vs,zL (zW L) cs vs→zL (zW eH) (nU nm l d).1 vs
 |[],[],d,nm,Mc,ok,up,_,_,_,_,_=>⟨Mc,rfl,rfl,rfl,rfl,ok,.refl Mc,fun b h=>.inl h,fun vs h=>by
  cases vs with
  |nil=>trivial
  |cons _ _=>exact h.elim⟩
 |r::l,c::cs,d,nm,Mc,ok,up,hf,h,dE,aL,hb=>by
  unfold kk at h;split at h
  ·rename_i x xs e1 e2;cases h;rw[ME] at dE aL hb;obtain⟨nd1,nd2,nd3⟩:=List.nodup_append.1 dE;obtain⟨M1,a1,a2,a3,a4,a5,a6,a7,a8⟩:=TD ix ok up (by have:=hf 0 (by simp);simpa using this) e1 (by grind);have up1:Up L M1:=⟨a1.trans up.H,a2.trans up.G⟩;obtain ⟨M2, b1, b2, b3, b4, b5, b6, b7, b8⟩ := TF ix (nm := nm + 1) a5 up1 (fun i hi=>by
     rw[a4,yO4 (by omega)];have:=hf (i+1) (by simp;omega);grind) e2 nd2 (fun id ak => aL id (by grind)) (fun id ak C hC b CP=>by
     obtain⟨q1,q2,q3⟩:=hb id (List.mem_append_right _ ak) C hC b CP;refine⟨fun ho=>?_,by simp_all,by simp_all⟩;rcases a7 b ho with ho|⟨jd,cZ,D,hD,TG⟩
     ·exact q1 ho
     ·have bp:id≠jd:=by grind
      obtain⟨o1,p1,p2⟩:=aL id (by grind);obtain⟨o2,p3,p4⟩:=aL jd (List.mem_append_left _ cZ);exact ix.disj id jd o1 o2 C D b bp p1 p3 p2 p4 hC hD CP TG)
   refine⟨M2,b1.trans a1,b2.trans a2,b3.trans a3,?_,b5,a6.trans (by simp_all) b6,fun b bF=>?_,fun vs dD=>?_⟩
   ·show M2.h=qJ Mc.h ((qy nm r x).2++(nU (nm+1) l xs).2);rw[kM,←a4];exact b4
   ·rw[ME];grind
   ·cases vs with
    |nil=>exact dD.elim
    |cons v vs=>exact⟨(a8 v dD.1).ext b6,b8 vs dD.2⟩
  ·cases h
 |[],_::_,_,_,_,_,_,_,h,_,_,_=>by cases h
 |_::_,[],_,_,_,_,_,_,h,_,_,_=>by cases h
theorem wE {α:Type}{c x}{y:α}(h:(bif c then x else none)=some y):c=true∧x=some y:=by
 grind
theorem yBt {M}:∀{l xs cs vs},Tt l xs=some cs→zL (uF M) xs vs→
  cs.length=(l.flatMap (·.2)).length∧∃us:List Value,zL (zW M) cs us∧∀M' aO,zL (zW M') aO us→zL (uF M') (Tu l aO) vs
 |[],[],cs,[],h,_=>by cases h;exact⟨rfl,[],trivial,fun _ _ _=>trivial⟩
 |(b,l)::ls,(g,mb)::rest,cs,v::vs,h,hv=>by
  obtain⟨hc,h⟩:=wE h;split at h
  ·rename_i r hr;cases h;rw[Bool.and_eq_true] at hc;have hl:mb.length=l.length:=by simp_all
   obtain⟨k1,us,k2,k3⟩:=yBt hr hv.2;refine⟨by simp_all,?_⟩;cases b with
   |true=>
    have hg:g=true:=hc.1;subst hg;obtain⟨ws,rfl,hw⟩:=hv.1;refine⟨ws.toList++us,hw.append k2,fun M' aO h'=>⟨?_,?_⟩⟩
    ·have h1:=zL.take l.length h';have TH:=hw.length;rw[show(ws.toList++us).take l.length=ws.toList from by simp_all] at h1;exact⟨ws,rfl,h1⟩
    ·have h1:=zL.drop l.length h';have TH:=hw.length;simp_all
   |false=>
    have hg:=hc.1;simp  at hg;obtain⟨MF,hg2⟩:=hg;subst MF;have sG:mb.length=1:=by simp_all
    match mb,sG with
    |[c],_=>
     have mT:zW M c v:=hv.1;refine⟨v::us,⟨mT,k2⟩,fun M' aO h'=>?_⟩
     match aO,h' with
     |c'::TI,h'=>
      have e:l.length=1:=by omega
      refine⟨?_,?_⟩
      ·rw[e];exact h'.1
      ·rw[e];exact k3 M' TI h'.2
  ·cases h
 |[],[],_,_::_,_,hv=>hv.elim
theorem yV4 {M}{s:RS}{v cs rv}(h:s.get v=some cs)(hv:zU M v rv):
  cs.length=s.cells.length∧∃us:List Value,zL (zW M) cs us∧∀M' aO,zL (zW M') aO us→zU M' (s.mk aO) rv:=by
 unfold RS.get at h;split at h
 ·cases h;refine⟨rfl,[rv],⟨hv,trivial⟩,fun M' aO h'=>?_⟩
  match aO,h' with
  |[c'],h'=>exact h'.1
 ·obtain⟨hl,h⟩:=wE h;cases h;obtain⟨vs,rfl,hx⟩:=hv;exact⟨Nat.eq_of_beq_eq_true hl,vs.toList,hx,fun M' aO h'=>⟨vs,rfl,h'⟩⟩
 ·obtain⟨vs,rfl,hx⟩:=hv;obtain⟨k1,us,k2,k3⟩:=yBt h hx;exact⟨k1,us,k2,fun M' aO h'=>⟨vs,rfl,by grind⟩⟩
 ·cases h
theorem vQy {h0 s a a' v u M}(ok:Ok M)(hf:wY h0 M.h)(hv:zU M a v)(h:uT h0 s a=some (a',u)):
  ∃L:zK,L.H=M.H∧L.h=qJ M.h u∧Ok L∧vA M L∧zU L a' v∧wY h0 L.h:=by
 unfold uT at h;split at h
 ·rename_i p x;split at h
  ·rename_i y u1 e;cases h;obtain⟨L,h1,h2,h3,h4,h5,h6⟩:=uV (cs:=[x]) (vs:=[v]) ok hf ⟨hv,trivial⟩ e;exact⟨L,h1,h2,h3,h4,h5.1,h6⟩
  ·cases h
 ·split at h
  ·rename_i ys u1 e;cases h;obtain⟨vs,rfl,hx⟩:=hv;obtain⟨L,h1,h2,h3,h4,h5,h6⟩:=uV ok hf hx e;exact⟨L,h1,h2,h3,h4,⟨vs,rfl,h5⟩,h6⟩
  ·cases h
 ·cases h;exact⟨M,rfl,rfl,ok,.refl M,hv,hf⟩
theorem uW.ext {M M'}(x:yM M M'):∀{as vs},zL (zU M) as vs→zL (zU M') as vs:=fun h=>h.mono fun _ _ h=>h.ext x
theorem yJq {h0}:∀{l as eL vs u M},Ok M→wY h0 M.h→zL (zU M) as vs→qz h0 l as=some (eL,u)→
  ∃L:zK,L.H=M.H∧L.h=qJ M.h u∧Ok L∧vA M L∧zL (zU L) eL vs∧wY h0 L.h
 |s::l,a::as,eL,v::vs,u,M,ok,hf,hv,h=>by
  unfold qz at h;split at h
  ·rename_i a1 u1 TJ qg e1 e2;cases h;obtain⟨M1,h1,h2,h3,h4,h5,h6⟩:=vQy ok hf hv.1 e1;obtain⟨M2,k1,k2,k3,k4,k5,k6⟩:=yJq h3 h6 (uW.ext h4.ext hv.2) e2;exact⟨M2,k1.trans h1,by rw[k2,h2,kM],k3,h4.trans k4,⟨h5.ext k4.ext,k5⟩,k6⟩
  ·cases h
 |[],as,eL,vs,u,M,ok,hf,hv,h=>by
  cases as<;>cases h<;>exact⟨M,rfl,rfl,ok,.refl M,hv,hf⟩
 |s::l,[],eL,vs,u,M,ok,hf,hv,h=>by cases h;exact⟨M,rfl,rfl,ok,.refl M,hv,hf⟩
def zK.over (M L:zK):zK:={κ:=M.κ,F:=fun b=>M.F b∨L.G b,G:=L.G,h:=M.h,H:=L.H}
theorem zK.over_ok {M Ml L}(ok:Ok M)(ix:Ok L)(lo:Lo M Ml)(HX:∀b,¬qM Ml b)(g:jc Ml L):Ok (M.over L)∧vA M (M.over L):=by
 have bj:∀b,Ml.F b↔b<M.H.size:=fun b=>by rw[lo.F]
 have cR:∀b,b<M.H.size→L.H[b]? =M.H[b]? :=fun b hb=>by rw[g.same b (by grind),lo.H]
 have dR:M.H.size≤L.H.size:=by grind
 have hG:∀b,L.G b→b<M.H.size→M.G b:=fun b hb hs=>by
  rcases g.Gb b hb (by rw[lo.H];exact hs) with h|h
  ·rw[lo.G] at h;exact h
  simp_all
 have j5:∀b,M.F b→b<M.H.size:=ok.Flt;have x:yM M (M.over L):=⟨fun id C h=>⟨C,h,C.le_refl⟩,fun b h=>.inl h,fun b h=>g.G b (by rw[lo.G];exact h),fun b h=>cR b (by grind),fun b h=>cR b (ok.Flt b (ok.GF b h)),fun b h=>Ch (cR b h)⟩;have aL:∀b,qM (M.over L) b→qM M b:=fun b h=>h
 refine⟨⟨fun id o h=>?_,fun id h=>ok.non id h,ok.disj,fun b h=>⟨fun hf=>?_,?_⟩,fun b h=>.inr h,fun b h=>?_⟩,⟨x,dR,fun b hb _=>cR b hb,by grind,fun b h hs=>.inl (hG b h hs),fun b h hs=>?_⟩⟩
 ·obtain⟨C,hC,hO⟩:=ok.obj id o h;exact⟨C,hC,hO.ext x fun ho b hb=>cR b (ok.own b ⟨id,o,C,h,ho,hC,hb⟩).2⟩
 ·have:=ok.own b (aL b h);rcases hf with hf|hf
  ·simp_all
  ·exact this.1 (ok.GF b (by grind))
 ·have h1:=(ok.own b (aL b h)).2;show b<L.H.size;omega
 ·show b<L.H.size;rcases h with h|h
  ·grind
  ·exact ix.Flt b (ix.GF b h)
 ·rcases h with h|h
  ·simp_all
  ·exact .inl (ok.GF b (hG b h hs))
theorem vUx {h0 r c d}(h:oY h0 r c=some d):∀id∈vW [r] [c],∃o,h0 id=some o∧o.owned=true:=by
 unfold oY at h;split at h;all_goals (try (intro id ak;simp[vW] at ak;done))
 ·intro CJ ak;have:=List.mem_singleton.1 ak;subst this;split at h
  ·exact⟨_,by assumption,rfl⟩
  ·cases h
 ·intro CJ ak;have:=List.mem_singleton.1 ak;subst this;split at h
  ·exact⟨_,by omega,rfl⟩
  ·cases h
 ·rename_i id;intro CJ ak;have:=List.mem_singleton.1 ak;subst this;split at h
  ·exact⟨_,by assumption,rfl⟩
  ·exact⟨_,by omega,rfl⟩
  ·cases h
 ·intro CJ ak;have:=List.mem_singleton.1 ak;subst this;split at h
  ·exact⟨_,by assumption,rfl⟩
  ·cases h
 ·intro CJ ak;have:=List.mem_singleton.1 ak;subst this;split at h
  ·exact⟨_,by assumption,rfl⟩
  ·cases h
 ·cases h
theorem uX {L:zK}:∀{l cs d},kk L.h l cs=some d→∀id∈vW l cs,∃o,L.h id=some o∧o.owned=true
 |r::l,c::cs,d,h,id,ak=>by
  unfold kk at h;split at h
  ·rename_i x xs e1 e2;rw[ME] at ak;rcases List.mem_append.1 ak with ak|ak
   ·exact vUx e1 id ak
   ·exact uX e2 id ak
  ·cases h
theorem yCb {E}(hE:fZ E)(hS:jb E.sums)(hm:E.P.follows .mixedOrders=true){A k pre na f fn}(hf:E.P.funcs[f]? =some fn)(hL:∀c,fn.body=some c→wG E.P A pre na fn.ntmps c)(bZ:∀vs w,(callFunc f vs).run E.P w=.ok (.enter f vs) w)
  {as rs X S pack} {unpack:RL rs.cells→X} (fe:∀d,pack (unpack d)=d) (aV:∀d x,S d=some x→∀Ml vs,zL (zU Ml) (oX as d).1 vs→∃eI,zL (zU Ml) eI vs∧j4 E A k pre na fn eI (oX as d).2 (mg rs unpack)=some x)
  {nm args h v u} (hy:yG (nV as rs S pack nm args h) v u):sR E.P f args h v u:=by
 intro M w vs hh hH ok hv;refine .inl ⟨bZ vs w,?_⟩;unfold nV at hy;split at hy
 ·exact hy.elim
 rename_i eI u0 zh;split at hy
 case h_2=>exact hy.elim
 rename_i d hd;obtain⟨hc,hy⟩:=yt hy;rw[Bool.and_eq_true] at hc;obtain⟨x,hx,rfl,rfl⟩:=hy;subst hh;obtain⟨M1,a1,a2,a3,a4,a5,a6⟩:=yJq ok (wY.refl _) hv zh;rw[←a2] at hd;obtain⟨Ml,lo,b2,b3,b4,b5⟩:=vEx a3 a5 hd;obtain⟨abE,zi,TK⟩:=aV d x hx Ml _ b5;refine Calls.mono (Tq hE hS hm hf hL TK b2 (by rw[lo.H,a1];exact hH) b3 zi) fun e w' he=>?_
 cases e with
 |panicked _=>omega
 |outgrown=>omega
 |returned rv=>
  obtain⟨L0,v0,st,hK,c1,c2,c3,c4,_,c5,c6,c7,c8,_⟩:=he;have hK:HV st.h rs v0=some (pack x):=by
   unfold mg at hK;grind
  unfold HV at hK;split at hK
  case h_2=>cases hK
  rename_i cs mY;split at hK
  case h_2=>cases hK
  rename_i aO u1 zj;obtain⟨dE,hK⟩:=wE hK;obtain⟨hlen,us,d1,d2⟩:=yV4 mY c5;rw[←c1] at zj hK;obtain⟨L,e1,e2,e3,e4,e5,e6⟩:=uV c3 (wY.refl _) d1 zj;rw[←e2] at hK;have g:jc Ml L:=c4.trans e4.grow;obtain⟨f1,f2⟩:=zK.over_ok a3 e3 lo b4 g;have oZ:∀i,i<rs.cells.length→(M1.over L).h (nm+i)=none:=fun i hi=>by
   have h1:=TE hc.1 i hi;show M1.h (nm+i)=none;rcases a6 (nm+i) with h|⟨own,t,xs,h,_⟩|⟨ver,xs,h,_⟩
   all_goals simp_all
  obtain ⟨Mc, g1, g2, g3, g4, g5, g6, g7, g8⟩ := TF e3 f1 ⟨rfl, rfl⟩ oZ hK (CD dE) (uX hK) (fun id ak C hC b hb=>by
   obtain⟨o,ho,iw⟩:=uX hK id ak;have aL:qM L b:=⟨id,o,C,ho,iw,hC,hb⟩;have nM:¬b<M1.H.size:=fun bj=>b4 b (g.own b aL (by rw[lo.H];omega))
   refine⟨fun h=>nM (a3.own b h).2,fun h=>?_,(e3.own b aL).2⟩;rcases h with h|h
   ·exact nM (a3.Flt b h)
   ·exact(e3.own b aL).1 (e3.GF b h))
  have TL:vA M1 Mc:=by
   have aL:∀b,qM Mc b→b<M1.H.size→qM M1 b:=fun b hb bj=>by
    rcases g7 b hb with h|⟨id,ak,C,hC,CP⟩
    ·exact h
    ·obtain⟨o,ho,iw⟩:=uX hK id ak;exact absurd (g.own b ⟨id,o,C,ho,iw,hC,CP⟩ (by rw[lo.H];omega)) (b4 b)
   refine⟨f2.ext.trans f2.size g6,?_,fun b hb hn=>?_,aL,fun b hb bj=>?_,fun b hb bj=>?_⟩
   ·rw[g1];exact f2.size
   ·rw[g1];exact f2.frame b hb hn
   ·rw[g2] at hb;exact f2.Gb b hb bj
   ·rw[g3] at hb;exact f2.Fb b hb bj
  refine⟨Mc,⟨c6,c7,c8,?_,?_,g5,a4.trans TL⟩,?_⟩
  ·rw[g1];show L.H=_;rw[e1,c2]
  ·rw[kM,←a2];exact g4
  ·exact d2 Mc _ (g8 us e5)
theorem vIm {E}(hE:fZ E)(hS:jb E.sums)(hm:E.P.follows .mixedOrders=true){A k pre na f fn}(hf:E.P.funcs[f]? =some fn)(hL:∀c,fn.body=some c→wG E.P A pre na fn.ntmps c)(bZ:∀vs w,(callFunc f vs).run E.P w=.ok (.enter f vs) w)
  {as rs X S} {pack:X→RL rs.cells} {unpack} (fe:∀d,pack (unpack d)=d) (aV:∀d,j4 E A k pre na fn (oX as d).1 (oX as d).2 (mg rs unpack)=S d)
  {nm args h v u} (hy:yG (nV as rs S pack nm args h) v u):sR E.P f args h v u:=
 yCb hE hS hm hf hL bZ fe (fun d x hx _ _ hv=>⟨_,hv,(aV d).trans hx⟩) hy
theorem vEe {E}(hE:fZ E)(hS:jb E.sums)(hm:E.P.follows .mixedOrders=true){A k pre na f fn}(hf:E.P.funcs[f]? =some fn)(hL:∀c,fn.body=some c→wG E.P A pre na fn.ntmps c)(bZ:∀vs w,(callFunc f vs).run E.P w=.ok (.enter f vs) w)
  {sh t rs X} {S:List t.den→Option X} {pack unpack} (fe:∀d,pack (unpack d)=d) (cL:∀x,S []=some x→j4 E A k pre na fn [.c .nsl] (lq []) (mg rs unpack)=some x)
  (aV:∀xs x,S xs=some x→j4 E A k pre na fn [.c (.nfl sh t xs)] (lq []) (mg rs unpack)=some x)
  {nm args h v u} (hy:yG (nV [.c (.dat sh t)] rs (fun d=>S d.1) pack nm args h) v u):sR E.P f args h v u:=
 yCb hE hS hm hf hL bZ fe (fun d x hx Ml vs hv=>by
  obtain⟨xs,_⟩:=d
  match vs,hv with
  |[v],hv=>
   have mT:qF Ml.H (bif sh then Ml.G else Ml.F) (.sl t) xs (fun _=>some v):=hv.1;have oS:=mT;simp[qF] at mT;obtain⟨A',n,c,rfl,hn,hc,h⟩:=mT;cases A' with
   |some a=>exact⟨[.c (.nfl sh t xs)],⟨⟨by simp,oS⟩,trivial⟩,aV xs x hx⟩
   |none=>
    rcases h with⟨rfl,h0⟩|⟨B,o,e,_⟩
    ·have h0:=h0 rfl;subst h0;subst hn;exact⟨[.c .nsl],⟨rfl,trivial⟩,cL x hx⟩
    ·cases e) hy
def yU.orElse:yU→yU→yU
 |.alts [],b=>b
 |a,_=>a
abbrev mZ:=Nat→Nat→List zV→Hp→yU
def fg:List (Nat×mZ)→LG
 |[],_,_,_,_,_=>.stuck
 |(g,e)::l,k,nm,f,args,h=>bif Nat.beq g f then(e k nm args h).orElse (fg l k nm f args h) else fg l k nm f args h
def yTs (P:Program)(r:Nat×mZ):Prop:=∀k nm args h v u,yG (r.2 k nm args h) v u→sR P r.1 args h v u
def HY (e:mZ):Prop:=∀k nm (args:List zV) h h',(args.any wN=false→∀id,(id∈args.flatMap yN∨mN nm id=true)→h id=h' id)→(args.any wN=true→h=h')→e k nm args h=e k nm args h'
theorem vSz {a b v u}(h:yG (a.orElse b) v u):yG a v u∨yG b v u:=by
 unfold yU.orElse at h;grind
theorem yOb {P}:∀{l},(∀r∈l,yTs P r)→yQg P (fg l)
 |[],_=>nofun
 |(g,e)::l,hl=>fun k nm f args h v u hy=>by
  have ih:=yOb (l:=l) fun r hr=>hl r (by grind)
  unfold fg at hy;cases hg:Nat.beq g f with
  |false=>rw[hg] at hy;exact ih k nm f args h v u hy
  |true=>
   rw[hg] at hy;have:g=f:=by simp_all
   subst this;rcases vSz hy with hy|hy
   ·exact hl (g,e) (by simp) k nm args h v u hy
   ·exact ih k nm g args h v u hy
theorem yS5:∀{l},(∀r∈l,HY r.2)→jb (fg l)
 |[],_=>fun k nm f args h h' _ _=>rfl
 |(g,e)::l,hl=>fun k nm f args h h' h1 h2=>by
  have ih:=yS5 (l:=l) (by grind) k nm f args h h' h1 h2;unfold fg;have he:e k nm args h=e k nm args h':=hl (g,e) (by simp) k nm args h h' h1 h2;rw[ih,he]
section
variable {h h':Hp}
theorem vGz {t c}(hh:∀id∈vM c,h id=h' id):zd h t c=zd h' t c:=by
 have e:=Mu hh;unfold zd;grind
theorem yZe {p c}(hh:∀id∈vM c,h id=h' id):sZ h p c=sZ h' p c:=by
 have e:=fun t=>vGz (t:=t) hh
 unfold sZ;grind
theorem yLc:∀{l cs},(∀id∈cs.flatMap vM,h id=h' id)→ze h l cs=ze h' l cs
 |[],[],_
 |[],_::_,_
 |_::_,[],_=>rfl
 |p::l,c::cs,hh=>by
  simp  at hh;unfold ze;rw[yZe fun id hi=>hh id (.inl hi),yLc (by grind)]
theorem vI9 {ls}:ta h ls []=ta h' ls []:=by
 cases ls<;>rfl
theorem TM {s:AS}{a}(hb:wN a=false):s.get h a=s.get h' a:=by
 unfold AS.get;cases s with
 |c p=>grind
 |agg l=>grind
 |ptr l=>
  cases a with
  |c x=>cases x<;>first|rfl|(exact absurd hb (by nofun))
  |_=>rfl
 |fn f bA=>
  cases a with
  |c x=>cases x with
   |fn g ids=>
    cases ids with
    |nil=>dsimp only;rw[vI9]
    |cons _ _=>exact absurd hb (by nofun)
   |_=>rfl
  |_=>rfl
theorem vXf {s:AS}{a cs}(hb:wN a=false)(e:s.get h a=some cs):∀id∈cs.flatMap vM,id∈yN a:=by
 unfold AS.get at e;split at e
 ·cases e;intro id ak;simp  at ak;exact ak
 ·obtain⟨_,e⟩:=wE e;cases e;exact fun id ak=>ak
 ·exact absurd hb (by nofun)
 ·rename_i f bA g ids;obtain⟨_,e⟩:=wE e;cases ids with
  |nil=>cases bA with
   |nil=>cases e;simp
   |cons _ _=>cases e
  |cons _ _=>exact absurd hb (by nofun)
 ·cases e
theorem yQi:∀{l as},as.any wN=false→qx h l as=qx h' l as
 |[],[],_
 |[],_::_,_
 |_::_,[],_=>rfl
 |s::l,a::as,hb=>by
  simp only[List.any_cons,Bool.or_eq_false_iff] at hb;unfold qx;rw[TM (h:=h) (h':=h') hb.1,yQi hb.2]
theorem vBc:∀{l as cs},as.any wN=false→qx h l as=some cs→∀id∈cs.flatMap vM,id∈as.flatMap yN
 |[],[],cs,_,e=>by cases e;simp
 |s::l,a::as,cs,hb,e=>by
  simp only[List.any_cons,Bool.or_eq_false_iff] at hb;unfold qx at e;split at e
  ·rename_i c1 rest e1 e2;cases e;intro id ak;rw[List.flatMap_append,List.mem_append] at ak;rw[List.flatMap_cons,List.mem_append];rcases ak with ak|ak
   ·exact .inl (vXf hb.1 e1 id ak)
   ·exact .inr (vBc hb.2 e2 id ak)
  ·cases e
theorem TN {l as}(hb:as.any wN=false)(hh:∀id∈as.flatMap yN,h id=h' id):zg h l as=zg h' l as:=by
 unfold zg;rw[yQi (h:=h) (h':=h') hb];cases e:qx h' l as with
 |none=>rfl
 |some cs=>exact yLc fun id ak=>hh id (vBc hb e id ak)
theorem CQ {x}:[x].flatMap vM=yN (.c x):=by simp[yN]
theorem TO {c c' u}(e:nJ h c=some (c',u)):(∀id∈vM c',id∈vM c)∧(wN (.c c')=true→wN (.c c)=true):=by
 cases c with
 |osl id r=>
  unfold nJ at e;dsimp only at e;split at e
  ·cases e;exact⟨nofun,nofun⟩
  ·cases r with
   |none=>cases e;exact⟨nofun,nofun⟩
   |some _=>cases e
  ·cases e
 |mrow _ _ _=>cases e
 |_=>cases e;simp
theorem CR:∀{l cs},(∀id∈cs.flatMap vM,h id=h' id)→ga h l cs=ga h' l cs
 |[],cs,_=>by rfl
 |true::l,[],_
 |false::l,[],_=>rfl
 |true::l,c::cs,hh=>by
  simp  at hh;unfold ga;rw[yOt fun id hi=>hh id (.inl hi),CR (by grind)]
 |false::l,c::cs,hh=>by
  unfold ga;rw[CR (by grind)]
theorem CT:∀{l cs aO u},ga h l cs=some (aO,u)→∀id∈aO.flatMap vM,id∈cs.flatMap vM
 |[],cs,aO,u,e=>by cases cs<;>cases e<;>exact by simp
 |true::l,[],aO,u,e
 |false::l,[],aO,u,e=>by cases e;simp
 |true::l,c::cs,aO,u,e=>by
  unfold ga at e;split at e
  ·rename_i c1 u1 mb qg e1 e2;cases e;intro id ak;rw[List.flatMap_cons,List.mem_append] at ak⊢;exact ak.imp ((TO e1).1 id) (CT e2 id)
  ·cases e
 |false::l,c::cs,aO,u,e=>by
  unfold ga at e;split at e
  ·rename_i mb qg e2;cases e;intro id ak;rw[List.flatMap_cons,List.mem_append] at ak⊢;exact ak.imp (by simp) (CT e2 id)
  ·cases e
theorem vUd {s a}(hh:∀id∈yN a,h id=h' id):uT h s a=uT h' s a:=by
 unfold uT;cases s with
 |c p=>cases a with
  |c x=>
   have:=CR (h:=h) (h':=h') (l:=[p.isKept]) (cs:=[x]) (by rw[CQ];exact hh);simp_all
  |_=>rfl
 |agg l=>cases a with
  |agg xs=>
   have:=CR (h:=h) (h':=h') (l:=l.map PC.isKept) (cs:=xs) hh;simp_all
  |_=>rfl
 |_=>rfl
theorem vY6 {s a a' u}(e:uT h s a=some (a',u)):(∀id∈yN a',id∈yN a)∧(wN a=false→wN a'=false):=by
 unfold uT at e;split at e
 ·rename_i p x;split at e
  ·rename_i y u1 e1;cases e;refine⟨fun id ak=>by have:=CT e1 id (by rw[CQ];omega);rwa [CQ] at this,fun hb=>?_⟩;cases hk:p.isKept with
   |false=>rw[hk] at e1;cases e1;exact hb
   |true=>
    rw[hk] at e1;unfold ga at e1;split at e1
    ·rename_i c1 u2 mb qg e2 e3;cases e1;cases hy:wN (.c y) with
     |false=>rfl
     |true=>rw[(TO e2).2 hy] at hb;cases hb
    ·cases e1
  ·cases e
 ·split at e
  ·rename_i ys u1 e1;cases e;exact⟨CT e1,fun _=>rfl⟩
  ·cases e
 simp_all
theorem yBj:∀{l as},(∀id∈as.flatMap yN,h id=h' id)→qz h l as=qz h' l as
 |[],as,_=>by rfl
 |_::_,[],_=>rfl
 |s::l,a::as,hh=>by
  simp  at hh;unfold qz;rw[vUd fun id hi=>hh id (.inl hi),yBj (by grind)]
theorem yNy:∀{l as eL u},qz h l as=some (eL,u)→(∀id∈eL.flatMap yN,id∈as.flatMap yN)∧(as.any wN=false→eL.any wN=false)
 |[],as,eL,u,e=>by cases as<;>cases e<;>exact by simp
 |s::l,[],eL,u,e=>by cases e;simp
 |s::l,a::as,eL,u,e=>by
  unfold qz at e;split at e
  ·rename_i a1 u1 TJ qg e1 e2;obtain⟨k1,k2⟩:=vY6 e1;obtain⟨k3,k4⟩:=yNy e2;grind
  ·cases e
theorem TP:∀{n nm},(∀i,i<n→h (nm+i)=h' (nm+i))→uS h nm n=uS h' nm n
 |0,_,_=>rfl
 |n+1,nm,hh=>by
  unfold uS;have:=hh 0 (by omega);rw[Nat.add_zero] at this;rw[this,TP (by grind)]
end
theorem vCm {as rs X}{S:Nat→AD as→Option X}{pack}:HY fun k nm args h=>nV as rs (S k) pack nm args h:=by
 intro k nm args h h' h1 h2;cases hb:args.any wN with
 |true=>rw[h2 hb]
 |false=>
  have hh:=h1 hb;show nV as rs (S k) pack nm args h=nV as rs (S k) pack nm args h';unfold nV;rw[yBj (h:=h) (h':=h') (by grind)];cases e:qz h' as args with
  |none=>rfl
  |some p=>
   obtain⟨eI,u⟩:=p;obtain⟨k1,k2⟩:=yNy e;dsimp only;rw[TN (h:=qJ h u) (h':=qJ h' u) (k2 hb) fun id ak=>yz (by grind)];cases zg (qJ h' u) as eI with
   |none=>rfl
   |some d=>
    cases hle:Nat.ble rs.cells.length 100 with
    |false=>simp
    |true=>
     have hle:=Nat.le_of_ble_eq_true hle;rw [TP (h := h) (h' := h') fun i hi => hh _ (.inr (by
      simp only[mN,Bool.and_eq_true];exact⟨by simp,by simp[Nat.blt_eq];omega⟩))]
def nc:Code→List Code
 |.seq a b=>nc a++nc b
 |.cond _ a b=>nc a++nc b
 |.block _ b=>nc b
 |.loop b=>[b]
 |_=>[]
def zQ (c:Code)(i:Nat):Code:=match(nc c)[i]? with
 |some b=>b
 |none=>.skip
def zR (fn:Func):Code:=match fn.body with
 |some c=>c
 |none=>.skip
def yQ7 (P:Program)(A:zY)(pre na nt:Nat)(b:Code):Prop:=(∃L,uD A b=some L∧zS P pre na nt b L)∨(uD A b=none∧wG P A pre na nt b)
theorem vQe {P A pre na nt}:∀c,(∀b∈nc c,yQ7 P A pre na nt b)→wG P A pre na nt c:=by
 intro c
 induction c with
 |seq a b CA CB=>exact fun h=>⟨CA fun x hx=>h x (List.mem_append_left _ hx),CB fun x hx=>h x (List.mem_append_right _ hx)⟩
 |cond t a b CA CB=>exact fun h=>⟨CA fun x hx=>h x (List.mem_append_left _ hx),CB fun x hx=>h x (List.mem_append_right _ hx)⟩
 |block id b ih=>exact fun h=>ih h
 |loop b ih=>
  intro h;rcases h b (List.mem_cons_self ..) with⟨L,h1,h2⟩|⟨h1,h2⟩
  ·refine⟨by grind,by grind⟩
  ·refine⟨fun L' h3=>?_,fun _=>h2⟩;simp_all
 |_=>exact fun _=>trivial
theorem MG {P A pre na nt c n}(hn:(nc c).length=n)(h:∀i,i<n→yQ7 P A pre na nt (zQ c i)):wG P A pre na nt c:=
 vQe c fun b hb=>by
  obtain⟨i,hi,rfl⟩:=List.getElem_of_mem hb;have e:zQ c i=(nc c)[i]:=by
   unfold zQ;grind
  grind
theorem loopsOK_of {P A pre na nt c n}(hn:(nc c).length=n)(h:∀i,i<n→∃L,uD A (zQ c i)=some L∧zS P pre na nt (zQ c i) L):wG P A pre na nt c:=
 MG hn fun i hi=>.inl (h i hi)
theorem vTa {P A pre na nt c}(hn:(nc c).length=0):wG P A pre na nt c:=loopsOK_of hn (by simp)
theorem body_loops {P A pre na fn}(h:wG P A pre na fn.ntmps (zR fn)):∀c,fn.body=some c→wG P A pre na fn.ntmps c:=fun c hc=>by
 unfold zR at h;simp_all
theorem HZ {P f fn}(hf:P.funcs[f]? =some fn)(hb:fn.body.isNone=false)(hn:(fn.name== "runtime.NumGoroutine")=false):∀vs w,(callFunc f vs).run P w=.ok (.enter f vs) w:=fun vs w=>by
 have h1:(program).run P w=.ok P w:=rfl;unfold callFunc;simp only[Sem.run_bind,h1,Result.andThen_ok,hf,hn,hb,Bool.false_eq_true,if_false,Sem.run_pure]
abbrev zA (x:Int):Int:=IntKind.wrap .i64 x
abbrev yJ (k:IntKind)(x y:Int):Int:=sn (fun _ a b=>a&&&b) k x y
abbrev wD (k:IntKind)(x y:Int):Int:=sn (fun _ a b=>a|||b) k x y
abbrev shl (k:IntKind)(x y:Int):Int:=k.wrap (x*2^(min y.toNat k.bits))
abbrev shr (k:IntKind)(x y:Int):Int:=x.fdiv (2^(min y.toNat k.bits))
abbrev zN (n b:Nat):Bool:=Nat.ble (n*b) 140737488355328&&Nat.ble n 140737488355328
abbrev o0 (l c:Int)(b:Nat):Bool:=decide (0≤l)&&decide (l≤c)&&decide (c*(b:Int)≤140737488355328)&&decide (c≤140737488355328)
abbrev wU (lt:Bool)(x y:Int):Int:=bif lt then(bif decide (y<x) then y else x) else(bif decide (y>x) then y else x)
abbrev TQ (xs:List (List Int))(n:Nat):Option (List (List Int)):=
 mg (.c .mat) (fun d=>d.1) (.c (.osl 0 none)) ⟨fun _=>.undef,fun _=>some (.pmat 0 xs n)⟩
theorem vX9 xs n:TQ xs n=bif Nat.beq xs.length n then some xs else none:=by
 unfold TQ mg HV RS.get RS.cells;dsimp only[List.map,RC.isFro,ga,vW,so,qJ];cases h:Nat.beq xs.length n<;>simp[kk,oY,h]
theorem TR {l:List Nat}{p:Nat→Bool}(hl:∀t∈l,p t=true)(t:Nat)(h:l.any (Nat.beq t)=true):p t=true:=by
 simp_all
theorem vLs {P}:Hr P (fun _=>false):=nofun
open Go.ChangeShapes Go.WideShapes Go.ChangeAt Go.RowKit
def H0 (f:TypeId→Option Ty):Nat→List (Nat×TypeId)→Option Ty
 |_,[]=>none
 |off,[x]=>bif Nat.beq x.1 off then f x.2 else none
 | off, x :: y :: l => bif Nat.beq x.1 off then (match f x.2 with
  |some a=>(match H0 f (off+a.size) (y::l) with|some b=>some (.pair a b)|none=>none)
  |none=>none) else none
def re (P:Program):TypeDesc→List (Nat×TypeId)
 |.struct fs=>fs.toList.map fun f=>(f.offset,f.type)
 |.array n e=>(List.range n).map fun i=>(i*P.cellsOf e,e)
 |_=>[]
def nX (P:Program):Nat→TypeId→Option Ty
 |0,_=>none
 |d+1,t=>match P.underlying t with
  |some (.int k)=>bif Nat.beq (P.cellsOf t) 1 then some (.int k) else none
  |some .bool=>bif Nat.beq (P.cellsOf t) 1 then some .bool else none
  |some (.slice e)=>bif Nat.beq (P.cellsOf t) 1&&Nat.ble 1 (P.bytesOf e) then(match nX P d e with|some a=>some (.sl a)|none=>none) else none
  |some x=>match H0 (nX P d) 0 (re P x) with
   |some a=>bif Nat.beq (P.cellsOf t) a.size then some a else none
   |none=>none
  |none=>none
def Wf:(t:Ty)→t.den→Prop
 |.int k,n=>(Lit.int k n).wf=true
 |.bool,_=>True
 |.sl t,xs=>xs.length≤reachBytes∧∀i (h:i<xs.length),Wf t xs[i]
 |.pair a b,p=>Wf a p.1∧Wf b p.2
theorem TS {P}:∀{d t ty},nX P d t=some ty→P.cellsOf t=ty.size
 |d+1,t,ty,h=>by
  unfold nX at h;split at h
  ·obtain⟨h1,h2⟩:=wE h;cases h2;exact Nat.eq_of_beq_eq_true h1
  ·obtain⟨h1,h2⟩:=wE h;cases h2;exact Nat.eq_of_beq_eq_true h1
  ·obtain⟨h1,h2⟩:=wE h;rw[Bool.and_eq_true] at h1;split at h2
   ·cases h2;exact Nat.eq_of_beq_eq_true h1.1
   ·cases h2
  ·split at h
   ·obtain⟨h1,h2⟩:=wE h;simp_all
   ·cases h
  ·cases h
section
variable {H:Type} {enc:TypeId×Value→H} {P:Program} {w:World}
abbrev H2 (w:World):Nat→Prop:=fun b=>b<w.heap.size
theorem vN9 {a n cs}(h:w.cells? 0 a n=some cs):cs.length=n∧∀i,i<n→∃v,cs[i]? =some v∧w.cell? (a.add i)=some v:=by
 have hl:=mapM_some_length h;have hg:=mapM_some_get h;simp at hl;refine⟨hl,fun i hi=>?_⟩;have:=hg i i (by simp[hi]);simp_all
theorem yJm {a v}(h:w.cell? a=some v):a.spot=none∧a.block<w.heap.size∧yQ w.heap a.block a.off=some v:=by
 unfold World.cell? at h;cases hb:w.heap[a.block]? with
 |none=>simp_all
 |some o=>
  rw[hb] at h;cases o with
  |cells c e z=>
   dsimp only at h;split at h
   ·cases h
   ·refine⟨by simp_all,?_,?_⟩
    ·grind
    ·unfold yQ;simp_all
  |_=>cases h
theorem yKl {α:Type}{p:Nat→α→Prop}:∀n,(∀i,i<n→∃x,p i x)→∃xs:List α,xs.length=n∧∀i h,p i xs[i]
 |0,_=>by simp
 |n+1,h=>by
  obtain⟨xs,h1,h2⟩:=yKl n fun i hi=>h i (by omega)
  obtain⟨x,hx⟩:=h n (by omega);refine⟨xs++[x],by simp[h1],fun i hi=>?_⟩;grind
def wQ (l:List Nat):Prop:=l.all (· ≤reachBytes)=true
theorem o6 {l m}:wQ (l++m)↔wQ l∧wQ m:=by simp[wQ]
theorem yZt {P e}{d:DataW H}:∀{l},wQ (DataW.weightsAll P e l)→d∈l→wQ (d.weights P e)
 |a::l,h,hd=>by
  have h:=o6.1 h;rcases List.mem_cons.1 hd with rfl|hd
  ·exact h.1
  ·exact yZt h.2 hd
theorem yI5 {P e}:∀{ts} {ds:List (DataW H)},(∀t∈ts,t=e)→wQ (DataW.weightsAll P e ds)→wQ (DataW.weightsEach P ts ds)
 |t::ts,d::ds,ht,h=>by
  have h:=o6.1 h;rw[ht t (by simp)];exact o6.2 ⟨h.1,yI5 (by grind) h.2⟩
 |[],_,_,_=>by simp[DataW.weightsEach,wQ]
 |_::_,[],_,_=>by rfl
def MH (P:Program)(w:World)(ty:Ty)(cs:List Value):Prop:=∃x:ty.den,cs.length=ty.size∧qF w.heap (H2 w) ty x (fun j=>cs[j]?)∧Wf ty x
theorem yP8 {d fuel}(ih:∀t ty cs x,nX P d t=some ty→DataW.trod enc P w 0 (fun _=>true) true fuel t cs=some x→wQ (x.1.weights P t)→MH P w ty cs):
  ∀l off ty (cs:List Value) out,H0 (nX P d) off l=some ty→off+ty.size≤cs.length→
   (l.mapM fun p=>DataW.trod enc P w 0 (fun _=>true) true fuel p.2 ((cs.drop p.1).take (P.cellsOf p.2)))=some out→wQ (DataW.weightsEach P (l.map (·.2)) (out.map (·.1)))→MH P w ty ((cs.drop off).take ty.size)
 |[x],off,ty,cs,out,h,hc,hm,hw=>by
  obtain⟨h1,h2⟩:=wE h;have ho:x.1=off:=by simpa using h1
  simp only[List.mapM_cons,List.mapM_nil,Option.pure_def,Option.bind_eq_bind,Option.bind_eq_some_iff] at hm;obtain⟨y,hy,_,e,e'⟩:=hm;cases e;cases e';rw[ho,TS h2] at hy;exact ih _ _ _ _ h2 hy (o6.1 hw).1
 |x::y::l,off,ty,cs,out,h,hc,hm,hw=>by
  obtain⟨h1,h2⟩:=wE h;have ho:x.1=off:=by simpa using h1
  split at h2
  ·rename_i a ha;split at h2
   ·rename_i b hb;cases h2;simp only[Ty.size] at hc⊢;rw[List.mapM_cons] at hm;simp only[Option.pure_def,Option.bind_eq_bind,Option.bind_eq_some_iff] at hm;obtain⟨z,hz,zs,hzs,e⟩:=hm;cases e;rw[ho,TS ha] at hz;have hw:=o6.1 hw;obtain⟨p,p1,p2,p3⟩:=ih _ _ _ _ ha hz hw.1;obtain⟨q,q1,q2,q3⟩:=yP8 ih (y::l) (off+a.size) b cs zs hb (by omega) hzs hw.2;refine⟨(p,q),by simp only[List.length_take,List.length_drop,Ty.size];omega,⟨?_,?_⟩,p3,q3⟩
    ·refine vB (fun _ h=>h) (by simp) a p _ _ (fun j hj=>?_) p2;simp only[List.getElem?_take,List.getElem?_drop];rw[if_pos (by omega),if_pos hj]
    grind
   ·cases h2
  ·cases h2
theorem TT:∀d t ty fuel cs x,nX P d t=some ty→DataW.trod enc P w 0 (fun _=>true) true fuel t cs=some x→wQ (x.1.weights P t)→MH P w ty cs
 |0,_,_,_,_,_,h,_,_=>by cases h
 |d+1,t,ty,0,cs,x,_,h,_=>by simp[DataW.trod] at h
 |d+1,t,ty,fuel+1,cs,x,hl,h,hw=>by
  unfold nX at hl;split at hl
  ·rename_i k hu;obtain⟨_,hl⟩:=wE hl;cases hl;obtain⟨n,rfl,_,uY⟩:=DataW.trod_int hu h;exact⟨n,rfl,rfl,uY⟩
  ·rename_i hu;obtain⟨_,hl⟩:=wE hl;cases hl;obtain⟨b,rfl,_⟩:=DataW.trod_bool hu h;exact⟨b,rfl,rfl,trivial⟩
  ·rename_i e hu;obtain⟨eF,hl⟩:=wE hl;rw[Bool.and_eq_true] at eF;have eF:=Nat.le_of_ble_eq_true eF.2;split at hl
   ·rename_i a ha;cases hl;rcases DataW.trod_slice hu h with⟨rfl,_⟩|⟨ad,len,cap,elems,rest,n,hn,rfl,rfl,_,R7,hm,hel,hg,_,_⟩
    ·refine⟨([]:List a.den),rfl,?_,?_⟩
     ·simp only[qF];exact⟨none,0,0,rfl,rfl,Nat.le_refl _,.inl ⟨trivial,fun _=>rfl⟩⟩
     ·simp only[Wf];exact by simp
    ·unfold DataW.weights at hw;rw[hu] at hw;have hw:wQ ([((elems.map (·.1)).length+(rest.map (·.1)).length)*P.bytesOf e]++(DataW.weightsAll P e (elems.map (·.1))++DataW.weightsAll P e (rest.map (·.1)))):=hw;obtain⟨rf,hw⟩:=o6.1 hw;have TU:=(o6.1 hw).1;have hlen:len≤reachBytes:=by
      simp only[wQ,List.all_cons,List.all_nil,Bool.and_true,decide_eq_true_eq,List.length_map] at rf;have:=Nat.mul_le_mul_left (elems.length+rest.length) eF;omega
     have key:∀i,i<len→∃x:a.den,(qF w.heap (H2 w) a x (fun j=>yQ w.heap ad.block (ad.off+i*a.size+j))∧(i=0→ad.spot=none)∧ad.block<w.heap.size)∧Wf a x:=by
      intro i hi;have h1:=hg i hi;have Tc:i<elems.length:=by omega
      rw[List.getElem?_eq_getElem Tc,Option.bind_eq_some_iff] at h1;obtain⟨cs,mY,htr⟩:=h1;rw[TS ha] at mY;obtain⟨y,y1,y2,y3⟩:=TT d e a n cs _ ha htr (yZt TU (by grind));obtain⟨c1,c2⟩:=vN9 mY;have zk:∀j,((ad.add (i*a.size)).add j).block=ad.block∧((ad.add (i*a.size)).add j).off=ad.off+i*a.size+j:=by
       intro j;unfold Addr.add;constructor
       ·split<;>split<;>rfl
       ·split<;>split<;>simp_all
      have at0:(i=0→ad.spot=none)∧ad.block<w.heap.size:=by
       obtain⟨v,_,hv⟩:=c2 0 a.size_pos;have h1:=yJm hv;refine⟨fun h0=>?_,by have:=h1.2.1;rwa [(zk 0).1] at this⟩;have h2:=h1.1;subst h0
       simpa[Addr.add] using h2
      refine⟨y,⟨vB (fun _ h=>h) (fun _ _=>rfl) a y _ _ (fun j hj=>?_) y2,at0⟩,y3⟩;obtain⟨v,v1,v2⟩:=c2 j hj;rw[v1];have h1:=(yJm v2).2.2
      rwa [(zk j).1,(zk j).2] at h1
     obtain⟨xs,x1,x2⟩:=yKl len key;refine⟨xs,rfl,?_,?_⟩
     ·simp only[qF];refine⟨some ad,len,cap,rfl,x1.symm,R7,?_⟩;by_cases h0:xs=[]
      ·exact by grind
      ·refine .inr ⟨ad.block,ad.off,?_,?_,fun i hi=>(x2 i hi).1.1⟩
       ·have:=(x2 0 (List.length_pos_iff.2 h0)).1.2.1 rfl;cases ad;simp at this;rw[this]
       ·exact by grind
     ·simp only[Wf];exact by grind
   ·cases hl
  ·rename_i y n1 n2 n3 hu;split at hl
   ·rename_i a ha;obtain⟨dR,hl⟩:=wE hl;cases hl;have dR:P.cellsOf t=ty.size:=by simpa using dR
    have fin:∀out,cs.length=P.cellsOf t→((re P y).mapM fun p=>DataW.trod enc P w 0 (fun _=>true) true fuel p.2 ((cs.drop p.1).take (P.cellsOf p.2)))=some out→wQ (DataW.weightsEach P ((re P y).map (·.2)) (out.map (·.1)))→MH P w ty cs:=by
     intro out hlen kf hw;have:=yP8 (fun t' ty' aO x' h1 h2 h3=>TT d t' ty' fuel aO x' h1 h2 h3) (re P y) 0 ty cs out ha (by omega) kf hw
     rwa [List.drop_zero,List.take_of_length_le (by omega)] at this
    unfold DataW.trod at h;rw[hu] at h;cases y with
    |struct fs=>
     dsimp only at h;split at h
     ·rename_i hlen;rw[Option.map_eq_some_iff] at h;obtain⟨out,ho,rfl⟩:=h;unfold DataW.weights at hw;rw[hu] at hw;refine fin out hlen ?_ (by rw[re,List.map_map];exact hw);simp only[re,List.mapM_map];exact ho
     ·cases h
    |array n e=>
     dsimp only at h;split at h
     ·rename_i hlen;rw[Option.map_eq_some_iff] at h;obtain⟨out,ho,rfl⟩:=h;unfold DataW.weights at hw;rw[hu] at hw;refine fin out hlen ?_ (yI5 (fun t ht=>by simp[re] at ht;exact ht.2.symm) hw);simp only[re,List.mapM_map];exact ho
     ·cases h
    |_=>simp[re,H0] at ha
   ·cases hl
  ·cases hl
end
open Go.ChangeShapes Go.WideShapes Go.ChangeAt Go.RowKit
def tc (sh:Bool):Ty→List PC
 |.int k=>[.int k]
 |.bool=>[.bool]
 |.sl t=>[.dat sh t]
 |.pair a b=>tc sh a++tc sh b
def uZ:(l m:List PC)→PL l→PL m→PL (l++m)
 |[],_,_,e=>e
 |_::l,m,d,e=>(d.1,uZ l m d.2 e)
theorem TV:∀l m d e,vU (l++m) (uZ l m d e)=vU l d++vU m e
 |[],_,_,_=>rfl
 |p::l,m,d,e=>by
  show CO p d.1::vU (l++m) (uZ l m d.2 e)=CO p d.1::(vU l d.2++vU m e);rw[TV l m d.2 e]
def rj sh:(t:Ty)→t.den→PL (tc sh t)
 |.int _,n=>(n,())
 |.bool,b=>(b,())
 |.sl _,xs=>(xs,())
 |.pair a b,p=>uZ _ _ (rj sh a p.1) (rj sh b p.2)
def WfP:(p:PC)→p.den→Prop
 |.int k,n=>(Lit.int k n).wf=true
 |.bool,_=>True
 |.dat _ t,xs=>Wf (.sl t) xs
 |.fn _,_=>True
 |.nil,_=>True
 |.nilp,_=>True
def td:(l:List PC)→PL l→Prop
 |[],_=>True
 |p::l,d=>WfP p d.1∧td l d.2
theorem TW:∀l m d e,td l d→td m e→td (l++m) (uZ l m d e)
 |[],_,_,_,_,h=>h
 |_::l,m,d,e,h,h'=>⟨h.1,TW l m d.2 e h.2 h'⟩
theorem TX sh:∀t x,Wf t x→td (tc sh t) (rj sh t x)
 |.int _,_,h
 |.bool,_,h
 |.sl _,_,h=>⟨h,trivial⟩
 |.pair a b,p,h=>TW _ _ _ _ (TX sh a p.1 h.1) (TX sh b p.2 h.2)
theorem MI:∀l d,(vU l d).length=l.length
 |[],_=>rfl
 |p::l,d=>by
  show(vU l d.2).length+1=l.length+1;rw[MI l d.2]
def M0 (w:World):zK:=⟨fun _=>none,H2 w,H2 w,lq [],w.heap⟩
theorem vUo w:Ok (M0 w) where
 obj:=nofun
 non:=fun _ _=>rfl
 disj:=fun i j oi oj Ci Cj b _ h=>by cases h
 own:=nofun
 GF:=fun _ h=>h
 Flt:=fun _ h=>h
theorem TY sh {w}:∀t x cs,cs.length=t.size→qF w.heap (H2 w) t x (fun j=>cs[j]?)→zL (zW (M0 w)) (vU (tc sh t) (rj sh t x)) cs
 |.int k,n,cs,hl,h=>by
  match cs,hl with
  |[c],_=>
   have e:c=.int k n:=by simpa[qF] using h
   exact⟨e,trivial⟩
 |.bool,b,cs,hl,h=>by
  match cs,hl with
  |[c],_=>
   have e:c=.bool b:=by simpa[qF] using h
   exact⟨e,trivial⟩
 |.sl t,xs,cs,hl,h=>by
  match cs,hl with
  |[c],_=>
   refine⟨?_,trivial⟩;have h':=vB (F':=(bif sh then(M0 w).G else(M0 w).F)) (fun b h=>by cases sh<;>exact h) (fun b _=>rfl) (.sl t) xs (fun j=>[c][j]?) (fun _=>some c) (by grind) h;exact h'
 |.pair a b,p,cs,hl,h=>by
  have dK:cs.length=a.size+b.size:=hl;have h1:=TY sh a p.1 (cs.take a.size) (by grind) (vB (fun _ h=>h) (by simp) a p.1 _ _ (by grind) h.1);have h2:=TY sh b p.2 (cs.drop a.size) (by grind) (vB (by simp) (fun _ _=>rfl) b p.2 _ _ (by grind) h.2);show zL _ (vU (tc sh a++tc sh b) (uZ _ _ (rj sh a p.1) (rj sh b p.2))) cs;rw[TV];have:=zL.append h1 h2;simp_all
def rp (sh : Bool) (P : Program) (t : TypeId) (ty : Ty) : AS := bif jU P t == some true then .agg (tc sh ty) else (match ty with
 |.int k=>.c (.int k)|.bool=>.c .bool|.sl t=>.c (.dat sh t)|.pair a b=>.agg (tc sh (.pair a b)))
def MJ (P:Program):List TypeId→Option (List Ty)
 |[]=>some []
 |t::ts=>match nX P 8 t,MJ P ts with
  |some a,some l=>some (a::l)
  |_,_=>none
def tf (sh:Bool)(P:Program):List TypeId→List Ty→List AS
 |t::ts,a::l=>rp sh P t a::tf sh P ts l
 |_,_=>[]
theorem vFc {P t ty}(h:nX P 8 t=some ty)(ha:(jU P t==some true)=false):(∃k,P.underlying t=some (.int k)∧ty=.int k)∨(P.underlying t=some .bool∧ty=.bool)∨∃e a,P.underlying t=some (.slice e)∧ty=.sl a:=by
 unfold nX at h;split at h
 ·grind
 ·grind
 ·grind
 ·rename_i x _ _ _ hu;split at h
  ·rename_i a hx;unfold jU at ha;rw[hu] at ha;cases x<;>first|(simp[re,H0] at hx;done)|(cases ha)
  ·cases h
 ·cases h
section
variable {H:Type} {enc:TypeId×Value→H} {P:Program} {w:World}
theorem vYh sh {t ty v d ps base}(hl:nX P 8 t=some ty)(fz:Value.okWide P w .any base t v)(h:DataW.Trod enc P w 0 (fun _=>true) true t v d ps)(hw:wQ (d.weights P t)):
  ∃x:PL (rp sh P t ty).cells,(∀n,zU (M0 w) ((rp sh P t ty).mk n (vU _ x)) v)∧(rp sh P t ty).boxes (vU _ x)=[]∧td _ x:=by
 obtain⟨fuel,hf⟩:=h;obtain⟨x,x1,x2,x3⟩:=TT 8 t ty fuel _ _ hl hf hw;have dm:=TY sh ty x _ x1 x2;have tg:=TX sh ty x x3;unfold rp;cases ha:(jU P t==some true) with
 |true=>
  refine⟨rj sh ty x,fun n=>?_,rfl,tg⟩;have qf:jU P t=some true:=by simp_all
  have hv:∃cs,v=.agg cs:=by
   unfold jU at qf;unfold Value.okWide at fz;grind
  obtain⟨cs,rfl⟩:=hv;exact⟨cs,rfl,dm⟩
 |false=>
  rcases vFc hl ha with⟨k,hu,rfl⟩|⟨hu,rfl⟩|⟨e,a,hu,rfl⟩
  ·have hv:∃n,v=.int k n:=by
    simp[Value.okWide,Cell.okWide] at fz;cases v<;>simp_all[Cell.ok]
   obtain⟨n0,rfl⟩:=hv;exact⟨rj sh _ x,fun n=>dm.1,rfl,tg⟩
  ·have hv:∃b,v=.bool b:=by
    simp[Value.okWide,Cell.okWide] at fz;cases v<;>simp_all[Cell.ok]
   obtain⟨b,rfl⟩:=hv;exact⟨rj sh _ x,fun n=>dm.1,rfl,tg⟩
  ·obtain⟨ad,len,cap,rfl⟩:=okWide_slice hu fz;exact⟨rj sh _ x,fun n=>dm.1,rfl,tg⟩
theorem yF9 sh {base}:∀ts tys vs ds ps n,MJ P ts=some tys→(∀(j:Nat) t v,ts[j]? =some t→vs[j]? =some v→Value.okWide P w .any base t v)→
  DataW.TrodAll enc P w 0 (fun _=>true) true ts vs ds ps→wQ (DataW.weightsEach P ts ds)→∃x:AD (tf sh P ts tys),zL (zU (M0 w)) (ll (tf sh P ts tys) (vU _ x) n).1 vs∧(ll (tf sh P ts tys) (vU _ x) n).2=[]∧td _ x
 |[],tys,vs,ds,ps,n,hl,fz,h,_=>by
  match vs,ds,h with
  |[],[],_=>exact⟨(),trivial,rfl,trivial⟩
 |t::ts,tys,vs,ds,ps,n,hl,fz,h,hw=>by
  unfold MJ at hl;split at hl
  ·rename_i a l ha dK;cases hl
   match vs,ds,h with
   |v::vs,d::ds,h=>
    obtain⟨p,q,h1,h2,_⟩:=h;have hw:=o6.1 hw;obtain⟨x,x1,x2,x3⟩:=vYh sh ha (fz 0 t v rfl rfl) h1 hw.1;obtain⟨y,y1,y2,y3⟩:=yF9 sh ts l vs ds q n dK (fun j t' v' h1 h2=>fz (j+1) t' v' h1 h2) h2 hw.2;refine⟨uZ _ _ x y,?_⟩;have e:vU ((tf sh P (t::ts) (a::l)).flatMap AS.cells) (uZ _ _ x y)=vU _ x++vU _ y:=TV _ _ _ _;have ht:(vU _ x++vU _ y).take (rp sh P t a).cells.length=vU _ x:=by
     rw[List.take_append_of_le_length (by rw[MI];omega),List.take_of_length_le (by rw[MI];omega)]
    have hd:(vU _ x++vU _ y).drop (rp sh P t a).cells.length=vU _ y:=by
     rw[List.drop_append_of_le_length (by rw[MI];exact by simp),List.drop_of_length_le (by grind),List.nil_append]
    rw[e];have em:ll (tf sh P (t::ts) (a::l)) (vU _ x++vU _ y) n=((rp sh P t a).mk n (vU _ x)::(ll (tf sh P ts l) (vU _ y) n).1,(ll (tf sh P ts l) (vU _ y) n).2):=by
     show((rp sh P t a).mk n _::_,(rp sh P t a).boxes _++_)=_;simp_all
    rw[em];exact⟨⟨x1 n,y1⟩,y2,TW _ _ _ _ x3 y3⟩
  ·cases hl
theorem yVs {us}{gs:List (DataW H)}:∀{ts ds},ts.length=ds.length→wQ (DataW.weightsEach P (ts++us) (ds++gs))→wQ (DataW.weightsEach P ts ds)
 |[],[],_,_=>by rfl
 |t::ts,d::ds,hl,h=>o6.2 ⟨(o6.1 h).1,yVs (by simp_all) (o6.1 h).2⟩
theorem yG2:∀{ts vs ds ps},DataW.TrodAll enc P w 0 (fun _=>true) true ts vs ds ps→ts.length=ds.length
 |[],[],[],_,_=>rfl
 |_::_,_::_,_::_,_,⟨_,_,_,h,_⟩=>by rw[List.length_cons,List.length_cons,yG2 h]
theorem lawArgs sh {base ts tys asp vs ds ps}(hl:MJ P ts=some tys)(has:tf sh P ts tys=asp)
  (fz:∀(j:Nat) t v,ts[j]? =some t→vs[j]? =some v→Value.okWide P w .any base t v) (h:DataW.TrodAll enc P w 0 (fun _=>true) true ts vs ds ps) {us gs} (hw:wQ (DataW.weightsEach P (ts++us) (ds++gs))):
  ∃x:AD asp,zL (zU (M0 w)) (ll asp (vU _ x) 0).1 vs∧(ll asp (vU _ x) 0).2=[]∧td _ x:=by
 subst has;exact yF9 sh ts tys vs ds ps 0 hl fz h (yVs (yG2 h) hw)
theorem law_calls {E}(hE:fZ E)(hS:jb E.sums)(hm:E.P.follows .mixedOrders=true){A k pre f fn}(hf:E.P.funcs[f]? =some fn)(hL:∀c,fn.body=some c→wG E.P A pre 0 fn.ntmps c)
  {as d unpack} (hup:∀d,unpack d=d.1) (aV:j4 E A k pre 0 fn (oX as d).1 (oX as d).2 (mg (.c .bool) unpack)=some true) (hb:(ll as (vU _ d) 0).2=[]) {vs} (hv:zL (zU (M0 w)) (ll as (vU _ d) 0).1 vs.toList):
  Calls E.P f vs w fun e w'=>e=.returned (.bool true)∧Below w.heap.size w w':=by
 have hh:(M0 w).h=(oX as d).2:=by
  show lq []=lq (ll as (vU _ d) 0).2;rw[hb]
 refine Calls.mono (Tq hE hS hm hf hL aV (M:=M0 w) (w:=w) hh rfl (vUo w) hv) fun e w' he=>?_
 cases e with
 |returned rv=>
  obtain⟨M',v,st,hK,_,hH,_,hg,_,hrv,o1,o2,o3,_⟩:=he;refine⟨?_,o1,o2,o3,?_,fun b hb=>?_⟩
  ·unfold mg at hK;split at hK
   ·rename_i r hr;unfold HV at hr;split at hr
    ·rename_i cs mY;split at hr
     ·rename_i aO u Cr;cases v with
      |c x=>
       cases mY;have e1:aO=[x]:=by
        simp[RS.cells,RC.isFro,ga] at Cr;simp_all
       subst e1;have qm:kk (qJ st.h u) [.bool] [x]=some r:=hr;cases x with
       |bool b=>
        have e2:r=(b,()):=by simp[kk,oY] at qm;grind
        have:rv=.bool b:=hrv;grind
       |_=>simp[kk,oY] at qm
      |_=>cases mY
     ·cases hr
    ·cases hr
   ·cases hK
  ·have:=hg.size;rw[hH] at this;exact this
  ·have:=hg.same b hb;rw[hH] at this;exact this
 |_=>simp_all
end
inductive XC where
 |p (c:PC)|own (t:Ty)|mat|map
 |link (j:Nat)
abbrev XC.den:XC→Type
 |.p c=>c.den|.own t=>List t.den|.mat=>List (List Int)|.map=>List (Int×Bool)|.link _=>Unit
def XC.lnk:XC→Option Nat
 |.link j=>some j
 |_=>none
def RC.lnk:RC→Option Nat
 |.link j=>some j
 |_=>none
def rq:List (Option Nat)→List Nat→List zX→Bool
 |none::l,ids,_::cs=>rq l ids cs
 |some j::l,ids,.ptr id 0::cs=>(match ids[j]? with|some k=>Nat.beq id k|none=>false)&&rq l ids cs
 |some _::_,_,_=>false
 |_,_,_=>true
def zl:List (Option Nat)→List Nat→List zX→List zX
 |none::l,ids,c::cs=>c::zl l ids cs
 |some j::l,ids,c::cs=>(match ids[j]? with|some id=>.ptr id 0|none=>c)::zl l ids cs
 |_,_,cs=>cs
def TZ:List zX→Option Nat
 |[]=>none
 |.ptr id 0::_=>some id
 |_::l=>TZ l
def H3 (h:Hp):Nat→Nat→Option (List Nat)
 |0,_=>none
 |1,id=>some [id]
 |n+2,id=>match CN h id with
  | some cells => (match TZ cells with
   |some id2=>(match H3 h (n+1) id2 with|some l=>some (id::l)|none=>none)
   |none=>none)
  |none=>none
def lr:Nat→Nat→List Nat
 |_,0=>[]
 |n,m+1=>n::lr (n+1) m
abbrev XL:List XC→Type
 |[]=>Unit
 |c::l=>c.den×XL l
inductive AX where
 |c (x:XC)|agg (l:List PC)|ptr (io:Bool) (l:List XC)|fn (f:Nat) (bA:List (Bool×List XC))
 |chn (ls:List (List XC))
def AX.cells:AX→List XC
 |.c x=>[x]
 |.agg l=>l.map .p
 |.ptr _ l=>l
 |.fn _ bA=>bA.flatMap (·.2)
 |.chn ls=>ls.flatten
def AX.nb:AX→Nat
 |.ptr _ _=>1
 |.fn _ bA=>bA.length
 |.chn ls=>ls.length
 |_=>0
def AX.isChn:AX→Bool
 |.chn _=>true
 |_=>false
def CU (ls:List (List XC)):List (Bool×List XC):=ls.map fun l=>(true,l)
abbrev XD (l:List AX):Type:=XL (l.flatMap AX.cells)
def AX.looks:AX→Bool
 |.ptr _ _=>true
 |.fn _ _=>true
 |_=>false
def tj (l:List AX)(na:Nat):Bool:=l.zipIdx.all fun p=> !p.1.looks||Nat.blt p.2 na
def CV (h:Hp)(io:Bool)(id:Nat):Option (List zX):=match io,h id with
 |true,some (.box true cells)=>some cells
 |false,some (.box _ cells)=>some cells
 |false,some (.robox cells)=>some cells
 |_,_=>none
def je (h:Hp):List (Bool×List XC)→List Nat→Option (List zX×List (Bool×Nat))
 |[],[]=>some ([],[])
 |(io,l)::ls,id::ids=>match CV h io id,je h ls ids with
  |some cells,some (rest,bs)=>bif Nat.beq cells.length l.length then some (cells++rest,(io,id)::bs) else none
  |_,_=>none
 |_,_=>none
def AX.get (h:Hp):AX→zV→Option (List zX×List (Bool×Nat))
 |.c _,.c x=>some ([x],[])
 |.agg l,.agg xs=>bif Nat.beq xs.length l.length then some (xs,[]) else none
 |.ptr io l,.c (.ptr id 0)=>je h [(io,l)] [id]
 |.fn f bA,.c (.fn g ids)=>bif Nat.beq f g then je h bA ids else none
 |.chn ls,.c (.ptr id 0)=>match H3 h ls.length id with
  |some ids=>je h (CU ls) ids
  |none=>none
 |_,_=>none
def kl (h:Hp):List AX→List zV→Option (List zX×List (Bool×Nat))
 |[],[]=>some ([],[])
 |s::l,a::as=>match s.get h a,kl h l as with
  |some (cs,bs),some (aO,zm)=>some (cs++aO,bs++zm)
  |_,_=>none
 |_,_=>none
def H4 (h:Hp):(x:XC)→zX→Option x.den
 |.p p,c=>sZ h p c
 |.own t,.osl id none=>match h id with
  |some (.arr true s xs)=>gM s t xs
  |_=>none
 |.mat,.osl id none=>match h id with
  |some (.mat _ xs)=>some xs
  |_=>none
 |.map,.map id=>match h id with
  |some (.imap cY)=>some cY
  |_=>none
 |.link _,.ptr _ 0=>some ()
 |_,_=>none
def o9 (h:Hp):(l:List XC)→List zX→Option (XL l)
 |[],[]=>some ()
 |x::l,c::cs=>match H4 h x c,o9 h l cs with
  |some d,some ds=>some (d,ds)
  |_,_=>none
 |_,_=>none
def jG:List XC→List zX→List Nat
 |.p _::l,_::cs=>jG l cs
 |.link _::l,_::cs=>jG l cs
 |_::l,.osl id _::cs=>id::jG l cs
 |_::l,.map id::cs=>id::jG l cs
 |_::l,_::cs=>jG l cs
 |_,_=>[]
def H5:List XC→List zX→List Nat
 |.p _::l,c::cs=>vM c++H5 l cs
 |_::l,_::cs=>H5 l cs
 |_,_=>[]
def wP:Nat:=500
def gW:(l:List XC)→XL l→Nat→List zX×List Obj
 |[],_,_=>([],[])
 |.p p::l,d,n=>let r:=gW l d.2 n;(CO p d.1::r.1,r.2)
 |.own t::l,d,n=>let r:=gW l d.2 (n+1);(.osl n none::r.1,.arr true t d.1::r.2)
 |.mat::l,d,n=>let r:=gW l d.2 (n+1);(.osl n none::r.1,.mat 0 d.1::r.2)
 |.map::l,d,n=>let r:=gW l d.2 (n+1);(.map n::r.1,.imap d.1::r.2)
 |.link j::l,d,n=>let r:=gW l d.2 n;(.ptr j 0::r.1,r.2)
def H6:List (Bool×List XC)→List zX→List Obj
 |[],_=>[]
 |(io,l)::ls,cs=>(bif io then .box true (cs.take l.length) else .robox (cs.take l.length))::H6 ls (cs.drop l.length)
def AX.mk (n:Nat)(cs:List zX):AX→zV
 |.c _=>match cs with|x::_=>.c x|[]=>.undef
 |.agg _=>.agg cs
 |.ptr _ _=>.c (.ptr n 0)
 |.fn f bA=>.c (.fn f ((List.range bA.length).map (n+·)))
 |.chn _=>.c (.ptr n 0)
def AX.boxes (cs:List zX):AX→List Obj
 |.ptr io l=>H6 [(io,l)] cs
 |.fn _ bA=>H6 bA cs
 |.chn ls=>H6 (CU ls) cs
 |_=>[]
def zn:List AX→List zX→Nat→List zV×List Obj
 |[],_,_=>([],[])
 |s::l,cs,n=>
  let ao:=cs.take s.cells.length;let bs:=s.boxes ao;let rest:=zn l (cs.drop s.cells.length) (n+bs.length)
  (s.mk n ao::rest.1,bs++rest.2)
def H7 (bs rows:List Obj):Hp:=fun n=>bif Nat.ble wP n then rows[n-wP]? else bs[n]?
def ko l (d:XD l):List zV×Hp:=
 let r:=gW (l.flatMap AX.cells) d wP;let m:=zn l r.1 0
 (m.1,H7 m.2 r.2)
def H8:List (Bool×List XC)→List Nat→Option (List Nat)
 |[],[]=>some []
 |(io,_)::ls,id::ids=>match H8 ls ids with
  |some l=>some (bif io then id::l else l)
  |none=>none
 |_,_=>none
def AX.io (b:Nat):AX→zV→Option (List Nat)
 |.c _,_=>some []
 |.agg _,_=>some []
 |.ptr io l,.c (.ptr id 0)=>H8 [(io,l)] [id]
 |.fn _ bA,.c (.fn _ ids)=>H8 bA ids
 |.chn ls,_=>some (lr b ls.length)
 |_,_=>none
def MK:List AX→(Nat→zV)→Nat→Nat→Option (List Nat)
 |[],_,_,_=>some []
 |s::l,t,n,b=>match s.io b (t n),MK l t (n+1) (b+s.nb) with
  |some a,some b=>some (a++b)
  |_,_=>none
def CW (h:Hp):List (List RC)→List Nat→Option (List zX)
 |[],[]=>some []
 |o::os,n::ns=>match h n,CW h os ns with
  |some (.box true cells),some rest=>bif Nat.beq cells.length o.length then some (cells++rest) else none
  |_,_=>none
 |_,_=>none
def T0 (h:Hp)(ns:Nat)(cs:List zX):Option (List Nat):=bif Nat.beq ns 0 then some [] else match TZ cs with
 |some id=>H3 h ns id
 |none=>none
def u9 (st:St)(as:List AX)(rs:RS)(os:List (List RC))(ns:Nat)(v:zV):Option (RL (rs.cells++os.flatten)):=
 match MK as st.t 0 0 with
 |none=>none
 |some io=>match rs.get v with
  |none=>none
  |some cs=>match T0 st.h ns cs with
   |none=>none
   |some nw=>match CW st.h os (io++nw) with
    |none=>none
    | some bs => bif so (io ++ nw) then (match ga st.h ((rs.cells++os.flatten).map RC.isFro) (cs++bs) with
     |some (cs,u)=>bif so (vW (rs.cells++os.flatten) cs)&&rq ((rs.cells++os.flatten).map RC.lnk) (io++nw) cs then kk (qJ st.h u) (rs.cells++os.flatten) cs else none
     |none=>none) else none
def H9 (as:List AX)(rs:RS)(os:List (List RC))(ns:Nat){X:Type}(unpack:RL (rs.cells++os.flatten)→X)(v:zV)(st:St):Option X:=match u9 st as rs os ns v with
 |some d=>some (unpack d)
 |none=>none
def ML (as:List AX)(rs:RS)(os:List (List RC))(ns:Nat)(dq:RS)(dr:List (List RC))(fi:Nat){X Y:Type}(up:RL (rs.cells++os.flatten)→X)(kQ:RL (dq.cells++dr.flatten)→Y)(v:zV)(st:St):Option (X⊕Y):=match u9 st as rs os ns v with
 |some d=>some (.inl (up d))
 |none=>match u9 st as dq dr fi v with
  |some d=>some (.inr (kQ d))
  |none=>none
def vd:List (List RC)→List zX→List (List zX)
 |[],_=>[]
 |o::os,cs=>cs.take o.length::vd os (cs.drop o.length)
def vP:List (Bool×Nat)→List Nat
 |[]=>[]
 |(true,id)::l=>id::vP l
 |(false,_)::l=>vP l
def MM:List (Bool×Nat)→List Nat
 |[]=>[]
 |(true,_)::l=>MM l
 |(false,id)::l=>id::MM l
def CX:List Nat→List (List zX)→vG
 |id::ids,cs::css=>(id,.box true cs)::CX ids css
 |_,_=>[]
def pb (ids:List Nat):vG:=ids.map fun id=>(id,.gone)
def T1 (nm:Nat)(rs:RS)(os:List (List RC))(ids:List Nat)(d:RL (rs.cells++os.flatten)):zV×vG:=
 let r:=nU nm (rs.cells++os.flatten) d;let cs:=zl ((rs.cells++os.flatten).map RC.lnk) ids r.1
 (rs.mk (cs.take rs.cells.length),r.2++CX ids (vd os (cs.drop rs.cells.length)))
def T2 (a b:List Nat):Bool:=a.all fun x=> !b.any (Nat.beq x)
def vf (h:Hp):AX→zV→Option (zV×vG)
 |.c (.p p),.c x=>match ga h [p.isKept] [x] with
  |some ([x],u)=>some (.c x,u)
  |_=>none
 |.agg l,.agg xs=>match ga h (l.map PC.isKept) xs with
  |some (xs,u)=>some (.agg xs,u)
  |none=>none
 |_,a=>some (a,[])
def rr (h:Hp):List AX→List zV→Option (List zV×vG)
 |s::l,a::as=>match vf h s a,rr h l as with
  |some (a,u),some (as,us)=>some (a::as,u++us)
  |_,_=>none
 |_,as=>some (as,[])
def zo as (nm n:Nat)(args:List zV)(h:Hp):Option (vG×List Nat×List Nat×XD as):=
 match rr h as args with
 |none=>none
 |some (args,u)=>match kl (qJ h u) as args with
  |none=>none
  |some (cs,bs)=>match o9 (qJ h u) (as.flatMap AX.cells) cs with
   |none=>none
   |some d=>
    let rows:=jG (as.flatMap AX.cells) cs;let ao:=vP bs++rows
    bif uS h nm n&&Nat.ble n 100&&Nat.ble bs.length wP&&so ao&&T2 ao (H5 (as.flatMap AX.cells) cs)&&T2 ao (MM bs)&&rq ((as.flatMap AX.cells).map XC.lnk) (bs.map (·.2)) cs then
     some (u,vP bs,rows,d)
    else none
def Ia (u:vG)(io rows:List Nat)(rs:RS)(os:List (List RC))(ns nm:Nat)(d:RL (rs.cells++os.flatten)):zV×vG:=
 let r:=T1 nm rs os (io++lr (nm+(rs.cells++os.flatten).length) ns) d
 (r.1,u++(pb rows++r.2))
def ru as (rs:RS)(os:List (List RC))(ns:Nat){X}(S:XD as→Option X)(pack:X→RL (rs.cells++os.flatten))(nm:Nat)(args:List zV)(h:Hp):yU:=
 match zo as nm ((rs.cells++os.flatten).length+ns) args h with
 |none=>.stuck
 |some (u,io,rows,d)=>.call X (S d) fun r=>Ia u io rows rs os ns nm (pack r)
def tl as (rs:RS)(os:List (List RC))(ns:Nat)(dq:RS)(dr:List (List RC))(fi:Nat){X Y}(S:XD as→Option (X⊕Y))(pk:X→RL (rs.cells++os.flatten))(iy:Y→RL (dq.cells++dr.flatten))(nm:Nat)(args:List zV)(h:Hp):yU:=
 match zo as nm (((rs.cells++os.flatten).length+ns)+((dq.cells++dr.flatten).length+fi)) args h with
 |none=>.stuck
 |some (u,io,rows,d)=>.call2 X Y (S d) (fun r=>Ia u io rows rs os ns nm (pk r)) (fun r=>Ia u io rows dq dr fi nm (iy r))
def kR (M:zK)(ao:List Nat)(b:Nat):Prop:=∃id∈ao,∃C,M.κ id=some C∧b∈C.fp
structure rz (M:zK) (ao:List Nat) (Ml:zK):Prop where
 H:Ml.H=M.H
 F:Ml.F=fun b=>b<M.H.size∧¬kR M ao b
 G:Ml.G=M.G
def nf (M:zK)(ao:List Nat):Prop:=∀id∈ao,∃o,M.h id=some o∧o.owned=true
theorem kR.own {M ao}(ho:nf M ao){b}(h:kR M ao b):qM M b:=by
 obtain⟨id,ak,C,hC,hb⟩:=h;obtain⟨o,h1,h2⟩:=ho id ak;exact⟨id,o,C,h1,h2,hC,hb⟩
theorem tm {M}(ok:Ok M){ao}(ho:nf M ao){b}(h:M.F b):b<M.H.size∧¬kR M ao b:=⟨ok.Flt b h,fun hh=>(ok.own b (hh.own ho)).1 h⟩
theorem yXo {M M'}(ok:Ok M){ao}(ho:nf M ao){id o}(hn:id∉ao)(hh:M'.h=yD M.h id o)(hκ:M'.κ=M.κ)(hH:M'.H=M.H)(ka:Ok M'){b}(h:M'.G b):b<M.H.size∧¬kR M ao b:=by
 have hf:=ka.GF b h;refine⟨by have:=ka.Flt b hf;simp_all,fun hd=>?_⟩;obtain⟨jd,hj,C,hC,hb⟩:=hd;obtain⟨q,h1,h2⟩:=ho jd hj;refine(ka.own b ⟨jd,q,C,?_,h2,?_,hb⟩).1 hf
 ·rw[hh,yP _ _ (by grind)];exact h1
 simp_all
theorem vMe {M}(ok:Ok M){ao}(ho:nf M ao){c v t xs}(hn:∀id∈vM c,id∉ao)(hv:zW M c v)(h:j0 M.h c=some ⟨t,xs⟩):
  qF M.H (fun b=>b<M.H.size∧¬kR M ao b) (.sl t) xs (fun _=>some v):=by
 unfold j0 at h;split at h
 ·rename_i sh s ys;cases h;cases sh with
  |true=>exact vB (fun b hb=>tm ok ho (ok.GF b hb)) (by simp) _ _ _ _ (fun _ _=>rfl) hv
  |false=>exact vB (fun b hb=>tm ok ho hb) (by simp) _ _ _ _ (fun _ _=>rfl) hv
 ·rename_i id r;have oO:id∉ao:=hn id (by simp[vM]);split at h
  ·rename_i own s ys ak;cases h;cases own with
   |false=>
    obtain⟨C,hC,hO⟩:=ok.obj _ _ ak;exact vB (fun b hb=>tm ok ho (ok.GF b hb)) (by simp) _ _ _ _ (by simp) (yf hC hO hv)
   |true=>
    obtain⟨M',h1,h2,h3,h4,h5⟩:=yC2 ok ak;obtain⟨C,hC,hO⟩:=h3.obj id _ (by rw[h2];exact yO _ _ _);have:=yf hC hO (hv.ext h4.ext);exact vB (fun b hb=>yXo ok ho oO h2 h5 h1 h3 hb) (by grind) _ _ _ _ (by simp) this
  ·rename_i ver ys ak;cases r with
   |some p=>cases h
   |none=>
    cases h;obtain⟨M',h1,h2,h3,h4,h5⟩:=yVm ok ak;obtain⟨C,hC,hO⟩:=h3.obj id _ (by rw[h2];exact yO _ _ _);have:=yf (r:=none) hC hO (hv.ext h4.ext);exact vB (fun b hb=>yXo ok ho oO h2 h5 h1 h3 hb) (by grind) _ _ _ _ (by simp) this
  ·cases h
 ·rename_i id i ver;have oO:id∉ao:=hn id (by simp[vM]);split at h
  ·rename_i v' ys ak;cases fB:Nat.beq v' ver with
   |false=>rw[fB] at h;cases h
   |true=>
    rw[fB] at h;cases h;have e:v'=ver:=by simpa using fB
    subst e;obtain⟨C,hC,hO⟩:=ok.obj _ _ ak;obtain⟨C',aC,cn,_,aR⟩:=hv;rw[hC] at aC;cases aC;obtain⟨rb,rl,uL,qt⟩:=aR hO.1;by_cases hi:i<ys.length
    ·obtain⟨B,oP,v2,k1,k2,k3,k4,k5,k6⟩:=Cm hO hi;rw[uL] at k3;cases k3;rw[show ys.getD i []=ys[i] by simp[List.getD,hi]];simp only[qF];cases rb with
     |none=>
      obtain⟨rfl,h0⟩:=qt;grind
     |some R=>
      obtain⟨a,c,rfl,h1,h2,h3⟩:=qt;refine⟨_,_,c,rfl,rfl,h1,?_⟩;by_cases h0:ys[i].length=0
      ·simp_all
      ·have ha:a=0:=by omega
       subst ha;have hR:R∈C.fp:=by
        simp only[qB.fp,List.mem_append,List.mem_filterMap];grind
       refine .inr ⟨R,0,rfl,⟨?_,fun hd=>?_⟩,fun j hj=>?_⟩
       ·have:=k6 R rfl 0 (by omega);unfold yQ at this;grind
       ·obtain⟨jd,hj,D,hD,hb⟩:=hd;obtain⟨q,q1,q2⟩:=ho jd hj;exact ok.disj jd id q _ D C R (by grind) q1 ak q2 rfl hD hC hb hR
       ·simp only[qF,Ty.size,Nat.zero_add,Nat.mul_one,Nat.add_zero];exact by grind
    ·have:C.rows[i]? =none:=List.getElem?_eq_none (by have:=hO.2.2.2.1;omega);simp_all
  ·cases h
 ·cases h
def TrX (M:zK)(ao:List Nat)(c c':zX):Prop:=∀v Ml,rz M ao Ml→zW M c v→zW Ml c' v
theorem vZ5 {M}(ok:Ok M){ao}(ho:nf M ao){p c d}(hn:∀id∈vM c,id∉ao)(h:sZ M.h p c=some d):TrX M ao c (CO p d):=by
 intro v Ml lo hv;unfold sZ at h;split at h
 ·rename_i k j n;cases e:fT j k with
  |false=>simp_all
  |true=>rw[e] at h;cases h;rw[←sj e];exact hv
 ·cases h;exact hv
 ·show qF Ml.H Ml.F _ _ _;rw[lo.H,lo.F];unfold zd at h;split at h
  ·cases h;rw[show v=.slice none 0 0 from hv];exact HW
  ·split at h
   ·rename_i s ys hr;obtain⟨e,hx⟩:=kN h;subst e;subst hx;exact vMe ok ho hn hv hr
   ·cases h
 ·obtain⟨e,hx⟩:=kN h;subst e;subst hx;show qF Ml.H Ml.G _ _ _;rw[lo.H,lo.G];exact hv
 ·cases h;rw[show v=.slice none 0 0 from hv];exact HW
 ·rename_i f g;cases e:Nat.beq f g with
  |false=>simp_all
  |true=>
   have:f=g:=by simp_all
   subst this;obtain⟨cv,rfl,hc⟩:=hv;refine⟨cv,rfl,?_⟩;generalize cv.toList=l at hc;cases l with
   |nil=>trivial
   |cons _ _=>exact hc.elim
 ·exact hv
 ·exact hv
 ·cases h
def rA (M:zK)(ao:List Nat)(κ:Nat→Option qB)(c c':zX):Prop:=∀v Ml,rz M ao Ml→Ml.κ=κ→zW M c v→zW Ml c' v
structure T3 (M:zK) (id:Nat) (o:Obj) (C:qB):Prop where
 κ:M.κ id=some C
 rep:∀Ml:zK,Ml.H=M.H→Ml.G=M.G→yY Ml o {C with ver:=0}
 own:o.owned=true
 was:∃q,M.h id=some q∧q.owned=true
theorem T4 {M Ml}(hH:Ml.H=M.H){cY C}(h:yY M (.imap cY) C):yY Ml (.imap cY) {C with ver:=0}:=by
 obtain⟨B,es,ck,h1,h2,h3,h4,h5⟩:=h;exact⟨B,es,ck,h1,h2,by simp_all,h4,h5⟩
theorem yQm {j l ids c cs}(h:rq (some j::l) ids (c::cs)=true):∃id,c=.ptr id 0∧ids[j]? =some id∧rq l ids cs=true:=by
 cases c with
 |ptr id off=>
  cases off with
  |zero=>
   have h:((match ids[j]? with|some k=>Nat.beq id k|none=>false)&&rq l ids cs)=true:=h;rw[Bool.and_eq_true] at h;have h1:=h.1;split at h1;all_goals simp_all
  |succ _=>cases h
 |_=>cases h
theorem CY {M}(ok:Ok M){ao}(ho:nf M ao){κ}:∀{l cs d n ids},o9 M.h l cs=some d→rq (l.map XC.lnk) ids cs=true→(∀id∈H5 l cs,id∉ao)→
  (jG l cs).length=(gW l d n).2.length∧(∀(i:Nat) id o,(jG l cs)[i]? =some id→(gW l d n).2[i]? =some o→∃C,T3 M id o C)∧
   ((∀i id C,(jG l cs)[i]? =some id→M.κ id=some C→κ (n+i)=some {C with ver:=0})→(∀j id,ids[j]? =some id→κ j=M.κ id)→zL (rA M ao κ) cs (gW l d n).1)
 |[],[],_,n,_,_,_,_=>⟨rfl,nofun,fun _ _=>trivial⟩
 |x::l,c::cs,d,n,ids,h,hl,hn=>by
  unfold o9 at h;split at h
  ·rename_i y ys h1 h2;cases h;cases x with
   |p p=>
    have mh:∀id∈vM c,id∉ao:=fun id ak=>hn id (List.mem_append_left _ ak)
    obtain⟨k1,k2,k3⟩:=CY ok ho (κ:=κ) (n:=n) (ids:=ids) h2 hl (fun id ak=>hn id (List.mem_append_right _ ak));exact⟨k1,k2,fun hκ hj=>⟨fun v Ml lo _ hv=>vZ5 ok ho mh h1 v Ml lo hv,k3 hκ hj⟩⟩
   |own t=>
    cases c with
    |osl id r=>
     cases r with
     |some _=>cases h1
     |none=>
      have h1:(match M.h id with|some (.arr true s xs)=>gM s t xs|_=>none)=some y:=h1;split at h1
      ·rename_i s xs ak;obtain⟨e,hx⟩:=kN h1;subst e;subst hx;obtain⟨C,hC,hO⟩:=ok.obj id _ ak;obtain⟨k1,k2,k3⟩:=CY ok ho (κ:=κ) (n:=n+1) (ids:=ids) h2 hl hn;refine⟨by simp only[jG,gW,List.length_cons,k1],fun i jd o hi la=>?_,fun hκ hj=>⟨fun v Ml lo hk hv=>?_,k3 (fun i jd D hi hD=>?_) hj⟩⟩
       ·cases i with
        |zero=>
         cases hi;cases la;refine⟨C,hC,fun Ml e1 e2=>?_,rfl,_,ak,rfl⟩;obtain⟨q1,q2,q3,q4⟩:=hO;refine⟨q1,q2,q3,?_⟩;rw[e1,e2];exact q4
        |succ i=>exact k2 i jd o hi la
       ·obtain⟨D,hD,hS⟩:=hv;rw[hC] at hD;cases hD;refine⟨{C with ver:=0},by rw[hk];exact hκ 0 id C rfl hC,?_⟩;rw[lo.H];exact hS
       ·have:=hκ (i+1) jd D hi hD;rw[←this];congr 1;omega
      ·cases h1
    |_=>cases h1
   |mat=>
    cases c with
    |osl id r=>
     cases r with
     |some _=>cases h1
     |none=>
      have h1:(match M.h id with|some (.mat _ xs)=>some xs|_=>none)=some y:=h1;split at h1
      ·rename_i ver xs ak;cases h1;obtain⟨C,hC,hO⟩:=ok.obj id _ ak;obtain⟨k1,k2,k3⟩:=CY ok ho (κ:=κ) (n:=n+1) (ids:=ids) h2 hl hn;refine⟨by simp only[jG,gW,List.length_cons,k1],fun i jd o hi la=>?_,fun hκ hj=>⟨fun v Ml lo hk hv=>?_,k3 (fun i jd D hi hD=>?_) hj⟩⟩
       ·cases i with
        |zero=>
         cases hi;cases la;refine⟨C,hC,fun Ml e1 e2=>?_,rfl,_,ak,rfl⟩;obtain⟨q1,q2⟩:=hO;refine⟨rfl,?_⟩;rw[e1];exact q2
        |succ i=>exact k2 i jd o hi la
       ·obtain⟨D,hD,hS⟩:=hv;rw[hC] at hD;cases hD;refine⟨{C with ver:=0},by rw[hk];exact hκ 0 id C rfl hC,?_⟩;show jA Ml.H {C with ver:=0} 0 C.len v;rw[lo.H];exact hS
       ·have:=hκ (i+1) jd D hi hD;rw[←this];congr 1;omega
      ·cases h1
    |_=>cases h1
   |map=>
    cases c with
    |map id=>
     have h1:(match M.h id with|some (.imap cY)=>some cY|_=>none)=some y:=h1;split at h1
     ·rename_i cY ak;cases h1;obtain⟨C,hC,hO⟩:=ok.obj id _ ak;obtain⟨k1,k2,k3⟩:=CY ok ho (κ:=κ) (n:=n+1) (ids:=ids) h2 hl hn;refine⟨by simp only[jG,gW,List.length_cons,k1],fun i jd o hi la=>?_,fun hκ hj=>⟨fun v Ml lo hk hv=>?_,k3 (fun i jd D hi hD=>?_) hj⟩⟩
      ·cases i with
       |zero=>
        cases hi;cases la;exact⟨C,hC,fun Ml e1 e2=>T4 e1 hO,rfl,_,ak,rfl⟩
       |succ i=>exact k2 i jd o hi la
      ·obtain⟨D,B,hD,hB,e⟩:=hv;rw[hC] at hD;cases hD;exact⟨{C with ver:=0},B,by rw[hk];exact hκ 0 id C rfl hC,hB,e⟩
      ·have:=hκ (i+1) jd D hi hD;rw[←this];congr 1;omega
     ·cases h1
    |_=>cases h1
   |link j=>
    obtain⟨id,rfl,ak,dK⟩:=yQm hl;obtain⟨k1,k2,k3⟩:=CY ok ho (κ:=κ) (n:=n) (ids:=ids) h2 dK hn;refine⟨k1,k2,fun hκ hj=>⟨fun v Ml lo hk hv=>?_,k3 hκ hj⟩⟩;obtain⟨C,B,hC,hB,e⟩:=hv;exact⟨C,B,by rw[hk,hj j id ak];exact hC,hB,e⟩
  ·cases h
 |[],_::_,_,_,_,h,_,_=>by cases h
 |_::_,[],_,_,_,h,_,_=>by cases h
theorem Ib {M Ml ao}(lo:rz M ao Ml):∀{cs aO vs},zL (rA M ao Ml.κ) cs aO→zL (zW M) cs vs→zL (zW Ml) aO vs
 |[],[],[],_,_=>trivial
 |_::_,_::_,_::_,h,k=>⟨h.1 _ _ lo rfl k.1,Ib lo h.2 k.2⟩
def CZ (ao:List Nat)(bs:List (Bool×Nat)):Prop:=∀b∈bs,(b.1=true→b.2∈ao)∧(b.1=false→b.2∉ao)
theorem vIt {M}(ok:Ok M){ao}(ho:nf M ao){io id cells}(h:CV M.h io id=some cells)(hm:(io=true→id∈ao)∧(io=false→id∉ao)):
  ∃C B,M.κ id=some C∧C.blk=some B∧∀Ml bH,rz M ao Ml→zL (rA M ao Ml.κ) cells bH→yY Ml (bif io then .box true bH else .robox bH) C:=by
 unfold CV at h;split at h
 ·rename_i cs ak;cases h;obtain⟨C,hC,B,vals,e,h1,h2,h3,h4,h5⟩:=ok.obj id _ ak;exact⟨C,B,hC,h1,fun Ml bH lo ht=>⟨B,vals,e,h1,h2,by rw[lo.H];exact h3,Ib lo ht h4,by simp⟩⟩
 ·rename_i own cs ak;cases h;obtain⟨C,hC,B,vals,e,h1,h2,h3,h4,h5⟩:=ok.obj id _ ak;refine⟨C,B,hC,h1,fun Ml bH lo ht=>⟨B,vals,e,h1,h2,by rw[lo.H];exact h3,Ib lo ht h4,?_⟩⟩;rw[lo.F];cases own with
  |false=>exact tm ok ho (ok.GF B (h5 rfl))
  |true=>
   refine⟨by grind,fun hd=>?_⟩;obtain⟨jd,hj,D,hD,hb⟩:=hd;obtain⟨q,q1,q2⟩:=ho jd hj;exact ok.disj jd id q _ D C B (by grind) q1 ak q2 rfl hD hC hb (by simp[qB.fp,h1])
 ·rename_i cs ak;cases h;obtain⟨C,hC,B,vals,e,h1,h2,h3,h4,h5⟩:=ok.obj id _ ak;refine⟨C,B,hC,h1,fun Ml bH lo ht=>⟨B,vals,e,h1,h2,by rw[lo.H];exact h3,Ib lo ht h4,?_⟩⟩;rw[lo.F];exact tm ok ho h5
 ·cases h
def T5 (M:zK)(ao:List Nat)(bs:List (Bool×Nat))(mk:List zX→List Obj)(cs:List zX):Prop:=∀(Ml:zK) (aO:List zX),rz M ao Ml→zL (rA M ao Ml.κ) cs aO→
 zL (fun(b:Bool×Nat) o=>∃C B,M.κ b.2=some C∧C.blk=some B∧yY Ml o C∧o.owned=b.1) bs (mk aO)
theorem MN {M}(ok:Ok M){ao}(ho:nf M ao):∀{ls ids cs bs},je M.h ls ids=some (cs,bs)→CZ ao bs→
  cs.length=(ls.flatMap (·.2)).length∧bs=(ls.map (·.1)).zip ids∧ids.length=ls.length∧T5 M ao bs (H6 ls) cs
 |[],[],cs,bs,h,_=>by cases h;exact⟨rfl,rfl,rfl,fun _ _ _ _=>trivial⟩
 |(io,l)::ls,id::ids,cs,bs,h,hf=>by
  unfold je at h;split at h
  ·rename_i cells rest zm h1 h2;obtain⟨hl,h⟩:=wE h;cases h;have hl:cells.length=l.length:=Nat.eq_of_beq_eq_true hl;obtain⟨C,B,hC,hB,hO⟩:=vIt ok ho h1 (hf _ (List.mem_cons_self ..));obtain⟨k1,k2,k3,k4⟩:=MN ok ho h2 fun b hb=>hf b (by grind)
   refine⟨by simp_all,by simp_all,by simp[k3],fun Ml aO lo ht=>?_⟩;have nW:=zL.take l.length ht;have mX:=zL.drop l.length ht;rw[←hl,List.drop_left] at mX;refine⟨⟨C,B,hC,hB,?_,?_⟩,?_⟩
   ·simp_all
   ·cases io<;>rfl
   ·rw[←hl];exact k4 Ml _ lo mX
  ·cases h
theorem Ic {h}:∀{ls ids cs bs},je h ls ids=some (cs,bs)→bs.length=ls.length
 |[],[],_,_,e=>by cases e;rfl
 |(io,l)::ls,id::ids,cs,bs,e=>by
  unfold je at e;split at e
  ·rename_i cells rest zm h1 h2;obtain⟨_,e⟩:=wE e;cases e;simp[Ic h2]
  ·cases e
theorem vW4 {h}{s:AX}{a cs bs}(e:s.get h a=some (cs,bs)):bs.length=s.nb:=by
 unfold AX.get at e;split at e
 ·cases e;rfl
 ·obtain⟨_,e⟩:=wE e;cases e;rfl
 ·rw[Ic e];rfl
 ·obtain⟨_,e⟩:=wE e;rw[Ic e];rfl
 ·split at e
  ·rw[Ic e];simp[CU,AX.nb]
  ·cases e
 ·cases e
theorem T6 {h}:∀{n id ids},H3 h n id=some ids→ids.head? =some id∧ids.length=n
 |1,_,_,e=>by cases e;simp
 |n+2,id,ids,e=>by
  unfold H3 at e;split at e
  ·split at e
   ·split at e
    ·rename_i l hl;cases e;exact⟨rfl,by simp[(T6 hl).2]⟩
    ·cases e
   ·cases e
  ·cases e
theorem vP3 {M}(ok:Ok M){ao}(ho:nf M ao){s:AX}{a v cs bs}(hv:zU M a v)(h:s.get M.h a=some (cs,bs))(hf:CZ ao bs):
  cs.length=s.cells.length∧T5 M ao bs (fun aO=>s.boxes aO) cs∧∀Ml aO n,rz M ao Ml→zL (rA M ao Ml.κ) cs aO→(∀i b,bs[i]? =some b→Ml.κ (n+i)=M.κ b.2)→zU Ml (s.mk n aO) v:=by
 unfold AX.get at h;split at h
 ·cases h;refine⟨rfl,fun Ml aO lo ht=>trivial,fun Ml aO n lo ht _=>?_⟩
  match aO,ht with
  |[c'],ht=>exact ht.1 v Ml lo rfl hv
 ·rename_i l xs;obtain⟨hl,h'⟩:=wE h;cases h';have hl:cs.length=l.length:=Nat.eq_of_beq_eq_true hl;obtain⟨vs,rfl,hx⟩:=hv;exact⟨by simp[AX.cells,hl],fun Ml aO lo ht=>trivial,fun Ml aO n lo ht _=>⟨vs,rfl,Ib lo ht hx⟩⟩
 ·rename_i io l id;obtain⟨k1,k2,k3,k4⟩:=MN ok ho h hf;refine⟨by rw[k1];simp[AX.cells],k4,fun Ml aO n lo ht hκ=>?_⟩;obtain⟨C,B,hC,hB,e⟩:=hv;exact⟨C,B,by have:=hκ 0 (io,id) (by rw[k2];rfl);simp_all,hB,e⟩
 ·rename_i f bA g ids;obtain⟨hg,h'⟩:=wE h;have TA:f=g:=Nat.eq_of_beq_eq_true hg;subst TA;obtain⟨k1,k2,k3,k4⟩:=MN ok ho h' hf;refine⟨by rw[k1];rfl,k4,fun Ml aO n lo ht hκ=>?_⟩;obtain⟨cv,rfl,hc⟩:=hv;refine⟨cv,rfl,?_⟩;have l2:=hc.length;refine zL.of_get (by simp_all) fun i h1 h2=>?_
  have hi:i<ids.length:=by omega
  obtain⟨C,B,q1,q2,q3⟩:=hc.get i hi h2;have hb:bs[i]? =some ((bA.map (·.1))[i]'(by simp at h1⊢;omega),ids[i]):=by
   grind
  grind
 ·rename_i ls id;split at h
  ·rename_i ids ke;obtain⟨k1,k2,k3,k4⟩:=MN ok ho h hf;refine⟨by rw[k1];simp[AX.cells,CU,List.flatMap_map],k4,fun Ml aO n lo ht hκ=>?_⟩;obtain⟨C,B,hC,hB,e⟩:=hv;have hb:bs[0]? =some (true,id):=by
    obtain⟨h1,h2⟩:=T6 ke;rw[k2];cases ids with
    |nil=>cases h1
    |cons i ids=>
     cases h1;cases ls with
     |nil=>cases k3
     |cons l ls=>rfl
   exact⟨C,B,by grind,hB,e⟩
  ·cases h
 ·cases h
theorem yUr {M}(ok:Ok M){ao}(ho:nf M ao):∀{l as vs cs bs},zL (zU M) as vs→kl M.h l as=some (cs,bs)→CZ ao bs→
  cs.length=(l.flatMap AX.cells).length∧(∀n,T5 M ao bs (fun aO=>(zn l aO n).2) cs)∧
   ∀Ml aO n,rz M ao Ml→zL (rA M ao Ml.κ) cs aO→(∀i b,bs[i]? =some b→Ml.κ (n+i)=M.κ b.2)→zL (zU Ml) (zn l aO n).1 vs
 |[],[],[],cs,bs,_,h,_=>by cases h;exact⟨rfl,fun _ _ _ _ _=>trivial,fun _ _ _ _ _ _=>trivial⟩
 |s::l,a::as,v::vs,cs,bs,hv,h,hf=>by
  unfold kl at h;split at h
  ·rename_i mb bs1 cs2 bs2 h1 h2;cases h;have hf1:CZ ao bs1:=fun b hb=>hf b (by grind)
   have hf2:CZ ao bs2:=fun b hb=>hf b (by grind)
   obtain⟨k1,k2,k3⟩:=vP3 ok ho hv.1 h1 hf1;obtain⟨k4,k5,k6⟩:=yUr ok ho hv.2 h2 hf2;have cut:∀{κ:Nat→Option qB} {aO:List zX},zL (rA M ao κ) (mb++cs2) aO→zL (rA M ao κ) mb (aO.take s.cells.length)∧zL (rA M ao κ) cs2 (aO.drop s.cells.length):=by
    intro κ aO ht;have nW:=zL.take s.cells.length ht;have mX:=zL.drop s.cells.length ht;simp_all
   refine⟨by simp_all,fun n Ml aO lo ht=>?_,fun Ml aO n lo ht hκ=>?_⟩
   ·obtain⟨nW,mX⟩:=cut ht;exact(k2 Ml _ lo nW).append (k5 _ Ml _ lo mX)
   ·obtain⟨nW,mX⟩:=cut ht;have hlen:=(k2 Ml _ lo nW).length;refine⟨k3 Ml _ n lo nW fun i b hb=>hκ i b ?_,k6 Ml _ _ lo mX fun i b hb=>?_⟩
    ·grind
    ·have:=hκ (bs1.length+i) b (by grind);grind
  ·cases h
def κX (M : zK) (bs : List (Bool × Nat)) (rows : List Nat) : Nat → Option qB := fun n => bif Nat.ble wP n then (match rows[n-wP]? with
  |some id=>(M.κ id).map fun C=>{C with ver:=0}
  |none=>none)
 else (match bs[n]? with
  |some b=>M.κ b.2
  |none=>none)
theorem zp:∀{bs} {i id:Nat},bs[i]? =some (true,id)→id∈vP bs
 |(true,a)::bs,0,id,h=>by cases h;exact List.mem_cons_self ..
 |(true,a)::bs,i+1,id,h=>List.mem_cons_of_mem _ (zp (bs:=bs) (i:=i) h)
 |(false,a)::bs,i+1,id,h=>zp (bs:=bs) (i:=i) h
theorem T7:∀{bs} {i j id:Nat},(vP bs).Nodup→bs[i]? =some (true,id)→bs[j]? =some (true,id)→i=j
 |(true,a)::bs,0,0,id,_,_,_=>rfl
 |(true,a)::bs,0,j+1,id,hn,h,k=>by
  cases h;exact absurd (zp (bs:=bs) (i:=j) k) (List.nodup_cons.1 hn).1
 |(true,a)::bs,i+1,0,id,hn,h,k=>by
  cases k;exact absurd (zp (bs:=bs) (i:=i) h) (List.nodup_cons.1 hn).1
 |(true,a)::bs,i+1,j+1,id,hn,h,k=>by rw[T7 (bs:=bs) (List.nodup_cons.1 hn).2 h k]
 |(false,a)::bs,i+1,j+1,id,hn,h,k=>by rw[T7 (bs:=bs) hn h k]
theorem vDq {M}(ok:Ok M){l as vs cs bs}{d:XD l}(hv:zL (zU M) as vs)(hg:kl M.h l as=some (cs,bs))(hd:o9 M.h (l.flatMap AX.cells) cs=some d)
  (dE:(vP bs++jG (l.flatMap AX.cells) cs).Nodup) (qw:∀id∈H5 (l.flatMap AX.cells) cs,id∉vP bs++jG (l.flatMap AX.cells) cs) (hro:∀id∈MM bs,id∉vP bs++jG (l.flatMap AX.cells) cs) (hlen:bs.length≤wP) (tn:rq ((l.flatMap AX.cells).map XC.lnk) (bs.map (·.2)) cs=true) (ho:nf M (vP bs++jG (l.flatMap AX.cells) cs)):
  ∃Ml:zK,rz M (vP bs++jG (l.flatMap AX.cells) cs) Ml∧Ml.h=(ko l d).2∧Ok Ml∧(∀b,qM Ml b→kR M (vP bs++jG (l.flatMap AX.cells) cs) b)∧zL (zU Ml) (ko l d).1 vs∧Ml.κ=κX M bs (jG (l.flatMap AX.cells) cs):=by
 generalize gX:vP bs++jG (l.flatMap AX.cells) cs=ao at*
 have vg:CZ ao bs:=by
  intro b hb;obtain⟨i,hi,rfl⟩:=List.getElem_of_mem hb;have Hh:bs[i]? =some bs[i]:=List.getElem?_eq_getElem hi;refine⟨fun e=>?_,fun e=>?_⟩
  ·rw[←gX];have:bs[i]? =some (true,bs[i].2):=by rw[Hh,←e]
   exact List.mem_append_left _ (zp this)
  ·apply hro;clear hg hd dE qw hro hlen ho gX hv tn
   induction bs generalizing i with
   |nil=>exact absurd hi (Nat.not_lt_zero i)
   |cons c bs ih=>
    obtain⟨io,a⟩:=c;cases i with
    |zero=>cases io<;>first|exact List.mem_cons_self .. |cases e
    |succ i=>cases io<;>first|exact List.mem_cons_of_mem _ (by grind)|exact ih i (by simpa using hi) (List.getElem_mem _) (List.getElem?_eq_getElem _) e
 let κ:=κX M bs (jG (l.flatMap AX.cells) cs);obtain⟨k1,k2,k3⟩:=CY ok ho (κ:=κ) (n:=wP) (ids:=bs.map (·.2)) hd tn qw;have ht : zL (rA M ao κ) cs (gW (l.flatMap AX.cells) d wP).1 := k3 (fun i id C hi hC=>by
  show κX M bs _ (wP+i)=_;unfold κX;rw[Nat.ble_eq_true_of_le (Nat.le_add_right _ _),show wP+i-wP=i by omega,hi];simp[hC]) fun j id hj=>by
  rw[List.getElem?_map] at hj;obtain⟨b,hb,rfl⟩:=Option.map_eq_some_iff.1 hj;have hi:j<bs.length:=by grind
  show κX M bs _ j=_;unfold κX;have:Nat.ble wP j=false:=by
   cases h:Nat.ble wP j with
   |false=>rfl
   |true=>have:=Nat.le_of_ble_eq_true h;omega
  rw[this,hb];rfl
 obtain⟨a1,a2,a3⟩:=yUr ok ho hv hg vg;let Ml:zK:={κ:=κ,F:=fun b=>b<M.H.size∧¬kR M ao b,G:=M.G,h:=(ko l d).2,H:=M.H};have lo:rz M ao Ml:=⟨rfl,rfl,rfl⟩;have zq:=a2 0 Ml _ lo ht;have hκbox:∀i b,bs[i]? =some b→Ml.κ (0+i)=M.κ b.2:=fun i b hb=>by
  have hi:i<bs.length:=by grind
  show κX M bs _ (0+i)=_;unfold κX;have:Nat.ble wP (0+i)=false:=by
   cases h:Nat.ble wP (0+i) with
   |false=>rfl
   |true=>have:=Nat.le_of_ble_eq_true h;omega
  rw[this,Nat.zero_add,hb];rfl
 have lu:∀id o,Ml.h id=some o→∃jd C,Ml.κ id=some C∧yY Ml o C∧(o.owned=true→jd∈ao∧∃D,M.κ jd=some D∧D.fp=C.fp)∧
   ((Nat.ble wP id=true∧(jG (l.flatMap AX.cells) cs)[id-wP]? =some jd)∨(Nat.ble wP id=false∧∃io,bs[id]? =some (io,jd)∧o.owned=io)):=by
  intro id o h;have h:H7 (zn l (gW (l.flatMap AX.cells) d wP).1 0).2 (gW (l.flatMap AX.cells) d wP).2 id=some o:=h;unfold H7 at h;cases hb:Nat.ble wP id with
  |true=>
   rw[hb] at h;have h:(gW (l.flatMap AX.cells) d wP).2[id-wP]? =some o:=h;have hi:=(List.getElem?_eq_some_iff.1 h).1;have hj:(jG (l.flatMap AX.cells) cs)[id-wP]? =some ((jG (l.flatMap AX.cells) cs)[id-wP]'(by omega)):=by simp
   obtain⟨C,hR⟩:=k2 _ _ _ hj h;refine⟨_,{C with ver:=0},?_,hR.rep Ml rfl rfl,fun _=>⟨?_,C,hR.κ,rfl⟩,.inl ⟨rfl,hj⟩⟩
   ·show κX M bs _ id=_;unfold κX;rw[hb,hj];simp[hR.κ]
   ·rw[←gX];exact by simp
  |false=>
   rw[hb] at h;have hi:=(List.getElem?_eq_some_iff.1 h).1;have T8:id<bs.length:=by rw[zq.length];exact hi
   have hq:=zq.get id T8 hi;rw[List.getElem?_eq_getElem hi] at h;cases h;obtain⟨C,B,q1,q2,q3,q4⟩:=hq;have Hh:bs[id]? =some bs[id]:=List.getElem?_eq_getElem T8;refine⟨bs[id].2,C,?_,q3,fun e=>⟨(vg _ (List.getElem_mem T8)).1 (by rw[←q4];exact e),C,q1,rfl⟩,by grind⟩;have:=hκbox id _ Hh;rw[Nat.zero_add] at this;rw[this];exact q1
 have aL:∀b,qM Ml b→kR M ao b:=fun b ⟨id,o,C,h1,h2,h3,h4⟩=>by
  obtain⟨jd,C',q1,_,q3,_⟩:=lu id o h1;rw[h3] at q1;cases q1;obtain⟨p1,D,p2,p3⟩:=q3 h2;exact⟨jd,p1,D,p2,by rw[p3];exact h4⟩
 refine⟨Ml,lo,rfl,⟨fun id o h=>?_,fun id h=>?_,fun i j oi oj Ci Cj b nK h1 h2 h3 h4 h5 h6 h7 h8=>?_,fun b hb=>⟨fun hf=>hf.2 (aL b hb),(ok.own b ((aL b hb).own ho)).2⟩,fun b hb=>tm ok ho (ok.GF b hb),fun b hb=>hb.1⟩,aL,a3 Ml _ 0 lo ht hκbox,rfl⟩
 ·obtain⟨jd,C,q1,q2,_⟩:=lu id o h;exact⟨C,q1,q2⟩
 ·have h:H7 (zn l (gW (l.flatMap AX.cells) d wP).1 0).2 (gW (l.flatMap AX.cells) d wP).2 id=none:=h;unfold H7 at h;show κX M bs _ id=none;unfold κX;cases hb:Nat.ble wP id with
  |true=>
   rw[hb] at h;have h:(gW (l.flatMap AX.cells) d wP).2[id-wP]? =none:=h;rw[List.getElem?_eq_none_iff,←k1] at h;rw[List.getElem?_eq_none h];rfl
  |false=>
   rw[hb] at h;have h:(zn l (gW (l.flatMap AX.cells) d wP).1 0).2[id]? =none:=h;rw[List.getElem?_eq_none_iff,←zq.length] at h;rw[List.getElem?_eq_none h];rfl
 ·obtain⟨ji,Ci',p1,_,p3,p4⟩:=lu i oi h1;obtain⟨jj,Cj',q1,_,q3,q4⟩:=lu j oj h2;rw[h5] at p1;cases p1;rw[h6] at q1;cases q1;obtain⟨p5,Di,p6,p7⟩:=p3 h3;obtain⟨q5,Dj,q6,q7⟩:=q3 h4;obtain⟨oi',r1,r2⟩:=ho ji p5;obtain⟨oj',r3,r4⟩:=ho jj q5;refine ok.disj ji jj oi' oj' Di Dj b (fun e=>?_) r1 r3 r2 r4 p6 q6 (by rw[p7];exact h7) (by rw[q7];exact h8);subst e;rw[←gX] at dE;obtain⟨n1,n2,n3⟩:=List.nodup_append.1 dE;rcases p4 with⟨p8,p9⟩|⟨p8,io,p9,tp⟩<;>rcases q4 with⟨q8,q9⟩|⟨q8,io',q9,MO⟩
  ·have:=(List.getElem?_inj (by grind) n2).1 (p9.trans q9.symm);have e1:=Nat.le_of_ble_eq_true p8;have e2:=Nat.le_of_ble_eq_true q8;exact nK (by omega)
  ·rw[h4] at MO;subst MO;exact n3 _ (zp q9) _ (List.mem_of_getElem? p9) rfl
  ·rw[h3] at tp;subst tp;exact n3 _ (zp p9) _ (List.mem_of_getElem? q9) rfl
  ·rw[h3] at tp;rw[h4] at MO;subst tp;subst MO;exact nK (T7 n1 p9 q9)
theorem vh {n}:∀{ids h},qJ h (pb ids) n=if n∈ids then some .gone else h n
 |[],_=>by rfl
 |id::ids,h=>by
  show qJ (yD h id .gone) (pb ids) n=_;rw[vh (ids:=ids)];by_cases e:n=id
  ·subst e;simp[yO]
  ·rw[yP _ _ e];simp[e]
def zK.overX (M L:zK)(ao:List Nat):zK:={κ:=M.κ,F:=fun b=>M.F b∨L.G b,G:=L.G,h:=qJ M.h (pb ao),H:=L.H}
theorem zK.overX_ok {M Ml L ao}(ok:Ok M)(ix:Ok L)(lo:rz M ao Ml)(ho:nf M ao)(hand:∀b,qM Ml b→kR M ao b)(g:jc Ml L):
  Ok (M.overX L ao)∧vA M (M.overX L ao)∧(∀b,qM (M.overX L ao) b→qM M b∧¬kR M ao b):=by
 have cR:∀b,b<M.H.size→¬kR M ao b→L.H[b]? =M.H[b]? :=fun b hb hn=>by rw[g.same b (by rw[lo.F];simp_all),lo.H]
 have dR:M.H.size≤L.H.size:=by have:=g.size;rw[lo.H] at this;exact this
 have hG:∀b,L.G b→b<M.H.size→M.G b∨kR M ao b:=fun b hb hs=>by
  rcases g.Gb b hb (by rw[lo.H];exact hs) with h|h
  ·rw[lo.G] at h;simp_all
  simp_all
 have hsF:∀b,M.F b→L.H[b]? =M.H[b]? :=fun b h=>cR b (tm ok ho h).1 (tm ok ho h).2
 have x:yM M (M.overX L ao):=⟨fun id C h=>⟨C,h,C.le_refl⟩,fun b h=>.inl h,fun b h=>g.G b (by rw[lo.G];exact h),fun b h=>hsF b h,fun b h=>hsF b (ok.GF b h),fun b h=>by
  have:=g.bsz b (by rw[lo.H];exact h);rw[lo.H] at this;exact this⟩
 have lu:∀id o,(M.overX L ao).h id=some o→o.owned=true→id∉ao∧M.h id=some o:=fun id o h iw=>by
  have h:qJ M.h (pb ao) id=some o:=h;rw[vh] at h;by_cases hm:id∈ao
  ·rw[if_pos hm] at h;cases h;cases iw
  simp_all
 have T9:∀id o C,id∉ao→M.h id=some o→o.owned=true→M.κ id=some C→∀b∈C.fp,¬kR M ao b:=fun id o C hm h iw hC b hb ⟨jd,hj,D,hD,TG⟩=>by
  obtain⟨q,q1,q2⟩:=ho jd hj;exact ok.disj id jd o q C D b (by grind) h q1 iw q2 hC hD hb TG
 have aL:∀b,qM (M.overX L ao) b→qM M b∧¬kR M ao b:=fun b ⟨id,o,C,h1,h2,h3,h4⟩=>by
  obtain⟨k1,k2⟩:=lu id o h1 h2;exact⟨⟨id,o,C,k2,h2,h3,h4⟩,T9 id o C k1 k2 h2 h3 b h4⟩
 refine⟨⟨fun id o h=>?_,fun id h=>?_,fun i j oi oj Ci Cj b nK h1 h2 h3 h4 h5 h6 h7 h8=>?_,fun b h=>⟨fun hf=>?_,?_⟩,fun b h=>.inr h,fun b h=>?_⟩,⟨x,dR,fun b hb hn=>cR b hb fun hh=>hn (hh.own ho),by grind,fun b h hs=>?_,fun b h hs=>?_⟩,aL⟩
 ·have h:qJ M.h (pb ao) id=some o:=h;rw[vh] at h;by_cases hm:id∈ao
  ·rw[if_pos hm] at h;cases h;obtain⟨q,q1,q2⟩:=ho id hm;obtain⟨C,hC,_⟩:=ok.obj id q q1;exact⟨C,hC,trivial⟩
  ·rw[if_neg hm] at h;obtain⟨C,hC,hO⟩:=ok.obj id o h;exact⟨C,hC,hO.ext x fun iw b hb=>cR b (ok.own b ⟨id,o,C,h,iw,hC,hb⟩).2 (by grind)⟩
 ·have h:qJ M.h (pb ao) id=none:=h;rw[vh] at h;by_cases hm:id∈ao
  ·simp_all
  ·rw[if_neg hm] at h;exact ok.non id h
 ·exact ok.disj i j oi oj Ci Cj b nK (lu i oi h1 h3).2 (by grind) h3 h4 h5 h6 h7 h8
 ·obtain⟨k1,k2⟩:=aL b h;have:=ok.own b k1;rcases hf with hf|hf
  ·simp_all
  ·rcases hG b hf this.2 with h|h
   ·exact this.1 (ok.GF b h)
   simp_all
 ·have h1:=(ok.own b (aL b h).1).2;show b<L.H.size;omega
 ·show b<L.H.size;rcases h with h|h
  ·have:=ok.Flt b h;omega
  ·exact ix.Flt b (ix.GF b h)
 ·rcases hG b h hs with h|h
  ·simp_all
  ·exact .inr (h.own ho)
 ·rcases h with h|h
  ·simp_all
  ·rcases hG b h hs with h|h
   ·exact .inl (ok.GF b h)
   ·exact .inr (h.own ho)
def qB.bare (C:qB):qB:={C with ver:=C.ver+1,rows:=[]}
def zK.revive (M:zK)(id:Nat)(C:qB)(cs:List zX):zK:={M with κ:=κset M.κ id C.bare,h:=yD M.h id (.box true cs)}
theorem zK.revive_ok {M}(ok:Ok M){id C B vals e cs}(hC:M.κ id=some C)(hB:C.blk=some B)(hH:M.H[B]? =some (.cells vals e (0,0)))(hc:zL (zW M) cs vals.toList)
  (h1:¬qM M B) (h2:¬M.F B):Ok (M.revive id C cs)∧yM M (M.revive id C cs)∧(∀b,qM (M.revive id C cs) b→qM M b∨b=B):=by
 have hκ:(M.revive id C cs).κ id=some C.bare:=κset_same _ _ _;have x:yM M (M.revive id C cs):=⟨fun jd D h=>by
  by_cases e':jd=id
  ·subst e';rw[hC] at h;cases h;exact⟨_,hκ,rfl,rfl,rfl,Nat.le_succ _,fun h=>absurd h (by simp[qB.bare])⟩
  ·exact⟨D,by show κset M.κ id _ jd=_;rw[κset_ne _ _ e'];exact h,D.le_refl⟩,fun _ h=>h,fun _ h=>h,fun _ _=>rfl,fun _ _=>rfl,fun _ _=>rfl⟩
 have qe:C.bare.fp=[B]:=by simp[qB.fp,qB.bare,hB]
 have yv:(M.revive id C cs).h id=some (.box true cs):=yO _ _ _;refine⟨Ok.build ok x (fun jd=>jd=id) (fun jd h=>yP _ _ h) (fun jd h=>κset_ne _ _ h) (fun _ _ _ _ _ _ _ _ _=>rfl) (fun jd o' D k1 k2 k3 k4 b bF=>(ok.own b ⟨jd,o',D,k2,k3,k4,bF⟩).1) (Nat.le_refl _)
  (fun jd o' e' h=>?_) (fun jd e' h=>?_) (fun jd o' D b e' k1 k2 k3 k4=>?_) ok.GF ok.Flt,x,fun b bF=>?_⟩
 ·subst e';rw[yv] at h;cases h;exact⟨_,hκ,B,vals,e,hB,rfl,hH,hc.mono fun _ _ h=>h.ext x,by simp⟩
 ·simp_all
 ·subst e';rw[hκ] at k3;cases k3;rw[qe,List.mem_singleton] at k4;subst k4;refine⟨fun j oj Cj hj q1 q2 q3 q4=>h1 ⟨j,oj,Cj,?_,q2,?_,q4⟩,h2,(Array.getElem?_eq_some_iff.1 hH).1⟩
  ·rw[←q1];exact(yP _ _ hj).symm
  ·rw[←q3];exact(κset_ne _ _ hj).symm
 ·obtain⟨jd,o',D,k1,k2,k3,k4⟩:=bF;by_cases e':jd=id
  ·simp_all
  ·exact .inl ⟨jd,o',D,by rw[←k1];exact(yP _ _ e').symm,k2,by rw[←k3];exact(κset_ne _ _ e').symm,k4⟩
structure vCx (M:zK) (id:Nat) (cs:List zX) (B:Nat):Prop where
 at':∃C,M.κ id=some C∧C.blk=some B
 rep:∃vals e,M.H[B]? =some (.cells vals e (0,0))∧zL (zW M) cs vals.toList
 own:¬qM M B
 F:¬M.F B
def nY (R:Nat→List zX→Nat→Prop):List Nat→List (List zX)→List Nat→Prop
 |[],[],[]=>True
 |a::l,b::m,c::n=>R a b c∧nY R l m n
 |_,_,_=>False
theorem nY.mono {R S}:∀{l m n},(∀a b c,c∈n→R a b c→S a b c)→nY R l m n→nY S l m n
 |[],[],[],_,_=>trivial
 |_::_,_::_,_::_,h,k=>⟨h _ _ _ (by simp) k.1,nY.mono (by grind) k.2⟩
theorem yZr:∀{ids css Bs M},Ok M→nY (vCx M) ids css Bs→Bs.Nodup→
  ∃M':zK,M'.H=M.H∧M'.G=M.G∧M'.F=M.F∧M'.h=qJ M.h (CX ids css)∧Ok M'∧yM M M'∧(∀b,qM M' b→qM M b∨b∈Bs)
 |[],[],[],M,ok,_,_=>⟨M,rfl,rfl,rfl,rfl,ok,.refl M,by simp⟩
 |id::ids,cs::css,B::Bs,M,ok,h,hn=>by
  obtain⟨C,hC,hB⟩:=h.1.at';obtain⟨vals,e,hH,hc⟩:=h.1.rep;obtain⟨k1,k2,k3⟩:=zK.revive_ok ok hC hB hH hc h.1.own h.1.F;obtain⟨n1,n2⟩:=List.nodup_cons.1 hn;obtain ⟨M', a1, a2, a3, a4, a5, a6, a7⟩ := yZr (M := M.revive id C cs) k1 (nY.mono (fun a b c hcB hb=>by
   refine⟨?_,?_,fun ho=>?_,hb.F⟩
   ·obtain⟨D,q1,q2⟩:=hb.at';obtain⟨D',q3,le⟩:=k2.κ _ _ q1;exact⟨D',q3,le.blk.trans q2⟩
   ·obtain⟨vals,e,q1,q2⟩:=hb.rep;exact⟨vals,e,q1,q2.mono fun _ _ h=>h.ext k2⟩
   ·rcases k3 _ ho with h|h
    ·exact hb.own h
    simp_all) h.2) n2
  exact⟨M',a1,a2,a3,a4,a5,yM.trans (M:=M) (M':=M.revive id C cs) (Nat.le_refl _) k2 a6,by grind⟩
theorem yGs:∀{ids css h h'},ids.length=css.length→(∀n,n∉ids→h n=h' n)→qJ h (CX ids css)=qJ h' (CX ids css)
 |[],[],h,h',_,e=>funext fun n=>e n (by simp)
 |id::ids,cs::css,h,h',hl,e=>yGs (ids:=ids) (css:=css) (by simp_all) fun n hn=>by
   by_cases k:n=id
   ·subst k;rw[yO,yO]
   ·rw[yP _ _ k,yP _ _ k];simp_all
theorem vDk {h0 s a a' v u M}(ok:Ok M)(hf:wY h0 M.h)(hv:zU M a v)(h:vf h0 s a=some (a',u)):
  ∃L:zK,L.H=M.H∧L.h=qJ M.h u∧Ok L∧vA M L∧zU L a' v∧wY h0 L.h:=by
 unfold vf at h;split at h
 ·rename_i p x;split at h
  ·rename_i y u1 e;cases h;obtain⟨L,h1,h2,h3,h4,h5,h6⟩:=uV (cs:=[x]) (vs:=[v]) ok hf ⟨hv,trivial⟩ e;exact⟨L,h1,h2,h3,h4,h5.1,h6⟩
  ·cases h
 ·split at h
  ·rename_i ys u1 e;cases h;obtain⟨vs,rfl,hx⟩:=hv;obtain⟨L,h1,h2,h3,h4,h5,h6⟩:=uV ok hf hx e;exact⟨L,h1,h2,h3,h4,⟨vs,rfl,h5⟩,h6⟩
  ·cases h
 ·cases h;exact⟨M,rfl,rfl,ok,.refl M,hv,hf⟩
theorem yIg {h0}:∀{l as eL vs u M},Ok M→wY h0 M.h→zL (zU M) as vs→rr h0 l as=some (eL,u)→
  ∃L:zK,L.H=M.H∧L.h=qJ M.h u∧Ok L∧vA M L∧zL (zU L) eL vs∧wY h0 L.h
 |s::l,a::as,eL,v::vs,u,M,ok,hf,hv,h=>by
  unfold rr at h;split at h
  ·rename_i a1 u1 TJ qg e1 e2;cases h;obtain⟨M1,h1,h2,h3,h4,h5,h6⟩:=vDk ok hf hv.1 e1;obtain⟨M2,k1,k2,k3,k4,k5,k6⟩:=yIg h3 h6 (uW.ext h4.ext hv.2) e2;exact⟨M2,k1.trans h1,by rw[k2,h2,kM],k3,h4.trans k4,⟨h5.ext k4.ext,k5⟩,k6⟩
  ·cases h
 |[],as,eL,vs,u,M,ok,hf,hv,h=>by
  cases as<;>cases h<;>exact⟨M,rfl,rfl,ok,.refl M,hv,hf⟩
 |s::l,[],eL,vs,u,M,ok,hf,hv,h=>by cases h;exact⟨M,rfl,rfl,ok,.refl M,hv,hf⟩
def lv (M L:zK)(id jd:Nat):Prop:=∃C D B,M.κ id=some C∧C.blk=some B∧L.κ jd=some D∧D.blk=some B
theorem Ua {M L}:∀{ls is js out} {us:List Value} {cs bs},je M.h ls is=some (cs,bs)→H8 ls js=some out→
  zL (fun id u=>∃C B,M.κ id=some C∧C.blk=some B∧u=.pointer (some ⟨B,0,none⟩)) is us→zL (fun id u=>∃C B,L.κ id=some C∧C.blk=some B∧u=.pointer (some ⟨B,0,none⟩)) js us→zL (lv M L) (vP bs) out
 |[],[],[],out,us,cs,bs,h,k,_,_=>by cases h;cases k;exact trivial
 |(io,l)::ls,i::is,j::js,out,u::us,cs,bs,h,k,p,q=>by
  unfold je at h;split at h
  ·rename_i cells rest zm h1 h2;obtain⟨_,h⟩:=wE h;cases h;unfold H8 at k;split at k
   ·rename_i o ho;cases k;have ih:=Ua h2 ho p.2 q.2;cases io with
    |false=>exact ih
    |true=>
     obtain⟨C,B,k1,k2,k3⟩:=p.1;obtain⟨D,B',k4,k5,k6⟩:=q.1;rw[k3] at k6;cases k6;exact⟨⟨C,D,B,k1,k2,k4,k5⟩,ih⟩
   ·cases k
  ·cases h
theorem yRt {M L}:∀{bs n},(∀q∈bs,q.1=true)→(∀i q,bs[i]? =some q→lv M L q.2 (n+i))→zL (lv M L) (vP bs) (lr n bs.length)
 |[],n,_,_=>trivial
 |(true,id)::bs,n,h,k=>⟨k 0 _ rfl,yRt (by grind) fun i q hq=>by
   have:=k (i+1) q hq;grind⟩
 |(false,id)::bs,n,h,k=>by simp_all
theorem yC3 {h}:∀{ls ids cs bs},je h ls ids=some (cs,bs)→bs.map (·.1)=ls.map (·.1)
 |[],[],_,_,e=>by cases e;rfl
 |(io,l)::ls,id::ids,cs,bs,e=>by
  unfold je at e;split at e
  ·rename_i cells rest zm h1 h2;obtain⟨_,e⟩:=wE e;cases e;simp[yC3 h2]
  ·cases e
theorem vE2 {M L}{s:AX}{a b v cs bs out}(h:s.get M.h a=some (cs,bs)){n}(k:s.io n b=some out)(p:zU M a v)(q:s.looks=true→zU L b v)(hk:s.isChn=true→∀i q,bs[i]? =some q→lv M L q.2 (n+i)):zL (lv M L) (vP bs) out:=by
 unfold AX.get at h;split at h
 ·cases h;cases k;exact trivial
 ·obtain⟨_,h'⟩:=wE h;cases h';cases k;exact trivial
 ·unfold AX.io at k;split at k
  ·rename_i e;cases e
  ·rename_i e;cases e
  ·rename_i io' l' jd e;cases e;exact Ua (us:=[v]) h k ⟨p,trivial⟩ ⟨q rfl,trivial⟩
  all_goals simp_all
 ·obtain⟨hg,h'⟩:=wE h;unfold AX.io at k;split at k
  ·simp_all
  ·simp_all
  ·simp_all
  ·rename_i f' abF g' js e;cases e;obtain⟨cv,rfl,hc⟩:=p;obtain⟨cv',e',ld⟩:=q rfl;cases e';exact Ua h' k hc ld
  all_goals simp_all
 ·rename_i ls id;split at h
  ·cases k;have h1:=Ic h;have h2:ls.length=bs.length:=by rw[h1];simp[CU]
   rw[h2];exact yRt (fun q hq=>by
    have:q.1∈bs.map (·.1):=by grind
    rw[yC3 h] at this;exact(by simpa[CU] using this:_∧_).2) (hk rfl)
  ·cases h
 ·cases h
theorem vAq {M L}:∀{l as vs t n cs bs out m},kl M.h l as=some (cs,bs)→MK l t n m=some out→zL (zU M) as vs→(∀i h s,l[i]? =some s→s.looks=true→zU L (t (n+i)) vs[i])→(l.any AX.isChn=true→∀i q,bs[i]? =some q→lv M L q.2 (m+i))→
  zL (lv M L) (vP bs) out
 |[],[],[],t,n,cs,bs,out,m,h,k,_,_,_=>by cases h;cases k;exact trivial
 |s::l,a::as,v::vs,t,n,cs,bs,out,m,h,k,p,q,hk=>by
  unfold kl at h;split at h
  ·rename_i c1 b1 c2 b2 h1 h2;cases h;unfold MK at k;split at k
   ·rename_i o1 o2 k1 k2;cases k;have e:∀b1 b2:List (Bool×Nat),vP (b1++b2)=vP b1++vP b2:=fun b1 b2=>by
     induction b1 with
     |nil=>rfl
     |cons x b1 ih=>obtain⟨io,y⟩:=x;cases io<;>simp[vP,ih]
    rw[e];have hnb:=vW4 h1;refine(vE2 h1 k1 p.1 (q 0 (by simp) s rfl) (by grind)).append (vAq h2 k2 p.2 (fun i hi s' hs hl=>?_) fun hc i q hq=>?_)
    rotate_left
    ·have:=hk (by simp_all) (b1.length+i) q (by grind);grind
    have:=q (i+1) (by simp_all) s' (by simp_all) hl;grind
   ·cases k
  ·cases h
 |[],_::_,_,_,_,_,_,_,_,h,_,_,_,_=>by cases h
theorem yPo {L}(ix:Ok L):∀{os ids bs},CW L.h os ids=some bs→bs.length=os.flatten.length∧ids.length=os.length∧
  ∃us:List Value,zL (zW L) bs us∧∀{M cs},M.H=L.H→zL (zW M) cs us→nY (fun id cs B=>(∃cells,L.h id=some (.box true cells))∧(∃C,L.κ id=some C∧C.blk=some B∧C.rows=[])∧∃vals e,M.H[B]? =some (.cells vals e (0,0))∧zL (zW M) cs vals.toList) ids (vd os cs) (ids.map fun id=>((L.κ id).bind qB.blk).getD 0)
 |[],[],bs,h=>by cases h;exact⟨rfl,rfl,[],trivial,fun _ _=>trivial⟩
 |o::os,n::ns,bs,h=>by
  unfold CW at h;split at h
  ·rename_i cells rest h1 h2;obtain⟨hl,h⟩:=wE h;cases h;obtain⟨C,hC,B,vals,e,q1,q2,q3,q4,_⟩:=ix.obj n _ h1;obtain⟨k1,k2,us,k3,k4⟩:=yPo ix h2;refine⟨by simp_all,by simp[k2],vals.toList++us,q4.append k3,fun{M cs} hH hc=>⟨⟨by grind,⟨C,hC,?_,q2⟩,vals,e,?_,?_⟩,?_⟩⟩
   ·simp_all
   ·simp_all
   ·have h1:=zL.take o.length hc;have TH:=q4.length;simp_all
   ·have h1:=zL.drop o.length hc;have TH:=q4.length;simp_all
  ·cases h
theorem vR5 {h0 r c d}(h:oY h0 r c=some d):∀id∈vW [r] [c],∀own cells,h0 id≠some (.box own cells):=by
  unfold oY at h;split at h;all_goals (try (intro id ak;simp[vW] at ak;done))
  all_goals first
    |(done)
    | (intro CJ ak own cells hb
       have:=List.mem_singleton.1 ak;simp_all)
    |(cases h)
theorem yUx {L}:∀{l cs d},kk L l cs=some d→∀id∈vW l cs,∀own cells,L id≠some (.box own cells)
 |r::l,c::cs,d,h,id,ak=>by
  unfold kk at h;split at h
  ·rename_i x xs e1 e2;rw[ME] at ak;rcases List.mem_append.1 ak with ak|ak
   ·exact vR5 e1 id ak
   ·exact yUx e2 id ak
  ·cases h
theorem yL9:∀a b,vP (a++b)=vP a++vP b
 |[],_=>rfl
 |(true,_)::a,b
 |(false,_)::a,b=>by simp[vP,yL9 a b]
theorem Ie {h}:∀{ls is cs bs},je h ls is=some (cs,bs)→∀id∈vP bs,∃o,h id=some o∧o.owned=true
 |[],[],_,_,e=>by cases e;nofun
 |(io,l)::ls,i::is,cs,bs,e=>by
  unfold je at e;split at e
  ·rename_i cells rest zm h1 h2;obtain⟨_,e⟩:=wE e;cases e;intro id ak;cases io with
   |false=>exact Ie h2 id ak
   |true=>
    rcases List.mem_cons.1 ak with rfl|ak
    ·unfold CV at h1;split at h1
     ·rename_i c hc;exact⟨_,hc,rfl⟩
     all_goals simp_all
    ·exact Ie h2 id ak
  ·cases e
theorem vZn {h}{s:AX}{a cs bs}(e:s.get h a=some (cs,bs)):∀id∈vP bs,∃o,h id=some o∧o.owned=true:=by
 unfold AX.get at e;split at e
 ·cases e;nofun
 ·obtain⟨_,e⟩:=wE e;cases e;nofun
 ·exact Ie e
 ·obtain⟨_,e⟩:=wE e;exact Ie e
 ·split at e
  ·exact Ie e
  ·cases e
 ·cases e
theorem yOx {h}:∀{l as cs bs},kl h l as=some (cs,bs)→l.length=as.length∧∀id∈vP bs,∃o,h id=some o∧o.owned=true
 |[],[],_,_,e=>by cases e;exact⟨rfl,nofun⟩
 |s::l,a::as,cs,bs,e=>by
  unfold kl at e;split at e
  ·rename_i c1 b1 c2 b2 h1 h2;cases e;obtain⟨k1,k2⟩:=yOx h2;refine⟨by simp[k1],fun id ak=>?_⟩;rw[yL9] at ak;rcases List.mem_append.1 ak with ak|ak
   ·exact vZn h1 id ak
   simp_all
  ·cases e
theorem yI3 {h}:∀{l cs d},o9 h l cs=some d→∀id∈jG l cs,∃o,h id=some o∧o.owned=true
 |[],[],_,_=>nofun
 |x::l,c::cs,d,e=>by
  unfold o9 at e;split at e
  ·rename_i y ys h1 h2;have ih:=yI3 h2;unfold H4 at h1;split at h1
   ·exact ih
   ·intro jd ak;rcases List.mem_cons.1 ak with rfl|ak
    ·split at h1
     ·rename_i s xs hs;exact⟨_,hs,rfl⟩
     ·cases h1
    ·simp_all
   ·intro jd ak;rcases List.mem_cons.1 ak with rfl|ak
    ·split at h1
     ·rename_i s xs hs;exact⟨_,hs,rfl⟩
     ·cases h1
    ·exact ih jd ak
   ·intro jd ak;rcases List.mem_cons.1 ak with rfl|ak
    ·split at h1
     ·rename_i xs hs;exact⟨_,hs,rfl⟩
     ·cases h1
    simp_all
   ·exact ih
   ·cases h1
  ·cases e
theorem yUf {a b}(h:T2 a b=true):∀id∈b,id∉a:=fun id hb ha=>by
 have h:=List.all_eq_true.1 h id ha;have:b.any (Nat.beq id)=true:=List.any_eq_true.2 ⟨id,hb,by simp⟩;simp_all
theorem yMn:∀os cs,(vd os cs).length=os.length
 |[],_=>rfl
 |_::os,cs=>by simp[vd,yMn os]
theorem yJx {M L}{P:zK→Nat→Prop}{R}:∀{ids js css Bs},zL (lv M L) ids js→nY R js css Bs→nY (fun id cs B=>∃jd,lv M L id jd∧R jd cs B) ids css Bs
 |[],[],[],[],_,_=>trivial
 |_::_,_::_,_::_,_::_,h,k=>⟨⟨_,h.1,k.1⟩,yJx (P:=P) h.2 k.2⟩
theorem zK.gone_ok {M}(ok:Ok M){nm}(aS:M.h nm=none) C:
  Ok (M.add nm .gone C)∧yM M (M.add nm .gone C)∧(∀b,qM (M.add nm .gone C) b→qM M b):=by
 have x:yM M (M.add nm .gone C):=⟨fun id D h=>by
  have bp:id≠nm:=fun e=>by rw[e,ok.non nm aS] at h;cases h
  exact⟨D,by show κset M.κ nm _ id=_;rw[κset_ne _ _ bp];exact h,D.le_refl⟩,fun _ h=>h,fun _ h=>h,fun _ _=>rfl,fun _ _=>rfl,fun _ _=>rfl⟩
 have at':∀o,(M.add nm .gone C).h nm=some o→o=.gone:=fun o h=>by
  have e1:(M.add nm .gone C).h nm=some .gone:=yO _ _ _;simp_all
 refine⟨Ok.build ok x (fun id=>id=nm) (fun id h=>yP _ _ h) (fun id h=>κset_ne _ _ h) (fun _ _ _ _ _ _ _ _ _=>rfl) (fun id o' D h1 h2 h3 h4 b bF=>(ok.own b ⟨id,o',D,h2,h3,h4,bF⟩).1) (Nat.le_refl _)
  (fun id o' e h=>?_) (fun id e h=>?_) (fun id o' D b e h1 h2 h3 h4=>?_) ok.GF ok.Flt,x,fun b bF=>?_⟩
 ·subst e;rw[at' o' h];exact⟨_,κset_same _ _ _,trivial⟩
 ·have e1:(M.add id .gone C).h id=some .gone:=yO _ _ _;simp_all
 ·subst e;rw[at' o' h1] at h2;cases h2
 ·obtain⟨id,o',D,h1,h2,h3,h4⟩:=bF;by_cases e:id=nm
  ·subst e;rw[at' o' h1] at h2;cases h2
  ·exact⟨id,o',D,by rw[←h1];exact(yP _ _ e).symm,h2,by rw[←h3];exact(κset_ne _ _ e).symm,h4⟩
theorem yUe:∀{n nm Bs M},Ok M→(∀i,i<n→M.h (nm+i)=none)→Bs.length=n→
  ∃M':zK,M'.H=M.H∧M'.G=M.G∧M'.F=M.F∧M'.h=qJ M.h (pb (lr nm n))∧Ok M'∧yM M M'∧(∀b,qM M' b→qM M b)∧zL (fun id B=>∃C,M'.κ id=some C∧C.blk=some B) (lr nm n) Bs
 |0,nm,[],M,ok,_,_=>⟨M,rfl,rfl,rfl,rfl,ok,.refl M,by simp,trivial⟩
 |n+1,nm,B::Bs,M,ok,hf,hl=>by
  obtain⟨k1,k2,k3⟩:=zK.gone_ok ok (hf 0 (by omega)) ⟨some B,0,0,0,[]⟩;obtain ⟨M', a1, a2, a3, a4, a5, a6, a7, a8⟩ := yUe (n := n) (nm := nm + 1) (Bs := Bs) k1 (fun i hi=>by
   have:=hf (i+1) (by omega);rw[show nm+1+i=nm+(i+1) by omega,←this];exact yP _ _ (by omega)) (by simp_all)
  refine⟨M',a1,a2,a3,a4,a5,yM.trans (M:=M) (M':=M.add nm .gone ⟨some B,0,0,0,[]⟩) (Nat.le_refl _) k2 a6,by grind,?_,a8⟩;obtain⟨C,h1,h2⟩:=a6.κ nm _ (κset_same _ _ _);exact⟨C,h1,h2.blk⟩
theorem Ub {L M ids js}(hs:zL (lv M L) ids js):∀{l cs ds vs},rq l js cs=true→zL (zW L) cs vs→zL (zW M) ds vs→zL (zW M) (zl l ids ds) vs
 |[],cs,ds,vs,_,_,hd=>by exact hd
 |none::l,[],[],[],_,_,_=>trivial
 |none::l,c::cs,d::ds,v::vs,h,hc,hd=>⟨hd.1,Ub hs (l:=l) h hc.2 hd.2⟩
 |some j::l,c::cs,d::ds,v::vs,h,hc,hd=>by
  obtain⟨id,rfl,ak,h'⟩:=yQm h;refine⟨?_,Ub hs h' hc.2 hd.2⟩;have hj:=(List.getElem?_eq_some_iff.1 ak).1;have hi:j<ids.length:=by rw[hs.length];exact hj
  have:=hs.get j hi hj;rw[(List.getElem?_eq_some_iff.1 ak).2] at this;obtain⟨C,D,B,q1,q2,q3,q4⟩:=this;obtain⟨D',B',p1,p2,p3⟩:=hc.1;rw[q3] at p1;cases p1;rw[q4] at p2;cases p2;rw[List.getElem?_eq_getElem hi];exact⟨C,B,q1,q2,p3⟩
 |_,[],_::_,[],_,_,hd=>hd.elim
 |_,_::_,[],[],_,hc,_=>hc.elim
theorem vRy {h ns cs nw}(e:T0 h ns cs=some nw):nw.length=ns:=by
 unfold T0 at e;cases h0:Nat.beq ns 0 with
 |true=>simp_all
 |false=>
  rw[h0] at e;split at e
  ·exact(T6 e).2
  ·cases e
def MP (w:World)(na:Nat)(chn:Bool)(M:zK)(vs:Array Value)(rv:Value)(w':World)(v:zV)(st:St):Prop:=
 ∃M':zK,M'.h=st.h∧M'.H=w'.heap∧Ok M'∧jc M M'∧(chn=true→fa M M')∧zU M' v rv∧w'.os=w.os∧w'.tape=w.tape∧w'.output=w.output∧(∀t,t<na→zU M' (st.t t) (vs.getD t undef))
theorem yYj {n}:∀{l nm d hh},(∀j,j<l.length→n≠nm+j)→qJ hh (nU nm l d).2 n=hh n
 |[],_,_,_,_=>rfl
 |r::l,nm,d,hh,h=>by
  show qJ hh ((qy nm r d.1).2++(nU (nm+1) l d.2).2) n=_;rw[kM,yYj fun j hj=>by have:=h (j+1) (by simp_all);omega,yO4 (by have:=h 0 (by simp);omega)]
theorem vEr {M}(ok:Ok M){io id cells}(h:CV M.h io id=some cells):∃C B,M.κ id=some C∧C.blk=some B:=by
 have h':CN M.h id=some cells:=by
  unfold CV at h;unfold CN;grind
 obtain⟨C,h1,B,_,_,h2,_⟩:=yVu ok h';simp_all
theorem MQ {M}(ok:Ok M):∀{ls is cs bs},je M.h ls is=some (cs,bs)→∀q∈bs,∃C B,M.κ q.2=some C∧C.blk=some B
 |[],[],_,_,e=>by cases e;simp
 |(io,l)::ls,i::is,cs,bs,e=>by
  unfold je at e;split at e
  ·rename_i cells rest zm h1 h2;obtain⟨_,e⟩:=wE e;cases e;intro q hq;rcases List.mem_cons.1 hq with rfl|hq
   ·exact vEr ok h1
   ·exact MQ ok h2 q hq
  ·cases e
theorem yHe {M}(ok:Ok M):∀{l as cs bs},kl M.h l as=some (cs,bs)→∀q∈bs,∃C B,M.κ q.2=some C∧C.blk=some B
 |[],[],_,_,e=>by cases e;simp
 |s::l,a::as,cs,bs,e=>by
  unfold kl at e;split at e
  ·rename_i c1 b1 c2 b2 h1 h2;cases e;intro q hq;rcases List.mem_append.1 hq with hq|hq
   ·unfold AX.get at h1;split at h1
    ·simp_all
    ·grind
    ·exact MQ ok h1 q hq
    ·obtain⟨_,h1⟩:=wE h1;exact MQ ok h1 q hq
    ·split at h1
     ·exact MQ ok h1 q hq
     ·cases h1
    ·cases h1
   ·exact yHe ok h2 q hq
  ·cases e
theorem yUp {L}(ok:Ok L):∀{os ids bs},CW L.h os ids=some bs→∀j∈ids,∃cells C B,L.h j=some (.box true cells)∧L.κ j=some C∧C.blk=some B
 |[],[],_,_=>by simp
 |o::os,n::ns,bs,h=>by
  unfold CW at h;split at h
  ·rename_i cells rest h1 h2;intro j hj;rcases List.mem_cons.1 hj with rfl|hj
   ·obtain⟨C,hC,B,vals,e,q1,_⟩:=ok.obj _ _ h1;simp_all
   ·exact yUp ok h2 j hj
  ·cases h
theorem yD9 {L}(ok:Ok L):∀{js:List Nat},js.Nodup→(∀j∈js,∃cells C B,L.h j=some (.box true cells)∧L.κ j=some C∧C.blk=some B)→(js.map fun id=>((L.κ id).bind qB.blk).getD 0).Nodup
 |[],_,_=>by simp
 |a::js,hn,bg=>by
  obtain⟨n1,n2⟩:=List.nodup_cons.1 hn;refine List.nodup_cons.2 ⟨fun vi=>?_,yD9 ok n2 (by grind)⟩;obtain⟨j,hj,zr⟩:=List.mem_map.1 vi;obtain⟨c1',C,B,q1,q2,q3⟩:=bg a (by simp);obtain⟨c2',D,B',q4,q5,q6⟩:=bg j (by grind);have zr:((L.κ j).bind qB.blk).getD 0=((L.κ a).bind qB.blk).getD 0:=zr;rw[q2,q5] at zr;have zr:(D.blk.getD 0)=(C.blk.getD 0):=zr;rw[q3,q6] at zr;subst zr;exact ok.disj a j _ _ C D B' (by grind) q1 q4 rfl rfl q2 q5 (by simp[qB.fp,q3]) (by simp[qB.fp,q6])
theorem yYi {na as}(kp:tj as na=true){nm n args h u0 io rows d}(he:zo as nm n args h=some (u0,io,rows,d)) M w vs (hh:M.h=h)(hH:M.H=w.heap)(ok:Ok M)(hv:zL (zU M) args vs.toList):
  ∃Ml:zK,Ml.h=(ko as d).2∧Ml.H=w.heap∧Ok Ml∧zL (zU Ml) (ko as d).1 vs.toList∧
   ∀rv w' v0 st,MP w na (as.any AX.isChn) Ml vs rv w' v0 st→∀rs os ns dx,u9 st as rs os ns v0=some dx→(rs.cells++os.flatten).length+ns≤n→
    ∃Mf,sQ M w (Ia u0 io rows rs os ns nm dx).2 Mf w'∧zU Mf (Ia u0 io rows rs os ns nm dx).1 rv:=by
 unfold zo at he;split at he
 ·cases he
 rename_i eI u zh;split at he
 ·cases he
 rename_i cs bs dH;split at he
 ·cases he
 rename_i d' hd;dsimp only at he;obtain⟨hc,he⟩:=mW he;cases he;simp only[Bool.and_eq_true] at hc;obtain⟨⟨⟨⟨⟨⟨pc,dp⟩,dU⟩,gu⟩,mi⟩,C3⟩,C4⟩:=hc;subst hh;obtain⟨M1,a1,a2,a3,a4,a5,a6⟩:=yIg ok (wY.refl _) hv zh;rw[←a2] at hd dH;obtain⟨abG,uO⟩:=yOx dH;have aR:=yI3 hd;have dX:nf M1 (vP bs++jG (as.flatMap AX.cells) cs):=fun id ak=>(List.mem_append.1 ak).elim (uO id) (aR id)
 have Uc:=CD gu;obtain⟨Ml,lo,b2,b3,b4,b5,b6⟩:=vDq a3 a5 dH hd Uc (yUf mi) (yUf C3) (Nat.le_of_ble_eq_true dU) C4 dX;generalize gX:vP bs++jG (as.flatMap AX.cells) cs=ao at*
 refine⟨Ml,b2,by rw[lo.H,a1];exact hH,b3,b5,fun rv w' v0 st ⟨L0,c1,c2,c3,c4,ck,c5,c6,c7,c8,c9⟩ rs os ns dx hK hn=>?_⟩;unfold u9 at hK;split at hK
 ·cases hK
 rename_i Ud ke;split at hK
 ·cases hK
 rename_i ccs mY;split at hK
 ·cases hK
 rename_i nw hnw;split at hK
 ·cases hK
 rename_i bcs tq;obtain⟨Ig,MR⟩:=mW hK;clear hK;split at MR
 case h_2=>cases MR
 rename_i aO u1 zj;obtain⟨dE,hK⟩:=mW MR;clear MR;rw[Bool.and_eq_true] at dE;obtain⟨dE,Ih⟩:=dE;have Ue:=vRy hnw;obtain⟨hlen,us,d1,d2⟩:=yV4 mY c5;rw[←c1] at zj hK tq;obtain⟨js,mc⟩:∃js,js=Ud++nw:=⟨_,rfl⟩;rw[←mc] at tq Ig Ih;obtain⟨k1,k2,MS,k3,k4⟩:=yPo c3 tq;obtain⟨L,e1,e2,e3,e4,e5,e6⟩:=uV c3 (wY.refl _) (d1.append k3) zj;rw[←e2] at hK;have g:jc Ml L:=c4.trans e4.grow;obtain⟨f1,f2,f3⟩:=zK.overX_ok a3 e3 lo dX b4 g;have cR : zL (lv M1 L0) (vP bs) Ud := vAq dH ke a5 (fun i hi s hs tn=>by
  have bG:i<vs.size:=by simpa using hi
  have bj:i<na:=by
   have:=List.all_eq_true.1 kp (s,i) (List.mk_mem_zipIdx_iff_getElem?.2 hs);simp only[tn,Bool.not_true,Bool.false_or] at this;exact RR this
  have:=c9 i bj;rw[Nat.zero_add];have e:vs.getD i undef=vs.toList[i]:=by simp[bG]
  rw[←e];exact this) fun mj i q hq=>by
   obtain⟨C,B,p1,p2⟩:=yHe a3 dH q (List.mem_of_getElem? hq);have hi:i<bs.length:=(List.getElem?_eq_some_iff.1 hq).1;have hκ:Ml.κ i=some C:=by
    rw[b6];unfold κX;have:Nat.ble wP i=false:=by
     cases h:Nat.ble wP i with
     |false=>rfl
     |true=>have h1:=Nat.le_of_ble_eq_true h;have h2:=Nat.le_of_ble_eq_true dU;omega
    rw[this,hq];exact p1
   obtain⟨C',p3,p4⟩:=ck mj i C hκ;rw[Nat.zero_add];exact⟨C,C',B,p1,p2,p3,p4.trans p2⟩
 have pf:∀i,i<n→(M1.overX L ao).h (nm+i)=none:=fun i hi=>by
  have h1:=TE pc i hi;have h2:M1.h (nm+i)=none:=by
   rw[a2];rcases a6 (nm+i) with h|⟨own,t,xs,h,_⟩|⟨ver,xs,h,_⟩
   ·rw[a2] at h;rw[h];exact h1
   ·rw[h1] at h;cases h
   ·rw[h1] at h;cases h
  show qJ M1.h (pb ao) (nm+i)=none;rw[vh,if_neg,h2];intro vi;obtain⟨o,ho,_⟩:=dX _ vi;rw[h2] at ho;cases ho
 have oZ:∀i,i<(rs.cells++os.flatten).length→(M1.overX L ao).h (nm+i)=none:=fun i hi=>pf i (by omega)
 have tt:∀b,qM L b→b<M1.H.size→kR M1 ao b:=fun b hb bj=>b4 b (g.own b hb (by rw[lo.H];exact bj))
 have vj:∀b,qM L b→¬(M1.overX L ao).F b:=fun b hb h=>by
  rcases h with h|h
  ·exact(tm a3 dX h).2 (tt b hb (a3.Flt b h))
  ·exact(e3.own b hb).1 (e3.GF b h)
 have vk:∀b,qM L b→¬qM (M1.overX L ao) b:=fun b hb h=>by
  obtain⟨q1,q2⟩:=f3 b h;exact q2 (tt b hb (a3.own b q1).2)
 obtain ⟨Mc, g1, g2, g3, g4, g5, g6, g7, g8⟩ := TF e3 f1 ⟨rfl, rfl⟩ oZ hK (CD dE) (uX hK) (fun id ak C hC b hb=>by
  obtain⟨o,ho,iw⟩:=uX hK id ak;have aL:qM L b:=⟨id,o,C,ho,iw,hC,hb⟩;exact⟨vk b aL,vj b aL,(e3.own b aL).2⟩)
 obtain ⟨Mg, n1, n2, n3, n4, n5, n6, n7, n8⟩ := yUe (n := ns) (nm := nm + (rs.cells ++ os.flatten).length) (Bs := nw.map fun id => ((L0.κ id).bind qB.blk).getD 0) g5 (fun i hi=>by
  rw[g4,yYj (fun j hj=>by omega),Nat.add_assoc];exact pf _ (by omega)) (by simp[Ue])
 have pg:∀j∈js,∃cells C B,L0.h j=some (.box true cells)∧L0.κ j=some C∧C.blk=some B:=yUp c3 tq;have MU:yM M1 Mg:=(f2.ext.trans f2.size g6).trans (by rw[g1];exact f2.size) n6;have CI:zL (lv Mg L0) (vP bs) Ud:=cR.mono fun id jd hq=>by
  obtain⟨C,D,B,q1,q2,q3,q4⟩:=hq;obtain⟨C',p3,le⟩:=MU.κ id C q1;exact⟨C',D,B,p3,le.blk.trans q2,q3,q4⟩
 have C5:zL (lv Mg L0) (lr (nm+(rs.cells++os.flatten).length) ns) nw:=by
  have Uf:=n8.length;rw[List.length_map] at Uf;refine zL.of_get Uf fun i h1 h2=>?_
  obtain⟨C,q1,q2⟩:=n8.get i h1 (by simpa using h2);obtain⟨cells,D,B,p1,p2,p3⟩:=pg nw[i] (by rw[mc];exact List.mem_append_right _ (List.getElem_mem _));refine⟨C,D,B,q1,?_,p2,p3⟩;rw[q2,List.getElem_map,p2];show some (D.blk.getD 0)=_;rw[p3];rfl
 have lz:zL (lv Mg L0) (vP bs++lr (nm+(rs.cells++os.flatten).length) ns) js:=by
  rw[mc];exact CI.append C5
 have tu:zL (lv Mg L) (vP bs++lr (nm+(rs.cells++os.flatten).length) ns) js:=lz.mono fun id jd hq=>by
  obtain⟨C,D,B,q1,q2,q3,q4⟩:=hq;obtain⟨D',p3,le⟩:=e4.ext.κ jd D q3;exact⟨C,D',B,q1,q2,p3,le.blk.trans q4⟩
 have zt:=Ub tu Ih e5 ((g8 _ e5).mono fun _ _ h=>h.ext n6);obtain⟨G,hG⟩:∃G,G=zl ((rs.cells++os.flatten).map RC.lnk) (vP bs++lr (nm+(rs.cells++os.flatten).length) ns) (nU nm (rs.cells++os.flatten) dx).1:=⟨_,rfl⟩;rw[←hG] at zt;have Cv:us.length=rs.cells.length:=by rw[←d1.length,hlen]
 have hgr:zL (zW Mg) (G.take rs.cells.length) us:=by
  have:=zL.take rs.cells.length zt
  rwa [show(us++MS).take rs.cells.length=us from by rw[←Cv,List.take_left]] at this
 have hgb:zL (zW Mg) (G.drop rs.cells.length) MS:=by
  have:=zL.drop rs.cells.length zt
  rwa [show(us++MS).drop rs.cells.length=MS from by rw[←Cv,List.drop_left]] at this
 have hHc:Mg.H=L0.H:=by rw[n1,g1];exact e1
 have Ii:=yJx (P:=fun _ _=>True) lz (k4 hHc hgb);have vl:∀jd B,(∃cells,L0.h jd=some (.box true cells))→(∃C,L0.κ jd=some C∧C.blk=some B)→∃cells C,L.h jd=some (.box true cells)∧L.κ jd=some C∧B∈C.fp:=fun jd B ⟨cells,q1⟩ ⟨C,q2,q3⟩=>by
  obtain⟨C',q4,le⟩:=e4.ext.κ jd C q2;refine⟨cells,C',?_,q4,?_⟩
  ·rcases e6 jd with h|⟨own,t,xs,h,_⟩|⟨ver,xs,h,_⟩
   ·rw[h,q1]
   ·rw[q1] at h;cases h
   ·rw[q1] at h;cases h
  ·have:C'.blk=some B:=le.blk.trans q3;simp[qB.fp,this]
 have Ij:∀b,b∈(js.map fun id=>((L0.κ id).bind qB.blk).getD 0)→qM L b:=fun b hb=>by
  obtain⟨j,hj,rfl⟩:=List.mem_map.1 hb;obtain⟨cells,C,B,q1,q2,q3⟩:=pg j hj;obtain⟨bH,D,p4,p5,p6⟩:=vl j B ⟨cells,q1⟩ ⟨C,q2,q3⟩;have e:((L0.κ j).bind qB.blk).getD 0=B:=by rw[q2];show C.blk.getD 0=B;rw[q3];rfl
  rw[e];exact⟨j,_,D,p4,rfl,p5,p6⟩
 have zu : nY (vCx Mg) (vP bs ++ lr (nm + (rs.cells ++ os.flatten).length) ns) (vd os (G.drop rs.cells.length)) (js.map fun id => ((L0.κ id).bind qB.blk).getD 0) := nY.mono (fun id css B _ ⟨jd,q1,q2,⟨D0,q3,q3b,_⟩,q4⟩=>by
  obtain⟨C,D1,B',p1,p2,p3,p3b⟩:=q1;rw[q3] at p3;cases p3;rw[q3b] at p3b;cases p3b;obtain⟨cells,D,p4,p5,p6⟩:=vl jd B q2 ⟨_,q3,q3b⟩;have aL:qM L B:=⟨jd,_,D,p4,rfl,p5,p6⟩;refine⟨⟨C,p1,p2⟩,q4,fun ho=>?_,?_⟩
  ·rcases g7 B (n7 B ho) with h|⟨kd,Ik,D',p7,p8⟩
   ·exact vk B aL h
   ·obtain⟨o,p9,tp⟩:=uX hK kd Ik;refine e3.disj jd kd _ o D D' B (fun e=>?_) p4 p9 rfl tp p5 p7 p6 p8;exact yUx hK kd Ik true cells (by rw[←e];exact p4)
  ·rw[n3,g3];exact vj B aL) Ii
 have hBs:(js.map fun id=>((L0.κ id).bind qB.blk).getD 0).Nodup:=yD9 c3 (CD Ig) pg;obtain⟨Mf,r1,r2,r3,r4,r5,r6,r7⟩:=yZr n5 zu hBs;have TL:vA M1 Mf:=by
  have aL:∀b,qM Mf b→b<M1.H.size→qM M1 b:=fun b hb bj=>by
   rcases r7 b hb with hb|hb
   ·rcases g7 b (n7 b hb) with h|⟨id,ak,C,hC,CP⟩
    ·exact(f3 b h).1
    ·obtain⟨o,ho,iw⟩:=uX hK id ak;exact(tt b ⟨id,o,C,ho,iw,hC,CP⟩ bj).own dX
   ·exact(tt b (Ij b hb) bj).own dX
  have MF:Mf.H=(M1.overX L ao).H:=r1.trans (n1.trans g1);refine⟨MU.trans ?_ r6,?_,fun b hb hn=>?_,aL,fun b hb bj=>?_,fun b hb bj=>?_⟩
  ·rw[n1,g1];exact f2.size
  ·rw[MF];exact f2.size
  ·rw[MF];exact f2.frame b hb hn
  ·rw[r2,n2,g2] at hb;exact f2.Gb b hb bj
  ·rw[r3,n3,g3] at hb;exact f2.Fb b hb bj
 have ph:(vP bs++lr (nm+(rs.cells++os.flatten).length) ns).length=(vd os (G.drop rs.cells.length)).length:=by
  rw[yMn,lz.length,k2]
 refine⟨Mf,⟨c6,c7,c8,?_,?_,r5,a4.trans TL⟩,?_⟩
 ·rw[r1,n1,g1];show L.H=_;rw[e1,c2]
 ·rw[r4,n4,g4];show _=qJ M.h (u0++(pb (jG (as.flatMap AX.cells) cs)++((nU nm (rs.cells++os.flatten) dx).2++CX (vP bs++lr (nm+(rs.cells++os.flatten).length) ns) (vd os ((zl ((rs.cells++os.flatten).map RC.lnk) (vP bs++lr (nm+(rs.cells++os.flatten).length) ns) (nU nm (rs.cells++os.flatten) dx).1).drop rs.cells.length)))));rw[←hG,kM,kM,kM,←a2];refine yGs ph fun m hm=>?_
  rw[List.mem_append,not_or] at hm;rw[vh,if_neg hm.2];refine yz ?_;show qJ M1.h (pb ao) m=_;rw[vh,vh,←gX];simp[hm.1]
 ·show zU Mf (rs.mk ((zl ((rs.cells++os.flatten).map RC.lnk) (vP bs++lr (nm+(rs.cells++os.flatten).length) ns) (nU nm (rs.cells++os.flatten) dx).1).take rs.cells.length)) rv;rw[←hG];exact d2 Mf _ (hgr.mono fun _ _ h=>h.ext r6)
theorem yMv {P na f}(bZ:∀vs w,(callFunc f vs).run P w=.ok (.enter f vs) w)
  {as rs os ns X} {S:XD as→Option X} {pack unpack} (fe:∀d,pack (unpack d)=d) (kp:tj as na=true)
  (lA:∀d x,S d=some x→∀M w vs,M.h=(ko as d).2→M.H=w.heap→Ok M→zL (zU M) (ko as d).1 vs.toList→Calls P f vs w fun
   |.returned rv,w'=>∃(v:zV) (st:St),H9 as rs os ns unpack v st=some x∧MP w na (as.any AX.isChn) M vs rv w' v st
   |_,_=>False)
  {nm args h v u} (hy:yG (ru as rs os ns S pack nm args h) v u):sR P f args h v u:=by
 intro M w vs hh hH ok hv;refine .inl ⟨bZ vs w,?_⟩;unfold ru at hy;split at hy
 ·exact hy.elim
 rename_i u0 io rows d he;obtain⟨x,hx,rfl,rfl⟩:=hy;obtain⟨Ml,b1,b2,b3,b4,b5⟩:=yYi kp he M w vs hh hH ok hv;refine Calls.mono (lA d x hx Ml w vs b1 b2 b3 b4) fun e w' hl=>?_
 cases e with
 |panicked _=>omega
 |outgrown=>omega
 |returned rv=>
  obtain⟨v0,st,hK,hl⟩:=hl;have hK:u9 st as rs os ns v0=some (pack x):=by
   unfold H9 at hK;grind
  grind
theorem vHa {P na f}(bZ:∀vs w,(callFunc f vs).run P w=.ok (.enter f vs) w)
  {as rs dq os dr ns fi X Y} {S:XD as→Option (X⊕Y)} {pk up iy kQ}
  (fe:∀d,pk (up d)=d) (ng:∀d,iy (kQ d)=d) (kp:tj as na=true)
  (lA:∀d x,S d=some x→∀M w vs,M.h=(ko as d).2→M.H=w.heap→Ok M→zL (zU M) (ko as d).1 vs.toList→Calls P f vs w fun
   |.returned rv,w'=>∃(v:zV) (st:St),ML as rs os ns dq dr fi up kQ v st=some x∧MP w na (as.any AX.isChn) M vs rv w' v st
   |_,_=>False)
  {nm args h v u} (hy:yG (tl as rs os ns dq dr fi S pk iy nm args h) v u):sR P f args h v u:=by
 intro M w vs hh hH ok hv;refine .inl ⟨bZ vs w,?_⟩;unfold tl at hy;split at hy
 ·exact hy.elim
 rename_i u0 io rows d he;obtain⟨Ml,b1,b2,b3,b4,b5⟩:=yYi kp he M w vs hh hH ok hv;rcases hy with⟨x,hx,rfl,rfl⟩|⟨x,hx,rfl,rfl⟩<;>
 ·refine Calls.mono (lA d _ hx Ml w vs b1 b2 b3 b4) fun e w' hl=>?_
  cases e with
  |panicked _=>omega
  |outgrown=>omega
  |returned rv=>
   obtain⟨v0,st,hK,hl⟩:=hl;unfold ML at hK;grind
theorem yLm {E}(hE:fZ E)(hS:jb E.sums)(hm:E.P.follows .mixedOrders=true){A k pre na f fn}(hf:E.P.funcs[f]? =some fn)(hL:∀c,fn.body=some c→wG E.P A pre na fn.ntmps c){chn}(mj:(!chn||A.loops.isEmpty)=true)
  {R K} {x:R} {args h} (aV:j4 E A k pre na fn args h K=some x) {M w vs} (h1:M.h=h) (h2:M.H=w.heap) (h3:Ok M) (h4:zL (zU M) args vs.toList):
  Calls E.P f vs w fun
   |.returned rv,w'=>∃(v:zV) (st:St),K v st=some x∧MP w na chn M vs rv w' v st
   |_,_=>False:=by
 refine Calls.mono (Tq hE hS hm hf hL aV h1 h2 h3 h4) fun e w' hl=>?_
 cases e with
 |panicked _=>omega
 |outgrown=>omega
 |returned rv=>
  obtain⟨M',v,st,a1,a2,a3,a4,a5,a6,a7,a8,a9,Il,a11⟩:=hl;refine⟨v,st,a1,M',a2,a3,a4,a5,fun hc=>a6 ?_,a7,a8,a9,Il,a11⟩;simp_all
theorem vG6 {E}(hE:fZ E)(hS:jb E.sums)(hm:E.P.follows .mixedOrders=true){A k pre na f fn}(hf:E.P.funcs[f]? =some fn)(hL:∀c,fn.body=some c→wG E.P A pre na fn.ntmps c)(bZ:∀vs w,(callFunc f vs).run E.P w=.ok (.enter f vs) w)
  {as rs os ns X} {S:XD as→Option X} {pack unpack} (fe:∀d,pack (unpack d)=d) (kp:tj as na=true) (mj:(!as.any AX.isChn||A.loops.isEmpty)=true)
  (aV:∀d,j4 E A k pre na fn (ko as d).1 (ko as d).2 (H9 as rs os ns unpack)=S d)
  {nm args h v u} (hy:yG (ru as rs os ns S pack nm args h) v u):sR E.P f args h v u:=
 yMv bZ fe kp (fun d x hx M w vs h1 h2 h3 h4=>yLm hE hS hm hf hL mj ((aV d).trans hx) h1 h2 h3 h4) hy
theorem vNh {E}(hE:fZ E)(hS:jb E.sums)(hm:E.P.follows .mixedOrders=true){A k pre na f fn}(hf:E.P.funcs[f]? =some fn)(hL:∀c,fn.body=some c→wG E.P A pre na fn.ntmps c)(bZ:∀vs w,(callFunc f vs).run E.P w=.ok (.enter f vs) w)
  {as rs dq os dr ns fi X Y} {S:XD as→Option (X⊕Y)} {pk up iy kQ}
  (fe:∀d,pk (up d)=d) (ng:∀d,iy (kQ d)=d) (kp:tj as na=true) (mj:(!as.any AX.isChn||A.loops.isEmpty)=true)
  (aV:∀d,j4 E A k pre na fn (ko as d).1 (ko as d).2 (ML as rs os ns dq dr fi up kQ)=S d)
  {nm args h v u} (hy:yG (tl as rs os ns dq dr fi S pk iy nm args h) v u):sR E.P f args h v u:=
 vHa bZ fe ng kp (fun d x hx M w vs h1 h2 h3 h4=>yLm hE hS hm hf hL mj ((aV d).trans hx) h1 h2 h3 h4) hy
section
variable {h h':Hp}
theorem vYg {x c}(hh:∀id∈vM c,h id=h' id):H4 h x c=H4 h' x c:=by
 unfold H4;split
 ·exact yZe hh
 ·rename_i id;rw[hh id (by simp[vM])]
 ·rename_i id;rw[hh id (by simp[vM])]
 ·rename_i id;rw[hh id (by simp[vM])]
 ·rfl
 ·rfl
theorem vCj:∀{l cs},(∀id∈cs.flatMap vM,h id=h' id)→o9 h l cs=o9 h' l cs
 |[],[],_
 |[],_::_,_
 |_::_,[],_=>rfl
 |p::l,c::cs,hh=>by
  simp  at hh;unfold o9;rw[vYg fun id hi=>hh id (.inl hi),vCj (by grind)]
theorem vG5 {ls}:je h ls []=je h' ls []:=by
 cases ls<;>rfl
theorem vL8 {s:AX}{a}(hb:wN a=false):s.get h a=s.get h' a:=by
 unfold AX.get;cases s with
 |c p=>grind
 |agg l=>grind
 |ptr io l=>
  cases a with
  |c x=>cases x<;>first|rfl|(exact absurd hb (by simp[wN]))
  |_=>rfl
 |fn f bA=>
  cases a with
  |c x=>cases x with
   |fn g ids=>
    cases ids with
    |nil=>dsimp only;rw[vG5]
    |cons _ _=>exact absurd hb (by nofun)
   |_=>rfl
  |_=>rfl
 |chn ls=>
  cases a with
  |c x=>cases x<;>first|rfl|(exact absurd hb (by nofun))
  |_=>rfl
theorem vYd {s:AX}{a cs bs}(hb:wN a=false)(e:s.get h a=some (cs,bs)):∀id∈cs.flatMap vM,id∈yN a:=by
 unfold AX.get at e;split at e
 ·cases e;intro id ak;simp  at ak;exact ak
 ·obtain⟨_,e⟩:=wE e;cases e;exact fun id ak=>ak
 ·exact absurd hb (by nofun)
 ·rename_i f bA g ids;obtain⟨_,e⟩:=wE e;cases ids with
  |nil=>cases bA with
   |nil=>cases e;simp
   |cons _ _=>cases e
  |cons _ _=>exact absurd hb (by nofun)
 ·exact absurd hb (by nofun)
 ·cases e
theorem yJ6:∀{l as},as.any wN=false→kl h l as=kl h' l as
 |[],[],_
 |[],_::_,_
 |_::_,[],_=>rfl
 |s::l,a::as,hb=>by
  simp only[List.any_cons,Bool.or_eq_false_iff] at hb;unfold kl;rw[vL8 (h:=h) (h':=h') hb.1,yJ6 hb.2]
theorem yZs:∀{l as cs bs},as.any wN=false→kl h l as=some (cs,bs)→∀id∈cs.flatMap vM,id∈as.flatMap yN
 |[],[],cs,bs,_,e=>by cases e;simp
 |s::l,a::as,cs,bs,hb,e=>by
  simp only[List.any_cons,Bool.or_eq_false_iff] at hb;unfold kl at e;split at e
  ·rename_i c1 b1 c2 b2 e1 e2;cases e;intro id ak;rw[List.flatMap_append,List.mem_append] at ak;rw[List.flatMap_cons,List.mem_append];rcases ak with ak|ak
   ·exact .inl (vYd hb.1 e1 id ak)
   ·exact .inr (yZs hb.2 e2 id ak)
  ·cases e
theorem Ug {s a}(hh:∀id∈yN a,h id=h' id):vf h s a=vf h' s a:=by
 unfold vf;split
 ·rename_i p x;have:=CR (h:=h) (h':=h') (l:=[p.isKept]) (cs:=[x]) (by rw[CQ];exact hh);simp_all
 ·rename_i l xs;have:=CR (h:=h) (h':=h') (l:=l.map PC.isKept) (cs:=xs) hh;simp_all
 ·rfl
theorem vRw {s a a' u}(e:vf h s a=some (a',u)):(∀id∈yN a',id∈yN a)∧(wN a=false→wN a'=false):=by
 unfold vf at e;split at e
 ·rename_i p x;split at e
  ·rename_i y u1 e1;cases e;refine⟨fun id ak=>by have:=CT e1 id (by rw[CQ];omega);rwa [CQ] at this,fun hb=>?_⟩;cases hk:p.isKept with
   |false=>rw[hk] at e1;cases e1;exact hb
   |true=>
    rw[hk] at e1;unfold ga at e1;split at e1
    ·rename_i c1 u2 mb qg e2 e3;cases e1;cases hy:wN (.c y) with
     |false=>rfl
     |true=>rw[(TO e2).2 hy] at hb;cases hb
    ·cases e1
  ·cases e
 ·split at e
  ·rename_i ys u1 e1;cases e;exact⟨CT e1,fun _=>rfl⟩
  ·cases e
 simp_all
theorem yTi:∀{l as},(∀id∈as.flatMap yN,h id=h' id)→rr h l as=rr h' l as
 |[],as,_=>by rfl
 |_::_,[],_=>rfl
 |s::l,a::as,hh=>by
  simp  at hh;unfold rr;rw[Ug fun id hi=>hh id (.inl hi),yTi (by grind)]
theorem vCo:∀{l as eL u},rr h l as=some (eL,u)→(∀id∈eL.flatMap yN,id∈as.flatMap yN)∧(as.any wN=false→eL.any wN=false)
 |[],as,eL,u,e=>by cases as<;>cases e<;>exact by simp
 |s::l,[],eL,u,e=>by cases e;simp
 |s::l,a::as,eL,u,e=>by
  unfold rr at e;split at e
  ·rename_i a1 u1 TJ qg e1 e2;obtain⟨k1,k2⟩:=vRw e1;obtain⟨k3,k4⟩:=vCo e2;grind
  ·cases e
theorem vC5 {as nm n args}(h1:args.any wN=false→∀id,(id∈args.flatMap yN∨mN nm id=true)→h id=h' id)(h2:args.any wN=true→h=h'):zo as nm n args h=zo as nm n args h':=by
 cases hb:args.any wN with
 |true=>rw[h2 hb]
 |false=>
  have hh:=h1 hb;unfold zo;rw[yTi (h:=h) (h':=h') (by grind)];cases e:rr h' as args with
  |none=>rfl
  |some p=>
   obtain⟨eI,u⟩:=p;obtain⟨k1,k2⟩:=vCo e;dsimp only;rw[yJ6 (h:=qJ h u) (h':=qJ h' u) (k2 hb)];cases e2:kl (qJ h' u) as eI with
   |none=>rfl
   |some q=>
    obtain⟨cs,bs⟩:=q;dsimp only;rw[vCj (h:=qJ h u) (h':=qJ h' u) fun id ak=>yz (hh id (.inl (k1 id (yZs (k2 hb) e2 id ak))))];cases o9 (qJ h' u) (as.flatMap AX.cells) cs with
    |none=>rfl
    |some d=>
     cases hle:Nat.ble n 100 with
     |false=>simp
     |true=>
      have hle:=Nat.le_of_ble_eq_true hle;rw [TP (h := h) (h' := h') fun i hi => hh _ (.inr (by
       simp only[mN,Bool.and_eq_true];exact⟨by simp,by simp[Nat.blt_eq];omega⟩))]
end
theorem yXb {as rs os ns X}{S:Nat→XD as→Option X}{pack}:HY fun k nm args h=>ru as rs os ns (S k) pack nm args h:=by
 intro k nm args h h' h1 h2;show ru as rs os ns (S k) pack nm args h=ru as rs os ns (S k) pack nm args h';unfold ru;rw[vC5 h1 h2]
theorem vJa {as rs dq os dr ns fi X Y}{S:Nat→XD as→Option (X⊕Y)}{pk iy}:HY fun k nm args h=>tl as rs os ns dq dr fi (S k) pk iy nm args h:=by
 intro k nm args h h' h1 h2;show tl as rs os ns dq dr fi (S k) pk iy nm args h=tl as rs os ns dq dr fi (S k) pk iy nm args h';unfold tl;rw[vC5 h1 h2]
structure zD (P:Program) (r:Nat×mZ):Prop where
 ok:yTs P r
 loc:HY r.2
def C6 (P:Program):List (Nat×mZ)→Prop
 |[]=>True
 |r::l=>zD P r∧C6 P l
theorem C6.all {P}:∀{l},C6 P l→∀r∈l,zD P r
 |a::l,h,r,hr=>by
  rcases List.mem_cons.1 hr with rfl|hr
  ·exact h.1
  ·exact C6.all h.2 r hr
structure jJ (E:Env):Prop where
 ok:fZ E
 loc:jb E.sums
 ord:E.P.follows .mixedOrders=true
theorem MV {P l eqT}(he:Hr P eqT)(hm:P.follows .mixedOrders=true)(h:C6 P l):jJ ⟨P,eqT,fg l⟩:=
 ⟨⟨he,yOb fun r hr=>(h.all r hr).ok⟩,yS5 fun r hr=>(h.all r hr).loc,hm⟩
theorem nh {P l}(hm:P.follows .mixedOrders=true)(h:C6 P l):jJ ⟨P,fun _=>false,fg l⟩:=MV vLs hm h
theorem qD {P A pre na nt c L}(h:zS P pre na nt (zQ c 0) L)(hn:(nc c).length=1:=by kernel_rfl) (hl:uD A (zQ c 0)=some L:=by kernel_rfl):wG P A pre na nt c:=
 loopsOK_of hn (by grind)
theorem zF {P A pre na nt c}(hn:(nc c).length=0:=by kernel_rfl):wG P A pre na nt c:=vTa hn
def yPg (E:Env)(A:zY)(na nt:Nat)(b:Code) ins outs {X Y:Type}(lV:uy outs→X)(c:Y→su ins→Option X)(bf:Nat→Y→Y):Prop:=
 ∀k rec d,c (bf k rec) d=LS (1000+gT) ins d fun st=>j3 E A k 1000 na nt b st (yQy 1000 ins outs lV (c rec))
abbrev vH1 (X:Type):=Nat→X→(R:Type)→(Ex→St→Option R)→Option R
theorem vSc {E A na nt b ins outs X Y lV c bf}(hE:jJ E)(hs:yPg E A na nt b ins outs lV c bf)(f:Nat→Nat→Y)(elim:vH1 X)
  (hX:∀o R K,elim (1000+gT) (lV o) R K=Cf (1000+gT) outs o K) (hL:wG E.P A 1000 na nt b) (h0:∀k d,c (f k 0) d=none:=by intros;rfl) (h1:∀k n,f k (n+1)=bf k (f k n):=by intros;rfl):
  zS E.P 1000 na nt b ⟨ins,outs,X,fun k d=>c (f k k) d,elim⟩:=
 vUf hE.ok hE.loc hE.ord hL lV elim hX (fun k n d=>c (f k n) d) h0 (fun k n d=>by rw[h1];exact hs k (f k n) d)
def Uh (E:Env)(A:zY)(na:Nat)(fn:Func) as (rs:RS){X}(up:RL rs.cells→X)(S:Nat→AD as→Option X):Prop:=
 ∀k d,j4 E A k 1000 na fn (oX as d).1 (oX as d).2 (mg rs up)=S k d
def yIi (E:Env)(A:zY)(na:Nat)(fn:Func) as (rs:RS)(os:List (List RC))(ns:Nat){X}(up:RL (rs.cells++os.flatten)→X)(S:Nat→XD as→Option X):Prop:=
 ∀k d,j4 E A k 1000 na fn (ko as d).1 (ko as d).2 (H9 as rs os ns up)=S k d
def yNx (E:Env)(A:zY)(na:Nat)(fn:Func) as (rs:RS)(os:List (List RC))(ns:Nat)(dq:RS)(dr:List (List RC))(fi:Nat){X Y}(up:RL (rs.cells++os.flatten)→X)(kQ:RL (dq.cells++dr.flatten)→Y)(S:Nat→XD as→Option (X⊕Y)):Prop:=
 ∀k d,j4 E A k 1000 na fn (ko as d).1 (ko as d).2 (ML as rs os ns dq dr fi up kQ)=S k d
theorem vR6 {E A na f fn as rs X S pack}{unpack:RL rs.cells→X}(hE:jJ E)(aV:Uh E A na fn as rs unpack S)(hL:wG E.P A 1000 na fn.ntmps (zR fn))
  (hf:E.P.funcs[f]? =some fn:=by kernel_rfl) (hb:fn.body.isNone=false:=by kernel_rfl) (hn:(fn.name== "runtime.NumGoroutine")=false:=by kernel_rfl) (fe:∀d,pack (unpack d)=d:=by intro d;rfl):
  zD E.P (f,fun k nm args h=>nV as rs (S k) pack nm args h):=
 ⟨fun k _ _ _ _ _ hy=>vIm hE.ok hE.loc hE.ord hf (body_loops hL) (HZ hf hb hn) fe (aV k) hy,vCm⟩
theorem Ui {E A na f fn as rs os ns X}{S:Nat→XD as→Option X}{pack unpack}(hE:jJ E)(aV:yIi E A na fn as rs os ns unpack S)
  (hL:wG E.P A 1000 na fn.ntmps (zR fn)) (hf:E.P.funcs[f]? =some fn:=by kernel_rfl) (hb:fn.body.isNone=false:=by kernel_rfl) (hn:(fn.name== "runtime.NumGoroutine")=false:=by kernel_rfl) (kp:tj as na=true:=by kernel_rfl) (mj:(!as.any AX.isChn||A.loops.isEmpty)=true:=by kernel_rfl) (fe:∀d,pack (unpack d)=d:=by intro d;rfl):
  zD E.P (f,fun k nm args h=>ru as rs os ns (S k) pack nm args h):=
 ⟨fun k _ _ _ _ _ hy=>vG6 hE.ok hE.loc hE.ord hf (body_loops hL) (HZ hf hb hn) fe kp mj (aV k) hy,yXb⟩
theorem vJe {E A na f fn as rs dq os dr ns fi X Y}{S:Nat→XD as→Option (X⊕Y)}{pk up iy kQ}(hE:jJ E)
  (aV:yNx E A na fn as rs os ns dq dr fi up kQ S)
  (hL:wG E.P A 1000 na fn.ntmps (zR fn)) (hf:E.P.funcs[f]? =some fn:=by kernel_rfl) (hb:fn.body.isNone=false:=by kernel_rfl) (hn:(fn.name== "runtime.NumGoroutine")=false:=by kernel_rfl) (kp:tj as na=true:=by kernel_rfl) (mj:(!as.any AX.isChn||A.loops.isEmpty)=true:=by kernel_rfl) (fe:∀d,pk (up d)=d:=by intro d;rfl) (ng:∀d,iy (kQ d)=d:=by intro d;rfl):
  zD E.P (f,fun k nm args h=>tl as rs os ns dq dr fi (S k) pk iy nm args h):=
 ⟨fun k _ _ _ _ _ hy=>vNh hE.ok hE.loc hE.ord hf (body_loops hL) (HZ hf hb hn) fe ng kp mj (aV k) hy,vJa⟩
theorem vGp {E A na f fn sh t rs X}{S:Nat→List t.den→Option X}{pack unpack}(hE:jJ E)(cL:∀k,j4 E A k 1000 na fn [.c .nsl] (lq []) (mg rs unpack)=S k [])
  (aV:∀k xs,j4 E A k 1000 na fn [.c (.nfl sh t xs)] (lq []) (mg rs unpack)=S k xs) (hL:wG E.P A 1000 na fn.ntmps (zR fn)) (hf:E.P.funcs[f]? =some fn:=by kernel_rfl) (hb:fn.body.isNone=false:=by kernel_rfl) (hn:(fn.name== "runtime.NumGoroutine")=false:=by kernel_rfl) (fe:∀d,pack (unpack d)=d:=by intro d;rfl):
  zD E.P (f,fun k nm args h=>nV [.c (.dat sh t)] rs (fun d=>S k d.1) pack nm args h):=
 ⟨fun k _ _ _ _ _ hy=>vEe hE.ok hE.loc hE.ord hf (body_loops hL) (HZ hf hb hn) fe (fun x hx=>(cL k).trans hx) (by grind) hy,vCm⟩
def C7 (k:Nat)(a b c:Int):Option (Int×Int):=
 bif decide (c=0) then some (Int.ofNat ((a.toNat+b.toNat+0)%18446744073709551616),Int.ofNat ((a.toNat+b.toNat+0)/18446744073709551616)) else none
def MW:mZ:=fun k nm args h=>match args with
 |[.c (.int .u64 a),.c (.int .u64 b),.c (.int .u64 c)]=>.call (Int×Int) (C7 k a b c) (fun r=>(.tup [(false,[.int .u64 r.1]),(false,[.int .u64 r.2])],[]))
 |_=>.stuck
theorem vGo {P} a b w:
  (add64Entry #[.int .u64 a,.int .u64 b,.int .u64 0]).run P w=.ok (.tuple #[.int .u64 (Int.ofNat ((a.toNat+b.toNat+0)%18446744073709551616)),.int .u64 (Int.ofNat ((a.toNat+b.toNat+0)/18446744073709551616))]) w:=rfl
theorem Uj {P f fn}(hf:P.funcs[f]? =some fn:=by kernel_rfl) (pj:(fn.name== "runtime.NumGoroutine")=false:=by kernel_rfl) (hb:fn.body.isNone=true:=by kernel_rfl)
  (hn:Extern.findNext fn=none:=by kernel_rfl) (he:Extern.find fn=some add64Entry:=by kernel_rfl):
  zD P (f,MW):=by
 refine⟨fun k nm args h v u hy=>?_,fun _ _ _ _ _ _ _=>rfl⟩;intro M w vs hh hH ok hv;refine .inr ?_;replace hy:yG (MW k nm args h) v u:=hy;unfold MW at hy;split at hy
 ·rename_i a b c;obtain⟨x,hx,rfl,rfl⟩:=hy
  match hl:vs.toList,hv with
  |[v1,v2,v3],hv=>
   obtain⟨h1,h2,h3,_⟩:=hv;cases h1;cases h2;cases h3;obtain rfl:vs=#[.int .u64 a,.int .u64 b,.int .u64 c]:=by grind
   obtain⟨hc,hx⟩:=wE hx;cases hx;have hc:c=0:=by simp_all
   subst hc;refine⟨.tuple #[.int .u64 (Int.ofNat ((a.toNat+b.toNat+0)%18446744073709551616)),.int .u64 (Int.ofNat ((a.toNat+b.toNat+0)/18446744073709551616))],w,M,?_,⟨rfl,rfl,rfl,hH,rfl,ok,.refl M⟩,?_⟩
   ·rw[run_callFunc_extern hf pj hb hn he,vGo a b w];rfl
   ·exact⟨#[.int .u64 (Int.ofNat ((a.toNat+b.toNat+0)%18446744073709551616)),.int .u64 (Int.ofNat ((a.toNat+b.toNat+0)/18446744073709551616))],rfl,rfl,rfl,trivial⟩
 ·exact hy.elim
end Go.Ab
