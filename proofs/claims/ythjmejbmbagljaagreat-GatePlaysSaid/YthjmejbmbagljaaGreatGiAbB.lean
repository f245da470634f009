/- part 1 -/
import Derived.Test.YthjmejbmbagljaaGreatGiAbA
import Derived.Laws.BytesString
set_option linter.unusedVariables false
set_option linter.unusedSimpArgs false
namespace Go.Ab
def zL.move (M:zL)(nm:Nat)(C:qE)(h:Hp)(H:Array Go.Obj):zL:={M with κ:=κset M.κ nm C,h:=h,H:=H}
theorem zL.move_ok {M}(ok:Ok M){nm:Nat}{o':Obj}{C':qE}{h'}{H'}(J:Nat→Prop)(aU:M.h nm=none)
    (hJ:∀j,J j→∃o,M.h j=some o∧o.owned=true∧h' j=some .gone) (JS:h' nm=some o') (cc:∀n,¬J n→n≠nm→h' n=M.h n) (dH:M.H.size≤H'.size)
    (hH:∀b,b<M.H.size→(∀j C,J j→M.κ j=some C→b∉C.fp)→H'[b]? =M.H[b]?) (cR:∀b,b<M.H.size→qX H' b=qX M.H b)
    (rY:∀b∈C'.fp,(M.H.size≤b∧b<H'.size)∨∃j C,J j∧M.κ j=some C∧b∈C.fp)
    (hO:yT M (M.move nm C' h' H')→vA (M.move nm C' h' H') o' C'):Ok (M.move nm C' h' H')∧yR M (M.move nm C' h' H'):=by
  have hJo:∀j C b,J j→M.κ j=some C→b∈C.fp→qN M b:=fun j C b hj hC hb=>by
    obtain⟨o,h1,h2,_⟩:=hJ j hj;exact⟨j,o,C,h1,h2,hC,hb⟩
  have xe:∀b,M.F b→∀j C,J j→M.κ j=some C→b∉C.fp:=fun b hF j C hj hC hb=>(ok.own b (hJo j C b hj hC hb)).1 hF
  have x:yT M (M.move nm C' h' H'):=
    { κ:=fun n D h=>by
        have:n≠nm:=fun e=>by rw[e,ok.non nm aU] at h;cases h
        exact⟨D,by simp only[zL.move];rw[κset_ne _ _ this];exact h,D.le_refl⟩
      F:=fun _ h=>h
      G:=fun _ h=>h
      same:=fun b h=>hH b (ok.Flt b h) (xe b h)
      sameG:=fun b h=>hH b (ok.Flt b (ok.GF b h)) (xe b (ok.GF b h))
      bsz:=cR}
  have Vk:∀j,J j→j≠nm:=by grind
  have dm:∀n q,n≠nm→h' n=some q→q.owned=true→¬J n∧M.h n=some q:=by
    intro n q e h1 h2;by_cases hj:J n
    · obtain⟨o,_,_,k⟩:=hJ n hj;rw[k] at h1;cases h1;cases h2
    simp_all
  have tS:∀b,qN (M.move nm C' h' H') b→(M.H.size≤b∧b<H'.size)∨qN M b:=by
    rintro b ⟨n,q,D,h1,h2,h3,h4⟩
    by_cases e:n=nm
    · subst e;simp only[zL.move,κset_same,Option.some.injEq] at h3;grind
    · obtain⟨_,fa⟩:=dm n q e h1 h2;simp only[zL.move] at h3;rw[κset_ne _ _ e] at h3;exact .inr ⟨n,q,D,fa,h2,h3,h4⟩
  refine⟨ok.build x (fun n=>n=nm∨J n) (fun n hn=>cc n (by grind) (by grind)) (fun n hn=>κset_ne _ _ fun e=>hn (.inl e)) ?_ ?_ dH ?_ ?_ ?_ ok.GF ?_,x,dH,?_,?_,fun b h _=>.inl h,fun b h _=>.inl h⟩
  · intro n q D hn h1 h2 h3 b hb;refine hH b (ok.own b ⟨n,q,D,h1,h2,h3,hb⟩).2 fun j C hj hC hc=>?_
    obtain⟨o,k1,k2,_⟩:=hJ j hj;exact ok.disj n j q o D C b (by grind) h1 k1 h2 k2 h3 hC hb hc
  · intro n q D hn h1 h2 h3 b hb;exact(ok.own b ⟨n,q,D,h1,h2,h3,hb⟩).1
  · rintro n q (rfl|hj) h1
    · simp only[zL.move] at h1;rw[JS] at h1;cases h1;exact⟨C',κset_same _ _ _,hO x⟩
    · obtain⟨o,k1,_,k⟩:=hJ n hj;simp only[zL.move] at h1;rw[k] at h1;cases h1;obtain⟨C,hC,_⟩:=ok.obj n o k1;exact⟨C,by simp only[zL.move];rw[κset_ne _ _ (Vk n hj)];exact hC,trivial⟩
  · rintro n (rfl|hj) h1
    · simp only[zL.move] at h1;rw[JS] at h1;cases h1
    · obtain⟨o,_,_,k⟩:=hJ n hj;simp only[zL.move] at h1;rw[k] at h1;cases h1
  · rintro n q D b (rfl|hj) h1 h2 h3 hb
    · simp only[zL.move,κset_same,Option.some.injEq] at h3;subst h3;rcases rY b hb with JT|⟨j,C,hj,hC,bg⟩
      · refine⟨fun k qk Dk hk k1 k2 k3 k4=>?_,fun hF=>?_,JT.2⟩
        · obtain⟨_,Eb⟩:=dm k qk hk k1 k2;simp only[zL.move] at k3;rw[κset_ne _ _ hk] at k3;have:=(ok.own b ⟨k,qk,Dk,Eb,k2,k3,k4⟩).2;omega
        · have:=ok.Flt b hF;omega
      · have ho:=ok.own b (hJo j C b hj hC bg);refine⟨fun k qk Dk hk k1 k2 k3 k4=>?_,ho.1,by simp only[zL.move];omega⟩;obtain⟨hkJ,Eb⟩:=dm k qk hk k1 k2;simp only[zL.move] at k3;rw[κset_ne _ _ hk] at k3;obtain⟨o,j1,j2,_⟩:=hJ j hj;exact ok.disj k j qk o Dk C b (by grind) Eb j1 k2 j2 k3 hC k4 bg
    · obtain⟨o,_,_,k⟩:=hJ n hj;simp only[zL.move] at h1;grind
  · intro b hb;have:=ok.Flt b hb;simp only[zL.move];omega
  · intro b hb hn;exact hH b hb (by grind)
  grind
theorem yH0 {P M w}(ok:Ok M)(hM:M.H=w.heap){nm vs us e s}(aU:M.h nm=none)
  (dI:zP (zZ M) vs us.toList) (hr:s.run P w=.ok (.pointer (some ⟨w.heap.size,0,none⟩)) (w.alloc (.cells us e))):
  qK P s M w (.c (.ptr nm 0)) [(nm,.box true vs)]:=by
 let C:qE:=⟨some M.H.size,0,0,0,[]⟩;have := zL.new_ok ok aU (.box true vs) C (.cells us e) (by simp [C, qE.fp]) (by
  refine⟨M.H.size,us,e,rfl,rfl,A2,dI.mono fun _ _ h=>h.ext (zL.new_ext ok aU _ _ _),by simp⟩)
 exact⟨_,_,_,hr,rfl,rfl,rfl,by show M.H.push _=w.heap.push _;rw[hM],rfl,this.1,this.2,C,M.H.size,κset_same _ _ _,rfl,by rw[hM]⟩
theorem JU {H F}:∀t rd,(∀j,j<t.size→rd j=(iq t)[j]?)→qF H F t t.dflt rd
 |.int k,rd,h
 |.bool,rd,h=>by simp[qF];rw[h 0 (by simp[Ty.size])];rfl
 |.sl t,rd,h=>by
  simp[Ty.dflt];exact⟨none,0,0,by rw[h 0 (by simp[Ty.size])];rfl,rfl,by simp,by simp⟩
 |.pair a b,rd,h=>by
  have hl:∀t:Ty,(iq t).length=t.size:=by
   intro t
   induction t with
   |pair a b Ej Ek=>simp[iq,Ty.size,Ej,Ek]
   |_=>rfl
  simp[Ty.size,iq] at h;refine⟨JU a rd (by grind),JU b _ (by grind)⟩
theorem O3:∀t:Ty,(iq t).length=t.size
 |.int _|.bool|.sl _=>rfl
 |.pair a b=>by simp[iq,Ty.size,O3 a,O3 b]
theorem vYx {a b}(h:T9 a b=true):a=b:=by
 unfold T9 at h;split at h
 ·simp  at h;rw[tI h.1,h.2]
 all_goals grind
theorem vCs:∀{l m},Jv l m=true→l=m
 |[],[],_=>rfl
 |a::l,b::m,h=>by
  simp[Jv] at h;rw[vYx h.1,vCs h.2]
theorem si {P e t}(h:kB P e=some t):∃i z,P.info? e=some i∧i.zero=some z∧i.size=t.size∧z.cells.toList=iq t∧P.cellsOf e=t.size∧P.bytesOf e=i.bytes∧z.cells.size=t.size:=by
 unfold kB at h;split at h
 ·rename_i t' i h1 h2;split at h
  ·rename_i z hz;cases hb:(Nat.beq i.size t'.size&&Jv z.cells.toList (iq t')) with
   |false=>simp_all
   |true=>
    rw[hb] at h;cases h;simp only[Bool.and_eq_true] at hb;have e1:=Nat.eq_of_beq_eq_true hb.1;have e2:=vCs hb.2;refine⟨i,z,h2,hz,e1,e2,by rw[UA h2];exact e1,UB h2,?_⟩;have:=congrArg List.length e2;rw[O3] at this;omega
  ·cases h
 ·cases h
theorem yY0 {z:Value}{t}(h:z.cells.toList=iq t)(hs:z.cells.size=t.size){i j} hj:z.cells[(i*t.size+j)%z.cells.size]! =(iq t)[j]'(by rw[O3];exact hj):=by
 have e1:(i*t.size+j)%z.cells.size=j:=by rw[hs,Nat.mul_comm,Nat.mul_add_mod,Nat.mod_eq_of_lt hj]
 grind
theorem yF9 {H F}{z:Value}{t}(h:z.cells.toList=iq t)(hs:z.cells.size=t.size){n i}(hi:i<n):
  qF H F t t.dflt (fun j=>(madeCells z.cells (n*t.size))[i*t.size+j]?):=by
 refine JU t _ fun j hj=>?_
 have aT:=Nat.mul_le_mul_right t.size (show i+1≤n by omega);rw[List.getElem?_eq_getElem (by grind),←yY0 h hs (i:=i) hj];simp[madeCells];grind
theorem yM1 {P M w}(ok:Ok M)(hM:M.H=w.heap){nm t xs us e s c}(aU:M.h nm=none)
  (hc:xs.length≤c) (hs:c*t.size≤us.size) (hx:∀i h,qF M.H M.G t xs[i] (fun j=>us[i*t.size+j]?))
  (hr:s.run P w=.ok (.slice (some ⟨w.heap.size,0,none⟩) xs.length c) (w.alloc (.cells us e))):
  qK P s M w (.c (.osl nm none)) [(nm,.arr true t xs)]:=by
 let C:qE:=⟨some M.H.size,xs.length,t.size,0,[]⟩;have x:=zL.new_ext ok aU (.arr true t xs) C (.cells us e);have hle:=Nat.mul_le_mul_right t.size hc;have := zL.new_ok ok aU (.arr true t xs) C (.cells us e) (by simp [C, qE.fp]) (by
  refine⟨rfl,rfl,by grind,us,e,A2,by simp,by omega,fun i hi=>?_⟩;exact vD x.G x.sameG t _ _ _ (by simp) (hx i hi))
 refine⟨_,_,_,hr,rfl,rfl,rfl,by show M.H.push _=w.heap.push _;rw[hM],rfl,this.1,this.2,C,κset_same _ _ _,_,c,rfl,?_⟩;refine⟨hc,0,by rw[hM],by simp,?_⟩;simp;have:qX (M.H.push (.cells us e)) M.H.size=us.size:=by simp[qX]
 show c*t.size≤qX (M.H.push (.cells us e)) M.H.size;omega
theorem Vl {P M w}(ok:Ok M)(hM:M.H=w.heap){nm t zs}(aU:M.h nm=none)(hz:zeroCells P t=some zs):
  qK P (Instr.alloc t true (.tuple #[])) M w (.c (.ptr nm 0)) [(nm,.box true zs)]:=by
 obtain⟨i,v,h1,h2,h3,h4,rfl⟩:=yP2 hz;refine yH0 ok hM aU (us:=v.cells) (e:=t) (OO M h4) ?_;simp[Instr.alloc,zeroValue,typeInfo,h1,h2,newVar,newRow]
theorem yTr {P M w}(ok:Ok M)(hM:M.H=w.heap){nm t x rx vs}(aU:M.h nm=none)(hx:zX M x rx)(hv:oN x=some vs):
  qK P (Instr.box t rx) M w (.c (.ptr nm 0)) [(nm,.box true vs)]:=by
 refine yH0 ok hM aU (us:=rx.cells) (e:=t) (OT hv hx) ?_;rfl
theorem vMx {P M w}(ok:Ok M)(hM:M.H=w.heap){nm t x rx vs}(aU:M.h nm=none)(hx:zX M x rx)(hv:oN x=some vs) m:
  qK P (Instr.box t rx) M w (.c (.ptr nm 0)) [(nm,.box (!m) vs)]:=by
 cases m with
 |false=>exact yTr ok hM aU hx hv
 |true=>
  obtain⟨rv,w',M',a1,a2,a3,a4,a5,a6,a7,a8,a9⟩:=yTr (P:=P) (t:=t) ok hM aU hx hv;have an:M'.h nm=some (.box true vs):=by rw[a6];exact yV _ _ _
  obtain⟨M2,b1,b2,b3,b4,b5⟩:=vH4 a7 an;refine⟨rv,w',M2,a1,a2,a3,a4,b1.trans a5,?_,b3,a8.trans b4,a9.ext b4.ext⟩;rw[b2,a6];funext n;show yM (yM M.h nm _) nm _ n=yM M.h nm _ n;by_cases e:n=nm
  ·subst e;rw[yV,yV];rfl
  ·rw[yY _ _ e,yY _ _ e,yY _ _ e]
theorem vFg {α:Type}{n i:Nat}{a:α} h:(List.replicate n a)[i]=a:=by simp
theorem vQy {P M w}(ok:Ok M)(hM:M.H=w.heap){nm n us e s c}(aU:M.h nm=none)
  (hc:n≤c) (hs:c≤us.size) (hx:∀i,i<n→us[i]? =some (.slice none 0 0))
  (hr:s.run P w=.ok (.slice (some ⟨w.heap.size,0,none⟩) n c) (w.alloc (.cells us e))):
  qK P s M w (.c (.osl nm none)) [(nm,.mat 0 (List.replicate n []))]:=by
 let C:qE:=⟨some M.H.size,n,1,0,List.replicate n (none,0)⟩;have hfm:(List.replicate n ((none,0):Option Nat×Nat)).filterMap (·.1)=[]:=by
  simp
 have rY:C.fp=[M.H.size]:=by simp[C,qE.fp]
 have := zL.new_ok ok aU (.mat 0 (List.replicate n [])) C (.cells us e) (by simp_all) (by
  refine⟨rfl,by simp[C],rfl,by simp[C],by simp_all,us,e,A2,by grind,fun i hi=>?_⟩;have gx:i<n:=by simp_all
  refine⟨none,.slice none 0 0,by grind,hx i gx,⟨rfl,by simp⟩,by simp⟩)
 refine⟨_,_,_,hr,rfl,rfl,rfl,by show M.H.push _=w.heap.push _;rw[hM],rfl,this.1,this.2,C,κset_same _ _ _,_,c,rfl,?_⟩;refine⟨hc,0,by rw[hM],by simp,?_⟩;simp;have:qX (M.H.push (.cells us e)) M.H.size=us.size:=by simp[qX]
 show c*1≤qX (M.H.push (.cells us e)) M.H.size;omega
theorem vY7 {P M w}(ok:Ok M)(hM:M.H=w.heap){mat nm t l c v u rl rc}(hl:zX M l rl)(hc:zX M c rc)
  (h:yO (DM P mat nm M.h t l c) v u):qK P (Instr.makeSlice t rl rc) M w v u:=by
 unfold DM at h;split at h
 ·rename_i e l c hu aU;have e1:rl=.int .i64 l:=hl;have e2:rc=.int .i64 c:=hc;subst e1;subst e2;cases mat with
  |true=>
   split at h
   ·rename_i dK;obtain⟨fR,rfl,rfl⟩:=gP h;obtain⟨i,z,h1,h2,h3,h4,h5,h6,h7⟩:=si dK;simp[Bool.and_eq_true] at fR;obtain⟨⟨⟨o1,o2⟩,o3⟩,o4⟩:=fR;have hr:=run_make (P:=P) w t e i z hu h1 h2 .i64 .i64 l c o1 o2 (by grind) (by omega);have dH:i.size=1:=h3;rw[dH,Nat.mul_one] at hr;refine vQy ok hM aU (n:=l.toNat) (c:=c.toNat) (by omega) (by rw[size_madeCells];omega) (fun k hk=>?_) hr;have O4:z.cells.toList=[.slice none 0 0]:=h4;have Vm:z.cells.size=1:=h7;simp only[madeCells];have:z.cells.toList[0]'(by simp;omega)=.slice none 0 0:=by grind
    grind
   ·exact h.elim
  |false=>
   simp  at h;split at h
   ·rename_i ty dK;obtain⟨fR,rfl,rfl⟩:=gP h;obtain⟨i,z,h1,h2,h3,h4,h5,h6,h7⟩:=si dK;simp  at fR;obtain⟨⟨⟨o1,o2⟩,o3⟩,o4⟩:=fR;have hr:=run_make (P:=P) w t e i z hu h1 h2 .i64 .i64 l c o1 o2 (by grind) (by omega);refine yM1 ok hM aU (c:=c.toNat) (us:=madeCells z.cells (c.toNat*ty.size)) (e:=e) (by grind) (by rw[size_madeCells];omega) (fun k hk=>?_) (by simp_all);rw[vFg hk];simp  at hk;exact yF9 h4 h7 (by omega)
   ·exact h.elim
 ·exact h.elim
theorem yQ2 off:∀l k cells,off+k+l.length≤cells.size→
  (l.zipIdx k).foldl (fun(cs:Array Value) (p:Value×Nat)=>cs.setIfInBounds (off+p.2) p.1) cells=yZ cells (off+k) l
 |[],k,cells,h=>by
  apply Array.ext_getElem?;intro j;rw[jY h];simp_all
 |c::l,k,cells,h=>by
  simp;rw[yQ2 off l (k+1) _ (by grind)];apply Array.ext_getElem?;intro j;rw[jY (by grind),jY (by omega)];grind
theorem Vn place cells i v rest off size (h:place i=some (off,size))(h1:v.cells.size=size)(h2:off+size≤cells.size):
  Instr.fill place cells ((i,v)::rest)=Instr.fill place (yZ cells off v.cells.toList) rest:=by
 have hc:¬(v.cells.size≠size||decide (off+v.cells.size>cells.size))=true:=by
  simp_all
 simp only[Instr.fill,h];rw[if_neg hc]
 congr 1
 rw[←Array.foldl_toList,Array.toList_zipIdx];have:=yQ2 off v.cells.toList 0 cells (by simp;omega);omega
def Be (M:zL):(Nat×zY)→(Nat×Value)→Prop:=fun p q=>p.1=q.1∧zX M p.2 q.2
theorem Vo {M place}:∀{parts aO cells out vals},zP (zZ M) cells vals.toList→
  zP (Be M) parts aO→Jy place cells parts=some out→∃res,Instr.fill place vals aO=some res∧zP (zZ M) out res.toList
 |[],[],cells,out,vals,hc,_,h=>by cases h;exact⟨vals,rfl,hc⟩
 |(i,v)::parts,(i',rv)::aO,cells,out,vals,hc,hp,h=>by
  obtain⟨⟨hi,hv⟩,hp⟩:=hp;subst hi;unfold Jy at h;split at h
  ·rename_i off size vs El dI;cases hb:(Nat.beq vs.length size&&Nat.ble (off+size) cells.length) with
   |false=>simp_all
   |true=>
    rw[hb] at h;simp only[Bool.and_eq_true] at hb;have b1:=Nat.eq_of_beq_eq_true hb.1;have b2:=Nat.le_of_ble_eq_true hb.2;split at h
    ·rename_i bF Vp;obtain⟨p1,rfl⟩:=UI _ _ _ _ Vp;have dv:=OT dI hv;have hl:=dv.length;have nO:=hc.length;simp  at hl nO;have yX:=UL (yT.refl M) hc dv (off:=off) (by simp_all);obtain⟨res,h1,h2⟩:=Vo yX hp h;exact⟨res,by rw[Vn place vals i rv aO off size El (by omega) (by omega)];exact h1,h2⟩
    ·cases h
  ·cases h
theorem vFb {P} w:∀(l:List Field),l.all (fun f=>(P.info? f.type).isSome)=true→
  (l.mapM fun f=>(do pure (f.offset,←sizeOf f.type):Sem (Nat×Nat))).run P w=.ok (l.map fun f=>(f.offset,P.cellsOf f.type)) w
 |[],_=>by simp
 |f::l,h=>by
  simp only[List.all_cons,Bool.and_eq_true] at h;obtain⟨i,hi⟩:=Option.isSome_iff_exists.1 h.1;rw[List.mapM_cons];simp only[Sem.run_bind,iO w hi,Result.andThen_ok,Sem.run_pure,vFb w l h.2,List.map_cons]
theorem vWr {P M w}(ok:Ok M)(hM:M.H=w.heap){t parts aO v u}(hp:zP (Be M) parts aO)
  (h:yO (Uj P t parts) v u):qK P (Instr.build t aO.toArray) M w v u:=by
 unfold Uj at h;split at h
 ·exact h.elim
 ·rename_i zero hz;obtain⟨i,z,h1,h2,h3,h4,rfl⟩:=yP2 hz;have hzero:=OO M h4;split at h
  ·rename_i fs hs;obtain⟨bn,h⟩:=gw h;split at h
   ·rename_i cells hf;obtain⟨rfl,rfl⟩:=wO h;have El:(fun(j:Nat)=>(fs[j]?).map fun(f:Field)=>(f.offset,P.cellsOf f.type))=(fun(j:Nat)=>(fs.toList.map fun f=>(f.offset,P.cellsOf f.type)).toArray[j]?):=by
     simp
    obtain⟨res,k1,k2⟩:=Vo hzero hp hf;refine qK.pure ok hM (rv:=.agg res) ?_ ⟨res,rfl,k2⟩;have hm:=vFb (P:=P) w fs.toList bn;simp[Instr.build,zeroValue,UC w h1,run_underlying hs,Array.mapM_eq_mapM_toList];simp_all
   ·exact h.elim
  ·rename_i n e hs;obtain⟨bn,h⟩:=gw h;obtain⟨y,hy⟩:=Option.isSome_iff_exists.1 bn;split at h
   ·rename_i cells hf;obtain⟨rfl,rfl⟩:=wO h;obtain⟨res,k1,k2⟩:=Vo hzero hp hf;refine qK.pure ok hM (rv:=.agg res) ?_ ⟨res,rfl,k2⟩;simp[Instr.build,zeroValue,Sem.run_bind,UC w h1,Result.andThen_ok,h2,Sem.run_pure,run_underlying hs,iO w hy];simp_all
   ·exact h.elim
  ·exact h.elim
theorem qK.after {P s M M1 w v u1 u2}(h1:M1.h=qJ M.h u1)(st:yR M M1)(h:qK P s M1 w v u2):qK P s M w v (u1++u2):=by
 obtain⟨rv,w',M',a1,a2,a3,a4,a5,a6,a7,a8,a9⟩:=h;exact⟨rv,w',M',a1,a2,a3,a4,a5,by rw[a6,h1,lz],a7,st.trans a8,a9⟩
theorem jG.fresh {h0 h}(hf:jG h0 h){n}(hn:h0 n=none):h n=none:=by
 rcases hf n with e|⟨o,t,xs,e1,_⟩|⟨o,xs,e1,_⟩
 all_goals simp_all
theorem yPk {t vs x}(h:Ju t vs=some x):vs.length=t.size∧tK t t.dflt 0 vs=some x:=by
 unfold Ju at h;cases hb:Nat.beq vs.length t.size with
 |false=>simp_all
 |true=>simp_all
theorem vVk {M t vs us x}(h:Ju t vs=some x)(hv:zP (zZ M) vs us){rd}(hr:∀i,i<us.length→rd i=us[i]?):qF M.H M.G t x rd:=by
 obtain⟨h1,h2⟩:=yPk h;have hl:=hv.length;refine UQ t vs us t.dflt x 0 (fun j=>(iq t)[j]?) rd (JU t _ (by simp)) h2 hv (by grind) (by grind)
theorem yUp {h0 t n}:∀{parts aO xs out vals u M},Ok M→jG h0 M.h→xs.length=n→vals.size=n*t.size→
  (∀k h,qF M.H M.G t xs[k] (fun j=>vals[k*t.size+j]?))→(∀p∈parts,p.1<n)→zP (Be M) parts aO→rT h0 t xs parts=some (out,u)→
  ∃res M',Instr.fill (fun i=>some (i*t.size,t.size)) vals aO=some res∧M'.H=M.H∧M'.h=qJ M.h u∧Ok M'∧yR M M'∧jG h0 M'.h∧out.length=n∧res.size=n*t.size∧
   (∀k h,qF M'.H M'.G t out[k] (fun j=>res[k*t.size+j]?))
 |[],[],xs,out,vals,u,M,ok,hf,hx,hs,hE,_,_,h=>by
  cases h;exact⟨vals,M,rfl,rfl,rfl,ok,yR.refl M,hf,hx,hs,hE⟩
 |(i,v)::parts,(i',rv)::aO,xs,out,vals,u,M,ok,hf,hx,hs,hE,bd,hp,h=>by
  obtain⟨⟨hi,hv⟩,hp⟩:=hp;dsimp only at hi hv;subst hi;unfold rT at h;split at h
  ·rename_i vs dI;split at h
   ·rename_i U1 u1 Ec;split at h
    ·rename_i x xh;split at h
     ·rename_i xs' us cc;cases h;have dv:=OT dI hv;obtain⟨M1,a1,a2,a3,a4,a5,a6,a7⟩:=UN ok hf dv Ec;have hl:=a5.length;simp  at hl;have O5:=(yPk xh).1;have gx:i<n:=bd (i,v) (by simp);have aT:=Nat.mul_le_mul_right t.size (show i+1≤n by omega);rw[Nat.add_mul] at aT;have aM:i*t.size+rv.cells.toList.length≤vals.size:=by simp_all
      have hE1:∀k (h:k<(xs.set i x).length),qF M1.H M1.G t (xs.set i x)[k] (fun j=>(yZ vals (i*t.size) rv.cells.toList)[k*t.size+j]?):=by
       intro k hk;rw[List.length_set] at hk;by_cases e:k=i
       ·subst e;rw[List.getElem_set_self];refine vVk xh a5 fun j hj=>?_
        rw[jY aM,if_neg (by omega),if_pos (by omega)];simp
       ·rw[List.getElem_set_ne (Ne.symm e)];refine vD a4.ext.G (by grind) t _ _ _ (fun j hj=>?_) (hE k hk);rw[jY aM,Array.length_toList];rcases yXu (Ne.symm e) hj with h|h
        all_goals grind
      obtain⟨res,M2,b1,b2,b3,b4,b5,b6,b7,b8,b9⟩:=yUp a3 a6 (by simp_all) (by rw[gQ aM];exact hs) hE1
       (fun p hp=>bd p (by grind)) (hp.mono fun p q hpq=>⟨hpq.1,by
        obtain⟨_,hq⟩:=hpq;exact zX.ext a4.ext hq⟩) cc
      exact⟨res,M2,by rw[Vn _ vals i rv aO (i*t.size) t.size rfl (by omega) (by omega)];exact b1,b2.trans a1,by rw[b3,a2,lz],b4,a4.trans b5,b6,b7,b8,b9⟩
     ·cases h
    ·cases h
   ·cases h
  ·cases h
theorem yQs {P w t e n aO}{ty:Ty}{i z res}(hu:P.underlying t=some (.slice e))(hi:P.info? e=some i)
  (hz:i.zero=some z) (hs:i.size=ty.size) (cS:n*P.cellsOf e≤16777216) (hf:Instr.fill (fun j=>some (j*ty.size,ty.size)) (madeCells z.cells (n*ty.size)) aO=some res):
  (Instr.buildSlice t n aO.toArray).run P w=.ok (.slice (some ⟨w.heap.size,0,none⟩) n n) (w.alloc (.cells res e)):=by
 have hc:P.cellsOf e=ty.size:=by rw[UA hi];exact hs
 rw[hc] at cS;have h1:¬2^24<n*ty.size:=by omega
 by_cases h0:n*ty.size=0
 ·have hm:madeCells z.cells (n*ty.size)=#[]:=by rw[h0];simp[madeCells]
  rw[hm] at hf;simp[Instr.buildSlice,run_underlying hu,iO w hi,hc,h0];simp[Array.range_zero',hf,newRow]
 ·simp[Instr.buildSlice,run_underlying hu,Result.andThen_ok,iO w hi,hc,h1,if_false,h0,Sem.run_pure,zeroValue,UC w hi,hz];rw[show(Array.range (n*ty.size)).map (z.cells[· %z.cells.size]!)=madeCells z.cells (n*ty.size) from rfl,hf];rfl
theorem yYr {parts:List (Nat×zY)}{n}(h:parts.all (fun p=>Nat.blt p.1 n)=true):∀p∈parts,p.1<n:=by
 simp only[List.all_eq_true] at h;exact fun p hp=>UO (h p hp)
theorem Vq {P M w}(ok:Ok M)(hM:M.H=w.heap){nm t e n parts aO ty xs u}
  (hp:zP (Be M) parts aO) (hu:P.underlying t=some (.slice e)) (aU:M.h nm=none) (dK:kB P e=some ty) (cS:n*P.cellsOf e≤16777216) (bd:∀p∈parts,p.1<n)
  (hf:rT M.h ty (List.replicate n ty.dflt) parts=some (xs,u)):
  qK P (Instr.buildSlice t n aO.toArray) M w (.c (.osl nm none)) (u++[(nm,.arr true ty xs)]):=by
 obtain⟨i,z,h1,h2,h3,h4,h5,h6,h7⟩:=si dK;obtain⟨res,M',b1,b2,b3,b4,b5,b6,b7,b8,b9⟩:=yUp (n:=n) ok (jG.refl _) (by simp) (vals:=madeCells z.cells (n*ty.size)) (by rw[size_madeCells])
  (fun k hk=>by rw[vFg hk];exact yF9 h4 h7 (by simp_all)) bd hp hf
 have hr:=yQs (P:=P) (w:=w) hu h1 h2 h3 cS b1;refine qK.after b3 b5 (yM1 b4 (by grind) (b6.fresh aU) (c:=n) (us:=res) (e:=e) (by omega) (by omega) (by grind) ?_);simp_all
structure xi (M:zL) (J:List Nat) (n:Nat) (rows:List (List Int)) (vals:Array Value) (rc:List (Option Nat×Nat)):Prop where
 len:rows.length=n
 size:vals.size=n
 rlen:rc.length=n
 row:∀k (h:k<rows.length),∃rb v,rc[k]? =some (rb,rows[k].length)∧vals[k]? =some v∧mR M.H rb rows[k].length v∧
  (∀R,rb=some R→∃rv er,M.H[R]? =some (.cells rv er (0,0))∧∀j (h':j<rows[k].length),rv[j]? =some (.int .i64 rows[k][j]))
 nd:(rc.filterMap (·.1)).Nodup
 of:∀R∈rc.filterMap (·.1),∃j∈J,∃C,M.κ j=some C∧R∈C.fp
 js:∀j∈J,∃ys:List Int,M.h j=some (.arr true (.int .i64) ys)
theorem xi.put {M}(ok:Ok M){J n rows vals rc}(I:xi M J n rows vals rc){i}(hi:i<n){v rv r u}
  (hv:zX M v rv) (ht:AU M.h v=some (r,u)) (hJ:∀p∈u,p.1∉J):∃O6,xi M (J++u.map (·.1)) n (rows.set i r) (yZ vals i rv.cells.toList) O6∧rv.cells.size=1∧(∀p∈u,p.2=.gone):=by
 have put:∀(rb:Option Nat) (J':List Nat),rv.one1=true→mR M.H rb r.length rv→(∀R,rb=some R→∃rv er,M.H[R]? =some (.cells rv er (0,0))∧∀j (h':j<r.length),rv[j]? =some (.int .i64 r[j]))→
   (∀R,rb=some R→R∉rc.filterMap (·.1))→(∀R,rb=some R→∃j∈J',∃C,M.κ j=some C∧R∈C.fp)→(∀j∈J',∃ys:List Int,M.h j=some (.arr true (.int .i64) ys))→
   xi M (J++J') n (rows.set i r) (yZ vals i rv.cells.toList) (rc.set i (rb,r.length))∧rv.cells.size=1:=by
  intro rb J' h1 h2 h3 h4 h5 h6;have aH:rv.cells=#[rv]:=by cases rv<;>first|rfl|cases h1
  obtain⟨s1,s2⟩:=OW (x:=(rb,r.length)) rc i I.nd h4;have aM:i+rv.cells.toList.length≤vals.size:=by rw[aH,I.size];show i+1≤n;omega
  refine⟨⟨by rw[List.length_set];exact I.len,by rw[gQ aM];exact I.size,by rw[List.length_set];exact I.rlen,fun k hk=>?_,s1,fun R hR=>?_,fun j hj=>?_⟩,by rw[aH];rfl⟩
  ·rw[List.length_set] at hk;by_cases e:k=i
   ·subst e;rw[List.getElem_set_self];refine⟨rb,rv,?_,?_,h2,h3⟩
    ·rw[List.getElem?_set_self (by rw[I.rlen];exact hi)]
    ·rw[jY aM,if_neg (by omega),if_pos (by rw[aH];show k<k+1;omega),aH];simp
   ·rw[List.getElem_set_ne (Ne.symm e)];obtain⟨pP,v',p1,p2,p3,p4⟩:=I.row k hk;refine⟨pP,v',by rw[List.getElem?_set_ne (Ne.symm e)];exact p1,?_,p3,p4⟩;rw[jY aM,aH];grind
  ·rcases s2 R hR with h|h
   ·obtain⟨j,hj,hC⟩:=I.of R h;exact⟨j,by grind,hC⟩
   grind
  ·rcases List.mem_append.1 hj with h|h
   ·exact I.js j h
   ·exact h6 j h
 unfold AU at ht;split at ht
 ·rename_i jd;split at ht
  ·rename_i ys dh;cases ht;obtain⟨Cj,eM,nN⟩:=ok.obj jd _ dh;obtain⟨jr,jf⟩:=JK nN;obtain⟨r1,r2⟩:=UY eM nN hv;have xf:∀j∈[jd],∃ys:List Int,M.h j=some (.arr true (.int .i64) ys):=by grind
   have:=put Cj.blk [jd] (zZ.one (c:=.osl jd none) hv) r1 r2 (fun R hR hm=>?_) (by grind) (fun j hj=>xf j hj)
   ·exact(by grind)
   ·obtain⟨j,hj,C,hC,hRC⟩:=I.of R hm;obtain⟨ys',mV⟩:=I.js j hj;have bx:j≠jd:=fun e=>hJ (jd,.gone) (by simp) (e▸hj)
    exact ok.disj j jd _ _ C Cj R bx mV dh rfl rfl hC eM hRC (fQ hR)
  ·cases ht
 ·cases ht;have e:rv=.slice none 0 0:=hv;have:=put none [] (by rw[e];rfl) ⟨e,rfl⟩ (by simp) (by simp) (by simp) (by simp);exact by grind
 ·cases ht
theorem Em:∀{l},tM l=true→l.Nodup
 |[],_=>by simp
 |a::l,h=>by
  simp only[tM,Bool.and_eq_true] at h;refine List.nodup_cons.2 ⟨fun hm=>?_,Em h.2⟩;have:l.any (Nat.beq a)=true:=List.any_eq_true.2 ⟨a,hm,by simp⟩;simp_all
theorem yR4 {M}(ok:Ok M){n}:∀{parts aO J rows out vals rc u},xi M J n rows vals rc→
  (∀p∈parts,p.1<n)→zP (Be M) parts aO→AV M.h rows parts=some (out,u)→(J++u.map (·.1)).Nodup→
  ∃res O6,Instr.fill (fun i=>some (i*1,1)) vals aO=some res∧xi M (J++u.map (·.1)) n out res O6∧(∀p∈u,p.2=.gone)
 |[],[],J,rows,out,vals,rc,u,I,_,_,h,_=>by
  cases h;exact⟨vals,rc,rfl,by simp_all,by simp⟩
 |(i,v)::parts,(i',rv)::aO,J,rows,out,vals,rc,u,I,bd,hp,h,dJ=>by
  obtain⟨⟨hi,hv⟩,hp⟩:=hp;subst hi;unfold AV at h;split at h
  ·rename_i r u1 ht;split at h
   ·rename_i JV us cc;cases h;rw[List.map_append,←List.append_assoc] at dJ;have gx:i<n:=bd (i,v) (by simp);obtain⟨O6,I',h1,hg⟩:=I.put ok gx hv ht (by grind);obtain⟨res,rc2,b1,b2,b3⟩:=yR4 ok I' (by grind) hp cc dJ;refine⟨res,rc2,?_,by simp_all,fun p hp=>?_⟩
    ·rw[Vn _ vals i rv aO (i*1) 1 rfl h1 (by rw[I.size];omega),Nat.mul_one];exact b1
    grind
   ·cases h
  ·cases h
theorem Vr {j}:∀{u h},(∀p∈u,p.2=.gone)→j∈u.map (·.1)→qJ h u j=some .gone
 |(id,o)::u,h,hg,hj=>by
  have ho:o=.gone:=hg (id,o) (by simp);subst ho;by_cases hm:j∈u.map (·.1)
  ·exact Vr (u:=u) (by grind) hm
  ·have e:j=id:=by
    simp_all
   subst e;show qJ (yM h j .gone) u j=_;rw[OX]
   ·exact yV _ _ _
   ·rw[Bool.eq_false_iff];simp_all
theorem En {n u h}(hn:n∉u.map (·.1)):qJ h u n=h n:=by
 refine OX h ?_;rw[Bool.eq_false_iff];simp_all
theorem Vs {P:Program}{M:zL}{w}(ok:Ok M)(hM:M.H=w.heap){nm n c}{rows res rc J}{u:vG}{e s}
  (aU:M.h nm=none) (I:xi M J n rows (res.extract 0 n) rc) (hJ:∀j,j∈J→j∈u.map (·.1)) (hg:∀p∈u,p.2=.gone∧∃o,M.h p.1=some o∧o.owned=true) (hc:n≤c) (hs:c≤res.size)
  w' (hw:w'.heap=w.heap.push (.cells res e)∧w'.os=w.os∧w'.tape=w.tape∧w'.output=w.output)
  (hr:s.run P w=.ok (.slice (some ⟨w.heap.size,0,none⟩) n c) w'):qK P s M w (.c (.osl nm none)) (u++[(nm,.mat 0 rows)]):=by
 let C:qE:=⟨some M.H.size,n,1,0,rc⟩;have hnJ:nm∉u.map (·.1):=(by grind);have aT:∀R∈rc.filterMap (·.1),∃j C,(j∈u.map (·.1))∧M.κ j=some C∧R∈C.fp:=fun R hR=>by
  obtain⟨j,hj,C,hC,hm⟩:=I.of R hR;grind
 have ahB:∀R∈rc.filterMap (·.1),R<M.H.size:=fun R hR=>by
  obtain⟨j,hj,C,hC,hm⟩:=I.of R hR;obtain⟨ys,hy⟩:=I.js j hj;exact(ok.own R ⟨j,_,C,hy,rfl,hC,hm⟩).2
 have hh:∀n',(qJ M.h (u++[(nm,.mat 0 rows)])) n'=if n'=nm then some (.mat 0 rows) else qJ M.h u n':=fun n'=>by
  rw[lz,UH];by_cases e:n'=nm
  ·rw[if_pos e,e,yV]
  ·rw[if_neg e,yY _ _ e]
 have:=zL.move_ok (M:=M) (nm:=nm) (o':=.mat 0 rows) (C':=C) (h':=qJ M.h (u++[(nm,.mat 0 rows)])) (H':=M.H.push (.cells res e)) ok (fun j=>j∈u.map (·.1)) aU
  (fun j hj=>by
   obtain⟨p,hp,e⟩:=List.mem_map.1 hj;obtain⟨_,o,ho,iT⟩:=hg p hp;refine⟨o,by rw[←e];exact ho,iT,?_⟩;have bx:j≠nm:=by grind
   rw[hh,if_neg bx];exact Vr (by grind) hj)
  (by rw[hh,if_pos rfl]) (fun n' h1 h2=>by rw[hh,if_neg h2];exact En h1) (by simp) (fun b hb _=>pN hb) (fun b hb=>D4 (pN hb))
  (fun b hb=>by
   simp only[C,qE.fp,Option.toList_some,List.singleton_append,List.mem_cons] at hb;grind)
  (fun x=>by
   refine⟨rfl,I.len.symm,rfl,by rw[I.len];exact I.rlen,?_,res,e,A2,by rw[I.len];omega,fun k hk=>?_⟩
   ·simp only[C,qE.fp,Option.toList_some,List.singleton_append];exact List.nodup_cons.2 ⟨by grind,I.nd⟩
   ·obtain⟨rb,v,p1,p2,p3,p4⟩:=I.row k hk;refine⟨rb,v,p1,?_,p3.ext x,fun R hR=>?_⟩
    ·grind
    ·obtain⟨rv,er,p5,p6⟩:=p4 R hR;refine⟨rv,er,?_,p6⟩;have:R<M.H.size:=by grind
     show(M.H.push _)[R]? =_;grind)
 refine⟨_,_,_,hr,hw.2.1,hw.2.2.1,hw.2.2.2,by show M.H.push _=_;rw[hw.1,hM],rfl,this.1,this.2,C,κset_same _ _ _,_,c,rfl,?_⟩;refine⟨hc,0,by rw[hM],.inr (by simp),?_⟩;have:qX (M.H.push (.cells res e)) M.H.size=res.size:=by simp[qX]
 show(0+c)*1≤qX (M.H.push (.cells res e)) M.H.size;rw[this];omega
theorem Vt {P M w}(ok:Ok M)(hM:M.H=w.heap){mat nm t n parts aO v u}
  (hp:zP (Be M) parts aO) (h:yO (DL P mat nm M.h t n parts) v u):qK P (Instr.buildSlice t n aO.toArray) M w v u:=by
 unfold DL at h;split at h
 ·rename_i e hu aU;obtain⟨cS,h⟩:=gw h;have cS:=Nat.le_of_ble_eq_true cS;cases mat with
  |true=>
   split at h
   ·rename_i rows u' dK hf;obtain⟨hb,h⟩:=gw h;simp only[Bool.and_eq_true] at hb;obtain⟨_,rfl,rfl⟩:=gP h;obtain⟨i,z,h1,h2,h3,h4,h5,h6,h7⟩:=si dK;have O4:z.cells.toList=[.slice none 0 0]:=h4;have Vm:z.cells.size=1:=h7;have I0:xi M [] n (List.replicate n []) (madeCells z.cells (n*1)) (List.replicate n (none,0)):=by
     refine⟨by simp,by rw[size_madeCells,Nat.mul_one],by simp,fun k hk=>?_,by simp,by simp,by simp⟩;have hkn:k<n:=by simp_all
     refine⟨none,.slice none 0 0,by simp[hkn],?_,⟨rfl,by simp⟩,by simp⟩;simp only[madeCells];have:z.cells.toList[0]'(by grind)=.slice none 0 0:=by grind
     grind
    obtain⟨res,rc,b1,b2,b3⟩:=yR4 ok I0 (yYr hb.2) hp hf (by simpa using Em hb.1);have hr:=yQs (P:=P) (w:=w) (ty:=.sl (.int .i64)) hu h1 h2 h3 cS b1;have Vu:res.extract 0 n=res:=by
     have:=b2.size;simp_all
    refine Vs ok hM aU (by rw[Vu];exact b2) (by simp) (fun p hp=>⟨b3 p hp,?_⟩) (by simp) (by rw[b2.size];omega) (w.alloc (.cells res e)) ⟨rfl,rfl,rfl,rfl⟩ hr;obtain⟨ys,hy⟩:=b2.js p.1 (by grind);exact⟨_,hy,rfl⟩
   ·exact h.elim
  |false=>
   simp  at h;split at h
   ·rename_i ty dK;split at h
    ·rename_i xs u' hf;obtain⟨hb,h⟩:=gw h;obtain⟨_,rfl,rfl⟩:=gP h;exact Vq ok hM hp hu aU dK cS (yYr hb) hf
    ·exact h.elim
   ·exact h.elim
 ·exact h.elim
theorem Vv {H F}:∀t x rd,qF H F t x rd→∀j,j<t.size→∃v,rd j=some v∧v.one1=true
 |.int k,x,rd,h,j,hj
 |.bool,x,rd,h,j,hj=>by
  simp[Ty.size] at hj;obtain rfl:j=0:=by omega
  exact⟨_,h,rfl⟩
 |.sl t,x,rd,h,j,hj=>by
  simp[Ty.size] at hj;obtain rfl:j=0:=by omega
  obtain⟨A,n,c,h1,_⟩:=h;exact⟨_,h1,rfl⟩
 |.pair a b,x,rd,h,j,hj=>by
  simp[Ty.size] at hj;by_cases bd:j<a.size
  ·exact Vv a _ _ h.1 j bd
  ·have:=Vv b _ _ h.2 (j-a.size) (by omega);simp_all
def wZ (H : Array Go.Obj) (v : Value) (n size : Nat) (news : List Value) : Prop := ∃ A c, v = .slice A n c ∧ news.length = n * size ∧ (∀ u ∈ news, u.one1 = true) ∧ (match A with
 |none=>n=0
 |some a=>n=0∨a.spot=none∧∀j u,news[j]? =some u→yX H a.block (a.off+j)=some u)
theorem wZ.first {P H v n size news}(h:wZ H v n size news) w (hw:w.heap=H):(Builtin.firstCells size n v).run P w=.ok news.toArray w:=by
 obtain⟨A,c,rfl,hl,_,h⟩:=h;cases A with
 |none=>
  have h0:n=0:=h;subst h0;have:news=[]:=by grind
  subst this;rfl
 |some a=>
  rcases h with h0|⟨hs,h⟩
  ·subst h0;have:news=[]:=by grind
   subst this;simp[Builtin.firstCells,loadCells,loadCellsFrom]
  ·obtain⟨B,o,sp⟩:=a;cases hs;exact run_firstCells_some w size n ⟨B,o,none⟩ n c news hl (fun j u hu=>by rw[Addr.add_lit,tR,hw];simp_all)
theorem Vw {H F t}{ys:List t.den}{B o c}(hc:ys.length≤c)(h:∀i hi,qF H F t ys[i] (fun j=>yX H B (o+i*t.size+j))):
  ∃news,wZ H (.slice (some ⟨B,o,none⟩) ys.length c) ys.length t.size news∧∀i hi,qF H F t ys[i] (fun j=>news[i*t.size+j]?):=by
 have tot:∀k,k<ys.length*t.size→∃v,yX H B (o+k)=some v∧v.one1=true:=by
  intro k hk;have hi:k/t.size<ys.length:=Nat.div_lt_of_lt_mul (by grind);obtain⟨v,h1,h2⟩:=Vv t _ _ (h _ hi) (k%t.size) (Nat.mod_lt _ t.size_pos);refine⟨v,?_,h2⟩;rw[Nat.add_assoc,Nat.mul_comm,Nat.div_add_mod] at h1;exact h1
 refine⟨(List.range (ys.length*t.size)).map fun k=>(yX H B (o+k)).getD undef,⟨_,c,rfl,by simp,fun u hu=>?_,.inr ⟨rfl,fun j u hu=>?_⟩⟩,fun i hi=>?_⟩
 ·grind
 ·grind
 ·refine vD (by simp) (by simp) t _ _ _ (fun j hj=>?_) (h i hi);have aT:=Nat.mul_le_mul_right t.size (show i+1≤ys.length by omega);grind
theorem JW {H F t A c}:∃news,wZ H (.slice A 0 c) 0 t.size news∧∀i hi,qF H F t ([]:List t.den)[i] (fun j=>news[i*t.size+j]?):=
 ⟨[],⟨A,c,rfl,by simp,by simp,by grind⟩,by simp⟩
theorem Vx {H F t}{ys:List t.den}{v}(h:qF H F (.sl t) ys (fun _=>some v)):
  ∃news,wZ H v ys.length t.size news∧∀i hi,qF H F t ys[i] (fun j=>news[i*t.size+j]?):=by
 simp[qF] at h;obtain⟨A,n,c,rfl,rfl,hc,h⟩:=h;rcases h with⟨rfl,_⟩|⟨B,o,rfl,hB,hE⟩
 ·exact JW
 ·exact Vw hc hE
theorem Bf {M own t xs C id r v}(hC:M.κ id=some C)(hO:vA M (.arr own t xs) C)(hv:zZ M (.osl id r) v):
  ∃news,wZ M.H v (j6 xs r).length t.size news∧∀i hi,qF M.H M.G t (j6 xs r)[i] (fun j=>news[i*t.size+j]?):=by
 obtain⟨h1,h2,h3,h4⟩:=hO;obtain⟨C',aF,hv⟩:=hv;rw[hC] at aF;cases aF;have key:∀lo n,lo+n≤C.len→jE M.H C lo n v→∃news,wZ M.H v (qO xs lo n).length t.size news∧∀i (hi:i<(qO xs lo n).length),qF M.H M.G t (qO xs lo n)[i] (fun j=>news[i*t.size+j]?):=by
  intro lo n hn hS;obtain⟨A,c,rfl,hS⟩:=hS;have hl:=D9 (xs:=xs) (lo:=lo) (n:=n) (by omega);by_cases h0:n=0
  ·subst h0;have e:qO xs lo 0=[]:=by rfl
   exact JW
  ·cases hB:C.blk with
   |none=>simp_all
   |some B=>
    rw[hB] at hS h4;obtain⟨hc,a,rfl,ha,_⟩:=hS;obtain⟨vals,e,h5,h6,h7,h8⟩:=h4;have rZ:a=lo*C.sz:=by omega
    have := Vw (H := M.H) (F := M.G) (ys := qO xs lo n) (B := B) (o := a) (c := c) (by omega) (fun i hi=>by
     obtain⟨bI,e1⟩:=OU hi;rw[e1];refine vD (by simp) (by simp) t _ _ _ (fun j hj=>?_) (h8 (lo+i) bI);rw[rZ,h2,←Nat.add_mul];simp[yX,h5])
    simp_all
 cases r with
 |none=>
  have:=key 0 C.len (by omega) hv;rw[h1,yOb] at this;exact this
 |some p=>exact key p.1 p.2 hv.1 hv.2.1
theorem sj {P w t e i A sLen sCap n size x news} T (hu:P.underlying t=some (.slice e))(hi:P.info? e=some i)(hs:i.size=size)
  (hx : wZ w.heap x n size news) (aY : sLen + n ≤ sCap) w' (hw:match A with
   |none=>w'=w
   |some a=>(storeCells (a.add (sLen*size)) news).run P w=.ok () w'):
  (Builtin.append_ #[t,t] T #[.slice A sLen sCap,x]).run P w=.ok (.slice A (sLen+n) sCap) w':=by
 have hf:=hx.first (P:=P) w rfl
 obtain⟨X,c,rfl,_⟩:=hx;subst hs;cases A with
 |none=>
  subst hw;simp[Builtin.append_,run_underlying hu,sizeOf,typeInfo,hi,Builtin.lenOf,aY,hf]
 |some a=>simp[Builtin.append_,run_underlying hu,sizeOf,typeInfo,hi,Builtin.lenOf,aY,hf,hw]
theorem Vy {P}{w}{t e}{i}{z}{A sLen sCap n size x olds news} T (hu:P.underlying t=some (.slice e))(hi:P.info? e=some i)(hz:i.zero=some z)
  (hs:i.size=size) (hb:wZ w.heap (.slice A sLen sCap) sLen size olds) (hx:wZ w.heap x n size news) (hg:sCap<sLen+n) (h46:(sLen+n)*i.bytes≤140737488355328) (ahC:sLen+n≤140737488355328):
  (Builtin.append_ #[t,t] T #[.slice A sLen sCap,x]).run P w=
   .ok (.slice (some ⟨w.heap.size,0,none⟩) (sLen+n) (grownCap w (sLen+n) sCap e)) (w.drew.alloc (.cells (olds.toArray++news.toArray++Builtin.zeroCells z.cells (grownCap w (sLen+n) sCap e-(sLen+n))) e)):=by
 have hf:=hx.first (P:=P) w.drew rfl
 have hfo:=hb.first (P:=P) w.drew rfl
 obtain⟨X,c,rfl,_⟩:=hx;subst hs;have hn:¬(sLen+n≤sCap):=by omega
 have ahD:¬(9223372036854775807<((sLen:Int)+(n:Int))):=by omega
 have ahE:¬(281474976710656<Builtin.nextslicecap (sLen+n) sCap*i.bytes):=by
  have h1:=Nat.mul_le_mul_right i.bytes (nextslicecap_le hg);grind
 simp[Builtin.append_,run_underlying hu,sizeOf,typeInfo,zeroValue,hi,hz,Builtin.lenOf,Question.forced,hf,hfo,newRow,grownCap];grind
theorem Eo z n:(Builtin.zeroCells z n).size=n*z.size:=by simp[Builtin.zeroCells]
theorem Vz {H F t}{xs ys:List t.den}{olds news:List Value}(hl:olds.length=xs.length*t.size)(hx:∀i h,qF H F t xs[i] (fun j=>olds[i*t.size+j]?))
  (hy:∀i h,qF H F t ys[i] (fun j=>news[i*t.size+j]?)):∀i h,qF H F t (xs++ys)[i] (fun j=>(olds++news)[i*t.size+j]?):=by
 intro i hi;by_cases h:i<xs.length
 ·rw[List.getElem_append_left h];refine vD (by simp) (by simp) t _ _ _ (fun j hj=>?_) (hx i h);have:=Nat.mul_le_mul_right t.size (show i+1≤xs.length by omega);grind
 ·rw[List.getElem_append_right (by omega)];refine vD (by simp) (by simp) t _ _ _ (fun j hj=>?_) (hy (i-xs.length) (by grind));have:=Nat.mul_le_mul_right t.size (show xs.length≤i by omega);rw[List.getElem?_append_right (by omega),hl]
  congr 1
  rw[Nat.sub_mul];omega
def JX (M:zL)(w:World)(v:zY)(u:vG)(rv:Value)(w':World):Prop:=
 ∃M',w'.os=w.os∧w'.tape=w.tape∧w'.output=w.output∧M'.H=w'.heap∧M'.h=qJ M.h u∧Ok M'∧yR M M'∧zX M' v rv
theorem JX.runs {P s M w w' v u rv}(h:JX M w v u rv w')(hr:s.run P w=.ok rv w'):qK P s M w v u:=by
 obtain⟨M',h⟩:=h;exact⟨_,_,M',hr,h⟩
theorem ySq {M w}(ok:Ok M)(hM:M.H=w.heap){nm t zs us e c}{u:vG}(aU:M.h nm=none)
  (hg:∀p∈u,p.2=.gone∧∃o,M.h p.1=some o∧o.owned=true) (hc:zs.length≤c) (hs:c*t.size≤us.size) (hx:∀i h,qF M.H M.G t zs[i] (fun j=>us[i*t.size+j]?))
  {w':World} (hw:w'.heap=w.heap.push (.cells us e)∧w'.os=w.os∧w'.tape=w.tape∧w'.output=w.output):
  JX M w (.c (.osl nm none)) (u++[(nm,.arr true t zs)]) (.slice (some ⟨w.heap.size,0,none⟩) zs.length c) w':=by
 let C:qE:=⟨some M.H.size,zs.length,t.size,0,[]⟩;have hh:∀n',(qJ M.h (u++[(nm,.arr true t zs)])) n'=if n'=nm then some (.arr true t zs) else qJ M.h u n':=fun n'=>by
  rw[lz,UH];by_cases e:n'=nm
  ·rw[if_pos e,e,yV]
  ·rw[if_neg e,yY _ _ e]
 have hle:=Nat.mul_le_mul_right t.size hc;have:=zL.move_ok (M:=M) (nm:=nm) (o':=.arr true t zs) (C':=C) (h':=qJ M.h (u++[(nm,.arr true t zs)])) (H':=M.H.push (.cells us e)) ok (fun j=>j∈u.map (·.1)) aU
  (fun j hj=>by
   obtain⟨p,hp,e⟩:=List.mem_map.1 hj;obtain⟨_,o,ho,iT⟩:=hg p hp;refine⟨o,by simp_all,iT,?_⟩;have bx:j≠nm:=by grind
   rw[hh,if_neg bx];exact Vr (by grind) hj)
  (by simp_all) (fun n' h1 h2=>by rw[hh,if_neg h2];exact En h1) (by simp) (by grind) (fun b hb=>D4 (pN hb))
  (fun b hb=>by
   simp only[C,qE.fp] at hb;simp_all)
  (fun x=>⟨rfl,rfl,(by grind),us,e,A2,by simp,by omega,fun i hi=>vD x.G x.sameG t _ _ _ (by simp) (hx i hi)⟩)
 refine⟨_,hw.2.1,hw.2.2.1,hw.2.2.2,by show M.H.push _=_;simp_all,rfl,this.1,this.2,C,κset_same _ _ _,_,c,rfl,?_⟩;refine⟨hc,0,by rw[hM],by simp,?_⟩;have:qX (M.H.push (.cells us e)) M.H.size=us.size:=by simp[qX]
 show(0+c)*t.size≤qX (M.H.push (.cells us e)) M.H.size;simp_all
theorem yNt {P M w}(ok:Ok M)(hM:M.H=w.heap){nm t zs us e s c}{u:vG}(aU:M.h nm=none)
  (hg:∀p∈u,p.2=.gone∧∃o,M.h p.1=some o∧o.owned=true) (hc:zs.length≤c) (hs:c*t.size≤us.size) (hx:∀i h,qF M.H M.G t zs[i] (fun j=>us[i*t.size+j]?))
  {w'} (hr:s.run P w=.ok (.slice (some ⟨w.heap.size,0,none⟩) zs.length c) w') (hw:w'.heap=w.heap.push (.cells us e)∧w'.os=w.os∧w'.tape=w.tape∧w'.output=w.output):
  qK P s M w (.c (.osl nm none)) (u++[(nm,.arr true t zs)]):=
 (ySq ok hM aU hg hc hs hx hw).runs hr
theorem vCz {M:zL}{w:World}(ok:Ok M)(hM:M.H=w.heap){id nm:Nat}{t:Ty}{iu zs:List t.den}{C:qE}{H':Array Go.Obj}{c:Nat}{A:Option Addr}{w':World}
  (an:M.h id=some (.arr true t iu)) (hC:M.κ id=some C) (aU:M.h nm=none) (dH:H'.size=M.H.size) (hH:∀b,b∉C.fp→H'[b]? =M.H[b]?) (cR:∀b,qX H' b=qX M.H b)
  (hx:∀M',yT M M'→M'.H=H'→M'.G=M.G→match C.blk with
   |none=>zs=[]
   |some B=>∃vals e,H'[B]? =some (.cells vals e (0,0))∧zs.length*t.size≤vals.size∧∀i (h:i<zs.length),qF M'.H M'.G t zs[i] (fun j=>vals[i*t.size+j]?))
  (hA:match C.blk with
   |none=>A=none∧zs.length=0∧c=0
   |some B=>zs.length≤c∧∃a,A=some ⟨B,a,none⟩∧(c=0∨a=0)∧c*t.size≤qX M.H B)
  (hw:w'.heap=H'∧w'.os=w.os∧w'.tape=w.tape∧w'.output=w.output):
  JX M w (.c (.osl nm none)) [(id,.gone),(nm,.arr true t zs)] (.slice A zs.length c) w':=by
 obtain⟨C0,sk,hO⟩:=ok.obj id _ an;rw[hC] at sk;cases sk;obtain⟨fr,ff⟩:=JK hO;have bx:id≠nm:=by grind
 let C':qE:=⟨C.blk,zs.length,t.size,0,[]⟩;have hh:∀n',(qJ M.h [(id,.gone),(nm,.arr true t zs)]) n'=if n'=nm then some (.arr true t zs) else if n'=id then some .gone else M.h n':=fun n'=>by
  show(yM (yM M.h id .gone) nm _) n'=_;by_cases e:n'=nm
  ·rw[if_pos e,e,yV]
  ·rw[if_neg e,yY _ _ e];by_cases e2:n'=id
   ·rw[if_pos e2,e2,yV]
   ·rw[if_neg e2,yY _ _ e2]
 have:=zL.move_ok (M:=M) (nm:=nm) (o':=.arr true t zs) (C':=C') (h':=qJ M.h [(id,.gone),(nm,.arr true t zs)]) (H':=H') ok (fun j=>j=id) aU
  (fun j hj=>⟨.arr true t iu,by rw[hj];exact an,rfl,by simp_all⟩)
  (by rw[hh,if_pos rfl]) (by grind) (by omega) (by grind) (fun b _=>cR b)
  (fun b hb=>.inr ⟨id,C,rfl,hC,by
   simp only[C',qE.fp,List.filterMap_nil,List.append_nil] at hb;rw[ff];exact hb⟩)
  (fun x=>by
   refine⟨rfl,rfl,(by grind),?_⟩;have:=hx _ x rfl rfl;show match C.blk with
    |none=>_
    |some B=>_
   cases hB:C.blk with
   |none=>simp_all
   |some B=>
    rw[hB] at this;obtain⟨vals,e,h1,h2,h3⟩:=this;exact⟨vals,e,h1,by simp,h2,h3⟩)
 refine⟨_,hw.2.1,hw.2.2.1,hw.2.2.2,by rw[hw.1];rfl,rfl,this.1,this.2,C',κset_same _ _ _,_,c,rfl,?_⟩;show match C.blk with
  |none=>_
  |some B=>_
 cases hB:C.blk with
 |none=>rw[hB] at hA;exact hA
 |some B=>
  rw[hB] at hA;obtain⟨h1,a,h2,h3,h4⟩:=hA;refine⟨h1,a,h2,by simpa using h3,?_⟩;show(0+c)*t.size≤qX H' B;simp_all
theorem VA {P M w}(ok:Ok M)(hM:M.H=w.heap){id nm t iu zs C H' s c A w'}
  (an:M.h id=some (.arr true t iu)) (hC:M.κ id=some C) (aU:M.h nm=none) (dH:H'.size=M.H.size) (hH:∀b,b∉C.fp→H'[b]? =M.H[b]?) (cR:∀b,qX H' b=qX M.H b)
  (hx:∀M',yT M M'→M'.H=H'→M'.G=M.G→match C.blk with
   |none=>zs=[]
   |some B=>∃vals e,H'[B]? =some (.cells vals e (0,0))∧zs.length*t.size≤vals.size∧∀i h,qF M'.H M'.G t zs[i] (fun j=>vals[i*t.size+j]?))
  (hA:match C.blk with
   |none=>A=none∧zs.length=0∧c=0
   |some B=>zs.length≤c∧∃a,A=some ⟨B,a,none⟩∧(c=0∨a=0)∧c*t.size≤qX M.H B)
  (hw:w'.heap=H'∧w'.os=w.os∧w'.tape=w.tape∧w'.output=w.output) (hr:s.run P w=.ok (.slice A zs.length c) w'):
  qK P s M w (.c (.osl nm none)) [(id,.gone),(nm,.arr true t zs)]:=
 (vCz ok hM an hC aU dH hH cR hx hA hw).runs hr
theorem JY {n b}(h:(Nat.ble (n*b) 140737488355328&&Nat.ble n 140737488355328)=true):n*b≤140737488355328∧n≤140737488355328:=by
 simp_all
theorem VB {H H' F F'}:∀t x rd,t.flat=true→qF H F t x rd→qF H' F' t x rd
 |.int k,n,rd,_,h
 |.bool,n,rd,_,h=>h
 |.pair a b,p,rd,hf,h=>by
  simp[Ty.flat] at hf;exact⟨VB a _ _ hf.1 h.1,VB b _ _ hf.2 h.2⟩
theorem yLv {M:zL}{sh s}{xs:List s.den}{v}(hs:(sh||s.flat)=true)(hv:qF M.H (bif sh then M.G else M.F) (.sl s) xs (fun _=>some v)):
  ∃news,wZ M.H v xs.length s.size news∧∀i hi,qF M.H M.G s xs[i] (fun j=>news[i*s.size+j]?):=by
 obtain⟨news,h1,h2⟩:=Vx hv;refine⟨news,h1,fun i hi=>?_⟩;cases sh with
 |true=>simp_all
 |false=>exact VB _ _ _ hs (h2 i hi)
theorem vF1 {M}(ok:Ok M){t x ys u v}(hv:zZ M x v)(h:tN M.h t x=some (ys,u)):
  u=[]∧∃news,wZ M.H v ys.length t.size news∧∀i hi,qF M.H M.G t ys[i] (fun j=>news[i*t.size+j]?):=by
 unfold tN at h;split at h
 ·cases h;have e:v=.slice none 0 0:=hv;subst e;exact⟨rfl,JW⟩
 ·rename_i sh s xs;cases hs:(sh||s.flat) with
  |false=>simp_all
  |true=>
   rw[hs] at h;simp  at h;obtain⟨zs,hz,rfl,rfl⟩:=h;obtain⟨e,hz⟩:=lA hz;subst e;subst hz;exact⟨rfl,yLv hs hv⟩
 ·rename_i sh s xs;cases hs:(sh||s.flat) with
  |false=>rw[hs] at h;cases h
  |true=>
   rw[hs] at h;simp  at h;obtain⟨zs,hz,rfl,rfl⟩:=h;obtain⟨e,hz⟩:=lA hz;subst e;subst hz;exact⟨rfl,yLv hs hv.2⟩
 ·split at h
  ·rename_i own s xs an;simp  at h;obtain⟨zs,hz,rfl,rfl⟩:=h;obtain⟨e,hz⟩:=lA hz;subst e;subst hz;obtain⟨C,hC,hO⟩:=ok.obj _ _ an;exact⟨rfl,Bf hC hO hv⟩
  ·cases h
 ·cases h
theorem VC {P M w}(ok:Ok M)(hM:M.H=w.heap){nm t e T ty x ys news}(hu:P.underlying t=some (.slice e))(dK:kB P e=some ty)(aU:M.h nm=none)
  (hx:wZ M.H x ys.length ty.size news) (hE:∀i hi,qF M.H M.G ty ys[i] (fun j=>news[i*ty.size+j]?)) (aY:ys.length*P.bytesOf e≤140737488355328∧ys.length≤140737488355328):
  qK P (Builtin.append_ #[t,t] T #[.slice none 0 0,x]) M w (.c (.osl nm none)) [(nm,.arr true ty ys)]:=by
 obtain⟨i,z,h1,h2,h3,h4,h5,h6,h7⟩:=si dK;by_cases h0:ys.length=0
 ·have hy:ys=[]:=by grind
  subst hy;have hr:=sj (P:=P) (w:=w) (A:=none) (sLen:=0) (sCap:=0) T hu h1 h3 (by rw[←hM];exact hx) (by simp) w rfl;let C:qE:=⟨none,0,ty.size,0,[]⟩;have:=zL.move_ok (M:=M) (nm:=nm) (o':=.arr true ty []) (C':=C) (h':=yM M.h nm (.arr true ty [])) (H':=M.H) ok (fun _=>False) aU (by simp) (yV _ _ _)
   (fun n' _ h2=>yY _ _ h2) (by simp) (by simp) (by simp) (nofun) (fun x=>⟨rfl,rfl,by grind,rfl⟩)
  exact⟨_,_,M.move nm C (yM M.h nm (.arr true ty [])) M.H,hr,rfl,rfl,rfl,hM,rfl,this.1,this.2,C,κset_same _ _ _,_,_,rfl,rfl,rfl,rfl⟩
 ·have hb:wZ w.heap (.slice none 0 0) 0 ty.size []:=⟨none,0,rfl,by simp,by simp,rfl⟩;have hr:=Vy (P:=P) (w:=w) T hu h1 h2 h3 hb (by rw[←hM];exact hx) (by omega) (by simp_all) (by omega);simp  at hr;have hlen:news.length=ys.length*ty.size:=hx.choose_spec.choose_spec.2.1;have oR:=grownCap_ge w ys.length 0 e;refine yNt (u:=[]) ok hM aU (by simp) oR ?_ (fun i hi=>?_) hr ⟨rfl,rfl,rfl,rfl⟩
  ·simp[Eo,h7,hlen,←Nat.add_mul];simp_all
  ·refine vD (by simp) (by simp) ty _ _ _ (fun j hj=>?_) (hE i hi);have:=Nat.mul_le_mul_right ty.size (show i+1≤ys.length by omega);grind
theorem VD {P}{M w}(ok:Ok M)(hM:M.H=w.heap){id nm t e T ty x b iu ys r news}(hu:P.underlying t=some (.slice e))(dK:kB P e=some ty)
  (aU:M.h nm=none) (an:M.h id=some (.arr true ty iu)) (hb:zZ M (.osl id r) b) (tY:match r with|none=>True|some (lo,_)=>lo=0)
  (hx:wZ M.H x ys.length ty.size news) (hE:∀i hi,qF M.H M.G ty ys[i] (fun j=>news[i*ty.size+j]?))
  (aY:((j6 iu r).length+ys.length)*P.bytesOf e≤140737488355328∧(j6 iu r).length+ys.length≤140737488355328):
  qK P (Builtin.append_ #[t,t] T #[b,x]) M w (.c (.osl nm none)) [(id,.gone),(nm,.arr true ty (j6 iu r++ys))]:=by
 obtain⟨i,z,h1,h2,h3,h4,h5,h6,h7⟩:=si dK;obtain⟨C,hC,hO⟩:=ok.obj id _ an;obtain⟨olds,ho,hEo⟩:=Bf hC hO hb;have hlen:news.length=ys.length*ty.size:=hx.choose_spec.choose_spec.2.1;have mY:olds.length=(j6 iu r).length*ty.size:=ho.choose_spec.choose_spec.2.1;obtain⟨C',aF,hS⟩:=hb;rw[hC] at aF;cases aF;have oW:∃n,(j6 iu r).length=n∧jE M.H C 0 n b:=by
  cases r with
  |none=>exact⟨C.len,by rw[hO.1];rfl,hS⟩
  |some p=>
   obtain⟨lo,n⟩:=p;have:lo=0:=tY;subst this;exact⟨n,D9 (by have:=hO.1;have:=hS.1;omega),hS.2.1⟩
 obtain⟨n,hn,A,sCap,rfl,oW⟩:=oW;rw[hn] at mY ho aY;have bn:=Vz (H:=M.H) (F:=M.G) (t:=ty) (xs:=j6 iu r) (ys:=ys) (olds:=olds) (news:=news) (by rw[hn];exact mY) hEo hE;have sm:(j6 iu r++ys).length=n+ys.length:=by rw[List.length_append,hn]
 by_cases cT:n+ys.length≤sCap
 ·
  cases hB:C.blk with
  |none=>
   rw[hB] at oW;obtain⟨rfl,rfl,rfl⟩:=oW;have hr:=sj (P:=P) (w:=w) (A:=none) (sLen:=0) (sCap:=0) T hu h1 h3 (by rw[←hM];exact hx) cT w rfl;rw[←sm] at hr;refine VA (s:=Builtin.append_ #[t,t] T #[.slice none 0 0,x]) (H':=M.H) ok hM an hC aU rfl (fun _ _=>rfl) (fun _=>rfl) (fun M' _ _ _=>?_) ?_ ⟨hM.symm,rfl,rfl,rfl⟩ hr
   ·rw[hB];exact List.eq_nil_of_length_eq_zero (by omega)
   ·rw[hB];exact⟨rfl,by omega,rfl⟩
  |some B=>
   rw[hB] at oW;obtain⟨hc,a,rfl,ha,hs⟩:=oW;obtain⟨k1,k2,k3,k4⟩:=hO;rw[hB] at k4;obtain⟨vals,ev,k5,k6,k7,k8⟩:=k4;rw[Nat.zero_mul] at ha;rw[Nat.zero_add,k2] at hs;have cR:qX M.H B=vals.size:=by simp only[qX,k5]
   rw[cR] at hs;have ka:w.heap[B]? =some (.cells vals ev (0,0)):=by rw[←hM];exact k5
   by_cases h0:sCap=0
   ·
    have Ep:n=0:=by omega
    have VE:ys.length=0:=by omega
    have hr := sj (P := P) (w := w) (A := some ⟨B, a, none⟩) (sLen := n) (sCap := sCap) T hu h1 h3 (by rw [← hM]; exact hx) cT w (by
     have:news=[]:=List.eq_nil_of_length_eq_zero (by rw[hlen,VE,Nat.zero_mul]);rw[this];rfl)
    rw[←sm] at hr;have O4:j6 iu r++ys=[]:=List.eq_nil_of_length_eq_zero (by omega);refine VA (s:=Builtin.append_ #[t,t] T #[.slice (some ⟨B,a,none⟩) n sCap,x]) (H':=M.H) ok hM an hC aU rfl (fun _ _=>rfl) (fun _=>rfl) (fun M' _ _ _=>?_) ?_ ⟨hM.symm,rfl,rfl,rfl⟩ hr
    ·rw[hB];refine⟨vals,ev,k5,by rw[O4];simp,fun i hi=>?_⟩;rw[O4] at hi;simp at hi
    ·rw[hB];exact⟨by omega,a,rfl,.inl h0,by rw[h0];simp⟩
   ·have nM:a=0:=by rcases ha with ha|ha<;>omega
    subst nM;have hle:=Nat.mul_le_mul_right ty.size cT;rw[Nat.add_mul] at hle;have aM:n*ty.size+news.length≤vals.size:=by omega
    have j7:=run_storeCells_at (P:=P) B (n*ty.size) ev news 0 vals w ka (by simpa using aM) (fun v hv=>A3 (hx.choose_spec.choose_spec.2.2.1 v hv));simp only[Nat.add_zero] at j7;have hr:=sj (P:=P) (w:=w) (A:=some ⟨B,0,none⟩) (sLen:=n) (sCap:=sCap) T hu h1 h3 (by rw[←hM];exact hx) cT (w.setRow B (yZ vals (n*ty.size) news)) (by show(storeCells (Addr.add ⟨B,0,none⟩ (n*ty.size)) news).run P w=_;rw[Addr.add_lit,Nat.zero_add];exact j7);rw[←sm] at hr;obtain⟨f1,f2,f3,f4⟩:=oT ka (new:=yZ vals (n*ty.size) news) (gQ aM);refine VA (s:=Builtin.append_ #[t,t] T #[.slice (some ⟨B,0,none⟩) n sCap,x]) (H':=(w.setRow B (yZ vals (n*ty.size) news)).heap) ok hM an hC aU (by rw[hM];exact f1)
     (fun b hb=>by rw[hM];exact f3 b fun e=>hb (e▸fQ hB)) (fun b=>by rw[hM];exact f4 b) (fun M' xt hH hG=>?_) ?_ ⟨rfl,rfl,rfl,rfl⟩ hr
    ·rw[hB];refine⟨_,ev,f2,by rw[sm,gQ aM,Nat.add_mul];omega,fun i hi=>?_⟩;refine vD xt.G xt.sameG ty _ _ _ (fun j hj=>?_) (bn i hi);have aT:=Nat.mul_le_mul_right ty.size (show i+1≤n+ys.length by omega);rw[Nat.add_mul,Nat.add_mul] at aT;rw[jY aM];by_cases bd:i*ty.size+j<n*ty.size
     ·rw[if_pos bd,List.getElem?_append_left (by omega)];obtain⟨A',c',e1,_,_,hold⟩:=ho;simp only[Value.slice.injEq] at e1;obtain⟨rfl,_,rfl⟩:=e1;rcases hold with Ep|⟨_,hold⟩
      ·rw[Ep] at bd;omega
      ·have sn:i*ty.size+j<olds.length:=by omega
       have:=hold (i*ty.size+j) olds[i*ty.size+j] (List.getElem?_eq_getElem sn);rw[List.getElem?_eq_getElem sn,←this];simp only[yX,k5,Nat.zero_add]
     ·rw[if_neg bd,if_pos (by omega),List.getElem?_append_right (by omega),mY]
    ·rw[hB];exact by grind
 ·
  have hr:=Vy (P:=P) (w:=w) T hu h1 h2 h3 (by rw[←hM];exact ho) (by rw[←hM];exact hx) (by omega) (by rw[h6] at aY;exact aY.1) aY.2;have oR:=grownCap_ge w (n+ys.length) sCap e;rw[←sm] at hr oR;refine yNt (s:=Builtin.append_ #[t,t] T #[.slice A n sCap,x]) (u:=[(id,.gone)]) ok hM aU (fun p hp=>?_) oR ?_ (fun i hi=>?_) hr ⟨rfl,rfl,rfl,rfl⟩
  ·simp only[List.mem_singleton] at hp;subst hp;exact⟨rfl,_,an,rfl⟩
  ·simp only[Array.size_append,List.size_toArray,Eo,h7,hlen,mY,←Nat.add_mul];exact Nat.le_of_eq (by congr 1;omega)
  ·refine vD (fun _ h=>h) (fun _ _=>rfl) ty _ _ _ (fun j hj=>?_) (bn i hi);have:=Nat.mul_le_mul_right ty.size (show i+1≤n+ys.length by omega);rw[Nat.add_mul,Nat.add_mul] at this;rw[Array.getElem?_append_left (by simp;omega)];simp
def Er (H:Array Go.Obj)(row:List Int)(m:Option (Option Nat×Nat))(c:Option Value):Prop:=∃rb v,m=some (rb,row.length)∧c=some v∧mR H rb row.length v∧
 (∀R,rb=some R→∃rv er,H[R]? =some (.cells rv er (0,0))∧∀j (h':j<row.length),rv[j]? =some (.int .i64 row[j]))
theorem vJt {M ver xs C}(h:vA M (.mat ver xs) C):C.len=xs.length∧C.sz=1∧C.rows.length=xs.length∧C.fp.Nodup∧
  ∃cI:List Value,cI.length=xs.length∧(∀k (h:k<xs.length),Er M.H xs[k] C.rows[k]? cI[k]?)∧
   (match C.blk with
    |none=>xs=[]
    |some B=>∃vals e,M.H[B]? =some (.cells vals e (0,0))∧xs.length≤vals.size∧∀k,k<xs.length→vals[k]? =cI[k]?):=by
 obtain⟨h1,h2,h3,h4,h5,h6⟩:=h;refine⟨h2,h3,h4,h5,?_⟩;cases hB:C.blk with
 |none=>
  simp_all
 |some B=>
  rw[hB] at h6;obtain⟨vals,e,h7,h8,h9⟩:=h6;refine⟨vals.toList.take xs.length,by simp;omega,fun k hk=>?_,vals,e,h7,h8,by grind⟩;obtain⟨rb,v,k1,k2,k3,k4⟩:=h9 k hk;exact⟨rb,v,k1,by grind,k3,k4⟩
theorem Er.one {H row m v}(h:Er H row m (some v)):v.one1=true:=by
 obtain⟨rb,v',_,e,h,_⟩:=h;cases e;exact h.one
theorem ySe {M}{xs:List (List Int)}{C id v}(hC:M.κ id=some C)(hv:zZ M (.osl id none) v){cI}(hl:cI.length=xs.length)(hlen:C.len=xs.length)(dH:C.sz=1)
  (bR : ∀ u ∈ cI, u.one1 = true) (hb:match C.blk with
    |none=>xs=[]
    |some B=>∃vals e,M.H[B]? =some (.cells vals e (0,0))∧xs.length≤vals.size∧∀k,k<xs.length→vals[k]? =cI[k]?):wZ M.H v xs.length 1 cI:=by
 obtain⟨C',aF,A,c,rfl,hS⟩:=hv;rw[hC] at aF;cases aF;rw[hlen];refine⟨A,c,rfl,by omega,bR,?_⟩;cases hB:C.blk with
 |none=>
  simp_all
 |some B=>
  rw[hB] at hS hb;obtain⟨hc,a,rfl,ha,_⟩:=hS;obtain⟨vals,e,h1,h2,h3⟩:=hb;by_cases h0:xs.length=0
  ·omega
  ·refine .inr ⟨rfl,fun j u hu=>?_⟩;have nM:a=0:=by omega
   have hj:j<xs.length:=by
    grind
   simp[yX];simp_all
theorem vEi {C D:qE}(hC:C.fp.Nodup)(hD:D.fp.Nodup)(dZ:∀b,b∈C.fp→b∉D.fp):((C.rows++D.rows).filterMap (·.1)).Nodup:=by
 rw[List.filterMap_append];refine List.nodup_append.2 ⟨(List.nodup_append.1 hC).2.1,(List.nodup_append.1 hD).2.1,fun a ha b hb e=>?_⟩;exact dZ a (by simp[qE.fp];simp_all) (by simp[qE.fp];simp_all)
theorem O7 {P M w w'}(ok:Ok M)(hM:M.H=w.heap){id jd nm v1 v2 xs ys C Cj C' s A c H'}
  (an:M.h id=some (.mat v1 xs)) (dh:M.h jd=some (.mat v2 ys)) (bx:id≠jd) (hC:M.κ id=some C) (eM:M.κ jd=some Cj) (aU:M.h nm=none) (dH:M.H.size≤H'.size)
  (hH:∀b,b<M.H.size→C.blk≠some b→H'[b]? =M.H[b]?) (cR:∀b,b<M.H.size→qX H' b=qX M.H b)
  (hl:C'.len=(xs++ys).length) (Es:C'.sz=1) (Bg:C'.ver=0) (mZ:C'.rows=C.rows++Cj.rows) (VF:∀B,C'.blk=some B→(M.H.size≤B∧B<H'.size)∨C.blk=some B)
  (hx:match C'.blk with
   |none=>xs++ys=[]
   |some B=>∃vals e,H'[B]? =some (.cells vals e (0,0))∧(xs++ys).length≤vals.size∧∀k (h:k<(xs++ys).length),Er M.H (xs++ys)[k] (C.rows++Cj.rows)[k]? vals[k]?)
  (hA:jE H' C' 0 C'.len (.slice A (xs++ys).length c))
  (hw:w'.heap=H'∧w'.os=w.os∧w'.tape=w.tape∧w'.output=w.output) (hr:s.run P w=.ok (.slice A (xs++ys).length c) w'):
  qK P s M w (.c (.osl nm none)) [(id,.gone),(jd,.gone),(nm,.mat 0 (xs++ys))]:=by
 obtain⟨C0,sk,hO⟩:=ok.obj id _ an;rw[hC] at sk;cases sk;obtain⟨C1,iS,nN⟩:=ok.obj jd _ dh;rw[eM] at iS;cases iS;have VG:=hO.2.2.2.2.1;have ndD:=nN.2.2.2.2.1;have dZ:∀b,b∈C.fp→b∉Cj.fp:=fun b h1 h2=>ok.disj id jd _ _ C Cj b bx an dh rfl rfl hC eM h1 h2
 have O8:id≠nm:=by grind
 have hnj:jd≠nm:=by grind
 have hh:∀n',(qJ M.h [(id,.gone),(jd,.gone),(nm,.mat 0 (xs++ys))]) n'=if n'=nm then some (.mat 0 (xs++ys)) else if n'=jd then some .gone else if n'=id then some .gone else M.h n':=fun n'=>by
  show(yM (yM (yM M.h id .gone) jd .gone) nm _) n'=_;by_cases e:n'=nm
  ·rw[if_pos e,e,yV]
  ·rw[if_neg e,yY _ _ e];by_cases e2:n'=jd
   ·rw[if_pos e2,e2,yV]
   ·rw[if_neg e2,yY _ _ e2];by_cases e3:n'=id
    ·rw[if_pos e3,e3,yV]
    ·rw[if_neg e3,yY _ _ e3]
 have JZ:∀b∈C.fp,b<M.H.size:=fun b hb=>(ok.own b ⟨id,_,C,an,rfl,hC,hb⟩).2
 have J0:∀b∈Cj.fp,b<M.H.size:=fun b hb=>(ok.own b ⟨jd,_,Cj,dh,rfl,eM,hb⟩).2
 have dp:∀R∈(C.rows++Cj.rows).filterMap (·.1),R∈C.fp∧C.blk≠some R∨R∈Cj.fp:=fun R hR=>by
  rw[List.filterMap_append] at hR;rcases List.mem_append.1 hR with h|h
  ·refine .inl ⟨by simp only[qE.fp,List.mem_append];exact .inr h,fun e=>?_⟩;exact(List.nodup_append.1 VG).2.2 R (by simp[e]) R h rfl
  ·exact .inr (by simp only[qE.fp,List.mem_append];exact .inr h)
 have J1:∀R∈(C.rows++Cj.rows).filterMap (·.1),R<M.H.size∧C.blk≠some R:=fun R hR=>by
  rcases dp R hR with⟨h1,h2⟩|h
  ·exact⟨JZ R h1,h2⟩
  ·exact⟨J0 R h,fun e=>dZ R (fQ e) h⟩
 have nd':C'.fp.Nodup:=by
  simp only[qE.fp,mZ];cases hB:C'.blk with
  |none=>simpa using vEi VG ndD dZ
  |some B=>
   simp only[Option.toList_some,List.singleton_append];refine List.nodup_cons.2 ⟨fun hm=>?_,vEi VG ndD dZ⟩;grind
 have:=zL.move_ok (M:=M) (nm:=nm) (o':=.mat 0 (xs++ys)) (C':=C') (h':=qJ M.h [(id,.gone),(jd,.gone),(nm,.mat 0 (xs++ys))]) (H':=H') ok (fun j=>j=id∨j=jd) aU
  (fun j hj=>by
   rcases hj with rfl|rfl
   ·exact⟨_,an,rfl,by rw[hh,if_neg O8,if_neg bx,if_pos rfl]⟩
   ·exact⟨_,dh,rfl,by rw[hh,if_neg hnj,if_pos rfl]⟩)
  (by rw[hh,if_pos rfl]) (fun n' h1 h2=>by rw[hh,if_neg h2,if_neg (fun e=>h1 (.inr e)),if_neg (fun e=>h1 (.inl e))]) dH
  (fun b hb hn=>hH b hb fun e=>hn id C (.inl rfl) hC (fQ e)) cR
  (fun b hb=>by
   simp only[qE.fp,mZ,List.mem_append] at hb;rcases hb with hb|hb
   ·cases hB:C'.blk with
    |none=>rw[hB] at hb;simp at hb
    |some B=>
     rw[hB] at hb;simp at hb;subst hb;rcases VF b hB with h|h
     ·exact .inl h
     ·exact .inr ⟨id,C,.inl rfl,hC,fQ h⟩
   simp_all)
  (fun x=>by
   refine⟨Bg,hl,Es,?_,nd',?_⟩
   ·rw[mZ,List.length_append,hO.2.2.2.1,nN.2.2.2.1,List.length_append]
   ·cases hB:C'.blk with
    |none=>rw[hB] at hx;exact hx
    |some B=>
     rw[hB] at hx;obtain⟨vals,e,k1,k2,k3⟩:=hx;refine⟨vals,e,k1,k2,fun k hk=>?_⟩;obtain⟨rb,v,q1,q2,q3,q4⟩:=k3 k hk;refine⟨rb,v,by rw[mZ];exact q1,q2,q3.ext x,fun R hR=>?_⟩;obtain⟨rv,er,q5,q6⟩:=q4 R hR;have hRm:=J1 R (List.mem_filterMap.2 ⟨_,List.mem_of_getElem? q1,hR⟩);exact⟨rv,er,by show H'[R]? =_;rw[hH R hRm.1 hRm.2];exact q5,q6⟩)
 exact⟨_,_,M.move nm C' (qJ M.h [(id,.gone),(jd,.gone),(nm,.mat 0 (xs++ys))]) H',hr,hw.2.1,hw.2.2.1,hw.2.2.2,hw.1.symm,rfl,this.1,this.2,C',κset_same _ _ _,by rw[hl] at hA⊢;exact hA⟩
theorem VH {H}{xs:List (List Int)}{rc:List (Option Nat×Nat)}{cI:List Value}(hl:cI.length=xs.length)(h:∀k (h:k<xs.length),Er H xs[k] rc[k]? cI[k]?):∀u∈cI,u.one1=true:=by
 intro u hu;obtain⟨k,hk,rfl⟩:=List.getElem_of_mem hu;have:=h k (by omega);rw[List.getElem?_eq_getElem hk] at this;exact this.one
theorem vKu {P M w}(ok:Ok M)(hM:M.H=w.heap){id jd nm v1 v2 t e T x b xs ys}(hu:P.underlying t=some (.slice e))(dK:kB P e=some (.sl (.int .i64)))
  (aU:M.h nm=none) (an:M.h id=some (.mat v1 xs)) (dh:M.h jd=some (.mat v2 ys)) (bx:id≠jd) (hb:zZ M (.osl id none) b) (hx:zZ M (.osl jd none) x)
  (aY:(xs.length+ys.length)*P.bytesOf e≤140737488355328∧xs.length+ys.length≤140737488355328):
  qK P (Builtin.append_ #[t,t] T #[b,x]) M w (.c (.osl nm none)) [(id,.gone),(jd,.gone),(nm,.mat 0 (xs++ys))]:=by
 obtain⟨i,z,h1,h2,h3,h4,h5,h6,h7⟩:=si dK;obtain⟨C,hC,hO⟩:=ok.obj id _ an;obtain⟨Cj,eM,nN⟩:=ok.obj jd _ dh;obtain⟨a1,a2,a3,a4,olds,a5,a6,a7⟩:=vJt hO;obtain⟨b1,b2,b3,b4,news,b5,b6,b7⟩:=vJt nN;have ho:=ySe hC hb a5 a1 a2 (VH a5 a6) a7;have hn:=ySe eM hx b5 b1 b2 (VH b5 b6) b7;have sm:(xs++ys).length=xs.length+ys.length:=List.length_append;have bR:=VH b5 b6;have bn:∀k (h:k<(xs++ys).length),Er M.H (xs++ys)[k] (C.rows++Cj.rows)[k]? (olds++news)[k]? :=by
  intro k hk;by_cases bd:k<xs.length
  ·rw[List.getElem_append_left bd,List.getElem?_append_left (by omega),List.getElem?_append_left (by omega)];exact a6 k bd
  ·rw[List.getElem_append_right (by omega),List.getElem?_append_right (by omega),List.getElem?_append_right (by omega),a3,a5];exact b6 _ (by omega)
 obtain⟨C',aF,A,sCap,rfl,oW⟩:=hb;rw[hC] at aF;cases aF;rw[a1] at ho oW;have ua:i.size=1:=h3;have Vm:z.cells.size=1:=h7;by_cases cT:xs.length+ys.length≤sCap
 ·cases hB:C.blk with
  |none=>
   rw[hB] at oW;obtain⟨rfl,h0,rfl⟩:=oW;have hr:=sj (P:=P) (w:=w) (A:=none) (sLen:=xs.length) (sCap:=0) T hu h1 ua (by rw[←hM];exact hn) cT w rfl;rw[←sm] at hr;have cO:xs++ys=[]:=List.eq_nil_of_length_eq_zero (by omega);rw[a1];refine O7 (C':=⟨none,(xs++ys).length,1,0,C.rows++Cj.rows⟩) (H':=M.H) ok hM an dh bx hC eM aU (Nat.le_refl _) (fun _ _ _=>rfl) (fun _ _=>rfl) rfl rfl rfl rfl (fun B hB=>by cases hB) cO ⟨none,0,rfl,rfl,(by show(xs++ys).length=0;omega),rfl⟩ ⟨hM.symm,rfl,rfl,rfl⟩ hr
  |some B=>
   rw[hB] at oW a7;obtain⟨hc,a,rfl,ha,hs⟩:=oW;obtain⟨vals,ev,k5,k6,k7⟩:=a7;rw[Nat.zero_mul] at ha;rw[Nat.zero_add,a2,Nat.mul_one] at hs;have cR:qX M.H B=vals.size:=by simp only[qX,k5]
   rw[cR] at hs;have ka:w.heap[B]? =some (.cells vals ev (0,0)):=by rw[←hM];exact k5
   by_cases h0:sCap=0
   ·have hr := sj (P := P) (w := w) (A := some ⟨B, a, none⟩) (sLen := xs.length) (sCap := sCap) T hu h1 ua (by rw [← hM]; exact hn) cT w (by
     have:news=[]:=List.eq_nil_of_length_eq_zero (by omega);rw[this];rfl)
    rw[←sm] at hr;have cO:xs++ys=[]:=List.eq_nil_of_length_eq_zero (by omega);rw[a1];refine O7 (C':=⟨some B,(xs++ys).length,1,0,C.rows++Cj.rows⟩) (H':=M.H) ok hM an dh bx hC eM aU (Nat.le_refl _) (fun _ _ _=>rfl) (fun _ _=>rfl) rfl rfl rfl rfl (fun B' fB=>.inr (by cases fB;exact hB))
     ⟨vals,ev,k5,by rw[cO];simp,fun k hk=>by rw[cO] at hk;simp at hk⟩ ⟨_,sCap,rfl,(by show(xs++ys).length≤sCap;omega),a,rfl,.inl h0,by rw[h0];simp⟩ ⟨hM.symm,rfl,rfl,rfl⟩ hr
   ·have nM:a=0:=by rcases ha with ha|ha<;>omega
    subst nM;have aM:xs.length+news.length≤vals.size:=by omega
    have j7:=run_storeCells_at (P:=P) B xs.length ev news 0 vals w ka (by simpa using aM) (fun v hv=>A3 (bR v hv));simp only[Nat.add_zero] at j7;have hr:=sj (P:=P) (w:=w) (A:=some ⟨B,0,none⟩) (sLen:=xs.length) (sCap:=sCap) T hu h1 ua (by rw[←hM];exact hn) cT (w.setRow B (yZ vals xs.length news))
     (by show(storeCells (Addr.add ⟨B,0,none⟩ (xs.length*1)) news).run P w=_;rw[Addr.add_lit,Nat.zero_add,Nat.mul_one];exact j7)
    rw[←sm] at hr;obtain⟨f1,f2,f3,f4⟩:=oT ka (new:=yZ vals xs.length news) (gQ aM);rw[a1];refine O7 (C':=⟨some B,(xs++ys).length,1,0,C.rows++Cj.rows⟩) (H':=(w.setRow B (yZ vals xs.length news)).heap) ok hM an dh bx hC eM aU (by rw[hM,f1];exact Nat.le_refl _) (fun b hb hn=>by rw[hM];exact f3 b fun e=>hn (e▸hB))
     (fun b _=>by rw[hM];exact f4 b) rfl rfl rfl rfl (fun B' fB=>.inr (by cases fB;exact hB)) ⟨_,ev,f2,by rw[gQ aM];omega,fun k hk=>?_⟩ ⟨_,sCap,rfl,(by show(xs++ys).length≤sCap;omega),0,rfl,.inr (by simp),by show(0+sCap)*1≤qX _ B;rw[f4,←hM,cR];omega⟩ ⟨rfl,rfl,rfl,rfl⟩ hr
    have:=bn k hk;rw[jY aM];by_cases bd:k<xs.length
    ·rw[if_pos bd,k7 k bd];rw[List.getElem?_append_left (l₁:=olds) (by omega)] at this;exact this
    ·rw[if_neg bd,if_pos (by omega)];rw[List.getElem?_append_right (l₁:=olds) (by omega),a5] at this;exact this
 ·have hr:=Vy (P:=P) (w:=w) T hu h1 h2 ua (by rw[←hM];exact ho) (by rw[←hM];exact hn) (by omega) (by rw[h6] at aY;exact aY.1) aY.2;have oR:=grownCap_ge w (xs.length+ys.length) sCap e;rw[←sm] at hr oR;generalize oS:olds.toArray++news.toArray++Builtin.zeroCells z.cells (grownCap w (xs++ys).length sCap e-(xs++ys).length)=us at hr;have VI:us.size=grownCap w (xs++ys).length sCap e:=by
   rw[←oS];simp only[Array.size_append,List.size_toArray,Eo,Vm];omega
  have VJ:∀k,k<(xs++ys).length→us[k]? =(olds++news)[k]? :=fun k hk=>by
   rw[←oS,Array.getElem?_append_left (by simp;omega)];simp
  have hbz:∀us:Array Value,qX (M.H.push (.cells us e)) M.H.size=us.size:=fun us=>by simp[qX]
  rw[a1];refine O7 (C':=⟨some M.H.size,(xs++ys).length,1,0,C.rows++Cj.rows⟩) (H':=M.H.push (.cells us e)) (w':=w.drew.alloc (.cells us e)) ok hM an dh bx hC eM aU (by simp) (fun b hb _=>pN hb) (fun b hb=>D4 (pN hb)) rfl rfl rfl rfl
   (fun B' fB=>.inl (by cases fB;exact⟨Nat.le_refl _,by simp⟩)) ⟨us,e,A2,by omega,fun k hk=>?_⟩ ⟨_,_,rfl,oR,0,by rw[hM],.inr (by simp),(by rw[hbz,VI];show(0+_)*1≤_;omega)⟩ ⟨(by rw[hM];rfl),rfl,rfl,rfl⟩ hr
  rw[VJ k hk];exact bn k hk
theorem Bh {c s v u}(h:yO (bif c then s else .stuck) v u):c=true∧yO s v u:=by
 cases c with
 |true=>simp_all
 |false=>exact h.elim
theorem yV6 {c a b v u}(h:yO (bif c then a else b) v u):(c=true∧yO a v u)∨(c=false∧yO b v u):=by
 grind
theorem yFw {z:Value}{t}(h:z.cells.toList=iq t)(hs:z.cells.size=t.size){n i j}(hj:j<t.size)(hi:i<n):(Builtin.zeroCells z.cells n).toList[i*t.size+j]? =(iq t)[j]? :=by
 have aT:=Nat.mul_le_mul_right t.size (show i+1≤n by omega);rw[List.getElem?_eq_getElem (l:=iq t) (by grind),←yY0 h hs (i:=i) hj];simp[Builtin.zeroCells];grind
theorem vQx {z:Value}{t}(h:z.cells.toList=iq t)(hs:z.cells.size=t.size){n}:∀v∈(Builtin.zeroCells z.cells n).toList,v.one1=true:=by
 intro v hv;have hz:∀u∈iq t,u.one1=true:=by
  clear h hs hv
  induction t with
  |pair a b Ej Ek=>
   intro u hu;rcases List.mem_append.1 hu with hu|hu
   all_goals simp_all
  |_=>
   intro u hu;rw[List.mem_singleton.1 hu];rfl
 obtain⟨k,hk,rfl⟩:=List.getElem_of_mem hv;have pQ:k<n*t.size:=by rw[Array.length_toList,Eo,hs] at hk;exact hk
 have h0:=t.size_pos;have := yFw h hs (n := n) (i := k / t.size) (j := k % t.size) (Nat.mod_lt _ h0) (by
  rw[Nat.div_lt_iff_lt_mul h0];omega)
 rw[Nat.div_add_mod' k t.size,List.getElem?_eq_getElem hk,List.getElem?_eq_getElem (by grind),Option.some.injEq] at this;simp_all
theorem VK {P}{M:zL}{w:World}(ok:Ok M)(hM:M.H=w.heap){id nm n':Nat}{t:Ty}{iu zs}{C:qE}{H'}{s:Sem Value}{c:Nat}{A:Option Addr}{w':World}
  (an:M.h id=some (.arr true t iu)) (hC:M.κ id=some C) (aU:M.h nm=none) (dH:H'.size=M.H.size) (hH:∀b,b∉C.fp→H'[b]? =M.H[b]?) (cR:∀b,qX H' b=qX M.H b)
  (hx:∀M',yT M M'→M'.H=H'→M'.G=M.G→match C.blk with
   |none=>zs=[]
   |some B=>∃vals e,H'[B]? =some (.cells vals e (0,0))∧zs.length*t.size≤vals.size∧∀i (h:i<zs.length),qF M'.H M'.G t zs[i] (fun j=>vals[i*t.size+j]?))
  (hn : n' ≤ zs.length) (hc : zs.length ≤ c) (hA:match C.blk with
   |none=>A=none∧n'=0∧c=0
   |some B=>∃a,A=some ⟨B,a,none⟩∧(c=0∨a=0)∧c*t.size≤qX M.H B)
  (hw:w'.heap=H'∧w'.os=w.os∧w'.tape=w.tape∧w'.output=w.output) (hr:s.run P w=.ok (.slice A n' c) w'):
  qK P s M w (.c (.osl nm (some (0,n')))) [(id,.gone),(nm,.arr true t zs)]:=by
 obtain⟨C0,sk,hO⟩:=ok.obj id _ an;rw[hC] at sk;cases sk;obtain⟨fr,ff⟩:=JK hO;have bx:id≠nm:=fun e=>by simp_all
 let C':qE:=⟨C.blk,zs.length,t.size,0,[]⟩;have hh:∀n',(qJ M.h [(id,.gone),(nm,.arr true t zs)]) n'=if n'=nm then some (.arr true t zs) else if n'=id then some .gone else M.h n':=fun n'=>by
  show(yM (yM M.h id .gone) nm _) n'=_;by_cases e:n'=nm
  ·rw[if_pos e,e,yV]
  ·rw[if_neg e,yY _ _ e];by_cases e2:n'=id
   ·rw[if_pos e2,e2,yV]
   ·rw[if_neg e2,yY _ _ e2]
 have:=zL.move_ok (M:=M) (nm:=nm) (o':=.arr true t zs) (C':=C') (h':=qJ M.h [(id,.gone),(nm,.arr true t zs)]) (H':=H') ok (fun j=>j=id) aU
  (fun j hj=>⟨.arr true t iu,by rw[hj];exact an,rfl,by simp_all⟩)
  (by rw[hh,if_pos rfl]) (by grind) (by omega) (fun b hb hn=>hH b (hn id C rfl hC)) (fun b _=>cR b)
  (fun b hb=>.inr ⟨id,C,rfl,hC,by
   simp only[C',qE.fp,List.filterMap_nil,List.append_nil] at hb;rw[ff];exact hb⟩)
  (fun x=>by
   refine⟨rfl,rfl,fun _=>rfl,?_⟩;have:=hx _ x rfl rfl;cases hB:C.blk with
   |none=>simp_all
   |some B=>
    rw[hB] at this;obtain⟨vals,e,h1,h2,h3⟩:=this;exact⟨vals,e,h1,by simp,h2,h3⟩)
 refine⟨_,_,_,hr,hw.2.1,hw.2.2.1,hw.2.2.2,by rw[hw.1];rfl,rfl,this.1,this.2,C',κset_same _ _ _,by grind,⟨_,c,rfl,?_⟩,_,_,_,rfl,by grind⟩;show match C.blk with
  |none=>_
  |some B=>_
 cases hB:C.blk with
 |none=>rw[hB] at hA;exact hA
 |some B=>
  rw[hB] at hA;obtain⟨a,h2,h3,h4⟩:=hA;refine⟨by omega,a,h2,by simpa using h3,?_⟩;show(0+c)*t.size≤qX H' B;simp_all
theorem VL {P}{M w}(ok:Ok M)(hM:M.H=w.heap){id nm i j m t e T ty x b xs}(hu:P.underlying t=some (.slice e))(dK:kB P e=some ty)
  (aU:M.h nm=none) (an:M.h id=some (.arr true ty xs)) (hb:zZ M (.osl id (some (0,i))) b) (hx:zZ M (.osl id (some (j,m))) x) (mT:i≤j):
  qK P (Builtin.append_ #[t,t] T #[b,x]) M w (.c (.osl nm (some (0,i+m)))) [(id,.gone),(nm,.arr true ty (xs.take i++qO xs j m++xs.drop (i+m)))]:=by
 obtain⟨inf,z,h1,h2,h3,h4,h5,h6,h7⟩:=si dK;obtain⟨C,hC,hO⟩:=ok.obj id _ an;obtain⟨news,hR,hE⟩:=Bf hC hO hx;obtain⟨C1,iS,du,_⟩:=hx;rw[hC] at iS;cases iS;obtain⟨C1,iS,j8,⟨A,c,rfl,hS⟩,iR⟩:=hb;rw[hC] at iS;cases iS;obtain⟨_,_,_,iR,JR⟩:=iR;cases iR;have hlen:=hO.1;have oX:(j6 xs (some (j,m))).length=m:=D9 (by omega);rw[oX] at hR;have O9:news.length=m*ty.size:=hR.choose_spec.choose_spec.2.1;have ub:(qO xs j m).length=m:=oX;have uc:(xs.take i).length=i:=by rw[List.length_take];omega
 have J2:(xs.take i++qO xs j m++xs.drop (i+m)).length=xs.length:=by
  rw[List.length_append,List.length_append,ub,uc,List.length_drop];omega
 have aY:i+m≤c:=by omega
 cases hB:C.blk with
 |none=>
  rw[hB] at hS;obtain⟨rfl,rfl,rfl⟩:=hS;have hr:=sj (P:=P) (w:=w) (A:=none) (sLen:=0) (sCap:=0) T hu h1 h3 (by rw[←hM];exact hR) aY w rfl;refine VK (s:=Builtin.append_ #[t,t] T #[.slice none 0 0,x]) (H':=M.H) ok hM an hC aU rfl (fun _ _=>rfl) (fun _=>rfl) (fun M' _ _ _=>?_) (by omega) (by omega) ?_ ⟨hM.symm,rfl,rfl,rfl⟩ hr
  ·rw[hB];exact List.eq_nil_of_length_eq_zero (by omega)
  ·rw[hB];exact⟨rfl,by omega,rfl⟩
 |some B=>
  rw[hB] at hS;obtain⟨hc,a,rfl,ha,hs⟩:=hS;obtain⟨k1,k2,k3,k4⟩:=hO;rw[hB] at k4;obtain⟨vals,ev,k5,k6,k7,k8⟩:=k4;rw[Nat.zero_mul] at ha;rw[Nat.zero_add,k2] at hs;have cR:qX M.H B=vals.size:=by simp only[qX,k5]
  have ka:w.heap[B]? =some (.cells vals ev (0,0)):=by rw[←hM];exact k5
  by_cases h0:c=0
  ·have hm0:m=0:=by omega
   have hr := sj (P := P) (w := w) (A := some ⟨B, a, none⟩) (sLen := i) (sCap := c) T hu h1 h3 (by rw [← hM]; exact hR) aY w (by
    have:news=[]:=List.eq_nil_of_length_eq_zero (by rw[O9,hm0,Nat.zero_mul]);rw[this];rfl)
   refine VK (s:=Builtin.append_ #[t,t] T #[.slice (some ⟨B,a,none⟩) i c,x]) (H':=M.H) ok hM an hC aU rfl (fun _ _=>rfl) (fun _=>rfl) (fun M' _ _ _=>?_) (by omega) (by omega) ?_ ⟨hM.symm,rfl,rfl,rfl⟩ hr
   ·rw[hB];refine⟨vals,ev,k5,by rw[J2];exact k7,fun p hp=>?_⟩;rw[J2] at hp;omega
   ·rw[hB];exact⟨a,rfl,.inl h0,by rw[h0];simp⟩
  ·have nM:a=0:=by rcases ha with ha|ha<;>omega
   subst nM;have hle:=Nat.mul_le_mul_right ty.size (show i+m≤xs.length by omega);rw[Nat.add_mul] at hle;have aM:i*ty.size+news.length≤vals.size:=by omega
   have j7:=run_storeCells_at (P:=P) B (i*ty.size) ev news 0 vals w ka (by simpa using aM) (fun v hv=>A3 (hR.choose_spec.choose_spec.2.2.1 v hv));simp only[Nat.add_zero] at j7;have hr:=sj (P:=P) (w:=w) (A:=some ⟨B,0,none⟩) (sLen:=i) (sCap:=c) T hu h1 h3 (by rw[←hM];exact hR) aY (w.setRow B (yZ vals (i*ty.size) news)) (by show(storeCells (Addr.add ⟨B,0,none⟩ (i*ty.size)) news).run P w=_;rw[Addr.add_lit,Nat.zero_add];exact j7);obtain⟨f1,f2,f3,f4⟩:=oT ka (new:=yZ vals (i*ty.size) news) (gQ aM);refine VK (s:=Builtin.append_ #[t,t] T #[.slice (some ⟨B,0,none⟩) i c,x]) (H':=(w.setRow B (yZ vals (i*ty.size) news)).heap) ok hM an hC aU (by rw[hM];exact f1)
    (fun b hb=>by rw[hM];exact f3 b fun e=>hb (e▸fQ hB)) (fun b=>by rw[hM];exact f4 b) (fun M' xt hH hG=>?_) (by omega) (by omega) ?_ ⟨rfl,rfl,rfl,rfl⟩ hr
   ·rw[hB];refine⟨_,ev,f2,by rw[J2,gQ aM];exact k7,fun p hp=>?_⟩;rw[J2] at hp;have aT:=Nat.mul_le_mul_right ty.size (show p+1≤xs.length by omega);rw[Nat.add_mul] at aT;have Bi:(xs.take i++qO xs j m++xs.drop (i+m))[p]? =xs[p]? →(∀q,q<ty.size→(yZ vals (i*ty.size) news)[p*ty.size+q]? =vals[p*ty.size+q]?)→qF M'.H M'.G ty ((xs.take i++qO xs j m++xs.drop (i+m))[p]'(by omega)) (fun q=>(yZ vals (i*ty.size) news)[p*ty.size+q]?):=fun e1 e2=>by
     have e3:(xs.take i++qO xs j m++xs.drop (i+m))[p]'(by omega)=xs[p]:=by
      rw[List.getElem?_eq_getElem (by omega),List.getElem?_eq_getElem hp,Option.some.injEq] at e1;exact e1
     rw[e3];exact vD xt.G xt.sameG ty _ _ _ e2 (k8 p hp)
    by_cases Pb:p<i
    ·refine Bi ?_ fun q hq=>?_
     ·rw[List.append_assoc,List.getElem?_append_left (by omega),List.getElem?_take,if_pos Pb]
     ·have:=Nat.mul_le_mul_right ty.size (show p+1≤i by omega);rw[Nat.add_mul] at this;rw[jY aM,if_pos (by omega)]
    ·by_cases J3:p<i+m
     ·have e3:(xs.take i++qO xs j m++xs.drop (i+m))[p]'(by omega)=(j6 xs (some (j,m)))[p-i]'(by omega):=by
       rw[List.getElem_append_left (by rw[List.length_append,uc,ub];exact J3),List.getElem_append_right (by omega)];simp only[uc];rfl
      rw[e3];refine vD xt.G xt.sameG ty _ _ _ (fun q hq=>?_) (hE (p-i) (by omega));have q1:=Nat.mul_le_mul_right ty.size (show i≤p by omega);have q2:=Nat.mul_le_mul_right ty.size (show p-i+1≤m by omega);rw[Nat.add_mul] at q2;have q3:(p-i)*ty.size=p*ty.size-i*ty.size:=Nat.sub_mul ..
      rw[jY aM,if_neg (by omega),if_pos (by omega)]
      congr 1;omega
     ·refine Bi ?_ fun q hq=>?_
      ·rw[List.getElem?_append_right (by rw[List.length_append,uc,ub];omega),List.getElem?_drop]
       congr 1
       rw[List.length_append,uc,ub];omega
      ·have:=Nat.mul_le_mul_right ty.size (show i+m≤p by omega);rw[Nat.add_mul] at this;rw[jY aM,if_neg (by omega),if_neg (by omega)]
   ·rw[hB];exact⟨0,rfl,.inr rfl,by rw[←k2] at hs⊢;exact hs⟩
theorem VM {P M w}(ok:Ok M)(hM:M.H=w.heap){t T id lo n rx v u}(hx:zZ M (.osl id (some (lo,n))) rx)
  (h:yO (Ot P M.h t id lo n) v u):qK P (Builtin.clear_ #[t] T #[rx]) M w v u:=by
 unfold Ot at h;split at h
 case h_2=>exact h.elim
 rename_i e s xs hu an;split at h
 case h_2=>exact h.elim
 rename_i ty dK;obtain⟨heq,h⟩:=Bh h;have:=Jt heq;subst this;obtain⟨_,rfl,rfl⟩:=gP h;obtain⟨inf,z,h1,h2,h3,h4,h5,h6,h7⟩:=si dK;obtain⟨C,hC,du,⟨A,c,rfl,hS⟩,_⟩:=hx;obtain⟨C1,iS,hO⟩:=ok.obj id _ an;rw[hC] at iS;cases iS;by_cases Ep:n=0
 ·subst Ep;have e0:xs.take lo++List.replicate 0 ty.dflt++xs.drop (lo+0)=xs:=by simp
  rw[e0];refine⟨.tuple #[],w,M,?_,rfl,rfl,rfl,hM,?_,ok,yR.refl M,trivial⟩
  ·cases A with
   |none=>simp[Builtin.clear_,run_underlying hu]
   |some a=>simp[Builtin.clear_,run_underlying hu]
  ·rw[UH,D8 an]
 ·obtain⟨k1,k2,k3,k4⟩:=hO;cases hB:C.blk with
  |none=>rw[hB] at hS;omega
  |some B=>
   rw[hB] at hS k4;obtain⟨hc,a,rfl,ha,hs⟩:=hS;obtain⟨vals,ev,k5,k6,k7,k8⟩:=k4;have rZ:a=lo*ty.size:=by rw[←k2];rcases ha with ha|ha<;>omega
   subst rZ;have ka:w.heap[B]? =some (.cells vals ev (0,0)):=by rw[←hM];exact k5
   have J2:(Builtin.zeroCells z.cells n).toList.length=n*ty.size:=by rw[Array.length_toList,Eo,h7]
   have hle:=Nat.mul_le_mul_right ty.size (show lo+n≤xs.length by omega);rw[Nat.add_mul] at hle;have aM:lo*ty.size+(Builtin.zeroCells z.cells n).toList.length≤vals.size:=by omega
   have bR:∀v∈(Builtin.zeroCells z.cells n).toList,v.one1=true:=vQx h4 h7;have j7:=run_storeCells_at (P:=P) B (lo*ty.size) ev (Builtin.zeroCells z.cells n).toList 0 vals w ka (by simpa using aM) (fun v hv=>A3 (bR v hv));simp only[Nat.add_zero] at j7;obtain⟨f1,f2,f3,f4⟩:=oT ka (new:=yZ vals (lo*ty.size) (Builtin.zeroCells z.cells n).toList) (gQ aM);have nQ:(Builtin.clear_ #[t] T #[.slice (some ⟨B,lo*ty.size,none⟩) n c]).run P w=.ok (.tuple #[]) (w.setRow B (yZ vals (lo*ty.size) (Builtin.zeroCells z.cells n).toList)):=by
    obtain⟨n',rfl⟩:∃n',n=n'+1:=⟨n-1,by omega⟩;have e:(storeCells ⟨B,lo*ty.size,none⟩ (Builtin.zeroCells z.cells (n'+1)).toList).run P w=.ok () (w.setRow B (yZ vals (lo*ty.size) (Builtin.zeroCells z.cells (n'+1)).toList)):=j7;simp[Builtin.clear_,run_underlying hu,zeroValue,typeInfo,h1,h2,e]
   have hH:∀b,b∉C.fp→(w.setRow B (yZ vals (lo*ty.size) (Builtin.zeroCells z.cells n).toList)).heap[b]? =M.H[b]? :=fun b tV=>by
    rw[hM];exact f3 b fun e=>tV (e▸fQ hB)
   have cR:∀b,b<M.H.size→qX (w.setRow B (yZ vals (lo*ty.size) (Builtin.zeroCells z.cells n).toList)).heap b=qX M.H b:=fun b _=>by rw[hM];exact f4 b
   have hol:(xs.take lo++List.replicate n ty.dflt++xs.drop (lo+n)).length=xs.length:=by
    simp only[List.length_append,List.length_take,List.length_replicate,List.length_drop];omega
   have x:=zL.write_ext ok an rfl hC C.le_refl hH cR (.arr true ty (xs.take lo++List.replicate n ty.dflt++xs.drop (lo+n)));have := zL.write_ok ok an rfl hC C.le_refl (fun _ h => h) (by rw [hM]; exact f1) hH cR (o' := .arr true ty (xs.take lo ++ List.replicate n ty.dflt ++ xs.drop (lo + n))) (by
    refine⟨by rw[hol];exact k1,k2,k3,?_⟩;rw[hB];refine⟨_,ev,f2,fun h=>(by cases h),by rw[hol,gQ aM];exact k7,fun p hp=>?_⟩;rw[hol] at hp;have aT:=Nat.mul_le_mul_right ty.size (show p+1≤xs.length by omega);rw[Nat.add_mul] at aT;have Et:(xs.take lo).length=lo:=by rw[List.length_take];omega
    have Bi:(xs.take lo++List.replicate n ty.dflt++xs.drop (lo+n))[p]? =xs[p]? →(∀q,q<ty.size→(yZ vals (lo*ty.size) (Builtin.zeroCells z.cells n).toList)[p*ty.size+q]? =vals[p*ty.size+q]?)→
      qF (M.write id (.arr true ty (xs.take lo++List.replicate n ty.dflt++xs.drop (lo+n))) C (w.setRow B (yZ vals (lo*ty.size) (Builtin.zeroCells z.cells n).toList)).heap).H (M.write id (.arr true ty (xs.take lo++List.replicate n ty.dflt++xs.drop (lo+n))) C (w.setRow B (yZ vals (lo*ty.size) (Builtin.zeroCells z.cells n).toList)).heap).G ty ((xs.take lo++List.replicate n ty.dflt++xs.drop (lo+n))[p]'(by omega)) (fun q=>(yZ vals (lo*ty.size) (Builtin.zeroCells z.cells n).toList)[p*ty.size+q]?):=fun e1 e2=>by
     have e3:(xs.take lo++List.replicate n ty.dflt++xs.drop (lo+n))[p]'(by omega)=xs[p]:=by
      rw[List.getElem?_eq_getElem (by omega),List.getElem?_eq_getElem hp,Option.some.injEq] at e1;exact e1
     rw[e3];exact vD x.G x.sameG ty _ _ _ e2 (k8 p hp)
    by_cases Pb:p<lo
    ·refine Bi ?_ fun q hq=>?_
     ·rw[List.append_assoc,List.getElem?_append_left (by omega),List.getElem?_take,if_pos Pb]
     ·have:=Nat.mul_le_mul_right ty.size (show p+1≤lo by omega);rw[Nat.add_mul] at this;rw[jY aM,if_pos (by omega)]
    ·by_cases J3:p<lo+n
     ·have e3:(xs.take lo++List.replicate n ty.dflt++xs.drop (lo+n))[p]'(by omega)=ty.dflt:=by
       rw[List.getElem_append_left (by rw[List.length_append,Et,List.length_replicate];exact J3),List.getElem_append_right (by omega)];simp
      rw[e3];refine JU ty _ fun q hq=>?_
      have q1:=Nat.mul_le_mul_right ty.size (show lo≤p by omega);have q2:=Nat.mul_le_mul_right ty.size (show p-lo+1≤n by omega);rw[Nat.add_mul] at q2;have q3:(p-lo)*ty.size=p*ty.size-lo*ty.size:=Nat.sub_mul ..
      rw[jY aM,if_neg (by omega),if_pos (by omega),show p*ty.size+q-lo*ty.size=(p-lo)*ty.size+q by omega,yFw h4 h7 hq (by omega)]
     ·refine Bi ?_ fun q hq=>?_
      ·rw[List.getElem?_append_right (by rw[List.length_append,Et,List.length_replicate];omega),List.getElem?_drop]
       congr 1
       rw[List.length_append,Et,List.length_replicate];omega
      ·have:=Nat.mul_le_mul_right ty.size (show lo+n≤p by omega);rw[Nat.add_mul] at this;rw[jY aM,if_neg (by omega),if_neg (by omega)])
   exact⟨_,_,_,nQ,rfl,rfl,rfl,rfl,rfl,this.1,this.2,trivial⟩
theorem VN {P M w}(ok:Ok M)(hM:M.H=w.heap){mat nm t T b x v u rb rx}
  (hb:zX M b rb) (hx:zX M x rx) (h:yO (DR P mat nm M.h t b x) v u):qK P (Builtin.append_ #[t,t] T #[rb,rx]) M w v u:=by
 unfold DR at h;split at h
 case h_2=>exact h.elim
 rename_i e b x hu aU;split at h
 ·exact h.elim
 rename_i ty dK;cases mat with
 |true=>
  split at h
  ·rename_i id jd;split at h
   ·rename_i v1 xs v2 ys an dh;cases bx:Nat.beq id jd with
    |true=>rw[bx] at h;exact h.elim
    |false=>
     rw[bx] at h;obtain⟨hr,rfl,rfl⟩:=gP h;exact vKu ok hM hu dK aU an dh (fun e=>by subst e;simp at bx) hb hx (JY hr)
   ·exact h.elim
  ·exact h.elim
 |false=>
  simp only[cond_false] at h;split at h
  ·split at h
   ·rename_i ys u1 ht;obtain⟨hr,rfl,rfl⟩:=gP h;obtain⟨rfl,news,h1,h2⟩:=vF1 ok hx ht;rw[show rb=.slice none 0 0 from hb];exact VC ok hM hu dK aU h1 h2 (JY hr)
   ·exact h.elim
  ·split at h
   ·rename_i s xs an;split at h
    ·rename_i zs ys u1 hz ht;obtain⟨e1,hz⟩:=lA hz;subst e1;subst hz;obtain⟨rfl,news,h1,h2⟩:=vF1 ok hx ht;split at h
     ·rcases yV6 h with⟨hc,h⟩|⟨_,h⟩
      ·split at h
       ·rename_i i' jd j m zs e1 e2 _;cases e1;have:=Nat.eq_of_beq_eq_true hc;subst this;obtain⟨_,hz⟩:=lA e2;subst hz;obtain⟨hr,rfl,rfl⟩:=gP h;exact VL ok hM hu dK aU an hb hx (Nat.le_of_ble_eq_true hr)
       ·exact h.elim
      ·obtain⟨hr,rfl,rfl⟩:=gP h;exact VD ok hM hu dK aU an hb rfl h1 h2 (JY hr)
     ·rcases yV6 h with⟨hc,h⟩|⟨_,h⟩
      ·exact h.elim
      ·obtain⟨hr,rfl,rfl⟩:=gP h;exact VD ok hM hu dK aU an hb trivial h1 h2 (JY hr)
     ·exact h.elim
    ·exact h.elim
   ·exact h.elim
  ·exact h.elim
theorem VO {M}(ok:Ok M){c v t ys}(hv:zZ M c v)(h:kC M.h c=some ⟨t,ys⟩){kd}(ht:t=.int kd):
  ∃news,wZ M.H v ys.length t.size news∧∃F,∀i hi,qF M.H F t ys[i] (fun j=>news[i*t.size+j]?):=by
 unfold kC at h;split at h
 ·cases h;obtain⟨news,h1,h2⟩:=Vx hv;exact⟨news,h1,_,h2⟩
 ·split at h
  ·rename_i own s xs an;cases h;obtain⟨C,hC,hO⟩:=ok.obj _ _ an;obtain⟨news,h1,h2⟩:=Bf hC hO hv;exact⟨news,h1,_,h2⟩
  all_goals grind
 ·rename_i id i ver;split at h
  ·rename_i v' xs an;cases fS:Nat.beq v' ver with
   |false=>simp_all
   |true=>
    rw[fS] at h;cases h;have e:v'=ver:=by simp_all
    subst e;obtain⟨C,hC,hO⟩:=ok.obj _ _ an;obtain⟨C',aF,bR,_,aT⟩:=hv;rw[hC] at aF;cases aF;obtain⟨rb,rl,xj,so⟩:=aT hO.1;by_cases hi:i<xs.length
    ·obtain⟨B,pP,v2,k1,k2,k3,k4,k5,k6⟩:=D7 hO hi;rw[xj] at k3;cases k3;rw[show xs.getD i []=xs[i] by simp_all];cases rb with
     |none=>
      obtain⟨rfl,h0⟩:=so;have cO:xs[i]=[]:=by grind
      rw[cO];obtain⟨news,q1,q2⟩:=JW (H:=M.H) (F:=M.G) (t:=.int .i64) (A:=none) (c:=0);exact⟨news,q1,_,q2⟩
     |some R=>
      obtain⟨a,c,rfl,h1,h2,h3⟩:=so;by_cases h0:xs[i].length=0
      ·have cO:xs[i]=[]:=by grind
       rw[cO];obtain⟨news,q1,q2⟩:=JW (H:=M.H) (F:=M.G) (t:=.int .i64) (A:=some ⟨R,a,none⟩) (c:=c);exact⟨news,q1,_,q2⟩
      ·have ha:a=0:=by omega
       subst ha;obtain ⟨news, q1, q2⟩ := Vw (H := M.H) (F := fun _ => True) (t := .int .i64) (ys := xs[i]) (B := R) (o := 0) (c := c) h1 (fun j hj=>by
        simp[qF,Ty.size];simp_all)
       exact⟨news,q1,_,q2⟩
    ·have:C.rows[i]? =none:=List.getElem?_eq_none (by have:=hO.2.2.2.1;omega);simp_all
  ·cases h
 ·cases h
theorem vPv {M}(ok:Ok M){c v t ys}(hv:zZ M c v)(h:kC M.h c=some ⟨t,ys⟩):∃A k,v=.slice A ys.length k:=by
 by_cases ht:t=.int .i64
 ·obtain⟨news,⟨A,k,e,_⟩,_⟩:=VO ok hv h ht;simp_all
 unfold kC at h;split at h
 ·cases h;obtain⟨news,⟨A,k,e,_⟩,_⟩:=Vx hv;simp_all
 ·rename_i id r;split at h
  ·rename_i own s xs an;cases h;obtain⟨C,hC,hO⟩:=ok.obj _ _ an;obtain⟨news,⟨A,k,e,_⟩,_⟩:=Bf hC hO hv;simp_all
  ·rename_i ver xs an;cases r with
   |none=>
    cases h;obtain⟨C,hC,hO⟩:=ok.obj _ _ an;obtain⟨C',aF,A,k,e,_⟩:=hv;rw[hC] at aF;cases aF;exact⟨A,k,by rw[e,hO.2.1]⟩
   |some p=>cases h
  ·cases h
 all_goals grind
theorem vXq {M}(ok:Ok M){c v n}(hv:zZ M c v)(h:DF M.h c=some n):∃A k,v=.slice A n k:=by
 unfold DF at h;split at h
 ·cases h;exact⟨none,0,hv⟩
 ·obtain⟨C,B,_,_,e⟩:=hv;simp_all
 ·split at h
  ·rename_i t xs hr;cases h;exact vPv ok hv hr
  ·cases h
theorem vNt {P w t e A n k T ts}(h0:ts[0]? =some t)(hu:P.underlying t=some (.slice e)):
  (Builtin.len_ ts T #[.slice A n k]).run P w=.ok (.int .i64 n) w:=by
 have hr:(underlying t).run P w=.ok (.slice e) w:=by simp[underlying,hu]
 simp[Builtin.len_,h0,hr,goInt]
theorem vBm {P M w}(ok:Ok M)(hM:M.H=w.heap){lt l rl v u ts T}(hl:zP (zX M) l rl.toList)
  (h:yO (Ou lt l) v u):qK P (bif lt then Builtin.min_ ts T rl else Builtin.max_ ts T rl) M w v u:=by
 unfold Ou at h;split at h
 ·rename_i k x j y;obtain⟨rfl,rfl⟩:=wO h;obtain⟨rl⟩:=rl
  match rl,hl with
  |[a,b],⟨h1,h2,_⟩=>
   rw[show a=.int k x from h1,show b=.int j y from h2];refine .pure (rv:=.int k (bif lt then(bif decide (y<x) then y else x) else(bif decide (y>x) then y else x))) ok hM ?_ rfl;cases lt<;>simp[Builtin.min_,Builtin.max_,Builtin.min2,Builtin.max2,Bool.cond_decide]
 ·rename_i k x j y i z;obtain⟨rfl,rfl⟩:=wO h;obtain⟨rl⟩:=rl
  match rl,hl with
  |[a,b,c],⟨h1,h2,h3,_⟩=>
   rw[show a=.int k x from h1,show b=.int j y from h2,show c=.int i z from h3];refine .pure (rv:=_) ok hM ?_ rfl;cases lt<;>simp[Builtin.min_,Builtin.max_,Builtin.min2,Builtin.max2,Bool.cond_decide]
 ·exact h.elim
theorem vIc {M:zL}:∀{cs ns},AW cs=some ns→cs=ns.map (.int .i64)
 |[],ns,h=>by cases h;rfl
 |.int .i64 n::l,ns,h=>by
  unfold AW at h;split at h
  ·rename_i r hr;cases h;rw[vIc (M:=M) hr];rfl
  ·cases h
theorem yUs xs:∀(ns:List Int) i,AY xs i (ns.map (.int .i64))=(((xs.drop i).take ns.length)++ns.drop ((xs.drop i).take ns.length).length).map (.int .i64)
 |[],i=>by rfl
 |n::ns,i=>by
  simp only[List.map_cons,AY,yUs xs ns (i+1)];by_cases hi:i<xs.length
  ·have hb:Nat.blt i xs.length=true:=by simp_all
   rw[hb,List.drop_eq_getElem_cons hi];grind
  ·have hb:Nat.blt i xs.length=false:=by
    cases h:Nat.blt i xs.length with
    |false=>rfl
    |true=>exact absurd (by simp_all) hi
   have e1:xs.drop i=[]:=List.drop_eq_nil_of_le (by omega);grind
theorem VP {P M w}(ok:Ok M)(hM:M.H=w.heap){t e ts T d s v u rd rs}(h0:ts[0]? =some t)(hu:P.underlying t=some (.slice e))(he:P.cellsOf e=1)
  (hd:zX M d rd) (hs:zX M s rs) (h:yO (DS M.h d s) v u):qK P (Builtin.copy_ ts T #[rd,rs]) M w v u:=by
 unfold DS at h;split at h
 case h_2=>exact h.elim
 rename_i id off n s;split at h
 case h_2=>exact h.elim
 rename_i cells ys an pU;split at h
 case h_2=>exact h.elim
 rename_i vs eZ;split at h
 case h_2=>exact h.elim
 rename_i ns Vj;obtain⟨_,rfl,rfl⟩:=gP h;clear h;obtain⟨C,B,hC,hB,rfl⟩:=hd;obtain⟨C',aF,B',vals,ev,k1,k2,k3,k4,k5⟩:=ok.obj id _ an;rw[hC] at aF;cases aF;rw[hB] at k1;cases k1;obtain⟨c1,c2,c3⟩:=JG eZ;obtain⟨i,hi⟩:=oQ (P:=P) (t:=e) (by omega);obtain⟨A,k,rfl,lZ⟩:∃A k,rs=.slice A ys.length k∧∃news,wZ M.H (.slice A ys.length k) ys.length 1 news∧news=ys.map (.int .i64):=by
  split at pU
  ·cases pU;exact⟨none,0,hs,[],⟨none,0,rfl,rfl,by simp,rfl⟩,rfl⟩
  ·obtain⟨news,hR,F,hE⟩:=VO ok hs pU rfl;obtain⟨A,k,e,hl,r⟩:=hR;refine⟨A,k,e,news,⟨A,k,rfl,hl,r⟩,?_⟩;refine List.ext_getElem (by simpa[Ty.size] using hl) fun j h1 h2=>?_
   have:=hE j (by simpa using h2);simp only[qF,Ty.size,Nat.mul_one,Nat.add_zero] at this;rw[List.getElem?_eq_getElem h1,Option.some.injEq] at this;rw[this];simp
 obtain⟨news,⟨A',k',e',hl,bR,lZ⟩,J4⟩:=lZ;cases e';let m:=min ys.length n;have hm:Nat.min ys.length n=m:=rfl;have Bj:(Builtin.firstCells 1 m (.slice A ys.length k)).run P w=.ok (news.take m).toArray w:=by
  have:wZ M.H (.slice A m k) m 1 (news.take m):=by
   refine⟨A,k,rfl,?_,fun u hu=>bR u (List.mem_of_mem_take hu),?_⟩;all_goals grind
  have:=this.first (P:=P) w hM.symm
  cases A<;>exact this
 have hbw:w.heap[B]? =some (.cells vals ev (0,0)):=by rw[←hM];exact k3
 have bK:=k4.length;have O9:(news.take m).length=m:=by rw[List.length_take,hl];omega
 have aM:off+(news.take m).length≤vals.size:=by
  rw[O9];simp at bK;omega
 have j7:=run_storeCells_at (P:=P) B off ev (news.take m) 0 vals w hbw (by simpa using aM) (fun v hv=>A3 (bR v (List.mem_of_mem_take hv)));simp only[Nat.add_zero] at j7;have nQ:(Builtin.copy_ ts T #[.slice (some ⟨B,off,none⟩) n n,.slice A ys.length k]).run P w=.ok (.int .i64 (m:Nat)) (w.setRow B (yZ vals off (news.take m))):=by
  simp[Builtin.copy_,h0,run_underlying hu,Builtin.lenOf,iO w hi,he,hm,Bj,goInt];have e:(storeCells ⟨B,off,none⟩ (news.take m)).run P w=.ok () (w.setRow B (yZ vals off (news.take m))):=j7;rw[e];rfl
 obtain⟨f1,f2,f3,f4⟩:=oT hbw (new:=yZ vals off (news.take m)) (gQ aM);have hH:∀b,b∉C.fp→(w.setRow B (yZ vals off (news.take m))).heap[b]? =M.H[b]? :=fun b tV=>by
  rw[hM];exact f3 b fun e=>tV (e▸fQ hB)
 have cR:∀b,b<M.H.size→qX (w.setRow B (yZ vals off (news.take m))).heap b=qX M.H b:=fun b _=>by rw[hM];exact f4 b
 let o':Obj:=.box true (cells.take off++AY ys 0 vs++cells.drop (off+n));have x:=zL.write_ext ok an rfl hC C.le_refl hH cR o';have aH:cells.take off++AY ys 0 vs++cells.drop (off+n)=cells.take off++(ys.take m).map (.int .i64)++cells.drop (off+((ys.take m).map (qC.int .i64)).length):=by
  have hv:=vIc (M:=M) Vj;have hnn:ns.length=n:=by rw[←c3,hv];simp
  have J5:(ys.drop 0).take ns.length=ys.take m:=by
   grind
  rw[hv,yUs,J5,List.map_append,List.map_drop,←hv,List.append_assoc,List.append_assoc,List.append_assoc]
  congr 2
  have Pc:(ys.take m).length=m:=by rw[List.length_take];omega
  have e1:cells.drop (off+n)=(cells.drop (off+m)).drop (n-m):=by
   rw[List.drop_drop];congr 1;omega
  rw[List.length_map,Pc,c2,List.drop_take,List.drop_drop,e1,List.take_append_drop]
 have := zL.write_ok ok an rfl hC C.le_refl (fun _ h => h) (by rw [hM]; exact f1) hH cR (o' := o') (by
  refine⟨B,_,ev,hB,k2,f2,?_,fun h=>(by cases h)⟩;rw[aH];refine UL x k4 (us:=news.take m) ?_ (by simpa using aM);rw[J4];refine zP.of_get (by simp) fun j h1 h2=>?_
  simp[zZ])
 exact⟨_,_,_,nQ,rfl,rfl,rfl,rfl,rfl,this.1,this.2,rfl⟩
theorem vA9 {P t}(h:Jz P t=true):∃k e i,P.underlying t=some (.map k e)∧P.underlying k=some (.int .i64)∧P.info? e=some i∧i.zero=some (.bool false):=by
 unfold Jz at h;split at h
 ·split at h
  ·rename_i hk hz;obtain⟨i,h1,h2⟩:=Option.bind_eq_some_iff.1 hz;grind
  ·cases h
 ·cases h
theorem vUo {P M w}(ok:Ok M)(hM:M.H=w.heap){nm t v u}(h:yO (DN P nm M.h t) v u):qK P (Instr.makeMap t none) M w v u:=by
 unfold DN at h;split at h
 case h_2=>exact h.elim
 rename_i aU;obtain⟨_,h⟩:=Bh h;obtain⟨_,rfl,rfl⟩:=gP h;let C:qE:=⟨some M.H.size,0,0,0,[]⟩;have := zL.new_ok ok aU (.imap []) C (.map #[] 0) (by simp [C, qE.fp]) (by
  refine⟨M.H.size,#[],0,rfl,rfl,A2,by simp,fun n=>rfl⟩)
 refine⟨.map (some w.heap.size),w.alloc (.map #[] 0),_,?_,rfl,rfl,rfl,?_,rfl,this.1,this.2,C,M.H.size,κset_same _ _ _,rfl,by rw[hM]⟩
 ·rfl
 ·show M.H.push _=w.heap.push _;rw[hM]
theorem VQ {n}:∀{es i},(∀e∈es,∃m b,e.key=.int .i64 m∧e.val=.bool b)→
  (fz n es=none∧Instr.findNow (.int .i64) (.int .i64 n) es i=some none)∨
  (∃j b e,fz n es=some (.bool b)∧Instr.findNow (.int .i64) (.int .i64 n) es i=some (some (i+j,.bool b))∧es[j]? =some e∧e.key=.int .i64 n∧
   ∀f:MapEntry→MapEntry,(∀e,(f e).key=.int .i64 n)→fz n (es.modify j f)=some (f e).val∧(∀m,m≠n→fz m (es.modify j f)=fz m es)∧∀e'∈es.modify j f,e'∈es∨e'=f e)
 |[],i,_=>.inl ⟨rfl,rfl⟩
 |e::es,i,h=>by
  obtain⟨m,b,h1,h2⟩:=h e (by simp);by_cases hm:n=m
  ·subst hm;refine .inr ⟨0,b,e,?_,?_,rfl,h1,fun f hf=>⟨?_,fun m bx=>?_,fun e' he=>?_⟩⟩
   ·simp[fz,h1,h2]
   ·simp[Instr.findNow,Instr.sameNow,h1,h2]
   ·simp[fz,hf]
   ·simp[fz,hf,h1,bx]
   grind
  ·have hs:Instr.findNow (.int .i64) (.int .i64 n) (e::es) i=Instr.findNow (.int .i64) (.int .i64 n) es (i+1):=by
    have hb:(n==m)=false:=by simp[hm]
    simp[Instr.findNow,Instr.sameNow,h1,hb]
   have hf:fz n (e::es)=fz n es:=by simp[fz,h1,hm]
   rcases VQ (es:=es) (i:=i+1) (by grind) with⟨k1,k2⟩|⟨j,b',e',k1,k2,k3,k4,k5⟩
   ·exact .inl ⟨hf.trans k1,hs.trans k2⟩
   ·refine .inr ⟨j+1,b',e',hf.trans k1,by grind,by simp_all,k4,fun f hfk=>?_⟩;obtain⟨q1,q2,q3⟩:=k5 f hfk;refine⟨by simp[fz,h1,hm,q1],fun m' bx=>?_,fun e'' he=>?_⟩
    ·rw[List.modify_succ_cons];simp[fz,q2 m' bx]
    grind
theorem Pd {P w r es ck}(h:w.heap[r]? =some (.map es ck)):(getObj r).run P w=.ok (.map es ck) w:=by
 simp[getObj,Sem.run,h]
theorem vEb {P w r es ck} o (h:w.heap[r]? =some (.map es ck)):(setObj r o).run P w=.ok () {w with heap:=w.heap.setIfInBounds r o}:=by
 simp[setObj,Sem.run,h]
theorem Pe {P w k b n}(h:P.underlying k=some (.int .i64)):(Instr.checkKey b 10000 k (.int .i64 n)).run P w=.ok () w:=by
 unfold Instr.checkKey;simp[run_underlying h]
theorem Pf {P w k n es r}(h:P.underlying k=some (.int .i64))(hf:Instr.findNow (.int .i64) (.int .i64 n) es 0=some r):(Instr.findKey k (.int .i64 n) es).run P w=.ok r w:=by
 unfold Instr.findKey;simp[run_underlying h,hf]
theorem vQo {P M w}(ok:Ok M)(hM:M.H=w.heap){t x i v u rx ri}(hx:zX M x rx)(hi:zX M i ri)(h:yO (DO P M.h t x i) v u):qK P (Instr.lookup t rx ri false) M w v u:=by
 unfold DO at h;split at h
 case h_2=>exact h.elim
 rename_i id n;split at h
 case h_2=>exact h.elim
 rename_i df an;obtain⟨hb,h⟩:=Bh h;obtain⟨rfl,rfl⟩:=wO h;obtain⟨k,e,inf,h1,h2,h3,h4⟩:=vA9 hb;obtain⟨C,B,hC,hB,rfl⟩:=hx;obtain⟨C',aF,B',es,ck,k1,k2,k3,k4,k5⟩:=ok.obj id _ an;rw[hC] at aF;cases aF;rw[hB] at k1;cases k1;have mb:ri=.int .i64 n:=hi;subst mb;rw[hM] at k3;refine .pure (rv:=.bool ((df.lookup n).getD false)) ok hM ?_ rfl;have h5:=k5 n;unfold Instr.lookup;rcases VQ (n:=n) (i:=0) k4 with⟨q1,q2⟩|⟨j,b,e',q1,q2,q3,q4,q5⟩
 ·have:df.lookup n=none:=by cases hl:df.lookup n with|none=>rfl|some b=>simp_all
  simp[run_underlying h1,Pd k3,Pe h2,Pf h2 q2,zeroValue,typeInfo,h3,h4,this]
 ·have:df.lookup n=some b:=by cases hl:df.lookup n with|none=>simp_all|some b=>simp_all
  simp[run_underlying h1,Pd k3,Pe h2,Pf h2 q2,this]
theorem VR {n b c}:∀{es},fz n es=none→∀m,fz m (es++[⟨.int .i64 n,.bool b,c⟩])=if m=n then some (.bool b) else fz m es
 |[],_,m=>by rfl
 |e::es,h,m=>by
  rw[List.cons_append];have aI:∀(m:Int) (l:List MapEntry),fz m (e::l)=match e.key with|.int .i64 k=>if m=k then some e.val else fz m l|_=>fz m l:=fun m l=>rfl
  rw[aI] at h;rw[aI,aI];split at h
  ·rename_i k hk;split at h
   ·cases h
   ·by_cases hm:m=k
    ·grind
    ·rw[if_neg hm,VR h m,if_neg hm]
  ·exact VR h m
theorem vWx {P M w}(ok:Ok M)(hM:M.H=w.heap){t x i y v u rx ri ry}(hx:zX M x rx)(hi:zX M i ri)(hy:zX M y ry)(h:yO (DP P M.h t x i y) v u):
  v=.undef∧mW P (Instr.mapUpdate t rx ri ry) M w u:=by
 unfold DP at h;split at h
 case h_2=>exact h.elim
 rename_i id n b;split at h
 case h_2=>exact h.elim
 rename_i df an;obtain⟨hb,h⟩:=Bh h;obtain⟨_,rfl,rfl⟩:=gP h;obtain⟨k,e,inf,h1,h2,h3,h4⟩:=vA9 hb;obtain⟨C,B,hC,hB,rfl⟩:=hx;obtain⟨C',aF,B',es,ck,k1,k2,k3,k4,k5⟩:=ok.obj id _ an;rw[hC] at aF;cases aF;rw[hB] at k1;cases k1;have mb:ri=.int .i64 n:=hi;subst mb;have hry:ry=.bool b:=hy;subst hry;have k3':=k3;rw[hM] at k3;have write:∀(sr:Array MapEntry) (xk:Nat),(Instr.mapUpdate t (.map (some B)) (.int .i64 n) (.bool b)).run P w=.ok () {w with heap:=w.heap.setIfInBounds B (.map sr xk)}→
   (∀e∈sr.toList,∃m b,e.key=.int .i64 m∧e.val=.bool b)→(∀m,fz m sr.toList=if m=n then some (.bool b) else fz m es.toList)→mW P (Instr.mapUpdate t (.map (some B)) (.int .i64 n) (.bool b)) M w [(id,.imap ((n,b)::df))]:=by
  intro sr xk hr he hf;have Bk:∀c,(w.heap.setIfInBounds B (.map sr xk))[c]? =if c=B then some (.map sr xk) else w.heap[c]? :=by grind
  have hH:∀c,c∉C.fp→(w.heap.setIfInBounds B (.map sr xk))[c]? =M.H[c]? :=fun c hc=>by
   rw[Bk,if_neg (fun(e:c=B)=>hc (by rw[e];exact fQ hB)),hM]
  have cR:∀c,c<M.H.size→qX (w.heap.setIfInBounds B (.map sr xk)) c=qX M.H c:=fun c _=>by
   unfold qX;grind
  have := zL.write_ok ok an rfl hC C.le_refl (by simp) (by rw [hM]; simp) hH cR (o' := .imap ((n, b) :: df)) (by
   refine⟨B,sr,xk,hB,k2,?_,he,fun m=>?_⟩
   ·show(w.heap.setIfInBounds B (.map sr xk))[B]? =_;rw[Bk,if_pos rfl]
   grind)
  exact⟨_,_,hr,rfl,rfl,rfl,rfl,rfl,this.1,this.2⟩
 refine⟨rfl,?_⟩;rcases VQ (n:=n) (i:=0) k4 with⟨q1,q2⟩|⟨j,b',e',q1,q2,q3,q4,q5⟩
 ·refine write (es.push ⟨.int .i64 n,.bool b,ck⟩) (ck+1) ?_ (fun e he=>?_) fun m=>?_
  ·unfold Instr.mapUpdate;simp[run_underlying h1,Pd k3,Pe h2,Pf h2 q2,vEb _ k3]
  ·grind
  ·rw[Array.toList_push];exact VR q1 m
 ·refine write (es.modify j fun e=>{e with key:=.int .i64 n,val:=.bool b}) ck ?_ (by grind) fun m=>?_
  ·unfold Instr.mapUpdate;rw[Nat.zero_add] at q2;simp only[Array.getElem?_toList] at q3;simp[run_underlying h1,Pd k3,Pe h2,Pf h2 q2,vEb _ k3,q3,q4,Instr.keyThatStays,Instr.sameBits]
  all_goals grind
theorem yQe:∀(ns:List Int) (b:ByteArray),ns.foldl (fun r n=>r.push (UInt8.ofNat n.toNat)) b=⟨(b.data.toList++nH ns).toArray⟩
 |[],b=>by simp[nH]
 |n::ns,b=>by
  rw[List.foldl_cons,yQe ns];simp[nH]
theorem VT {P M}(ok:Ok M){c v xs}(hv:zZ M c v)(h:DE M.h c=some xs){w}(hM:M.H=w.heap):
  ∃A n k,v=.slice A n k∧(Conv.bytesToString v).run P w=.ok (.string ⟨(nH xs).toArray⟩) w:=by
 unfold DE at h;split at h
 ·cases h;refine⟨none,0,0,hv,?_⟩;rw[show v=.slice none 0 0 from hv];rfl
 ·split at h
  ·rename_i ys hr;obtain rfl:ys=xs:=by simp_all
   obtain⟨news,⟨A,k,e,hl,bR,lZ⟩,F,hE⟩:=VO ok hv hr rfl;refine⟨A,_,k,e,?_⟩;have hn:news=ys.map (Value.int .u8):=by
    refine List.ext_getElem (by simpa[Ty.size] using hl) fun j h1 h2=>?_
    have:=hE j (by simp_all);simp[qF,Ty.size] at this;grind
   subst e;cases A with
   |none=>
    have h1:ys=[]:=by grind
    subst h1;rfl
   |some a=>
    have mU:(loadCells a ys.length).run P w=.ok (ys.map (Value.int .u8)).toArray w:=by
     rcases lZ with h0|⟨h1,h2⟩
     ·have h1:ys=[]:=by grind
      subst h1;rfl
     ·have:=wZ.first (P:=P) (H:=M.H) (v:=.slice (some a) ys.length k) (n:=ys.length) (size:=1) (news:=news) ⟨_,k,rfl,by grind,bR,by grind⟩ w hM.symm
      rw[hn] at this
      simpa[Builtin.firstCells] using this
    rw[run_bytesToString w a _ k ys mU,yQe];rfl
  ·cases h
structure ud (M:zL) (w:World) (u:vG) (M':zL) (w':World):Prop where
 os:w'.os=w.os
 tape:w'.tape=w.tape
 output:w'.output=w.output
 H:M'.H=w'.heap
 h:M'.h=qJ M.h u
 ok:Ok M'
 step:yR M M'
def ue (P:Program)(f:Nat)(args:List zY)(h:Hp)(v:zY)(u:vG):Prop:=
 ∀(M:zL) (w:World) (vs:Array Value),M.h=h→M.H=w.heap→Ok M→zP (zX M) args vs.toList→
  ((callFunc f vs).run P w=.ok (.enter f vs) w∧Calls P f vs w fun
   |.returned rv,w'=>∃M',ud M w u M' w'∧zX M' v rv
   |_,_=>False)∨∃rv w' M',(callFunc f vs).run P w=.ok (.value rv) w'∧ud M w u M' w'∧zX M' v rv
def yLp (P:Program)(S:Ov):Prop:=∀k nm f args h v u,yO (S k nm f args h) v u→ue P f args h v u
structure gy (E:Env):Prop where
 eq:JN E.P E.eqT
 sums:yLp E.P E.sums
section
variable {P:Program} {Q:Exit→Act→World→Prop} {o:Oper} {a:Act} {w:World} {M:zL} {next:Act→World→Prop} {v:zY} {u:vG}
theorem gz {s}(hr:qK P s M w v u)(he:execOp a.eval o=(do pure (.value (←s)):Sem Next))(hn:∀M' w' rv,ud M w u M' w'→zX M' v rv→next (a.put o.dst rv) w'):
  o.wp P a w next Q:=by
 obtain⟨rv,w',M',h1,h2,h3,h4,h5,h6,h7,h8,h9⟩:=hr;unfold Oper.wp;rw[he];simp[h1];exact hn M' w' rv ⟨h2,h3,h4,h5,h6,h7,h8⟩ h9
theorem yK3 {s}(hr:mW P s M w u)(he:execOp a.eval o=(do s;pure .skip:Sem Next))(hn:∀M' w' rv,ud M w u M' w'→zX M' .undef rv→next (a.put o.dst rv) w'):
  o.wp P a w next Q:=by
 obtain⟨w',M',h1,h2,h3,h4,h5,h6,h7,h8⟩:=hr;unfold Oper.wp;rw[he];simp[h1];exact hn M' w' undef ⟨h2,h3,h4,h5,h6,h7,h8⟩ trivial
theorem pV (ok:Ok M)(hM:M.H=w.heap){rv}(hu:u=[])(hv:zX M v rv)(he:(execOp a.eval o).run P w=.ok (.value rv) w)(hn:∀M' w' rv,ud M w u M' w'→zX M' v rv→next (a.put o.dst rv) w'):
  o.wp P a w next Q:=by
 unfold Oper.wp;rw[he];subst hu;exact hn M w rv ⟨rfl,rfl,rfl,hM,rfl,ok,.refl M⟩ hv
end
theorem J6 {α β} f:∀(l:List α) (r:List β),l.mapM f=some r→zP (fun a b=>f a=some b) l r
 |[],r,h=>by simp at h;subst h;trivial
 |a::l,r,h=>by
  simp[Option.bind_eq_some_iff] at h;obtain⟨b,h1,bs,h2,h3⟩:=h;cases h3;exact⟨h1,J6 f l bs h2⟩
theorem zP.map_left {α β γ R}{f:α→γ}:∀{l} {m:List β},zP (fun a b=>R (f a) b) l m→zP R (l.map f) m
 |[],[],_=>trivial
 |_::_,_::_,h=>⟨h.1,zP.map_left h.2⟩
def _root_.Go.Operand.lit:Operand→Value
 |.const c=>c
 |_=>undef
theorem vQv {P:Program}{M:zL}{w:World}{t:TypeId}{d}{y:Operand}{x:qC}{rx ry:Value}{b:Bool}(hu:P.underlying t=some d)(hx:zZ M x rx)(hy:ry=y.lit)
  (h:Ua d y x=some b) op (ss:op=.eql∨op=.neq) ox oy:
  (eqGuard op t ox oy rx ry).run P w=.ok () w∧(binOp op t rx ry).run P w=.ok (.bool (rS op b)) w:=by
 have key:∀n,(Op.equalIn (n+1) t rx ry).run P w=.ok b w→(eqGuard op t ox oy rx ry).run P w=.ok () w→(binOp op t rx ry=match op with|.eql=>(do pure (.bool (←Op.equal t rx ry)))|_=>(do pure (.bool (!(←Op.equal t rx ry)))))→
   n=9999→(eqGuard op t ox oy rx ry).run P w=.ok () w∧(binOp op t rx ry).run P w=.ok (.bool (rS op b)) w:=by
  intro n h1 h2 h3 hn;have fa:(Op.equal t rx ry).run P w=.ok b w:=by subst hn;exact h1
  refine⟨h2,?_⟩;rw[h3];rcases ss with rfl|rfl<;>simp[fa,rS]
 unfold Ua at h;split at h<;>cases h<;>simp only[Operand.lit] at hy<;>subst hy;all_goals (try obtain rfl:rx=_:=hx)
 all_goals (try obtain⟨C,B,_,_,_,rfl⟩:=hx)
 all_goals (try obtain⟨B,o,rfl,_⟩:=hx)
 all_goals (try obtain⟨cv,rfl,_⟩:=hx)
 all_goals (try obtain⟨⟨_,_,_,rfl⟩,_⟩:=hx)
 all_goals
  refine key 9999 ?_ ?_ ?_ rfl
  ·generalize 9999=n;unfold Op.equalIn;simp[run_underlying hu]
  ·rcases ss with rfl|rfl<;>simp[eqGuard]
  ·rcases ss with rfl|rfl<;>rfl
theorem vQl {M}(ok:Ok M){c v n}(hv:zZ M c v)(h:DG M.h c=some n)(hn:0<n):∃a k,v=.slice (some a) n k:=by
 unfold DG at h;split at h
 ·rename_i sh t xs;cases h;have hv:qF M.H (bif sh then M.G else M.F) (.sl t) xs (fun _=>some v):=hv;simp[qF] at hv;obtain⟨A,m,c,rfl,rfl,hc,h⟩:=hv;rcases h with⟨rfl,_⟩|⟨B,o,rfl,_⟩
  ·simp at hn
  ·exact⟨_,_,rfl⟩
 ·rename_i id;split at h
  ·rename_i own t xs an;cases h;obtain⟨C,hC,hO⟩:=ok.obj _ _ an;obtain⟨C',aF,A,k,e,hS⟩:=hv;rw[hC] at aF;cases aF;have hl:C.len=xs.length:=hO.1;rw[e,hl];cases hB:C.blk with
   |none=>rw[hB] at hS;omega
   |some B=>
    rw[hB] at hS;obtain⟨_,a,rfl,_⟩:=hS;exact⟨_,_,rfl⟩
  ·cases h
 ·cases h
theorem VU {P:Program}{w:World}{t e}{a n k}(hu:P.underlying t=some (.slice e)) op (ss:op=.eql∨op=.neq) ox oy:
  (eqGuard op t ox oy (.slice (some a) n k) (.slice none 0 0)).run P w=.ok () w∧(binOp op t (.slice (some a) n k) (.slice none 0 0)).run P w=.ok (.bool (rS op false)) w:=by
 have key:∀m,(Op.equalIn (m+1) t (.slice (some a) n k) (.slice none 0 0)).run P w=.ok false w:=fun m=>by
  unfold Op.equalIn;simp[run_underlying hu]
 have h1:(Op.equal t (.slice (some a) n k) (.slice none 0 0)).run P w=.ok false w:=key 9999;rcases ss with rfl|rfl
 ·refine⟨by simp[eqGuard],?_⟩;rw[show binOp .eql t (.slice (some a) n k) (.slice none 0 0)=(do pure (.bool (←Op.equal t (.slice (some a) n k) (.slice none 0 0)))) from rfl];simp[h1,rS]
 ·refine⟨by simp[eqGuard],?_⟩;rw[show binOp .neq t (.slice (some a) n k) (.slice none 0 0)=(do pure (.bool (!(←Op.equal t (.slice (some a) n k) (.slice none 0 0))))) from rfl];simp[h1,rS]
theorem VV {M}{ev:Operand→zY}{ρ:Operand→Value}(aV:∀x,zX M (ev x) (ρ x)):∀(l:List (Nat×Operand)),zP (Be M) (l.map fun p=>(p.1,ev p.2)) (l.map fun p=>(p.1,ρ p.2))
 |[]=>trivial
 |p::l=>⟨⟨rfl,aV p.2⟩,VV aV l⟩
theorem yZt {f:Operand→Value}(parts:Array (Nat×Operand)):(parts.map fun(i,x)=>(i,f x))=(parts.toList.map fun p=>(p.1,f p.2)).toArray:=by
 grind
theorem yRn {M}{ev:Operand→zY}{ρ}(aV:∀x,zX M (ev x) (ρ x)):∀{l ids},zP (fun x id=>wy (ev x)=some id) l ids→
  zP (fun id u=>∃C B,M.κ id=some C∧C.blk=some B∧u=.pointer (some ⟨B,0,none⟩)) ids (l.map ρ)
 |[],[],_=>trivial
 |x::l,id::ids,h=>by
  refine⟨?_,yRn aV h.2⟩;have h1:wy (ev x)=some id:=h.1;have hx:=aV x;unfold wy at h1;split at h1
  ·rename_i Eu hc;cases h1;rw[hc] at hx;exact hx
  ·cases h1
theorem yX0 {M ev ρ}(aV:∀x,zX M (ev x) (ρ x)):∀(l:List Operand),zP (zX M) (l.map ev) (l.map ρ)
 |[]=>trivial
 |x::l=>⟨aV x,yX0 aV l⟩
theorem vSe {E}(hE:gy E){A}{k pre}{Q}{o}{a}{w}{M}{next}{v}{u ev}(ok:Ok M)(hM:M.H=w.heap)
  (aV:∀x,zX M (ev x) (a.eval x)) (h:yO (lv E A k pre o ev M.h) v u) (hn:∀M' w' rv,ud M w u M' w'→zX M' v rv→next (a.put o.dst rv) w'):o.wp E.P a w next Q:=by
 unfold lv at h;dsimp only at h;split at h
 ·rename_i x ho;obtain⟨rfl,rfl⟩:=wO h;exact pV ok hM rfl (aV x) (by cases o;cases ho;rfl) hn
 ·rename_i x ho;obtain⟨rfl,rfl⟩:=wO h;exact pV ok hM rfl (aV x) (by cases o;cases ho;rfl) hn
 ·rename_i c x y ho;split at h
  ·rename_i cb hc;have lC:=aV c;rw[hc] at lC;have lC:a.eval c=.bool cb:=lC;split at h
   ·rename_i xb yb hx hy;obtain⟨rfl,rfl⟩:=wO h;have h1:=aV x;have h2:=aV y;rw[hx] at h1;rw[hy] at h2;refine pV (rv:=.bool (bif cb then xb else yb)) ok hM rfl (show zX M (.c (.bool _)) (.bool _) from rfl) ?_ hn;have h1:a.eval x=.bool xb:=h1;have h2:a.eval y=.bool yb:=h2;cases o;cases ho;show(do pure (.value (if←asBool (a.eval c) then a.eval x else a.eval y)):Sem Next).run E.P w=_;cases cb<;>simp[lC,asBool,h1,h2]
   ·refine pV (rv:=if cb then a.eval x else a.eval y) ok hM ?_ ?_ ?_ hn
    ·rcases h with⟨_,_,rfl⟩|⟨_,⟨_,_,rfl⟩|⟨_,h⟩⟩
     ·rfl
     ·rfl
     ·exact h.elim
    ·rcases h with⟨rfl,rfl,_⟩|⟨rfl,⟨_,rfl,_⟩|⟨_,h⟩⟩
     ·exact aV x
     ·exact aV y
     ·exact h.elim
    ·cases o;cases ho;show(do pure (.value (if←asBool (a.eval c) then a.eval x else a.eval y)):Sem Next).run E.P w=_;cases cb<;>simp[lC,asBool]
  ·exact h.elim
 ·rename_i t ho;split at h
  ·rename_i zs aU hz;obtain⟨_,rfl,rfl⟩:=gP h;exact gz (Vl ok hM aU hz) (by cases o;cases ho;rfl) hn
  ·exact h.elim
 ·rename_i t x ho;split at h
  ·rename_i vs aU hv;obtain⟨_,rfl,rfl⟩:=gP h;exact gz (vMx ok hM aU (aV x) hv _) (by cases o;cases ho;rfl) hn
  ·exact h.elim
 ·rename_i t parts ho;have hp:=VV aV parts.toList;have:=vWr ok hM hp h;exact gz this (by cases o;cases ho;rw[←yZt];rfl) hn
 ·rename_i t n parts ho;have hp:=VV aV parts.toList;exact gz (Vt ok hM hp h) (by cases o;cases ho;rw[←yZt];rfl) hn
 ·rename_i t x ho;exact gz (vZ2 ok hM (aV x) h) (by cases o;cases ho;rfl) hn
 ·rename_i t x y ho;obtain⟨rfl,hr⟩:=vM8 ok hM (aV x) (aV y) h;exact yK3 hr (by cases o;cases ho;rfl) hn
 ·rename_i x ho;have hx:=aV x;have key:∀c,ev x=.c c→v=.c c→u=[]→(match a.eval x with|.pointer none|.nilIface|.nilFunc=>False|.func (.method _) _ _=>False|_=>True)→o.wp E.P a w next Q:=by
   intro c hc hv hu hm;rw[hc] at hx;refine pV (rv:=a.eval x) ok hM hu (by rw[hv];exact hx) ?_ hn;cases o;cases ho;simp only[execOp];generalize a.eval x=r at*
   split<;>first|rfl|exact hm.elim
  split at h
  ·rename_i i j hc;obtain⟨rfl,rfl⟩:=wO h;refine key _ hc rfl rfl ?_;rw[hc] at hx;obtain⟨C,B,_,_,e⟩:=hx;rw[e];trivial
  ·rename_i i j k hc;obtain⟨rfl,rfl⟩:=wO h;refine key _ hc rfl rfl ?_;rw[hc] at hx;obtain⟨C,B,_,_,_,e⟩:=hx;rw[e];trivial
  ·rename_i i j k l hc;obtain⟨rfl,rfl⟩:=wO h;refine key _ hc rfl rfl ?_;rw[hc] at hx;obtain⟨B,o,e,_⟩:=hx;rw[e];trivial
  ·rename_i i j hc;obtain⟨rfl,rfl⟩:=wO h;refine key _ hc rfl rfl ?_;rw[hc] at hx;obtain⟨cv,e,_⟩:=hx;rw[e];trivial
  ·exact h.elim
 ·rename_i op t x y _ ho;cases hc:(Uc y&&Ub op) with
  |false=>
   rw[hc] at h;exact gz (Vc hE.eq ok hM (aV x) (aV y) h) (by cases o;cases ho;rfl) hn
  |true=>
   rw[hc] at h;rw[Bool.and_eq_true] at hc;have ss:op=.eql∨op=.neq:=by cases op<;>first|(left;rfl)|(right;rfl)|(cases hc.2)
   split at h
   ·rename_i d cv hu lC;split at h
    ·rename_i b hb;obtain⟨rfl,rfl⟩:=wO h;have hx:=aV x;rw[lC] at hx;have hy:a.eval y=y.lit:=by
      cases y<;>first|rfl|(cases hc.1)
     obtain⟨h1,h2⟩:=vQv (w:=w) hu hx hy hb op ss x y;refine pV (rv:=.bool (rS op b)) ok hM rfl (show zX M (.c (.bool _)) (.bool _) from rfl) ?_ hn;cases o;cases ho;show(do pure (.value (←(do eqGuard op t x y (a.eval x) (a.eval y);binOp op t (a.eval x) (a.eval y)))):Sem Next).run E.P w=_;simp only[Sem.run_bind,h1,Result.andThen_ok,h2,Sem.run_pure]
    ·split at h
     ·rename_i n hln ahm;obtain⟨me,rfl,rfl⟩:=lY h;have hx:=aV x;rw[lC] at hx;obtain⟨a',k',hx⟩:=vQl ok hx hln (by simpa using me);obtain⟨h1,h2⟩:=VU (P:=E.P) (w:=w) (a:=a') (n:=n) (k:=k') hu op ss x (.const (.slice none 0 0));have hy:a.eval (.const (.slice none 0 0))=.slice none 0 0:=rfl;refine pV (rv:=.bool (rS op false)) ok hM rfl (show zX M (.c (.bool _)) (.bool _) from rfl) ?_ hn;cases o;cases ho;show(do pure (.value (←(do eqGuard op t x (.const (.slice none 0 0)) (a.eval x) (a.eval (.const (.slice none 0 0)));binOp op t (a.eval x) (a.eval (.const (.slice none 0 0)))))):Sem Next).run E.P w=_;rw[hx,hy];simp only[Sem.run_bind,h1,Result.andThen_ok,h2,Sem.run_pure]
     ·exact h.elim
   ·exact h.elim
 ·rename_i op t x ho;exact gz (Vd ok hM (aV x) h) (by cases o;cases ho;rfl) hn
 ·rename_i s d x ho;split at h
  ·rename_i k1 k k2 n hs hd hx;obtain⟨rfl,rfl⟩:=wO h;have mf:=aV x;rw[hx] at mf;have mf:a.eval x=.int k2 n:=mf;refine pV (rv:=.int k (k.wrap n)) ok hM rfl (show zX M (.c (.int _ _)) (.int _ _) from rfl) ?_ hn;cases o;cases ho;show(do pure (.value (←convert s d (a.eval x))):Sem Next).run E.P w=_;simp[convert,run_underlying hs,run_underlying hd,mf,Conv.intToInt]
  ·rename_i e c hs hd hx;split at h
   ·rename_i xs he J7;obtain⟨rfl,rfl⟩:=wO h;have mf:=aV x;rw[hx] at mf;obtain⟨A,n,k,e1,e2⟩:=VT (P:=E.P) (w:=w) ok mf J7 hM;refine pV (rv:=.string ⟨(nH xs).toArray⟩) ok hM rfl (show zX M (.c (.str xs)) _ from rfl) ?_ hn;cases o;cases ho;show(do pure (.value (←convert s d (a.eval x))):Sem Next).run E.P w=_;rw[e1] at e2⊢;simp only[Sem.run_bind,run_convert_bytes_string w s d e A n k hs he hd,e2,Result.andThen_ok,Sem.run_pure]
   ·exact h.elim
  ·exact h.elim
 ·rename_i f first captured ho
  cases hf:Nat.beq first.size 0 with
  |false=>rw[hf] at h;exact h.elim
  |true=>
   rw[hf] at h;simp only[cond_true] at h;split at h
   ·rename_i ids kI;obtain⟨rfl,rfl⟩:=wO h;have h0:first=#[]:=Array.eq_empty_of_size_eq_zero (by simpa using hf)
    refine pV (rv:=.func (.func f) #[] (captured.map a.eval)) ok hM rfl ?_ ?_ hn
    case refine_2=>
     cases o;cases ho;show(do pure (.value (←Instr.makeFunc (.func f) (first.map a.eval) (captured.map a.eval))):Sem Next).run E.P w=_;subst h0;simp[Instr.makeFunc]
    refine⟨_,rfl,?_⟩;rw[Array.toList_map];exact yRn aV (J6 _ _ _ kI)
   ·exact h.elim
 ·rename_i t l c ho;exact gz (vY7 ok hM (aV l) (aV c) h) (by cases o;cases ho;rfl) hn
 ·rename_i t ho;exact gz (vUo ok hM h) (by cases o;cases ho;rfl) hn
 ·rename_i t x i ho;exact gz (vQo ok hM (aV x) (aV i) h) (by cases o;cases ho;rfl) hn
 ·rename_i t x i y ho;obtain⟨rfl,hr⟩:=vWx ok hM (aV x) (aV i) (aV y) h;exact yK3 hr (by cases o;cases ho;rfl) hn
 ·rename_i t x lo hi mx ho;have hO:∀y:Option Operand,Eg M (y.map ev) (y.map a.eval):=fun y=>by
   cases y with
   |none=>trivial
   |some y=>exact aV y
  exact gz (vUt ok hM (aV x) (hO lo) (hO hi) (hO mx) h) (by cases o;cases ho;rfl) hn
 ·rename_i t x f ho;exact gz (vVb ok hM (aV x) h) (by cases o;cases ho;rfl) hn
 ·rename_i t x f ho;exact gz (U3 ok hM (aV x) h) (by cases o;cases ho;rfl) hn
 ·rename_i t x i ho;exact gz (vNe ok hM (aV x) (aV i) h) (by cases o;cases ho;rfl) hn
 ·rename_i t x i ho;split at h
  ·rename_i s;exact gz (U4 ok hM (aV i) h) (by cases o;cases ho;rfl) hn
  ·exact gz (vMj ok hM (aV x) (aV i) h) (by cases o;cases ho;rfl) hn
 ·rename_i t i ho;have ht:=aV t;split at h
  ·rename_i xs J7;rw[J7] at ht;obtain⟨vs,dI,bn⟩:=ht;split at h
   ·rename_i g cs hi;obtain⟨hp,rfl⟩:=Uz h;have hl:=bn.length;have bd:i<xs.length:=by
     rcases Nat.lt_or_ge i xs.length with h|h
     ·exact h
     ·rw[List.getElem?_eq_none h] at hi;cases hi
    have kF:i<vs.size:=by simp at hl;omega
    have hc:=bn.get i bd (by simpa using kF);rw[List.getElem?_eq_getElem bd,Option.some.injEq] at hi;rw[hi] at hc;refine pV (rv:=vs[i]) ok hM rfl ?_ ?_ hn
    ·rcases UF hp with⟨e1,rfl⟩|⟨e1,c,rfl,rfl⟩
     ·cases e1;exact hc
     ·cases e1;exact hc
    ·cases o;cases ho;show(do pure (.value (←Instr.extract (a.eval t) i)):Sem Next).run E.P w=_;rw[dI];simp[Instr.extract,kF]
   ·exact h.elim
  ·exact h.elim
 ·rename_i c ho;have cJ:=yX0 aV c.args.toList;have exec:∀b,c.callee=.builtin b→∀s:Sem Value,(∀C,Go.builtin b c.argTypes o.type C (c.args.map a.eval)=(do pure (.value (←s)):Sem Next))→execOp a.eval o=(do pure (.value (←s)):Sem Next):=fun b hb s hs=>by
   cases o;cases ho;show(do let d←resolve a.eval c _;invoke d.target d.args:Sem Next)=_;unfold resolve;rw[hb];exact hs _
  have kJ:c.args.map a.eval=(c.args.toList.map a.eval).toArray:=by cases c.args;simp
  split at h
  ·rename_i b kK;unfold Uq at h;split at h
   ·split at h
    case h_2=>exact h.elim
    rename_i x hx;have h1:∃rx,(c.args.toList.map a.eval).toArray=#[rx]∧zZ M x rx:=by
     rw[hx] at cJ
     match hl:c.args.toList.map a.eval,cJ with
     |[rx],hh=>exact⟨rx,rfl,hh.1⟩
    obtain⟨rx,Bl,mf⟩:=h1;split at h
    ·rename_i e hu;split at h
     ·rename_i n hlen;obtain⟨rfl,rfl⟩:=wO h;obtain⟨t,ht,hu⟩:=Option.bind_eq_some_iff.1 hu;obtain⟨A,k,rfl⟩:=vXq ok mf hlen;refine gz (s:=Builtin.len_ c.argTypes o.type (c.args.map a.eval)) ?_ (exec _ kK _ fun _=>rfl) hn;rw[kJ,Bl];exact .pure ok hM (vNt ht hu) rfl
     ·exact h.elim
    ·exact h.elim
   ·split at h
    case h_2=>exact h.elim
    rename_i b x hx;have h1:∃rb rx,(c.args.toList.map a.eval).toArray=#[rb,rx]∧zX M b rb∧zX M x rx:=by
     rw[hx] at cJ
     match hl:c.args.toList.map a.eval,cJ with
     |[rb,rx],hh=>exact⟨rb,rx,rfl,hh.1,hh.2.1⟩
    obtain⟨rb,rx,Bl,VW,mf⟩:=h1;split at h
    ·rename_i t t' hts;obtain⟨htt,h'⟩:=Bh h;have:t=t':=by simpa using htt
     subst this;refine gz (s:=Builtin.append_ c.argTypes o.type (c.args.map a.eval)) ?_ (exec _ kK _ fun _=>rfl) hn;have ht:c.argTypes=#[t,t]:=by
      have:=congrArg List.toArray hts
      simpa using this
     rw[kJ,Bl,ht];exact VN ok hM VW mf h'
    ·exact h.elim
   ·split at h
    case h_2=>exact h.elim
    rename_i d s hx;have h1:∃rb rx,(c.args.toList.map a.eval).toArray=#[rb,rx]∧zX M d rb∧zX M s rx:=by
     rw[hx] at cJ
     match hl:c.args.toList.map a.eval,cJ with
     |[rb,rx],hh=>exact⟨rb,rx,rfl,hh.1,hh.2.1⟩
    obtain⟨rb,rx,Bl,VW,mf⟩:=h1;split at h
    ·rename_i e hu;obtain⟨VX,h⟩:=Bh h;obtain⟨t,ht,hu⟩:=Option.bind_eq_some_iff.1 hu;refine gz (s:=Builtin.copy_ c.argTypes o.type (c.args.map a.eval)) ?_ (exec _ kK _ fun _=>rfl) hn;rw[kJ,Bl];exact VP ok hM ht hu (by simpa using VX) VW mf h
    ·exact h.elim
   ·split at h
    case h_2=>exact h.elim
    rename_i id lo n hx;have h1:∃rx,(c.args.toList.map a.eval).toArray=#[rx]∧zZ M (.osl id (some (lo,n))) rx:=by
     rw[hx] at cJ
     match hl:c.args.toList.map a.eval,cJ with
     |[rx],hh=>exact⟨rx,rfl,hh.1⟩
    obtain⟨rx,Bl,mf⟩:=h1;split at h
    ·rename_i t ht;refine gz (s:=Builtin.clear_ c.argTypes o.type (c.args.map a.eval)) ?_ (exec _ kK _ fun _=>rfl) hn;rw[kJ,Bl];obtain⟨rv,w',M',q1,q2⟩:=VM (T:=o.type) ok hM mf h;refine⟨rv,w',M',?_,q2⟩;have e:(Builtin.clear_ c.argTypes o.type #[rx]).run E.P w=(Builtin.clear_ #[t] o.type #[rx]).run E.P w:=by
      simp only[Builtin.clear_,ht];rfl
     rw[e];exact q1
    ·exact h.elim
   ·refine gz (s:=Builtin.max_ c.argTypes o.type (c.args.map a.eval)) ?_ (exec _ kK _ fun _=>rfl) hn;rw[kJ];exact vBm (lt:=false) (ts:=c.argTypes) (T:=o.type) ok hM cJ h
   ·refine gz (s:=Builtin.min_ c.argTypes o.type (c.args.map a.eval)) ?_ (exec _ kK _ fun _=>rfl) hn;rw[kJ];exact vBm (lt:=true) (ts:=c.argTypes) (T:=o.type) ok hM cJ h
   ·exact h.elim
  ·rename_i f kK;split at h
   ·rename_i VY cap hf;have hfv:=aV f;rw[hf] at hfv;obtain⟨cv,lC,J8⟩:=hfv;have bn:zP (zX M) (c.args.toList.map ev++cap.map fun id=>.c (.ptr id 0)) (c.args.map a.eval++cv).toList:=by
     rw[Array.toList_append,Array.toList_map];exact cJ.append (zP.map_left J8)
    have tY:(execOp a.eval o).run E.P w=(callFunc VY (c.args.map a.eval++cv)).run E.P w:=by
     cases o;cases ho;show(do let d←resolve a.eval c _;invoke d.target d.args:Sem Next).run E.P w=_;unfold resolve;rw[kK];simp only[lC,Deferred.ofValue,Sem.run_bind,Sem.run_pure,Result.andThen_ok,invoke,Array.empty_append]
    rcases hE.sums k _ VY _ M.h v u h M w _ rfl hM ok bn with⟨h1,h2⟩|⟨rv,w',M',h1,hB,hv⟩
    case inr=>
     unfold Oper.wp;rw[tY,h1];exact hn M' w' rv hB hv
    unfold Oper.wp;rw[tY,h1,Oper.upon_enter];refine Calls.mono h2 fun e w' he=>?_
    cases e with
    |returned rv=>
     obtain⟨M',hB,hv⟩:=he;exact hn M' w' rv hB hv
    |panicked _=>exact he.elim
    |outgrown=>exact he.elim
   ·exact h.elim
  ·exact h.elim
 ·exact h.elim
section
variable {P:Program} {h h':Hp}
theorem vXv {t a}(hh:∀id∈yU a,h id=h' id):DI P h t a=DI P h' t a:=by
 unfold DI;cases a with
 |c v=>cases v<;>first|rfl|(have:=hh _ (List.mem_singleton.2 rfl);simp_all)
 |_=>rfl
theorem yKt {v}(hh:∀id∈vL v,h id=h' id):oP h v=oP h' v:=by
 unfold oP;cases v<;>first|rfl|(have:=hh _ (List.mem_singleton.2 rfl);simp_all)
theorem VZ:∀{vs},(∀id∈vs.flatMap vL,h id=h' id)→nI h vs=nI h' vs
 |[],_=>rfl
 |v::vs,hh=>by
  simp  at hh;unfold nI;rw[yKt fun id hi=>hh id (.inl hi),VZ (by grind)]
theorem yXh {v vs}(e:oN v=some vs):vs.flatMap vL=yU v:=by
 unfold oN at e;split at e
 ·cases e;simp[yU]
 ·cases e;rfl
 ·cases e
theorem vUd {t a v}(ha:∀id∈yU a,h id=h' id)(hv:∀id∈yU v,h id=h' id):DJ P h t a v=DJ P h' t a v:=by
 unfold DJ;cases e:oN v with
 |none=>rfl
 |some vs=>
  have hf:nI h vs=nI h' vs:=VZ (by rw[yXh e];exact hv);cases a with
  |c x=>
   cases x with
   |mptr id i=>
    have h1:=ha _ (List.mem_singleton.2 rfl);simp only[h1];generalize h' id=ob;rcases ob with _|(_|_|_|_|_|_|_)<;>first|rfl|skip
    all_goals cases v with
    |c y=>cases y with
     |osl jd r=>cases r with
      |none=>
       have h2:=hv _ (List.mem_singleton.2 rfl);simp_all
      |some _=>rfl
     |_=>rfl
    |_=>rfl
   |ptr id off=>
    have h1:=ha _ (List.mem_singleton.2 rfl);simp_all
   |eptr id i off=>
    have h1:=ha _ (List.mem_singleton.2 rfl);simp_all
   |meptr id i j ver=>
    have h1:=ha _ (List.mem_singleton.2 rfl);simp[h1]
   |_=>rfl
  |_=>rfl
theorem Pg {v}(hh:∀id∈vL v,h id=h' id):kC h v=kC h' v:=by
 unfold kC;cases v<;>first|rfl|(have:=hh _ (List.mem_singleton.2 rfl);simp_all)
theorem V0 {v}(hh:∀id∈vL v,h id=h' id):DF h v=DF h' v:=by
 have e:=Pg hh;unfold DF;grind
theorem V1 {t x i}(hh:∀id∈yU x,h id=h' id):DK P h t x i=DK P h' t x i:=by
 unfold DK;generalize P.underlying t=d;rcases d with _|d
 ·rfl
 ·cases d with
  |slice e=>
   cases x with
   |c v=>
    cases i with
    |c iv=>
     cases iv with
     |int k n=>cases v<;>first|rfl|(have:=hh _ (List.mem_singleton.2 rfl);simp_all)
     |_=>cases v<;>rfl
    |_=>rfl
   |_=>rfl
  |array n e=>
   grind
  |_=>rfl
theorem V2 {nm t}(h0:h nm=h' nm):DN P nm h t=DN P nm h' t:=by
 unfold DN;rw[h0]
theorem V3 {t x i}(hh:∀id∈yU x,h id=h' id):DO P h t x i=DO P h' t x i:=by
 unfold DO;split
 ·rename_i id n;rw[hh id (by simp[yU,vL])]
 ·rfl
theorem V4 {t x i y}(hh:∀id∈yU x,h id=h' id):DP P h t x i y=DP P h' t x i y:=by
 unfold DP;split
 ·rename_i id n b;rw[hh id (by simp[yU,vL])]
 ·rfl
theorem V5 {t x lo hi mx}(hh:∀id∈yU x,h id=h' id):DQ P h t x lo hi mx=DQ P h' t x lo hi mx:=by
 unfold DQ;split
 ·rfl
 ·rename_i id r _;rw[hh id (by simp[yU,vL])]
 ·rename_i id _;rw[hh id (by simp[yU,vL])]
 ·rename_i id off _;rw[hh id (by simp[yU,vL])]
 ·rfl
theorem V6 {v}(hh:∀id∈yU v,h id=h' id):AU h v=AU h' v:=by
 unfold AU;cases v with
 |c v=>cases v with
  |osl jd r=>cases r with
   |none=>
    have h2:=hh _ (List.mem_singleton.2 rfl);simp_all
   |some _=>rfl
  |_=>rfl
 |_=>rfl
theorem yYd:∀{parts rows},(∀id∈(parts.map (·.2)).flatMap yU,h id=h' id)→AV h rows parts=AV h' rows parts
 |[],_,_=>rfl
 |(i,v)::rest,rows,hh=>by
  simp only[List.map_cons,List.flatMap_cons,List.mem_append] at hh;unfold AV;rw[V6 fun id hi=>hh id (.inl hi)];cases AU h' v with
  |none=>rfl
  |some p=>simp[yYd fun id hi=>hh id (.inr hi)]
theorem yGs {t}:∀{parts xs},(∀id∈(parts.map (·.2)).flatMap yU,h id=h' id)→rT h t xs parts=rT h' t xs parts
 |[],_,_=>rfl
 |(i,v)::rest,xs,hh=>by
  simp only[List.map_cons,List.flatMap_cons,List.mem_append] at hh;unfold rT;cases e:oN v with
  |none=>rfl
  |some vs=>
   have hf:nI h vs=nI h' vs:=VZ (by rw[yXh e];simp_all);simp[hf];cases nI h' vs with
   |none=>rfl
   |some p=>
    dsimp only;cases Ju t p.1 with
    |none=>rfl
    |some x=>simp[yGs fun id hi=>hh id (.inr hi)]
theorem V7 {mat nm t n parts}(h0:h nm=h' nm)(hh:∀id∈(parts.map (·.2)).flatMap yU,h id=h' id):
  DL P mat nm h t n parts=DL P mat nm h' t n parts:=by
 have e':∀ty:Ty,rT h ty (List.replicate n ty.dflt) parts=rT h' ty (List.replicate n ty.dflt) parts:=fun ty=>yGs hh
 unfold DL;rw[h0,yYd hh];simp_all
theorem vSx {mat nm t l c}(h0:h nm=h' nm):DM P mat nm h t l c=DM P mat nm h' t l c:=by
 unfold DM;rw[h0]
theorem vTo {t v}(hh:∀id∈vL v,h id=h' id):tN h t v=tN h' t v:=by
 unfold tN;cases v with
 |osl id r=>
  have:=hh _ (List.mem_singleton.2 rfl);simp_all
 |_=>rfl
theorem vPw {mat:Bool}{nm:Nat}{t:TypeId}{b x:zY}(h0:h nm=h' nm)(hb:∀id∈yU b,h id=h' id)(hx:∀id∈yU x,h id=h' id):DR P mat nm h t b x=DR P mat nm h' t b x:=by
 unfold DR;rw[h0];generalize P.underlying t=d;rcases d with _|d
 ·rfl
 cases d with
 |slice e=>
  generalize h' nm=on;cases on with
  |some _=>rfl
  |none=>
   cases b with
   |c b=>
    cases x with
    |c x=>
     have ht:∀ty,tN h ty x=tN h' ty x:=fun ty=>vTo hx
     simp only[ht];cases b with
     |osl id r=>
      have h1:=hb _ (List.mem_singleton.2 rfl);simp only[h1];cases x with
      |osl jd r2=>
       have h2:=hx _ (List.mem_singleton.2 rfl);grind
      |_=>cases mat with
       |false=>rfl
       |true=>
        generalize kB P e=et;rcases et with _|(_|_|_|_)<;>first|rfl|skip
        rename_i t2;cases t2<;>first|rfl|skip
        rename_i k;cases k<;>cases r<;>rfl
     |_=>cases mat with
      |false=>rfl
      |true=>
       generalize kB P e=et;rcases et with _|(_|_|_|_)<;>first|rfl|skip
       rename_i t2;cases t2<;>first|rfl|skip
       rename_i k;cases k<;>rfl
    |_=>rfl
   |_=>rfl
 |_=>rfl
theorem V8 {d s}(hd:∀id∈yU d,h id=h' id)(hs:∀id∈yU s,h id=h' id):DS h d s=DS h' d s:=by
 unfold DS;cases d with
 |c d=>
  cases s with
  |c s=>
   cases d with
   |bsl id off n=>
    have h1:=hd _ (List.mem_singleton.2 rfl);have h2:kC h s=kC h' s:=Pg hs;grind
   |_=>rfl
  |_=>simp
 |_=>rfl
end
theorem vVz {E}{A}{k pre}{o}{ev uf}{h}(he:∀x∈o.op.operands,ev x=uf x):lv E A k pre o ev h=lv E A k pre o uf h:=by
 obtain⟨dst,op,type,pos,after,guard⟩:=o;have fP:∀ps:Array (Nat×Operand),(∀x∈ps.map (·.2),ev x=uf x)→(ps.toList.map fun p=>(p.1,ev p.2))=(ps.toList.map fun p=>(p.1,uf p.2)):=fun ps hp=>
  List.map_congr_left (by grind)
 have maps:∀xs:Array Operand,(∀x∈xs,ev x=uf x)→xs.toList.map ev=xs.toList.map uf:=by simp
 cases op<;>simp only[Op.operands] at he<;>simp only[lv]
 case build t ps=>rw[fP ps fun x hx=>he x (by simpa using hx)]
 case buildSlice t n ps=>rw[fP ps fun x hx=>he x (by simpa using hx)]
 case makeFunc fn first captured=>
  cases fn<;>first|rfl|skip
  have:captured.toList.mapM (fun x=>wy (ev x))=captured.toList.mapM (fun x=>wy (uf x)):=by
   have h2:∀l:List Operand,(∀x∈l,ev x=uf x)→l.mapM (fun x=>wy (ev x))=l.mapM (fun x=>wy (uf x)):=fun l=>by
    induction l with
    |nil=>exact fun _=>rfl
    |cons y l ih=>simp_all
   exact by grind
  simp only[this]
 case call c=>
  obtain⟨callee,args,ats⟩:=c;have ha:=maps args fun x hx=>he x (by simp[Call.operands,hx])
  cases callee with
  |value f=>
   have hf:=he f (by simp[Call.operands]);simp only[hf,ha]
  |builtin b=>simp only[ha]
  |invoke _ _=>rfl
 case makeMap t r=>cases r<;>rfl
 case lookup t x i ok=>cases ok<;>simp_all
 case slice t x lo hi mx=>
  have h1:=he x (by simp);cases lo<;>cases hi<;>cases mx<;>simp_all
 all_goals (first|rfl|(simp only[he _ (by simp:_∈#[_])];done)|(simp_all;done))
def kb (S:Ov):Prop:=∀k nm f (args:List zY) h h',(args.any wS=false→∀id,(id∈args.flatMap yU∨nK nm id=true)→h id=h' id)→(args.any wS=true→h=h')→S k nm f args h=S k nm f args h'
theorem vUe nm:nK nm nm=true:=by
 simp[nK]
theorem vM6 {E}(hS:kb E.sums){A k pre o ev h h'}
  (hh:match rW ev o with|none=>h=h'|some l=>∀id,(id∈l∨nK (rV pre o.dst) id=true)→h id=h' id):lv E A k pre o ev h=lv E A k pre o ev h':=by
 have full:h=h'→lv E A k pre o ev h=lv E A k pre o ev h':=fun e=>by rw[e]
 unfold rW at hh;dsimp only at hh;cases hq:yIh o.op with
 |true=>
  obtain⟨dst,op,type,pos,after,guard⟩:=o;cases op<;>first|rfl|cases hq
 |false=>
 rw[hq] at hh;simp only[cond_false] at hh;cases hc:(Ur o.op&&(o.op.operands.toList.map ev).any wS) with
 |true=>rw[hc] at hh;exact full hh
 |false=>
  rw[hc] at hh;replace hh:∀id,(id∈(o.op.operands.toList.map ev).flatMap yU∨nK (rV pre o.dst) id=true)→h id=h' id:=hh;have h0:h (rV pre o.dst)=h' (rV pre o.dst):=hh _ (.inr (vUe _));have hx:∀x∈o.op.operands,∀id∈yU (ev x),h id=h' id:=by grind
  obtain⟨dst,op,type,pos,after,guard⟩:=o;dsimp only at h0 hx hc;cases op<;>simp only[Op.operands] at hx<;>simp only[lv]
  case alloc t=>rw[h0]
  case box t x=>rw[h0]
  case buildSlice t n ps=>
   exact V7 h0 (by grind)
  case load t x=>exact vXv (hx x (by simp))
  case store t x y=>exact vUd (hx x (by simp)) (hx y (by simp))
  case makeSlice t l c=>exact vSx h0
  case slice t x lo hi mx=>exact V5 (hx x (by simp))
  case makeMap t r=>cases r<;>first|rfl|exact V2 h0
  case lookup t x i ok=>cases ok<;>first|rfl|exact V3 (hx x (by simp))
  case mapUpdate t x i y=>exact V4 (hx x (by simp))
  case indexAddr t x i=>exact V1 (hx x (by simp))
  case binOp op t x y p=>
   have hx:=hx x (by simp);have hl:∀v,ev x=.c v→DG h v=DG h' v:=fun v e=>by
    cases v with
    |osl id r=>cases r with
     |none=>simp only[DG,hx id (by rw[e];simp[yU,vL])]
     |some p=>rfl
    |_=>rfl
   split
   ·cases Uc y&&Ub op with
    |false=>rfl
    |true=>
     rename_i d v hu hv;simp only[hl v hv]
   ·rfl
  case convert s d x=>
   have hx:=hx x (by simp);have hs:∀v,ev x=.c v→DE h v=DE h' v:=fun v e=>by
    have:=Pg (h:=h) (h':=h') (v:=v) fun id an=>hx id (by rw[e];exact an)
    unfold DE;cases v<;>first|rfl|simp only[this]
   split
   ·rfl
   ·rename_i e c _ _ hc;rw[hs c hc]
   ·rfl
  case call c=>
   obtain⟨callee,args,ats⟩:=c;have ha:∀v∈args.toList.map ev,∀id∈yU v,h id=h' id:=fun v hv=>by
    obtain⟨x,Bm,rfl⟩:=List.mem_map.1 hv;exact hx x (by simp at Bm;simp[Call.operands,Bm])
   cases callee with
   |value f=>
    dsimp only;cases hf:ev f with
    |c fv=>cases fv with
     |fn VY cap=>
      dsimp only;simp only[Ur,Bool.true_and] at hc;have iR:cap=[]:=by
       have hm:ev f∈(Op.call ⟨.value f,args,ats⟩).operands.toList.map ev:=List.mem_map_of_mem (by simp[Op.operands,Call.operands]);have:=List.any_eq_false.1 hc _ hm;rw[hf] at this
       simpa[wS] using this
      subst iR;simp only[List.map_nil,List.append_nil];have hb:(args.toList.map ev).any wS=false:=by
       refine List.any_eq_false.2 fun v hv=>?_
       obtain⟨x,Bm,rfl⟩:=List.mem_map.1 hv;exact List.any_eq_false.1 hc _ (List.mem_map_of_mem (by simp at Bm;simp[Op.operands,Call.operands,Bm]))
      refine hS _ _ _ _ _ _ (fun _ id an=>?_) fun ht=>?_
      ·rcases an with an|an
       ·obtain⟨v,hv,an⟩:=List.mem_flatMap.1 an;exact ha v hv id an
       ·exact hh id (.inr an)
      ·rw[hb] at ht;cases ht
     |_=>rfl
    |_=>rfl
   |invoke _ _=>rfl
   |builtin b=>
    generalize hl:args.toList.map ev=l at ha;unfold Uq;cases b<;>first|rfl|skip
    case len=>
     match l,ha with
     |[],_=>rfl
     |[v],ha=>cases v with
      |c v=>
       have:=V0 (ha (.c v) (by simp));simp only[this]
      |_=>rfl
     |v::_::_,_=>cases v<;>rfl
    case append=>
     match l,ha with
     |[],_|[_],_|_::_::_::_,_=>rfl
     |[b,x],ha=>
      have:=fun mat t=>vPw (P:=E.P) (mat:=mat) (t:=t) h0 (ha b (by simp)) (ha x (by simp))
      simp only[this]
    case clear=>
     match l,ha with
     |[],_=>rfl
     |[v],ha=>cases v with
      |c v=>cases v with
       |osl id r=>cases r with
        |none=>rfl
        |some p=>
         have e:=ha (.c (.osl id (some p))) (by simp) id (by simp[yU,vL]);dsimp only;split
         ·unfold Ot;rw[e]
         ·rfl
       |_=>rfl
      |_=>rfl
     |v::_::_,_=>cases v with
      |c v=>cases v with
       |osl id r=>cases r<;>rfl
       |_=>rfl
      |_=>rfl
    case copy=>
     match l,ha with
     |[],_|[_],_|_::_::_::_,_=>rfl
     |[b,x],ha=>
      have:=V8 (ha b (by simp)) (ha x (by simp));simp only[this]
  case makeFunc fn first captured=>cases fn<;>rfl
  all_goals rfl
end Go.Ab
set_option linter.unusedSectionVars false
namespace Go.Ab
structure ke (M M':zL):Prop where
 F:∀b,M.F b→M'.F b
 G:∀b,M.G b→M'.G b
 same:∀b,M.F b→M'.H[b]? =M.H[b]?
 sameG:∀b,M.G b→M'.H[b]? =M.H[b]?
 bsz:∀b,b<M.H.size→qX M'.H b=qX M.H b
 size:M.H.size≤M'.H.size
 frame:∀b,b<M.H.size→¬qN M b→M'.H[b]? =M.H[b]?
 own:∀b,qN M' b→b<M.H.size→qN M b
 Gb:∀b,M'.G b→b<M.H.size→M.G b∨qN M b
 Fb:∀b,M'.F b→b<M.H.size→M.F b∨qN M b
theorem yR.grow {M M'}(s:yR M M'):ke M M':=⟨s.ext.F,s.ext.G,s.ext.same,s.ext.sameG,s.ext.bsz,s.size,s.frame,s.own,s.Gb,s.Fb⟩
theorem ke.trans {M M' mS}(x:ke M M')(y:ke M' mS):ke M mS where
 F b h:=y.F b (x.F b h)
 G b h:=y.G b (x.G b h)
 same b h:=(y.same b (x.F b h)).trans (x.same b h)
 sameG b h:=(y.sameG b (x.G b h)).trans (x.sameG b h)
 bsz b h:=(y.bsz b (by have:=x.size;omega)).trans (x.bsz b h)
 size:=Nat.le_trans x.size y.size
 frame b h hn:=by
  have:=x.size;rw[y.frame b (by omega) fun ho=>hn (x.own b ho h),x.frame b h hn]
 own b ho h:=x.own b (y.own b ho (by have:=x.size;omega)) h
 Gb b hg h:=by
  rcases y.Gb b hg (by have:=x.size;omega) with k|k
  ·exact x.Gb b k h
  ·exact .inr (x.own b k h)
 Fb b hg h:=by
  rcases y.Fb b hg (by have:=x.size;omega) with k|k
  ·exact x.Fb b k h
  ·exact .inr (x.own b k h)
def Ph (M M':zL):Prop:=∀id C,M.κ id=some C→∃C',M'.κ id=some C'∧C'.blk=C.blk
structure ug (nl:Bool) (M M':zL):Prop where
 g:ke M M'
 k:nl=true→Ph M M'
theorem ug.step {nl M M' mS}(x:ug nl M M')(s:yR M' mS):ug nl M mS:=
 ⟨x.g.trans s.grow,fun h id C hC=>by
  obtain⟨C1,h1,e1⟩:=x.k h id C hC;obtain⟨C2,h2,le⟩:=s.ext.κ id C1 h1;exact⟨C2,h2,le.blk.trans e1⟩⟩
theorem ug.trans {M M' mS}(x:ug false M M')(y:ke M' mS):ug false M mS:=⟨x.g.trans y,by simp⟩
structure vV (nl:Bool) (na nt:Nat) (a0:Nat→Value) (M0:zL) (w0:World) (st:St) (a:Act) (w:World):Prop where
 ex:∃M:zL,M.h=st.h∧M.H=w.heap∧Ok M∧ug nl M0 M∧∀t,zX M (st.t t) (a.tmps.getD t undef)
 defers:a.defers=[]
 size:a.tmps.size=nt
 os:w.os=w0.os
 tape:w.tape=w0.tape
 output:w.output=w0.output
 keep:∀t,t<na→a.tmps.getD t undef=a0 t
theorem yS3 {M}{st:St}{a:Act}(h:∀t,zX M (st.t t) (a.tmps.getD t undef)) x:zX M (st.ev x) (a.eval x):=by
 cases x with
 |tmp t=>exact h t
 |const v=>exact UE M v
 |global g=>trivial
 |func f=>exact⟨#[],rfl,trivial⟩
theorem Wa {t s v}(h:t s=v):jX t s v=t:=by
 funext n;unfold jX;cases e:Nat.beq n s with
 |false=>rfl
 |true=>
  simp_all
def Ev (ops:Array Oper)(o:Oper)(st:St):Option Bool:=match o.guard with
 |none=>some true
 |some (j,want)=>match OB ops j with
  |none=>none
  |some s=>match st.t s with
   |.c (.bool b)=>some (b==want)
   |.skp=>some false
   |_=>none
theorem vFd {R ops o st yes no}{out:R}(h:OC ops o st yes no=some out):
  ∃b,Ev ops o st=some b∧(if b=true then yes st else no st)=some out:=by
 unfold OC at h;unfold Ev;cases hg:o.guard with
 |none=>simp_all
 |some p=>
  obtain⟨j,want⟩:=p;rw[hg] at h;dsimp only at h⊢;cases hs:OB ops j with
  |none=>simp_all
  |some s=>
   rw[hs] at h;dsimp only at h⊢;split at h
   ·rename_i b hb;rw[hb];refine⟨b==want,rfl,?_⟩;cases b with
    |true=>
     simp[Wa hb] at h;cases want<;>exact h
    |false=>
     simp[Wa hb] at h;cases want<;>exact h
   all_goals simp_all
theorem getD_some {a:Array Value}{s v}(h:a.getD s undef=v)(hv:v≠undef):a[s]? =some v:=by
 by_cases hs:s<a.size
 all_goals simp_all
theorem yJ2 {ops o st b nl na nt a0 M0 w0 w a}(h:Ev ops o st=some b)(R:vV nl na nt a0 M0 w0 st a w):Region.wanted o (yielded ops a.tmps)=b:=by
 obtain⟨M,_,_,_,_,ht⟩:=R.ex;unfold Ev at h;unfold Region.wanted;split at h
 ·simp_all
 ·rename_i j want hg;rw[hg];split at h
  ·cases h
  ·rename_i s hs;have hv:=ht s;have pW:(ops[j]?).bind (·.dst)=some s:=hs;split at h
   ·rename_i b' hb;cases h;rw[hb] at hv;have:=getD_some hv (by nofun);simp only[yielded,pW,Option.bind_some,this];rfl
   ·rename_i hb;cases h;rw[hb] at hv;have hv:a.tmps.getD s undef=undef:=hv;have:∀x:Option Value,(x=none∨x=some undef)→((match x with|some (.bool b)=>some b|_=>none:Option Bool)==some want)=false:=fun x hx=>by
     rcases hx with rfl|rfl<;>cases want<;>rfl
    refine this _ ?_;by_cases bd:s<a.tmps.size
    all_goals simp_all
   ·cases h
theorem ud.rel {nl na nt a0 M0 M M' w0 w w' st a dst v u rv}(R:vV nl na nt a0 M0 w0 st a w)(hh:M.h=st.h)(hs:ug nl M0 M)(ht:∀t,zX M (st.t t) (a.tmps.getD t undef))
  (hd:∀d,dst=some d→na≤d∧d<nt) (hB:ud M w u M' w') (hv:zX M' v rv):vV nl na nt a0 M0 w0 {t:=j5 st.t dst v,h:=qJ st.h u} (a.put dst rv) w' where
 ex:=by
  refine⟨M',by rw[hB.h,hh],hB.H,hB.ok,hs.step hB.step,fun t=>?_⟩;cases dst with
  |none=>exact(ht t).ext hB.step.ext
  |some d=>
   show zX M' (jX st.t d v t) ((a.tmps.setIfInBounds d rv).getD t undef);have bd:d<a.tmps.size:=by rw[R.size];simp_all
   unfold jX;cases e:Nat.beq t d with
   |true=>
    simp_all
   |false=>
    have e:t≠d:=fun e'=>by simp_all
    have:=(ht t).ext hB.step.ext;simp[Array.getElem?_setIfInBounds_ne (Ne.symm e)] at this⊢;exact this
 defers:=by cases dst<;>exact R.defers
 size:=by cases dst<;>simp[Act.put,R.size]
 os:=hB.os.trans R.os
 tape:=hB.tape.trans R.tape
 output:=hB.output.trans R.output
 keep t h:=by
  cases dst with
  |none=>exact R.keep t h
  |some d=>
   have bx:d≠t:=by grind
   rw[←R.keep t h];simp[Act.put,Array.getElem?_setIfInBounds_ne bx]
theorem vV.skip {nl na nt a0 M0 w0 w st a dst}(hd:∀d,dst=some d→na≤d)(R:vV nl na nt a0 M0 w0 st a w):vV nl na nt a0 M0 w0 {st with t:=j5 st.t dst .skp} (a.put dst undef) w where
 ex:=by
  obtain⟨M,h1,h2,h3,h4,ht⟩:=R.ex;refine⟨M,h1,h2,h3,h4,fun t=>?_⟩;cases dst with
  |none=>exact ht t
  |some d=>
   show zX M (jX st.t d .skp t) ((a.tmps.setIfInBounds d undef).getD t undef);unfold jX;cases e:Nat.beq t d with
   |true=>
    have e:t=d:=by simp_all
    subst e;show(a.tmps.setIfInBounds t undef).getD t undef=undef;simp
   |false=>
    have e:t≠d:=fun e'=>by simp_all
    have:=ht t;simp[Array.getElem?_setIfInBounds_ne (Ne.symm e)] at this⊢;exact this
 defers:=by cases dst<;>exact R.defers
 size:=by cases dst<;>simp[Act.put,R.size]
 os:=R.os
 tape:=R.tape
 output:=R.output
 keep t h:=by
  cases dst with
  |none=>exact R.keep t h
  |some d=>
   have bx:d≠t:=by grind
   rw[←R.keep t h];simp[Act.put,Array.getElem?_setIfInBounds_ne bx]
section
variable {E:Env} {A:zW} {nl:Bool} {k pre na nt:Nat} {a0:Nat→Value} {R:Type} {M0:zL} {w0:World} {Q:Exit→Act→World→Prop}
theorem vV.op (hE:gy E){st a w}{o:Oper}{v u next}(r:vV nl na nt a0 M0 w0 st a w)(hd:∀d,o.dst=some d→na≤d∧d<nt)(hy:yO (lv E A k pre o st.ev st.h) v u)
  (hn:∀a' w',vV nl na nt a0 M0 w0 {t:=j5 st.t o.dst v,h:=qJ st.h u} a' w'→next a' w'):o.wp E.P a w next Q:=by
 obtain⟨M,h1,h2,h3,h4,ht⟩:=r.ex;rw[←h1] at hy;exact vSe hE h3 h2 (yS3 ht) hy fun M' w' rv hB hv=>hn _ _ (hB.rel r h1 h4 ht hd hv)
theorem Wb (hE:gy E){dst}(h:wz na nt dst=true):∀d,dst=some d→na≤d∧d<nt:=fun d hd=>by
 simp[wz] at h;simp_all
theorem vJa (hE:gy E){o st K}{out:R}(h:OA E A k pre na nt o st K=some out):
  (∀d,o.dst=some d→na≤d∧d<nt)∧∃v u,yO (lv E A k pre o st.ev st.h) v u∧K v u {t:=j5 st.t o.dst v,h:=qJ st.h u}=some out:=by
 unfold OA at h;cases hc:wz na nt o.dst with
 |false=>simp_all
 |true=>
  rw[hc] at h;exact⟨Wb hE hc,yW.elim_some h⟩
theorem vAv (hE:gy E){ops}:∀l st K (out:R) a w,(∀p∈l,ops[p.1]? =some p.2)→OD E A k pre na nt ops l st K=some out→vV nl na nt a0 M0 w0 st a w→
  (∀bJ a' w',vV nl na nt a0 M0 w0 bJ a' w'→K bJ=some out→Q .normal a' w')→wpOps E.P ops Q (l.map (·.1)) a w
 |[],st,K,out,a,w,_,h,r,hK=>hK st a w r h
 |(i,o)::rest,st,K,out,a,w,hl,h,r,hK=>by
  have ho:ops[i]? =some o:=hl (i,o) (by simp);have ih:=fun st K out a w=>vAv hE rest st K out a w fun p hp=>hl p (by grind)
  obtain⟨b,hb,h⟩:=vFd h;have hw:=yJ2 hb r;simp[wpOps,ho];cases b with
  |true=>
   rw[if_pos rfl] at h;rw[if_pos hw];obtain⟨hd,v,u,hy,h⟩:=vJa hE h;exact .inl (vV.op hE r hd hy (by grind))
  |false=>
   rw[if_neg (by simp[hw])];cases hc:wz na nt o.dst with
   |false=>simp_all
   |true=>
    rw[hc] at h;exact ih _ _ _ _ _ h (r.skip fun d hd=>(Wb hE hc d hd).1) hK
end
def Ew (o:Oper)(acc:Array Nat):Nat:=o.after.foldl (fun s e=>if Region.binds .any e then s|||2^e.on|||acc.getD e.on 0 else s) 0
theorem yNy (acc:Array Nat) i:∀(l:List Edge) s,(l.foldl (fun s e=>if Region.binds .any e then s|||2^e.on|||acc.getD e.on 0 else s) s).testBit i=true→
  s.testBit i=true∨∃e∈l,Region.binds .any e=true∧(e.on=i∨(acc.getD e.on 0).testBit i=true)
 |[],s,h=>.inl h
 |e::l,s,h=>by
  rcases yNy acc i l _ h with h|⟨e',he,h⟩
  all_goals grind
def J9 (ops:Array Oper)(acc:Array Nat):Prop:=∀j,j<acc.size→∀i,(acc.getD j 0).testBit i=true→∃o,ops[j]? =some o∧∃e∈o.after.toList,Region.binds .any e=true∧(e.on=i∨(e.on<j∧(acc.getD e.on 0).testBit i=true))
theorem vUr {ops acc o}(h:J9 ops acc)(ho:ops[acc.size]? =some o):J9 ops (acc.push (Ew o acc)):=by
 have Bi:∀j,j<acc.size→(acc.push (Ew o acc)).getD j 0=acc.getD j 0:=fun j hj=>by
  simp[Array.getElem?_push,Nat.ne_of_lt hj]
 intro j hj i hb;simp  at hj;by_cases bd:j<acc.size
 ·rw[Bi j bd] at hb;obtain⟨o',h1,e,h2,h3,h4⟩:=h j bd i hb;grind
 ·have e:j=acc.size:=by omega
  subst e;rw[show(acc.push (Ew o acc)).getD acc.size 0=Ew o acc by simp] at hb;unfold Ew at hb;rw[←Array.foldl_toList] at hb;rcases yNy acc i _ _ hb with hb|⟨e,h2,h3,h4⟩
  all_goals grind
theorem Wc ops:J9 ops (Region.before ops):=by
 have key:∀(l:List Oper) (acc:Array Nat),J9 ops acc→(∀m (hm:m<l.length),ops[acc.size+m]? =some l[m])→
   J9 ops (l.foldl (fun acc o=>acc.push (Ew o acc)) acc):=by
  intro l
  induction l with
  |nil=>simp
  |cons o l ih=>
   intro acc h ho;refine ih _ (vUr h (ho 0 (by simp))) fun m hm=>?_
   have:=ho (m+1) (by simp;omega);grind
 have:=key ops.toList #[] (nofun) (by simp);unfold Region.before;rw[←Array.foldl_toList];exact this
theorem vDw {ops i j}(h:nL (Region.before ops) i j=true):∃o,ops[j]? =some o∧∃e∈o.after.toList,Region.binds .any e=true∧(e.on=i∨(e.on<j∧nL (Region.before ops) i e.on=true)):=by
 unfold nL at h;by_cases hj:j<(Region.before ops).size
 ·exact Wc ops j hj i h
 simp_all
def Ka (ops:Array Oper)(S:Nat→Bool):Prop:=∀j o,S j=true→ops[j]? =some o→∀e∈o.after.toList,Region.binds .any e=true→S e.on=true
theorem yZk {ops S}(hS:Ka ops S){i}:∀n j,j=n→nL (Region.before ops) i j=true→S j=true→S i=true:=by
 intro n
 induction n using Nat.strongRecOn with
 |_ n ih=>
  intro j hj h hs;obtain⟨o,ho,e,he,hb,h⟩:=vDw h;have hse:=hS j o hs ho e he hb;grind
theorem Wd {ops S}(hS:Ka ops S){i j}(h:nL (Region.before ops) i j=true)(hr:∀o,ops[j]? =some o→∀e∈o.after.toList,Region.binds .any e=true→S e.on=true):S i=true:=by
 obtain⟨o,ho,e,he,hb,h⟩:=vDw h;have hse:=hr o ho e he hb;rcases h with h|⟨h,hi⟩
 ·simp_all
 ·exact yZk hS _ _ rfl hi hse
structure It where
 i:Nat
 o:Oper
 v:zY
 u:vG
 r:Option (List Nat)
 wt:Bool
def It.dn (pre:Nat)(it:It):DU:=⟨it.i,rV pre it.o.dst,eY it.u,it.r⟩
def app (st:St)(it:It):St:={t:=j5 st.t it.o.dst it.v,h:=qJ st.h it.u}
section
variable (E:Env) (A:zW) (k pre na nt:Nat) (ops:Array Oper)
structure Kb (st:St) (it:It):Prop where
 w:Ev ops it.o st=some it.wt
 y:it.wt=true→(∀d,it.o.dst=some d→na≤d∧d<nt)∧yO (lv E A k pre it.o st.ev st.h) it.v it.u∧it.r=rW st.ev it.o
 n:it.wt=false→it.v=.skp∧it.u=[]∧∀d,it.o.dst=some d→na≤d∧d<nt
def We (b:Array Nat)(x y:It):Prop:=nL b x.i y.i=true∨(tQ ops x.i y.i=true∧(x.wt=true→y.wt=true→tP (x.dn pre) (y.dn pre)=false))
end
section
variable {E:Env} {A:zW} {k pre na nt:Nat} {R:Type} {ops:Array Oper} {b:Array Nat}
theorem Wg (hE:gy E):∀rest done st K (out:R),DV E A k pre na nt ops b rest done st K=some out→
  ∃dO:List It,dO.map (fun it=>(it.i,it.o))=rest∧K (dO.foldl app st)=some out∧(∀bQ it post,dO=bQ++it::post→Kb E A k pre na nt ops (bQ.foldl app st) it)∧
   (∀d∈done,∀it∈dO,nL b d.i it.i=true∨(tQ ops d.i it.i=true∧(it.wt=true→tP d (it.dn pre)=false)))∧dO.Pairwise (We pre ops b)
 |[],done,st,K,out,h=>⟨[],rfl,h,by simp,by simp,.nil⟩
 |(i,o)::rest,done,st,K,out,h=>by
  unfold DV at h;generalize hc:(done.all fun d=>nL b d.i i||tQ ops d.i i)=c at h;cases c with
  |false=>cases h
  |true=>
   have su:∀d∈done,nL b d.i i=true∨tQ ops d.i i=true:=by grind
   rw[cond_true] at h;obtain⟨bw,hb,h⟩:=vFd h;cases bw with
   |true=>
    rw[if_pos rfl] at h;obtain⟨hd,v,u,hy,h⟩:=vJa hE h;dsimp only at h;generalize dq:(done.all fun d=>nL b d.i i|| !tP d ⟨i,rV pre o.dst,eY u,rW st.ev o⟩)=c2 at h;cases c2 with
    |false=>simp_all
    |true=>
     rw[cond_true] at h;have JR:∀d∈done,nL b d.i i=true∨tP d ⟨i,rV pre o.dst,eY u,rW st.ev o⟩=false:=by grind
     obtain⟨dO,h1,h2,h3,h4,h5⟩:=Wg hE rest _ _ K out h;let it:It:=⟨i,o,v,u,rW st.ev o,true⟩;refine⟨it::dO,by grind,h2,fun bQ Kc post e=>?_,fun d xl Kc oY=>?_,?_⟩
     ·cases bQ with
      |nil=>
       obtain⟨rfl,rfl⟩:=e;exact⟨hb,by grind,by simp⟩
      |cons p bQ=>
       simp only[List.cons_append,List.cons.injEq] at e;obtain⟨rfl,e⟩:=e;exact h3 bQ Kc post e
     ·rcases List.mem_cons.1 oY with rfl|oY
      ·rcases su d xl with h|h
       ·grind
       ·rcases JR d xl with h'|h'
        ·grind
        ·exact .inr ⟨h,fun _=>h'⟩
      simp_all
     ·refine List.pairwise_cons.2 ⟨fun y Bn=>?_,h5⟩;rcases h4 (it.dn pre) (List.mem_cons_self ..) y Bn with h|⟨h,h'⟩
      ·exact .inl h
      ·exact .inr ⟨h,by grind⟩
   |false=>
    rw[if_neg (by simp)] at h;have uh:wz na nt o.dst=true:=by
     grind
    rw[uh] at h;rw[cond_true] at h;obtain⟨dO,h1,h2,h3,h4,h5⟩:=Wg hE rest _ _ K out h;let it:It:=⟨i,o,.skp,[],some [],false⟩;refine⟨it::dO,by grind,h2,fun bQ Kc post e=>?_,fun d xl Kc oY=>?_,?_⟩
    ·cases bQ with
     |nil=>
      obtain⟨rfl,rfl⟩:=e;exact⟨hb,by simp,fun _=>⟨rfl,rfl,Wb hE uh⟩⟩
     |cons p bQ=>
      simp  at e;obtain⟨rfl,e⟩:=e;exact h3 bQ Kc post e
    ·grind
    ·refine List.pairwise_cons.2 ⟨fun y Bn=>?_,h5⟩;rcases h4 (it.dn pre) (List.mem_cons_self ..) y Bn with h|⟨h,h'⟩
     ·exact .inl h
     ·exact .inr ⟨h,by simp⟩
end
theorem vDt {t t' d v x}(h:t x=t' x):j5 t d v x=j5 t' d v x:=by
 cases d with
 |none=>exact h
 |some d=>
  show jX t d v x=jX t' d v x;unfold jX;simp_all
theorem Pj {t d v x}(h:d≠some x):j5 t d v x=t x:=by
 cases d with
 |none=>rfl
 |some d=>
  show jX t d v x=_;unfold jX;cases e:Nat.beq x d with
  |false=>rfl
  |true=>simp_all
theorem vR4 {t t' v x}:j5 t (some x) v x=j5 t' (some x) v x:=by
 show jX t x v x=jX t' x v x;unfold jX;simp
theorem Wh {t d e v u}(h:∀x,d=some x→e≠some x):j5 (j5 t d v) e u=j5 (j5 t e u) d v:=by
 funext x;by_cases hd:d=some x
 ·subst hd;rw[Pj (h x rfl)];exact vR4
 ·rw[Pj hd];exact vDt (Pj hd)
theorem Bo {n}:∀{u h h'},h n=h' n→qJ h u n=qJ h' u n
 |[],_,_,e=>e
 | (id, o) :: u, h, h', e => Bo (u := u) (by
   by_cases hn:n=id
   ·subst hn;rw[yV,yV]
   ·rw[yY _ _ hn,yY _ _ hn];exact e)
theorem yOi {n}:∀{u h h'},n∈eY u→qJ h u n=qJ h' u n
 |(id,o)::u,h,h',hm=>by
  by_cases hu:n∈eY u
  ·exact yOi (u:=u) hu
  ·have e:n=id:=by
    simp[eY] at hm hu;simp_all
   subst e;exact Bo (u:=u) (by rw[yV,yV])
theorem Wi {u v h}(hd:∀a∈eY u,a∉eY v):qJ (qJ h u) v=qJ (qJ h v) u:=by
 funext n;by_cases hu:n∈eY u
 ·rw[En (hd n hu)];exact yOi hu
 ·rw[En (u:=u) (h:=qJ h v) hu];exact Bo (En hu)
theorem vW8 {st x y}(hd:∀t,x.o.dst=some t→y.o.dst≠some t)(hu:∀a∈eY x.u,a∉eY y.u):app (app st x) y=app (app st y) x:=by
 unfold app;simp;exact⟨Wh hd,Wi hu⟩
theorem yY8 {x}:∀{l:List It} {st},(∀y∈l,(∀t,x.o.dst=some t→y.o.dst≠some t)∧∀a∈eY x.u,a∉eY y.u)→app (l.foldl app st) x=l.foldl app (app st x)
 |[],_,_=>rfl
 |y::l,st,h=>by
  rw[List.foldl_cons,List.foldl_cons,vW8 (by grind) (by grind)];exact yY8 (by grind)
theorem Pk t:∀(l:List It) st bJ,st.t t=bJ.t t→(l.foldl app st).t t=((l.filter fun it=>it.o.dst==some t).foldl app bJ).t t
 |[],_,_,h=>h
 |y::l,st,bJ,h=>by
  rw[List.foldl_cons,List.filter_cons];cases hy:y.o.dst==some t with
  |true=>
   exact Pk t l _ _ (vDt h)
  |false=>
   exact Pk t l _ _ (by
    show j5 st.t y.o.dst y.v t=_;rw[Pj (by simp_all)];exact h)
theorem Pl n:∀(l:List It) st bJ,st.h n=bJ.h n→(l.foldl app st).h n=((l.filter fun it=>(eY it.u).contains n).foldl app bJ).h n
 |[],_,_,h=>h
 |y::l,st,bJ,h=>by
  rw[List.foldl_cons,List.filter_cons];cases hy:(eY y.u).contains n with
  |true=>
   exact Pl n l _ _ (Bo h)
  |false=>
   exact Pl n l _ _ (by
    show qJ st.h y.u n=_;rw[En (by simpa[eY] using hy)];exact h)
theorem yU8 {S W bQ post}{it:It}(oY:S it=false)(h1:∀y∈bQ,W y=true→S y=true)(h2:∀y∈post,W y=true→S y=false):((bQ++it::post).filter S).filter W=bQ.filter W:=by
 have e1:(bQ.filter S).filter W=bQ.filter W:=by
  rw[List.filter_filter];refine List.filter_congr fun y hy=>?_
  simp_all
 simp_all
def Ey (d:DU)(a:Nat):Prop:=match d.refs with
 |none=>True
 |some l=>a∈l∨nK d.nm a=true
theorem Wj {x y}(h:tP x y=false):(∀a∈x.upd,¬Ey y a)∧(∀a∈y.upd,¬Ey x a)∧∀a∈x.upd,a∉y.upd:=by
 unfold tP at h;have key:∀(d e:DU),Oz d.upd e.refs=false→d.upd.any (nK e.nm)=false→∀a∈d.upd,¬Ey e a:=by
  intro d e hm ho a ha hl;unfold Oz at hm;unfold Ey at hl;cases hr:e.refs with
  |none=>
   simp_all
  |some l=>
   simp_all
 refine⟨by grind,by grind,fun a ha hb=>?_⟩;simp_all
section
variable {E:Env} {A:zW} {k pre na nt:Nat} {R:Type} {ops:Array Oper}
theorem Wk {i j x y}(hi:ops[i]? =some x)(hj:ops[j]? =some y)(h:tQ ops i j=true):
  (∀d,x.dst=some d→d∉y.looksAt ops)∧(∀d,x.dst=some d→y.dst≠some d)∧(∀d,y.dst=some d→d∉x.looksAt ops):=by
 unfold tQ at h;rw[hi,hj] at h;exact Oper.apart_spec h
theorem Wl (hE:gy E)(hS:kb E.sums){S}(hC:Ka ops S){st bQ post it}(gU:∀y∈bQ++it::post,ops[y.i]? =some y.o)(hg:Kb E A k pre na nt ops (bQ.foldl app st) it)
  (hu:∀y∈bQ++it::post,y.wt=false→y.u=[]) (hp:(bQ++it::post).Pairwise (We pre ops (Region.before ops))) (oY:S it.i=false)
  (hr:∀o,ops[it.i]? =some o→∀e∈o.after.toList,Region.binds .any e=true→S e.on=true):
  Kb E A k pre na nt ops (((bQ++it::post).filter fun y=>S y.i).foldl app st) it∧
   (∀y∈post,S y.i=true→(∀t,it.o.dst=some t→y.o.dst≠some t)∧∀a∈eY it.u,a∉eY y.u):=by
 have mg:ops[it.i]? =some it.o:=gU it (by simp);obtain⟨Pb,J3,hp3⟩:=List.pairwise_append.1 hp;have before:∀y∈bQ,S y.i=false→tQ ops y.i it.i=true∧(y.wt=true→it.wt=true→tP (y.dn pre) (it.dn pre)=false):=fun y hy hs=>by
  rcases hp3 y hy it (by simp) with h|h
  ·rw[Wd hC h hr] at hs;cases hs
  ·exact h
 have behind:∀y∈post,S y.i=true→tQ ops it.i y.i=true∧(it.wt=true→y.wt=true→tP (it.dn pre) (y.dn pre)=false):=fun y hy hs=>by
  rcases(List.pairwise_cons.1 J3).1 y hy with h|h
  ·rw[yZk hC _ _ rfl h hs] at oY;cases oY
  ·exact h
 have xm:∀t,t∈it.o.looksAt ops→(((bQ++it::post).filter fun y=>S y.i).foldl app st).t t=(bQ.foldl app st).t t:=fun t ht=>by
  rw[Pk t _ st st rfl,Pk t bQ st st rfl,yU8 oY (fun y hy hw=>?_) fun y hy hw=>?_]
  ·cases hs:S y.i with
   |true=>rfl
   |false=>
    have:=(Wk (gU y (by simp[hy])) mg (before y hy hs).1).1 t (by simpa using hw);exact absurd ht this
  ·cases hs:S y.i with
   |false=>rfl
   |true=>
    have:=(Wk mg (gU y (by simp[hy])) (behind y hy hs).1).2.2 t (by simpa using hw);simp_all
 have hEq:it.wt=true→∀n,Ey (it.dn pre) n→(((bQ++it::post).filter fun y=>S y.i).foldl app st).h n=(bQ.foldl app st).h n:=fun hw n hn=>by
  rw[Pl n _ st st rfl,Pl n bQ st st rfl,yU8 oY (fun y hy Bn=>?_) fun y hy Bn=>?_]
  ·cases hs:S y.i with
   |true=>rfl
   |false=>
    have hm:n∈eY y.u:=by simpa using Bn
    have Wm:y.wt=true:=by
     cases h:y.wt with
     |true=>rfl
     |false=>rw[hu y (by simp[hy]) h] at hm;simp[eY] at hm
    exact absurd hn ((Wj ((before y hy hs).2 Wm hw)).1 n hm)
  ·cases hs:S y.i with
   |false=>rfl
   |true=>
    have hm:n∈eY y.u:=by simpa using Bn
    have Wm:y.wt=true:=by
     cases h:y.wt with
     |true=>rfl
     |false=>rw[hu y (by simp[hy]) h] at hm;simp[eY] at hm
    exact absurd hn ((Wj ((behind y hy hs).2 hw Wm)).2.1 n hm)
 generalize hL:((bQ++it::post).filter fun y=>S y.i).foldl app st=Pm at xm hEq⊢;refine⟨⟨?_,fun hw=>?_,hg.n⟩,fun y hy hs=>?_⟩
 ·rw[←hg.w];unfold Ev;cases Bp:it.o.guard with
  |none=>rfl
  |some p=>
   obtain⟨j,want⟩:=p;dsimp only;cases dP:OB ops j with
   |none=>rfl
   |some s=>
    have:s∈it.o.looksAt ops:=by
     have dP:(ops[j]?).bind (·.dst)=some s:=dP;simp only[Oper.looksAt,Bp,dP];simp
    simp_all
 ·obtain⟨hd,hy,hrf⟩:=hg.y hw;have aV:∀x∈it.o.op.operands,Pm.ev x=(bQ.foldl app st).ev x:=fun x hx=>by
   cases x with
   |tmp t=>exact xm t (List.mem_append_left _ (List.mem_filterMap.2 ⟨.tmp t,by simpa using hx,rfl⟩))
   |_=>rfl
  have hrefs:rW Pm.ev it.o=rW (bQ.foldl app st).ev it.o:=by
   unfold rW;have:it.o.op.operands.toList.map Pm.ev=it.o.op.operands.toList.map (bQ.foldl app st).ev:=List.map_congr_left (by grind);simp only[this]
  refine⟨hd,?_,by rw[hrf,hrefs]⟩;rw[vVz aV];have hh : lv E A k pre it.o (bQ.foldl app st).ev Pm.h = lv E A k pre it.o (bQ.foldl app st).ev (bQ.foldl app st).h := vM6 hS (by
   rw[←hrf];have:=hEq hw;unfold Ey at this;have hdn:(it.dn pre).refs=it.r:=rfl;rw[hdn] at this;cases h:it.r with
   |none=>
    grind
   |some l=>
    rw[h] at this;exact this)
  rw[hh];exact hy
 ·obtain⟨h1,h2⟩:=behind y hy hs;refine⟨(Wk mg (gU y (by simp[hy])) h1).2.1,fun a ha hb=>?_⟩;have hwi:it.wt=true:=by
   cases h:it.wt with
   |true=>rfl
   |false=>rw[hu it (by simp) h] at ha;simp[eY] at ha
  have hwy:y.wt=true:=by
   cases h:y.wt with
   |true=>rfl
   |false=>rw[hu y (by simp[hy]) h] at hb;simp[eY] at hb
  exact(Wj (h2 hwi hwy)).2.2 a ha hb
end
theorem Wn {ops}(h:JB ops=true){j o}(ho:ops[j]? =some o):∀e∈o.after.toList,Region.binds .any e=true→e.on<j:=by
 intro e he hb;have hm:(o,j)∈ops.toList.zipIdx:=by
  grind
 have:=List.all_eq_true.1 (List.all_eq_true.1 h _ hm) e he;simp_all
theorem Pn {L:Array Bool}{i}(hi:i<L.size) j:(L.setIfInBounds i true).getD j false=(L.getD j false||i==j):=by
 by_cases h:i=j
 all_goals simp_all
section
variable {E:Env} {A:zW} {nl:Bool} {k pre na nt:Nat} {a0:Nat→Value} {R:Type} {ops:Array Oper} {M0:zL} {w0:World} {Q:Exit→Act→World→Prop}
theorem Wo (hE:gy E)(hS:kb E.sums)(he:JB ops=true){dO st}(hi:dO.map (·.i)=List.range ops.size)(gU:∀y∈dO,ops[y.i]? =some y.o)(hg:∀bQ it post,dO=bQ++it::post→Kb E A k pre na nt ops (bQ.foldl app st) it)
  (hp:dO.Pairwise (We pre ops (Region.before ops))) (hQ:∀a w,vV nl na nt a0 M0 w0 (dO.foldl app st) a w→Q .normal a w):
  ∀fuel L a w,L.size=ops.size→(∃U:List Nat,U.length≤fuel∧∀j,j<ops.size→L.getD j false=false→j∈U)→Ka ops (fun j=>L.getD j false)→
   vV nl na nt a0 M0 w0 ((dO.filter fun y=>L.getD y.i false).foldl app st) a w→wpAny E.P .any ops Q fuel L a w:=by
 have hu:∀y∈dO,y.wt=false→y.u=[]:=fun y hy hw=>by
  obtain⟨bQ,post,e⟩:=List.append_of_mem hy;exact((hg bQ y post e).n hw).2.1
 have Wp:∀y∈dO,y.i<ops.size:=fun y hy=>(Array.getElem?_eq_some_iff.1 (gU y hy)).1
 have dJ:(dO.map (·.i)).Nodup:=by rw[hi];exact List.nodup_range
 have full:∀(L:Array Bool) (a:Act) (w:World),(∀j,j<ops.size→L.getD j false=true)→vV nl na nt a0 M0 w0 ((dO.filter fun y=>L.getD y.i false).foldl app st) a w→Q .normal a w:=fun L a w hl r=>by
  rw[List.filter_eq_self.2 fun y hy=>hl y.i (Wp y hy)] at r;exact hQ a w r
 have rdy:∀(L:Array Bool),L.size=ops.size→Region.ready .any ops L=[]→∀j,j<ops.size→L.getD j false=true:=fun L hL hr j=>by
  induction j using Nat.strongRecOn with
  |_ j ih=>
   intro hj;cases hb:L.getD j false with
   |true=>rfl
   |false=>
    have ho:ops[j]? =some ops[j]:=Array.getElem?_eq_getElem hj;have:j∈Region.ready .any ops L:=mem_ready.2 ⟨by
     have Wq:j<L.size:=by omega
     simpa[Array.getD,Wq] using hb,ops[j],ho,fun e he' bg=>by
      have bd:=Wn he ho e (by simpa using he') bg;exact ih e.on bd (by omega)⟩
    rw[hr] at this;cases this
 intro fuel
 induction fuel with
 |zero=>
  intro L a w hL hU hC r;obtain⟨U,hUl,hU⟩:=hU;have hU0:U=[]:=List.eq_nil_of_length_eq_zero (by omega);have bn:∀j,j<ops.size→L.getD j false=true:=by grind
  refine⟨?_,full L a w bn r⟩;cases hr:Region.ready .any ops L with
  |nil=>rfl
  |cons j l=>
   have:j∈Region.ready .any ops L:=by rw[hr];exact List.mem_cons_self ..
   obtain⟨h0,o,ho,_⟩:=mem_ready.1 this;have hj:=(Array.getElem?_eq_some_iff.1 ho).1;have:=bn j hj;have Wq:j<L.size:=by omega
   simp[Array.getD,Wq] at this h0;rw[this] at h0;cases h0
 |succ fuel ih=>
  intro L a w hL hU hC r;refine⟨fun hr=>full L a w (rdy L hL hr) r,fun i hir=>?_⟩;obtain⟨h0,o,ho,Bq⟩:=mem_ready.1 hir;have Ke:=(Array.getElem?_eq_some_iff.1 ho).1;have Kf:i<L.size:=by omega
  have ui:L.getD i false=false:=by simpa[Array.getD,Kf] using h0
  obtain⟨it,oY,uj⟩:∃it∈dO,it.i=i:=by
   have:i∈dO.map (·.i):=by rw[hi];simpa using Ke
   obtain⟨it,h1,h2⟩:=List.mem_map.1 this;exact⟨it,h1,h2⟩
  obtain⟨bQ,post,e⟩:=List.append_of_mem oY;have mg:ops[it.i]? =some it.o:=gU it oY;have iT:o=it.o:=by rw[uj,ho] at mg;exact Option.some.inj mg
  subst iT;have xn:=Wl hE hS hC (by rw[←e];exact gU) (hg bQ it post e) (by rw[←e];exact hu) (by rw[←e];exact hp) (by rw[uj];exact ui) (by grind);rw[←e] at xn;obtain⟨Bp,Kg⟩:=xn;have hw:=yJ2 Bp.w r;have yM:(dO.filter fun y=>(L.setIfInBounds i true).getD y.i false).foldl app st=app ((dO.filter fun y=>L.getD y.i false).foldl app st) it:=by
   have other:∀y∈bQ++post,(L.setIfInBounds i true).getD y.i false=L.getD y.i false:=fun y hy=>by
    rw[Pn Kf];grind
   have e1:dO.filter (fun y=>L.getD y.i false)=bQ.filter (fun y=>L.getD y.i false)++post.filter (fun y=>L.getD y.i false):=by
    conv=>lhs;rw[e]
    rw[List.filter_append,List.filter_cons,if_neg (by rw[uj,ui];simp)]
   have e2:dO.filter (fun y=>(L.setIfInBounds i true).getD y.i false)=bQ.filter (fun y=>L.getD y.i false)++it::post.filter (fun y=>L.getD y.i false):=by
    conv=>lhs;rw[e]
    rw[List.filter_append,List.filter_cons,if_pos (by rw[uj,Pn Kf];simp),List.filter_congr fun y hy=>other y (List.mem_append_left _ hy),List.filter_congr fun y hy=>other y (List.mem_append_right _ hy)]
   rw[e1,e2,List.foldl_append,List.foldl_append,List.foldl_cons];exact (yY8 fun y hy=>by
    obtain⟨Wr,Ws⟩:=List.mem_filter.1 hy;exact Kg y Wr Ws).symm
  have aF:Ka ops fun j=>(L.setIfInBounds i true).getD j false:=fun j o' hj lX ed hed hb=>by
   dsimp only at hj⊢;rw[Pn Kf] at hj;refine getD_set_true ?_;rw[Bool.or_eq_true] at hj;rcases hj with hj|hj
   ·exact hC j o' hj lX ed hed hb
   ·have:i=j:=by simpa using hj
    subst this;rw[ho] at lX;cases lX;exact Bq ed (by simpa using hed) hb
  have hU':∃U:List Nat,U.length≤fuel∧∀j,j<ops.size→(L.setIfInBounds i true).getD j false=false→j∈U:=by
   obtain⟨U,hl,hU⟩:=hU;refine⟨U.erase i,?_,fun j hj hb=>?_⟩
   ·rw[List.length_erase_of_mem (hU i Ke ui)];omega
   ·rw[Pn Kf,Bool.or_eq_false_iff] at hb;exact(List.mem_erase_of_ne (by have:=hb.2;simp at this;exact fun h=>this h.symm)).2 (hU j hj hb.1)
  unfold wpOp;rw[ho];dsimp only;cases Br:it.wt with
  |true=>
   rw[Br] at hw;rw[if_pos hw];obtain⟨hd,hy,_⟩:=Bp.y Br;refine .inl (vV.op hE r hd hy fun a' w' r'=>?_);exact ih _ _ _ (by simpa using hL) hU' aF (by rw[yM];exact r')
  |false=>
   rw[Br] at hw;rw[if_neg (by simp[hw])];obtain⟨hv,sf,uh⟩:=Bp.n Br;refine ih _ _ _ (by simpa using hL) hU' aF ?_;rw[yM];have:=r.skip (dst:=it.o.dst) fun d hd=>(uh d hd).1
   unfold app;rw[hv,sf];exact this
theorem vNm (hE:gy E)(hS:kb E.sums){id st K}{out:R}{a w}(hm:E.P.follows .mixedOrders=true)(he:JB ops=true)
  (h:DV E A k pre na nt ops (Region.before ops) (ops.toList.zipIdx.map fun p=>(p.2,p.1)) [] st K=some out) (r:vV nl na nt a0 M0 w0 st a w)
  (hK:∀bJ a' w',vV nl na nt a0 M0 w0 bJ a' w'→K bJ=some out→Q .normal a' w'):(Code.region id ops true).wp E.P Q a w:=by
 obtain⟨dO,h1,h2,h3,_,h5⟩:=Wg hE _ _ _ _ _ h;have hi:dO.map (·.i)=List.range ops.size:=by
  have:=congrArg (List.map Prod.fst) h1;rw[List.map_map,List.map_map] at this;refine Eq.trans this ?_;have e:(Prod.fst∘fun p:Oper×Nat=>(p.2,p.1))=Prod.snd:=rfl;rw[e,List.zipIdx_map_snd,←List.range_eq_range'];simp
 have gU:∀y∈dO,ops[y.i]? =some y.o:=fun y hy=>by
  have:(y.i,y.o)∈ops.toList.zipIdx.map fun p=>(p.2,p.1):=by grind
  grind
 refine wp_region_any hm (Wo hE hS he (nt:=nt) (na:=na) (a0:=a0) (M0:=M0) (w0:=w0) hi gU h3 h5 (fun a w r=>hK _ a w r h2) _ _ _ _ (by simp) ⟨List.range ops.size,by simp,by grind⟩ (fun j o hj=>?_) ?_)
 ·by_cases h:j<ops.size<;>simp[h] at hj
 ·rw[List.filter_eq_nil_iff.2 fun y hy=>by
   by_cases h:y.i<ops.size<;>simp[h]]
  exact⟨r.ex,r.defers,r.size,r.os,r.tape,r.output,r.keep⟩
end
end Go.Ab
