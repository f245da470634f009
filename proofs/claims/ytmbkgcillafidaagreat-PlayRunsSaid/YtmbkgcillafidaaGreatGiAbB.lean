/- part 1 -/
import Derived.Test.YtmbkgcillafidaaGreatGiAbA
import Derived.Laws.BytesString
set_option linter.unusedVariables false
set_option linter.unusedSimpArgs false
namespace Go.Ab
def zN.move (M:zN)(nm:Nat)(C:qE)(h:Hp)(H:Array Go.Obj):zN:={M with κ:=κset M.κ nm C,h:=h,H:=H}
theorem zN.move_ok {M}(ok:Ok M){nm:Nat}{o':Obj}{C':qE}{h'}{H'}(J:Nat→Prop)(aV:M.h nm=none)
    (hJ:∀j,J j→∃o,M.h j=some o∧o.owned=true∧h' j=some .gone) (JR:h' nm=some o') (cf:∀n,¬J n→n≠nm→h' n=M.h n) (dH:M.H.size≤H'.size)
    (hH:∀b,b<M.H.size→(∀j C,J j→M.κ j=some C→b∉C.fp)→H'[b]? =M.H[b]?) (cR:∀b,b<M.H.size→yE H' b=yE M.H b)
    (sg:∀b∈C'.fp,(M.H.size≤b∧b<H'.size)∨∃j C,J j∧M.κ j=some C∧b∈C.fp)
    (hO:yV M (M.move nm C' h' H')→vC (M.move nm C' h' H') o' C'):Ok (M.move nm C' h' H')∧yT M (M.move nm C' h' H'):=by
  have hJo:∀j C b,J j→M.κ j=some C→b∈C.fp→qU M b:=fun j C b hj hC hb=>by
    obtain⟨o,h1,h2,_⟩:=hJ j hj;exact⟨j,o,C,h1,h2,hC,hb⟩
  have xk:∀b,M.F b→∀j C,J j→M.κ j=some C→b∉C.fp:=fun b hF j C hj hC hb=>(ok.own b (hJo j C b hj hC hb)).1 hF
  have x:yV M (M.move nm C' h' H'):=
    { κ:=fun n D h=>by
        have:n≠nm:=fun e=>by rw[e,ok.non nm aV] at h;cases h
        exact⟨D,by simp only[zN.move];rw[κset_ne _ _ this];exact h,D.le_refl⟩
      F:=fun _ h=>h
      G:=fun _ h=>h
      same:=fun b h=>hH b (ok.Flt b h) (xk b h)
      sameG:=fun b h=>hH b (ok.Flt b (ok.GF b h)) (xk b (ok.GF b h))
      bsz:=cR}
  have VG:∀j,J j→j≠nm:=by grind
  have dm:∀n q,n≠nm→h' n=some q→q.owned=true→¬J n∧M.h n=some q:=by
    intro n q e h1 h2;by_cases hj:J n
    · obtain⟨o,_,_,k⟩:=hJ n hj;rw[k] at h1;cases h1;cases h2
    simp_all
  have tV:∀b,qU (M.move nm C' h' H') b→(M.H.size≤b∧b<H'.size)∨qU M b:=by
    rintro b ⟨n,q,D,h1,h2,h3,h4⟩
    by_cases e:n=nm
    · subst e;simp only[zN.move,κset_same,Option.some.injEq] at h3;grind
    · obtain⟨_,fa⟩:=dm n q e h1 h2;simp only[zN.move] at h3;rw[κset_ne _ _ e] at h3;exact .inr ⟨n,q,D,fa,h2,h3,h4⟩
  refine⟨ok.build x (fun n=>n=nm∨J n) (fun n hn=>cf n (by grind) (by grind)) (fun n hn=>κset_ne _ _ fun e=>hn (.inl e)) ?_ ?_ dH ?_ ?_ ?_ ok.GF ?_,x,dH,?_,?_,fun b h _=>.inl h,fun b h _=>.inl h⟩
  · intro n q D hn h1 h2 h3 b hb;refine hH b (ok.own b ⟨n,q,D,h1,h2,h3,hb⟩).2 fun j C hj hC hc=>?_
    obtain⟨o,k1,k2,_⟩:=hJ j hj;exact ok.disj n j q o D C b (by grind) h1 k1 h2 k2 h3 hC hb hc
  · intro n q D hn h1 h2 h3 b hb;exact(ok.own b ⟨n,q,D,h1,h2,h3,hb⟩).1
  · rintro n q (rfl|hj) h1
    · simp only[zN.move] at h1;rw[JR] at h1;cases h1;exact⟨C',κset_same _ _ _,hO x⟩
    · obtain⟨o,k1,_,k⟩:=hJ n hj;simp only[zN.move] at h1;rw[k] at h1;cases h1;obtain⟨C,hC,_⟩:=ok.obj n o k1;exact⟨C,by simp only[zN.move];rw[κset_ne _ _ (VG n hj)];exact hC,trivial⟩
  · rintro n (rfl|hj) h1
    · simp only[zN.move] at h1;rw[JR] at h1;cases h1
    · obtain⟨o,_,_,k⟩:=hJ n hj;simp only[zN.move] at h1;rw[k] at h1;cases h1
  · rintro n q D b (rfl|hj) h1 h2 h3 hb
    · simp only[zN.move,κset_same,Option.some.injEq] at h3;subst h3;rcases sg b hb with JS|⟨j,C,hj,hC,bg⟩
      · refine⟨fun k qk Dk hk k1 k2 k3 k4=>?_,fun hF=>?_,JS.2⟩
        · obtain⟨_,Ed⟩:=dm k qk hk k1 k2;simp only[zN.move] at k3;rw[κset_ne _ _ hk] at k3;have:=(ok.own b ⟨k,qk,Dk,Ed,k2,k3,k4⟩).2;omega
        · have:=ok.Flt b hF;omega
      · have ho:=ok.own b (hJo j C b hj hC bg);refine⟨fun k qk Dk hk k1 k2 k3 k4=>?_,ho.1,by simp only[zN.move];omega⟩;obtain⟨hkJ,Ed⟩:=dm k qk hk k1 k2;simp only[zN.move] at k3;rw[κset_ne _ _ hk] at k3;obtain⟨o,j1,j2,_⟩:=hJ j hj;exact ok.disj k j qk o Dk C b (by grind) Ed j1 k2 j2 k3 hC k4 bg
    · obtain⟨o,_,_,k⟩:=hJ n hj;simp only[zN.move] at h1;grind
  · intro b hb;have:=ok.Flt b hb;simp only[zN.move];omega
  · intro b hb hn;exact hH b hb (by grind)
  grind
theorem vMj {P M w}(ok:Ok M)(hM:M.H=w.heap){nm vs us e s}(aV:M.h nm=none)
  (dI:zO (qA M) vs us.toList) (hr:s.run P w=.ok (.pointer (some ⟨w.heap.size,0,none⟩)) (w.alloc (.cells us e))):
  qM P s M w (.c (.ptr nm 0)) [(nm,.box true vs)]:=by
 let C:qE:=⟨some M.H.size,0,0,0,[]⟩;have := zN.new_ok ok aV (.box true vs) C (.cells us e) (by simp [C, qE.fp]) (by
  refine⟨M.H.size,us,e,rfl,rfl,Bd,dI.mono fun _ _ h=>h.ext (zN.new_ext ok aV _ _ _),by simp⟩)
 exact⟨_,_,_,hr,rfl,rfl,rfl,by show M.H.push _=w.heap.push _;rw[hM],rfl,this.1,this.2,C,M.H.size,κset_same _ _ _,rfl,by rw[hM]⟩
theorem JT {H F}:∀t rd,(∀j,j<t.size→rd j=(iw t)[j]?)→qH H F t t.dflt rd
 |.int k,rd,h
 |.bool,rd,h=>by simp[qH];rw[h 0 (by simp[Ty.size])];rfl
 |.sl t,rd,h=>by
  simp[Ty.dflt];exact⟨none,0,0,by rw[h 0 (by simp[Ty.size])];rfl,rfl,by simp,by simp⟩
 |.pair a b,rd,h=>by
  have hl:∀t:Ty,(iw t).length=t.size:=by
   intro t
   induction t with
   |pair a b El Em=>simp[iw,Ty.size,El,Em]
   |_=>rfl
  simp[Ty.size,iw] at h;refine⟨JT a rd (by grind),JT b _ (by grind)⟩
theorem Pc:∀t:Ty,(iw t).length=t.size
 |.int _|.bool|.sl _=>rfl
 |.pair a b=>by simp[iw,Ty.size,Pc a,Pc b]
theorem VH {a b}(h:Uv a b=true):a=b:=by
 unfold Uv at h;split at h
 ·simp  at h;rw[tL h.1,h.2]
 all_goals grind
theorem yOa:∀{l m},Jt l m=true→l=m
 |[],[],_=>rfl
 |a::l,b::m,h=>by
  simp[Jt] at h;rw[VH h.1,yOa h.2]
theorem sr {P e t}(h:kD P e=some t):∃i z,P.info? e=some i∧i.zero=some z∧i.size=t.size∧z.cells.toList=iw t∧P.cellsOf e=t.size∧P.bytesOf e=i.bytes∧z.cells.size=t.size:=by
 unfold kD at h;split at h
 ·rename_i t' i h1 h2;split at h
  ·rename_i z hz;cases hb:(Nat.beq i.size t'.size&&Jt z.cells.toList (iw t')) with
   |false=>simp_all
   |true=>
    rw[hb] at h;cases h;simp only[Bool.and_eq_true] at hb;have e1:=Nat.eq_of_beq_eq_true hb.1;have e2:=yOa hb.2;refine⟨i,z,h2,hz,e1,e2,by rw[UX h2];exact e1,UY h2,?_⟩;have:=congrArg List.length e2;rw[Pc] at this;omega
  ·cases h
 ·cases h
theorem yZe {z:Value}{t}(h:z.cells.toList=iw t)(hs:z.cells.size=t.size){i j} hj:z.cells[(i*t.size+j)%z.cells.size]! =(iw t)[j]'(by rw[Pc];exact hj):=by
 have e1:(i*t.size+j)%z.cells.size=j:=by rw[hs,Nat.mul_comm,Nat.mul_add_mod,Nat.mod_eq_of_lt hj]
 grind
theorem vLa {H F}{z:Value}{t}(h:z.cells.toList=iw t)(hs:z.cells.size=t.size){n i}(hi:i<n):
  qH H F t t.dflt (fun j=>(madeCells z.cells (n*t.size))[i*t.size+j]?):=by
 refine JT t _ fun j hj=>?_
 have aU:=Nat.mul_le_mul_right t.size (show i+1≤n by omega);rw[List.getElem?_eq_getElem (by grind),←yZe h hs (i:=i) hj];simp[madeCells];grind
theorem yN4 {P M w}(ok:Ok M)(hM:M.H=w.heap){nm t xs us e s c}(aV:M.h nm=none)
  (hc:xs.length≤c) (hs:c*t.size≤us.size) (hx:∀i h,qH M.H M.G t xs[i] (fun j=>us[i*t.size+j]?))
  (hr:s.run P w=.ok (.slice (some ⟨w.heap.size,0,none⟩) xs.length c) (w.alloc (.cells us e))):
  qM P s M w (.c (.osl nm none)) [(nm,.arr true t xs)]:=by
 let C:qE:=⟨some M.H.size,xs.length,t.size,0,[]⟩;have x:=zN.new_ext ok aV (.arr true t xs) C (.cells us e);have hle:=Nat.mul_le_mul_right t.size hc;have := zN.new_ok ok aV (.arr true t xs) C (.cells us e) (by simp [C, qE.fp]) (by
  refine⟨rfl,rfl,by grind,us,e,Bd,by simp,by omega,fun i hi=>?_⟩;exact vF x.G x.sameG t _ _ _ (by simp) (hx i hi))
 refine⟨_,_,_,hr,rfl,rfl,rfl,by show M.H.push _=w.heap.push _;rw[hM],rfl,this.1,this.2,C,κset_same _ _ _,_,c,rfl,?_⟩;refine⟨hc,0,by rw[hM],by simp,?_⟩;simp;have:yE (M.H.push (.cells us e)) M.H.size=us.size:=by simp[yE]
 show c*t.size≤yE (M.H.push (.cells us e)) M.H.size;omega
theorem vQ4 {P M w}(ok:Ok M)(hM:M.H=w.heap){nm t zs}(aV:M.h nm=none)(hz:zeroCells P t=some zs):
  qM P (Instr.alloc t true (.tuple #[])) M w (.c (.ptr nm 0)) [(nm,.box true zs)]:=by
 obtain⟨i,v,h1,h2,h3,h4,rfl⟩:=vNf hz;refine vMj ok hM aV (us:=v.cells) (e:=t) (OY M h4) ?_;simp[Instr.alloc,zeroValue,typeInfo,h1,h2,newVar,newRow]
theorem vJm {P M w}(ok:Ok M)(hM:M.H=w.heap){nm t x rx vs}(aV:M.h nm=none)(hx:zX M x rx)(hv:oQ x=some vs):
  qM P (Instr.box t rx) M w (.c (.ptr nm 0)) [(nm,.box true vs)]:=by
 refine vMj ok hM aV (us:=rx.cells) (e:=t) (O2 hv hx) ?_;rfl
theorem VI {P M w}(ok:Ok M)(hM:M.H=w.heap){nm t x rx vs}(aV:M.h nm=none)(hx:zX M x rx)(hv:oQ x=some vs) m:
  qM P (Instr.box t rx) M w (.c (.ptr nm 0)) [(nm,.box (!m) vs)]:=by
 cases m with
 |false=>exact vJm ok hM aV hx hv
 |true=>
  obtain⟨rv,w',M',a1,a2,a3,a4,a5,a6,a7,a8,a9⟩:=vJm (P:=P) (t:=t) ok hM aV hx hv;have an:M'.h nm=some (.box true vs):=by rw[a6];exact yW _ _ _
  obtain⟨M2,b1,b2,b3,b4,b5⟩:=yXh a7 an;refine⟨rv,w',M2,a1,a2,a3,a4,b1.trans a5,?_,b3,a8.trans b4,a9.ext b4.ext⟩;rw[b2,a6];funext n;show yP (yP M.h nm _) nm _ n=yP M.h nm _ n;by_cases e:n=nm
  ·subst e;rw[yW,yW];rfl
  ·rw[yZ _ _ e,yZ _ _ e,yZ _ _ e]
theorem vIw {α:Type}{n i:Nat}{a:α} h:(List.replicate n a)[i]=a:=by simp
theorem VJ {P M w}(ok:Ok M)(hM:M.H=w.heap){nm n us e s c}(aV:M.h nm=none)
  (hc:n≤c) (hs:c≤us.size) (hx:∀i,i<n→us[i]? =some (.slice none 0 0))
  (hr:s.run P w=.ok (.slice (some ⟨w.heap.size,0,none⟩) n c) (w.alloc (.cells us e))):
  qM P s M w (.c (.osl nm none)) [(nm,.mat 0 (List.replicate n []))]:=by
 let C:qE:=⟨some M.H.size,n,1,0,List.replicate n (none,0)⟩;have hfm:(List.replicate n ((none,0):Option Nat×Nat)).filterMap (·.1)=[]:=by
  simp
 have sg:C.fp=[M.H.size]:=by simp[C,qE.fp]
 have := zN.new_ok ok aV (.mat 0 (List.replicate n [])) C (.cells us e) (by simp_all) (by
  refine⟨rfl,by simp[C],rfl,by simp[C],by simp_all,us,e,Bd,by grind,fun i hi=>?_⟩;have gC:i<n:=by simp_all
  refine⟨none,.slice none 0 0,by grind,hx i gC,⟨rfl,by simp⟩,by simp⟩)
 refine⟨_,_,_,hr,rfl,rfl,rfl,by show M.H.push _=w.heap.push _;rw[hM],rfl,this.1,this.2,C,κset_same _ _ _,_,c,rfl,?_⟩;refine⟨hc,0,by rw[hM],by simp,?_⟩;simp;have:yE (M.H.push (.cells us e)) M.H.size=us.size:=by simp[yE]
 show c*1≤yE (M.H.push (.cells us e)) M.H.size;omega
theorem vOo {P M w}(ok:Ok M)(hM:M.H=w.heap){mat nm t l c v u rl rc}(hl:zX M l rl)(hc:zX M c rc)
  (h:yQ (DO P mat nm M.h t l c) v u):qM P (Instr.makeSlice t rl rc) M w v u:=by
 unfold DO at h;split at h
 ·rename_i e l c hu aV;have e1:rl=.int .i64 l:=hl;have e2:rc=.int .i64 c:=hc;subst e1;subst e2;cases mat with
  |true=>
   split at h
   ·rename_i dK;obtain⟨fT,rfl,rfl⟩:=gT h;obtain⟨i,z,h1,h2,h3,h4,h5,h6,h7⟩:=sr dK;simp[Bool.and_eq_true] at fT;obtain⟨⟨⟨o1,o2⟩,o3⟩,o4⟩:=fT;have hr:=run_make (P:=P) w t e i z hu h1 h2 .i64 .i64 l c o1 o2 (by grind) (by omega);have dH:i.size=1:=h3;rw[dH,Nat.mul_one] at hr;refine VJ ok hM aV (n:=l.toNat) (c:=c.toNat) (by omega) (by rw[size_madeCells];omega) (fun k hk=>?_) hr;have Pd:z.cells.toList=[.slice none 0 0]:=h4;have VK:z.cells.size=1:=h7;simp only[madeCells];have:z.cells.toList[0]'(by simp;omega)=.slice none 0 0:=by grind
    grind
   ·exact h.elim
  |false=>
   simp  at h;split at h
   ·rename_i ty dK;obtain⟨fT,rfl,rfl⟩:=gT h;obtain⟨i,z,h1,h2,h3,h4,h5,h6,h7⟩:=sr dK;simp  at fT;obtain⟨⟨⟨o1,o2⟩,o3⟩,o4⟩:=fT;have hr:=run_make (P:=P) w t e i z hu h1 h2 .i64 .i64 l c o1 o2 (by grind) (by omega);refine yN4 ok hM aV (c:=c.toNat) (us:=madeCells z.cells (c.toNat*ty.size)) (e:=e) (by grind) (by rw[size_madeCells];omega) (fun k hk=>?_) (by simp_all);rw[vIw hk];simp  at hk;exact vLa h4 h7 (by omega)
   ·exact h.elim
 ·exact h.elim
theorem yWs off:∀l k cells,off+k+l.length≤cells.size→
  (l.zipIdx k).foldl (fun(cs:Array Value) (p:Value×Nat)=>cs.setIfInBounds (off+p.2) p.1) cells=vB cells (off+k) l
 |[],k,cells,h=>by
  apply Array.ext_getElem?;intro j;rw[dZ h];simp_all
 |c::l,k,cells,h=>by
  simp;rw[yWs off l (k+1) _ (by grind)];apply Array.ext_getElem?;intro j;rw[dZ (by grind),dZ (by omega)];grind
theorem VL place cells i v rest off size (h:place i=some (off,size))(h1:v.cells.size=size)(h2:off+size≤cells.size):
  Instr.fill place cells ((i,v)::rest)=Instr.fill place (vB cells off v.cells.toList) rest:=by
 have hc:¬(v.cells.size≠size||decide (off+v.cells.size>cells.size))=true:=by
  simp_all
 simp only[Instr.fill,h];rw[if_neg hc]
 congr 1
 rw[←Array.foldl_toList,Array.toList_zipIdx];have:=yWs off v.cells.toList 0 cells (by simp;omega);omega
def Bp (M:zN):(Nat×zZ)→(Nat×Value)→Prop:=fun p q=>p.1=q.1∧zX M p.2 q.2
theorem VM {M place}:∀{parts aO cells out vals},zO (qA M) cells vals.toList→
  zO (Bp M) parts aO→Jw place cells parts=some out→∃res,Instr.fill place vals aO=some res∧zO (qA M) out res.toList
 |[],[],cells,out,vals,hc,_,h=>by cases h;exact⟨vals,rfl,hc⟩
 |(i,v)::parts,(i',rv)::aO,cells,out,vals,hc,hp,h=>by
  obtain⟨⟨hi,hv⟩,hp⟩:=hp;subst hi;unfold Jw at h;split at h
  ·rename_i off size vs En dI;cases hb:(Nat.beq vs.length size&&Nat.ble (off+size) cells.length) with
   |false=>simp_all
   |true=>
    rw[hb] at h;simp only[Bool.and_eq_true] at hb;have b1:=Nat.eq_of_beq_eq_true hb.1;have b2:=Nat.le_of_ble_eq_true hb.2;split at h
    ·rename_i bF VN;obtain⟨p1,rfl⟩:=U4 _ _ _ _ VN;have dv:=O2 dI hv;have hl:=dv.length;have nT:=hc.length;simp  at hl nT;have yY:=U7 (yV.refl M) hc dv (off:=off) (by simp_all);obtain⟨res,h1,h2⟩:=VM yY hp h;exact⟨res,by rw[VL place vals i rv aO off size En (by omega) (by omega)];exact h1,h2⟩
    ·cases h
  ·cases h
theorem vAs {P} w:∀(l:List Field),l.all (fun f=>(P.info? f.type).isSome)=true→
  (l.mapM fun f=>(do pure (f.offset,←sizeOf f.type):Sem (Nat×Nat))).run P w=.ok (l.map fun f=>(f.offset,P.cellsOf f.type)) w
 |[],_=>by simp
 |f::l,h=>by
  simp only[List.all_cons,Bool.and_eq_true] at h;obtain⟨i,hi⟩:=Option.isSome_iff_exists.1 h.1;rw[List.mapM_cons];simp only[Sem.run_bind,iS w hi,Result.andThen_ok,Sem.run_pure,vAs w l h.2,List.map_cons]
theorem vWc {P M w}(ok:Ok M)(hM:M.H=w.heap){t parts aO v u}(hp:zO (Bp M) parts aO)
  (h:yQ (UF P t parts) v u):qM P (Instr.build t aO.toArray) M w v u:=by
 unfold UF at h;split at h
 ·exact h.elim
 ·rename_i zero hz;obtain⟨i,z,h1,h2,h3,h4,rfl⟩:=vNf hz;have hzero:=OY M h4;split at h
  ·rename_i fs hs;obtain⟨bn,h⟩:=gA h;split at h
   ·rename_i cells hf;obtain⟨rfl,rfl⟩:=wR h;have En:(fun(j:Nat)=>(fs[j]?).map fun(f:Field)=>(f.offset,P.cellsOf f.type))=(fun(j:Nat)=>(fs.toList.map fun f=>(f.offset,P.cellsOf f.type)).toArray[j]?):=by
     simp
    obtain⟨res,k1,k2⟩:=VM hzero hp hf;refine qM.pure ok hM (rv:=.agg res) ?_ ⟨res,rfl,k2⟩;have hm:=vAs (P:=P) w fs.toList bn;simp[Instr.build,zeroValue,UZ w h1,run_underlying hs,Array.mapM_eq_mapM_toList];simp_all
   ·exact h.elim
  ·rename_i n e hs;obtain⟨bn,h⟩:=gA h;obtain⟨y,hy⟩:=Option.isSome_iff_exists.1 bn;split at h
   ·rename_i cells hf;obtain⟨rfl,rfl⟩:=wR h;obtain⟨res,k1,k2⟩:=VM hzero hp hf;refine qM.pure ok hM (rv:=.agg res) ?_ ⟨res,rfl,k2⟩;simp[Instr.build,zeroValue,Sem.run_bind,UZ w h1,Result.andThen_ok,h2,Sem.run_pure,run_underlying hs,iS w hy];simp_all
   ·exact h.elim
  ·exact h.elim
theorem qM.after {P s M M1 w v u1 u2}(h1:M1.h=qL M.h u1)(st:yT M M1)(h:qM P s M1 w v u2):qM P s M w v (u1++u2):=by
 obtain⟨rv,w',M',a1,a2,a3,a4,a5,a6,a7,a8,a9⟩:=h;exact⟨rv,w',M',a1,a2,a3,a4,a5,by rw[a6,h1,lE],a7,st.trans a8,a9⟩
theorem jL.fresh {h0 h}(hf:jL h0 h){n}(hn:h0 n=none):h n=none:=by
 rcases hf n with e|⟨o,t,xs,e1,_⟩|⟨o,xs,e1,_⟩
 all_goals simp_all
theorem vBs {t vs x}(h:Js t vs=some x):vs.length=t.size∧tN t t.dflt 0 vs=some x:=by
 unfold Js at h;cases hb:Nat.beq vs.length t.size with
 |false=>simp_all
 |true=>simp_all
theorem VO {M t vs us x}(h:Js t vs=some x)(hv:zO (qA M) vs us){rd}(hr:∀i,i<us.length→rd i=us[i]?):qH M.H M.G t x rd:=by
 obtain⟨h1,h2⟩:=vBs h;have hl:=hv.length;refine Vc t vs us t.dflt x 0 (fun j=>(iw t)[j]?) rd (JT t _ (by simp)) h2 hv (by grind) (by grind)
theorem vFn {h0 t n}:∀{parts aO xs out vals u M},Ok M→jL h0 M.h→xs.length=n→vals.size=n*t.size→
  (∀k h,qH M.H M.G t xs[k] (fun j=>vals[k*t.size+j]?))→(∀p∈parts,p.1<n)→zO (Bp M) parts aO→sd h0 t xs parts=some (out,u)→
  ∃res M',Instr.fill (fun i=>some (i*t.size,t.size)) vals aO=some res∧M'.H=M.H∧M'.h=qL M.h u∧Ok M'∧yT M M'∧jL h0 M'.h∧out.length=n∧res.size=n*t.size∧
   (∀k h,qH M'.H M'.G t out[k] (fun j=>res[k*t.size+j]?))
 |[],[],xs,out,vals,u,M,ok,hf,hx,hs,hE,_,_,h=>by
  cases h;exact⟨vals,M,rfl,rfl,rfl,ok,yT.refl M,hf,hx,hs,hE⟩
 |(i,v)::parts,(i',rv)::aO,xs,out,vals,u,M,ok,hf,hx,hs,hE,aS,hp,h=>by
  obtain⟨⟨hi,hv⟩,hp⟩:=hp;dsimp only at hi hv;subst hi;unfold sd at h;split at h
  ·rename_i vs dI;split at h
   ·rename_i Vn u1 Ee;split at h
    ·rename_i x xn;split at h
     ·rename_i xs' us cf;cases h;have dv:=O2 dI hv;obtain⟨M1,a1,a2,a3,a4,a5,a6,a7⟩:=U9 ok hf dv Ee;have hl:=a5.length;simp  at hl;have Pe:=(vBs xn).1;have gC:i<n:=aS (i,v) (by simp);have aU:=Nat.mul_le_mul_right t.size (show i+1≤n by omega);rw[Nat.add_mul] at aU;have aM:i*t.size+rv.cells.toList.length≤vals.size:=by simp_all
      have hE1:∀k (h:k<(xs.set i x).length),qH M1.H M1.G t (xs.set i x)[k] (fun j=>(vB vals (i*t.size) rv.cells.toList)[k*t.size+j]?):=by
       intro k hk;rw[List.length_set] at hk;by_cases e:k=i
       ·subst e;rw[List.getElem_set_self];refine VO xn a5 fun j hj=>?_
        rw[dZ aM,if_neg (by omega),if_pos (by omega)];simp
       ·rw[List.getElem_set_ne (Ne.symm e)];refine vF a4.ext.G (by grind) t _ _ _ (fun j hj=>?_) (hE k hk);rw[dZ aM,Array.length_toList];rcases yNu (Ne.symm e) hj with h|h
        all_goals grind
      obtain⟨res,M2,b1,b2,b3,b4,b5,b6,b7,b8,b9⟩:=vFn a3 a6 (by simp_all) (by rw[gU aM];exact hs) hE1
       (fun p hp=>aS p (by grind)) (hp.mono fun p q hpq=>⟨hpq.1,by
        obtain⟨_,hq⟩:=hpq;exact zX.ext a4.ext hq⟩) cf
      exact⟨res,M2,by rw[VL _ vals i rv aO (i*t.size) t.size rfl (by omega) (by omega)];exact b1,b2.trans a1,by rw[b3,a2,lE],b4,a4.trans b5,b6,b7,b8,b9⟩
     ·cases h
    ·cases h
   ·cases h
  ·cases h
theorem yN6 {P w t e n aO}{ty:Ty}{i z res}(hu:P.underlying t=some (.slice e))(hi:P.info? e=some i)
  (hz:i.zero=some z) (hs:i.size=ty.size) (cS:n*P.cellsOf e≤16777216) (hf:Instr.fill (fun j=>some (j*ty.size,ty.size)) (madeCells z.cells (n*ty.size)) aO=some res):
  (Instr.buildSlice t n aO.toArray).run P w=.ok (.slice (some ⟨w.heap.size,0,none⟩) n n) (w.alloc (.cells res e)):=by
 have hc:P.cellsOf e=ty.size:=by rw[UX hi];exact hs
 rw[hc] at cS;have h1:¬2^24<n*ty.size:=by omega
 by_cases h0:n*ty.size=0
 ·have hm:madeCells z.cells (n*ty.size)=#[]:=by rw[h0];simp[madeCells]
  rw[hm] at hf;simp[Instr.buildSlice,run_underlying hu,iS w hi,hc,h0];simp[Array.range_zero',hf,newRow]
 ·simp[Instr.buildSlice,run_underlying hu,Result.andThen_ok,iS w hi,hc,h1,if_false,h0,Sem.run_pure,zeroValue,UZ w hi,hz];rw[show(Array.range (n*ty.size)).map (z.cells[· %z.cells.size]!)=madeCells z.cells (n*ty.size) from rfl,hf];rfl
theorem ySf {parts:List (Nat×zZ)}{n}(h:parts.all (fun p=>Nat.blt p.1 n)=true):∀p∈parts,p.1<n:=by
 simp only[List.all_eq_true] at h;exact fun p hp=>Va (h p hp)
theorem VP {P M w}(ok:Ok M)(hM:M.H=w.heap){nm t e n parts aO ty xs u}
  (hp:zO (Bp M) parts aO) (hu:P.underlying t=some (.slice e)) (aV:M.h nm=none) (dK:kD P e=some ty) (cS:n*P.cellsOf e≤16777216) (aS:∀p∈parts,p.1<n)
  (hf:sd M.h ty (List.replicate n ty.dflt) parts=some (xs,u)):
  qM P (Instr.buildSlice t n aO.toArray) M w (.c (.osl nm none)) (u++[(nm,.arr true ty xs)]):=by
 obtain⟨i,z,h1,h2,h3,h4,h5,h6,h7⟩:=sr dK;obtain⟨res,M',b1,b2,b3,b4,b5,b6,b7,b8,b9⟩:=vFn (n:=n) ok (jL.refl _) (by simp) (vals:=madeCells z.cells (n*ty.size)) (by rw[size_madeCells])
  (fun k hk=>by rw[vIw hk];exact vLa h4 h7 (by simp_all)) aS hp hf
 have hr:=yN6 (P:=P) (w:=w) hu h1 h2 h3 cS b1;refine qM.after b3 b5 (yN4 b4 (by grind) (b6.fresh aV) (c:=n) (us:=res) (e:=e) (by omega) (by omega) (by grind) ?_);simp_all
structure xo (M:zN) (J:List Nat) (n:Nat) (rows:List (List Int)) (vals:Array Value) (rc:List (Option Nat×Nat)):Prop where
 len:rows.length=n
 size:vals.size=n
 rlen:rc.length=n
 row:∀k (h:k<rows.length),∃rb v,rc[k]? =some (rb,rows[k].length)∧vals[k]? =some v∧mX M.H rb rows[k].length v∧
  (∀R,rb=some R→∃rv er,M.H[R]? =some (.cells rv er (0,0))∧∀j (h':j<rows[k].length),rv[j]? =some (.int .i64 rows[k][j]))
 nd:(rc.filterMap (·.1)).Nodup
 of:∀R∈rc.filterMap (·.1),∃j∈J,∃C,M.κ j=some C∧R∈C.fp
 js:∀j∈J,∃ys:List Int,M.h j=some (.arr true (.int .i64) ys)
theorem xo.put {M}(ok:Ok M){J n rows vals rc}(I:xo M J n rows vals rc){i}(hi:i<n){v rv r u}
  (hv:zX M v rv) (ht:A7 M.h v=some (r,u)) (hJ:∀p∈u,p.1∉J):∃Pf,xo M (J++u.map (·.1)) n (rows.set i r) (vB vals i rv.cells.toList) Pf∧rv.cells.size=1∧(∀p∈u,p.2=.gone):=by
 have put:∀(rb:Option Nat) (J':List Nat),rv.one1=true→mX M.H rb r.length rv→(∀R,rb=some R→∃rv er,M.H[R]? =some (.cells rv er (0,0))∧∀j (h':j<r.length),rv[j]? =some (.int .i64 r[j]))→
   (∀R,rb=some R→R∉rc.filterMap (·.1))→(∀R,rb=some R→∃j∈J',∃C,M.κ j=some C∧R∈C.fp)→(∀j∈J',∃ys:List Int,M.h j=some (.arr true (.int .i64) ys))→
   xo M (J++J') n (rows.set i r) (vB vals i rv.cells.toList) (rc.set i (rb,r.length))∧rv.cells.size=1:=by
  intro rb J' h1 h2 h3 h4 h5 h6;have aH:rv.cells=#[rv]:=by cases rv<;>first|rfl|cases h1
  obtain⟨s1,s2⟩:=O5 (x:=(rb,r.length)) rc i I.nd h4;have aM:i+rv.cells.toList.length≤vals.size:=by rw[aH,I.size];show i+1≤n;omega
  refine⟨⟨by rw[List.length_set];exact I.len,by rw[gU aM];exact I.size,by rw[List.length_set];exact I.rlen,fun k hk=>?_,s1,fun R hR=>?_,fun j hj=>?_⟩,by rw[aH];rfl⟩
  ·rw[List.length_set] at hk;by_cases e:k=i
   ·subst e;rw[List.getElem_set_self];refine⟨rb,rv,?_,?_,h2,h3⟩
    ·rw[List.getElem?_set_self (by rw[I.rlen];exact hi)]
    ·rw[dZ aM,if_neg (by omega),if_pos (by rw[aH];show k<k+1;omega),aH];simp
   ·rw[List.getElem_set_ne (Ne.symm e)];obtain⟨pS,v',p1,p2,p3,p4⟩:=I.row k hk;refine⟨pS,v',by rw[List.getElem?_set_ne (Ne.symm e)];exact p1,?_,p3,p4⟩;rw[dZ aM,aH];grind
  ·rcases s2 R hR with h|h
   ·obtain⟨j,hj,hC⟩:=I.of R h;exact⟨j,by grind,hC⟩
   grind
  ·rcases List.mem_append.1 hj with h|h
   ·exact I.js j h
   ·exact h6 j h
 unfold A7 at ht;split at ht
 ·rename_i jd;split at ht
  ·rename_i ys dh;cases ht;obtain⟨Cj,eM,nS⟩:=ok.obj jd _ dh;obtain⟨jr,jf⟩:=JI nS;obtain⟨r1,r2⟩:=Vj eM nS hv;have xl:∀j∈[jd],∃ys:List Int,M.h j=some (.arr true (.int .i64) ys):=by grind
   have:=put Cj.blk [jd] (qA.one (c:=.osl jd none) hv) r1 r2 (fun R hR hm=>?_) (by grind) (fun j hj=>xl j hj)
   ·exact(by grind)
   ·obtain⟨j,hj,C,hC,hRC⟩:=I.of R hm;obtain⟨ys',nf⟩:=I.js j hj;have bx:j≠jd:=fun e=>hJ (jd,.gone) (by simp) (e▸hj)
    exact ok.disj j jd _ _ C Cj R bx nf dh rfl rfl hC eM hRC (fS hR)
  ·cases ht
 ·cases ht;have e:rv=.slice none 0 0:=hv;have:=put none [] (by rw[e];rfl) ⟨e,rfl⟩ (by simp) (by simp) (by simp) (by simp);exact by grind
 ·cases ht
theorem Eo:∀{l},tP l=true→l.Nodup
 |[],_=>by simp
 |a::l,h=>by
  simp only[tP,Bool.and_eq_true] at h;refine List.nodup_cons.2 ⟨fun hm=>?_,Eo h.2⟩;have:l.any (Nat.beq a)=true:=List.any_eq_true.2 ⟨a,hm,by simp⟩;simp_all
theorem yQb {M}(ok:Ok M){n}:∀{parts aO J rows out vals rc u},xo M J n rows vals rc→
  (∀p∈parts,p.1<n)→zO (Bp M) parts aO→A8 M.h rows parts=some (out,u)→(J++u.map (·.1)).Nodup→
  ∃res Pf,Instr.fill (fun i=>some (i*1,1)) vals aO=some res∧xo M (J++u.map (·.1)) n out res Pf∧(∀p∈u,p.2=.gone)
 |[],[],J,rows,out,vals,rc,u,I,_,_,h,_=>by
  cases h;exact⟨vals,rc,rfl,by simp_all,by simp⟩
 |(i,v)::parts,(i',rv)::aO,J,rows,out,vals,rc,u,I,aS,hp,h,dJ=>by
  obtain⟨⟨hi,hv⟩,hp⟩:=hp;subst hi;unfold A8 at h;split at h
  ·rename_i r u1 ht;split at h
   ·rename_i JU us cf;cases h;rw[List.map_append,←List.append_assoc] at dJ;have gC:i<n:=aS (i,v) (by simp);obtain⟨Pf,I',h1,hg⟩:=I.put ok gC hv ht (by grind);obtain⟨res,rc2,b1,b2,b3⟩:=yQb ok I' (by grind) hp cf dJ;refine⟨res,rc2,?_,by simp_all,fun p hp=>?_⟩
    ·rw[VL _ vals i rv aO (i*1) 1 rfl h1 (by rw[I.size];omega),Nat.mul_one];exact b1
    grind
   ·cases h
  ·cases h
theorem VQ {j}:∀{u h},(∀p∈u,p.2=.gone)→j∈u.map (·.1)→qL h u j=some .gone
 |(id,o)::u,h,hg,hj=>by
  have ho:o=.gone:=hg (id,o) (by simp);subst ho;by_cases hm:j∈u.map (·.1)
  ·exact VQ (u:=u) (by grind) hm
  ·have e:j=id:=by
    simp_all
   subst e;show qL (yP h j .gone) u j=_;rw[O6]
   ·exact yW _ _ _
   ·rw[Bool.eq_false_iff];simp_all
theorem Ep {n u h}(hn:n∉u.map (·.1)):qL h u n=h n:=by
 refine O6 h ?_;rw[Bool.eq_false_iff];simp_all
theorem VR {P:Program}{M:zN}{w}(ok:Ok M)(hM:M.H=w.heap){nm n c}{rows res rc J}{u:vL}{e s}
  (aV:M.h nm=none) (I:xo M J n rows (res.extract 0 n) rc) (hJ:∀j,j∈J→j∈u.map (·.1)) (hg:∀p∈u,p.2=.gone∧∃o,M.h p.1=some o∧o.owned=true) (hc:n≤c) (hs:c≤res.size)
  w' (hw:w'.heap=w.heap.push (.cells res e)∧w'.os=w.os∧w'.tape=w.tape∧w'.output=w.output)
  (hr:s.run P w=.ok (.slice (some ⟨w.heap.size,0,none⟩) n c) w'):qM P s M w (.c (.osl nm none)) (u++[(nm,.mat 0 rows)]):=by
 let C:qE:=⟨some M.H.size,n,1,0,rc⟩;have hnJ:nm∉u.map (·.1):=(by grind);have aU:∀R∈rc.filterMap (·.1),∃j C,(j∈u.map (·.1))∧M.κ j=some C∧R∈C.fp:=fun R hR=>by
  obtain⟨j,hj,C,hC,hm⟩:=I.of R hR;grind
 have ajI:∀R∈rc.filterMap (·.1),R<M.H.size:=fun R hR=>by
  obtain⟨j,hj,C,hC,hm⟩:=I.of R hR;obtain⟨ys,hy⟩:=I.js j hj;exact(ok.own R ⟨j,_,C,hy,rfl,hC,hm⟩).2
 have hh:∀n',(qL M.h (u++[(nm,.mat 0 rows)])) n'=if n'=nm then some (.mat 0 rows) else qL M.h u n':=fun n'=>by
  rw[lE,U3];by_cases e:n'=nm
  ·rw[if_pos e,e,yW]
  ·rw[if_neg e,yZ _ _ e]
 have:=zN.move_ok (M:=M) (nm:=nm) (o':=.mat 0 rows) (C':=C) (h':=qL M.h (u++[(nm,.mat 0 rows)])) (H':=M.H.push (.cells res e)) ok (fun j=>j∈u.map (·.1)) aV
  (fun j hj=>by
   obtain⟨p,hp,e⟩:=List.mem_map.1 hj;obtain⟨_,o,ho,iX⟩:=hg p hp;refine⟨o,by rw[←e];exact ho,iX,?_⟩;have bx:j≠nm:=by grind
   rw[hh,if_neg bx];exact VQ (by grind) hj)
  (by rw[hh,if_pos rfl]) (fun n' h1 h2=>by rw[hh,if_neg h2];exact Ep h1) (by simp) (fun b hb _=>pQ hb) (fun b hb=>D6 (pQ hb))
  (fun b hb=>by
   simp only[C,qE.fp,Option.toList_some,List.singleton_append,List.mem_cons] at hb;grind)
  (fun x=>by
   refine⟨rfl,I.len.symm,rfl,by rw[I.len];exact I.rlen,?_,res,e,Bd,by rw[I.len];omega,fun k hk=>?_⟩
   ·simp only[C,qE.fp,Option.toList_some,List.singleton_append];exact List.nodup_cons.2 ⟨by grind,I.nd⟩
   ·obtain⟨rb,v,p1,p2,p3,p4⟩:=I.row k hk;refine⟨rb,v,p1,?_,p3.ext x,fun R hR=>?_⟩
    ·grind
    ·obtain⟨rv,er,p5,p6⟩:=p4 R hR;refine⟨rv,er,?_,p6⟩;have:R<M.H.size:=by grind
     show(M.H.push _)[R]? =_;grind)
 refine⟨_,_,_,hr,hw.2.1,hw.2.2.1,hw.2.2.2,by show M.H.push _=_;rw[hw.1,hM],rfl,this.1,this.2,C,κset_same _ _ _,_,c,rfl,?_⟩;refine⟨hc,0,by rw[hM],.inr (by simp),?_⟩;have:yE (M.H.push (.cells res e)) M.H.size=res.size:=by simp[yE]
 show(0+c)*1≤yE (M.H.push (.cells res e)) M.H.size;rw[this];omega
theorem VT {P M w}(ok:Ok M)(hM:M.H=w.heap){mat nm t n parts aO v u}
  (hp:zO (Bp M) parts aO) (h:yQ (DN P mat nm M.h t n parts) v u):qM P (Instr.buildSlice t n aO.toArray) M w v u:=by
 unfold DN at h;split at h
 ·rename_i e hu aV;obtain⟨cS,h⟩:=gA h;have cS:=Nat.le_of_ble_eq_true cS;cases mat with
  |true=>
   split at h
   ·rename_i rows u' dK hf;obtain⟨hb,h⟩:=gA h;simp only[Bool.and_eq_true] at hb;obtain⟨_,rfl,rfl⟩:=gT h;obtain⟨i,z,h1,h2,h3,h4,h5,h6,h7⟩:=sr dK;have Pd:z.cells.toList=[.slice none 0 0]:=h4;have VK:z.cells.size=1:=h7;have I0:xo M [] n (List.replicate n []) (madeCells z.cells (n*1)) (List.replicate n (none,0)):=by
     refine⟨by simp,by rw[size_madeCells,Nat.mul_one],by simp,fun k hk=>?_,by simp,by simp,by simp⟩;have hkn:k<n:=by simp_all
     refine⟨none,.slice none 0 0,by simp[hkn],?_,⟨rfl,by simp⟩,by simp⟩;simp only[madeCells];have:z.cells.toList[0]'(by grind)=.slice none 0 0:=by grind
     grind
    obtain⟨res,rc,b1,b2,b3⟩:=yQb ok I0 (ySf hb.2) hp hf (by simpa using Eo hb.1);have hr:=yN6 (P:=P) (w:=w) (ty:=.sl (.int .i64)) hu h1 h2 h3 cS b1;have VU:res.extract 0 n=res:=by
     have:=b2.size;simp_all
    refine VR ok hM aV (by rw[VU];exact b2) (by simp) (fun p hp=>⟨b3 p hp,?_⟩) (by simp) (by rw[b2.size];omega) (w.alloc (.cells res e)) ⟨rfl,rfl,rfl,rfl⟩ hr;obtain⟨ys,hy⟩:=b2.js p.1 (by grind);exact⟨_,hy,rfl⟩
   ·exact h.elim
  |false=>
   simp  at h;split at h
   ·rename_i ty dK;split at h
    ·rename_i xs u' hf;obtain⟨hb,h⟩:=gA h;obtain⟨_,rfl,rfl⟩:=gT h;exact VP ok hM hp hu aV dK cS (ySf hb) hf
    ·exact h.elim
   ·exact h.elim
 ·exact h.elim
theorem VV {H F}:∀t x rd,qH H F t x rd→∀j,j<t.size→∃v,rd j=some v∧v.one1=true
 |.int k,x,rd,h,j,hj
 |.bool,x,rd,h,j,hj=>by
  simp[Ty.size] at hj;obtain rfl:j=0:=by omega
  exact⟨_,h,rfl⟩
 |.sl t,x,rd,h,j,hj=>by
  simp[Ty.size] at hj;obtain rfl:j=0:=by omega
  obtain⟨A,n,c,h1,_⟩:=h;exact⟨_,h1,rfl⟩
 |.pair a b,x,rd,h,j,hj=>by
  simp[Ty.size] at hj;by_cases aS:j<a.size
  ·exact VV a _ _ h.1 j aS
  ·have:=VV b _ _ h.2 (j-a.size) (by omega);simp_all
def jB (H : Array Go.Obj) (v : Value) (n size : Nat) (news : List Value) : Prop := ∃ A c, v = .slice A n c ∧ news.length = n * size ∧ (∀ u ∈ news, u.one1 = true) ∧ (match A with
 |none=>n=0
 |some a=>n=0∨a.spot=none∧∀j u,news[j]? =some u→yY H a.block (a.off+j)=some u)
theorem jB.first {P H v n size news}(h:jB H v n size news) w (hw:w.heap=H):(Builtin.firstCells size n v).run P w=.ok news.toArray w:=by
 obtain⟨A,c,rfl,hl,_,h⟩:=h;cases A with
 |none=>
  have h0:n=0:=h;subst h0;have:news=[]:=by grind
  subst this;rfl
 |some a=>
  rcases h with h0|⟨hs,h⟩
  ·subst h0;have:news=[]:=by grind
   subst this;simp[Builtin.firstCells,loadCells,loadCellsFrom]
  ·obtain⟨B,o,sp⟩:=a;cases hs;exact run_firstCells_some w size n ⟨B,o,none⟩ n c news hl (fun j u hu=>by rw[Addr.add_lit,tU,hw];simp_all)
theorem VW {H F t}{ys:List t.den}{B o c}(hc:ys.length≤c)(h:∀i hi,qH H F t ys[i] (fun j=>yY H B (o+i*t.size+j))):
  ∃news,jB H (.slice (some ⟨B,o,none⟩) ys.length c) ys.length t.size news∧∀i hi,qH H F t ys[i] (fun j=>news[i*t.size+j]?):=by
 have tot:∀k,k<ys.length*t.size→∃v,yY H B (o+k)=some v∧v.one1=true:=by
  intro k hk;have hi:k/t.size<ys.length:=Nat.div_lt_of_lt_mul (by grind);obtain⟨v,h1,h2⟩:=VV t _ _ (h _ hi) (k%t.size) (Nat.mod_lt _ t.size_pos);refine⟨v,?_,h2⟩;rw[Nat.add_assoc,Nat.mul_comm,Nat.div_add_mod] at h1;exact h1
 refine⟨(List.range (ys.length*t.size)).map fun k=>(yY H B (o+k)).getD undef,⟨_,c,rfl,by simp,fun u hu=>?_,.inr ⟨rfl,fun j u hu=>?_⟩⟩,fun i hi=>?_⟩
 ·grind
 ·grind
 ·refine vF (by simp) (by simp) t _ _ _ (fun j hj=>?_) (h i hi);have aU:=Nat.mul_le_mul_right t.size (show i+1≤ys.length by omega);grind
theorem JV {H F t A c}:∃news,jB H (.slice A 0 c) 0 t.size news∧∀i hi,qH H F t ([]:List t.den)[i] (fun j=>news[i*t.size+j]?):=
 ⟨[],⟨A,c,rfl,by simp,by simp,by grind⟩,by simp⟩
theorem VX {H F t}{ys:List t.den}{v}(h:qH H F (.sl t) ys (fun _=>some v)):
  ∃news,jB H v ys.length t.size news∧∀i hi,qH H F t ys[i] (fun j=>news[i*t.size+j]?):=by
 simp[qH] at h;obtain⟨A,n,c,rfl,rfl,hc,h⟩:=h;rcases h with⟨rfl,_⟩|⟨B,o,rfl,hB,hE⟩
 ·exact JV
 ·exact VW hc hE
theorem Bq {M own t xs C id r v}(hC:M.κ id=some C)(hO:vC M (.arr own t xs) C)(hv:qA M (.osl id r) v):
  ∃news,jB M.H v (j9 xs r).length t.size news∧∀i hi,qH M.H M.G t (j9 xs r)[i] (fun j=>news[i*t.size+j]?):=by
 obtain⟨h1,h2,h3,h4⟩:=hO;obtain⟨C',aF,hv⟩:=hv;rw[hC] at aF;cases aF;have key:∀lo n,lo+n≤C.len→jJ M.H C lo n v→∃news,jB M.H v (qS xs lo n).length t.size news∧∀i (hi:i<(qS xs lo n).length),qH M.H M.G t (qS xs lo n)[i] (fun j=>news[i*t.size+j]?):=by
  intro lo n hn hS;obtain⟨A,c,rfl,hS⟩:=hS;have hl:=Eb (xs:=xs) (lo:=lo) (n:=n) (by omega);by_cases h0:n=0
  ·subst h0;have e:qS xs lo 0=[]:=by rfl
   exact JV
  ·cases hB:C.blk with
   |none=>simp_all
   |some B=>
    rw[hB] at hS h4;obtain⟨hc,a,rfl,ha,_⟩:=hS;obtain⟨vals,e,h5,h6,h7,h8⟩:=h4;have si:a=lo*C.sz:=by omega
    have := VW (H := M.H) (F := M.G) (ys := qS xs lo n) (B := B) (o := a) (c := c) (by omega) (fun i hi=>by
     obtain⟨bI,e1⟩:=O3 hi;rw[e1];refine vF (by simp) (by simp) t _ _ _ (fun j hj=>?_) (h8 (lo+i) bI);rw[si,h2,←Nat.add_mul];simp[yY,h5])
    simp_all
 cases r with
 |none=>
  have:=key 0 C.len (by omega) hv;rw[h1,vCk] at this;exact this
 |some p=>exact key p.1 p.2 hv.1 hv.2.1
theorem ss {P w t e i A sLen sCap n size x news} T (hu:P.underlying t=some (.slice e))(hi:P.info? e=some i)(hs:i.size=size)
  (hx : jB w.heap x n size news) (aZ : sLen + n ≤ sCap) w' (hw:match A with
   |none=>w'=w
   |some a=>(storeCells (a.add (sLen*size)) news).run P w=.ok () w'):
  (Builtin.append_ #[t,t] T #[.slice A sLen sCap,x]).run P w=.ok (.slice A (sLen+n) sCap) w':=by
 have hf:=hx.first (P:=P) w rfl
 obtain⟨X,c,rfl,_⟩:=hx;subst hs;cases A with
 |none=>
  subst hw;simp[Builtin.append_,run_underlying hu,sizeOf,typeInfo,hi,Builtin.lenOf,aZ,hf]
 |some a=>simp[Builtin.append_,run_underlying hu,sizeOf,typeInfo,hi,Builtin.lenOf,aZ,hf,hw]
theorem VY {P}{w}{t e}{i}{z}{A sLen sCap n size x olds news} T (hu:P.underlying t=some (.slice e))(hi:P.info? e=some i)(hz:i.zero=some z)
  (hs:i.size=size) (hb:jB w.heap (.slice A sLen sCap) sLen size olds) (hx:jB w.heap x n size news) (hg:sCap<sLen+n) (h46:(sLen+n)*i.bytes≤140737488355328) (ajJ:sLen+n≤140737488355328):
  (Builtin.append_ #[t,t] T #[.slice A sLen sCap,x]).run P w=
   .ok (.slice (some ⟨w.heap.size,0,none⟩) (sLen+n) (grownCap w (sLen+n) sCap e)) (w.drew.alloc (.cells (olds.toArray++news.toArray++Builtin.zeroCells z.cells (grownCap w (sLen+n) sCap e-(sLen+n))) e)):=by
 have hf:=hx.first (P:=P) w.drew rfl
 have hfo:=hb.first (P:=P) w.drew rfl
 obtain⟨X,c,rfl,_⟩:=hx;subst hs;have hn:¬(sLen+n≤sCap):=by omega
 have ajK:¬(9223372036854775807<((sLen:Int)+(n:Int))):=by omega
 have ajL:¬(281474976710656<Builtin.nextslicecap (sLen+n) sCap*i.bytes):=by
  have h1:=Nat.mul_le_mul_right i.bytes (nextslicecap_le hg);grind
 simp[Builtin.append_,run_underlying hu,sizeOf,typeInfo,zeroValue,hi,hz,Builtin.lenOf,Question.forced,hf,hfo,newRow,grownCap];grind
theorem Er z n:(Builtin.zeroCells z n).size=n*z.size:=by simp[Builtin.zeroCells]
theorem VZ {H F t}{xs ys:List t.den}{olds news:List Value}(hl:olds.length=xs.length*t.size)(hx:∀i h,qH H F t xs[i] (fun j=>olds[i*t.size+j]?))
  (hy:∀i h,qH H F t ys[i] (fun j=>news[i*t.size+j]?)):∀i h,qH H F t (xs++ys)[i] (fun j=>(olds++news)[i*t.size+j]?):=by
 intro i hi;by_cases h:i<xs.length
 ·rw[List.getElem_append_left h];refine vF (by simp) (by simp) t _ _ _ (fun j hj=>?_) (hx i h);have:=Nat.mul_le_mul_right t.size (show i+1≤xs.length by omega);grind
 ·rw[List.getElem_append_right (by omega)];refine vF (by simp) (by simp) t _ _ _ (fun j hj=>?_) (hy (i-xs.length) (by grind));have:=Nat.mul_le_mul_right t.size (show xs.length≤i by omega);rw[List.getElem?_append_right (by omega),hl]
  congr 1
  rw[Nat.sub_mul];omega
def JW (M:zN)(w:World)(v:zZ)(u:vL)(rv:Value)(w':World):Prop:=
 ∃M',w'.os=w.os∧w'.tape=w.tape∧w'.output=w.output∧M'.H=w'.heap∧M'.h=qL M.h u∧Ok M'∧yT M M'∧zX M' v rv
theorem JW.runs {P s M w w' v u rv}(h:JW M w v u rv w')(hr:s.run P w=.ok rv w'):qM P s M w v u:=by
 obtain⟨M',h⟩:=h;exact⟨_,_,M',hr,h⟩
theorem yUv {M w}(ok:Ok M)(hM:M.H=w.heap){nm t zs us e c}{u:vL}(aV:M.h nm=none)
  (hg:∀p∈u,p.2=.gone∧∃o,M.h p.1=some o∧o.owned=true) (hc:zs.length≤c) (hs:c*t.size≤us.size) (hx:∀i h,qH M.H M.G t zs[i] (fun j=>us[i*t.size+j]?))
  {w':World} (hw:w'.heap=w.heap.push (.cells us e)∧w'.os=w.os∧w'.tape=w.tape∧w'.output=w.output):
  JW M w (.c (.osl nm none)) (u++[(nm,.arr true t zs)]) (.slice (some ⟨w.heap.size,0,none⟩) zs.length c) w':=by
 let C:qE:=⟨some M.H.size,zs.length,t.size,0,[]⟩;have hh:∀n',(qL M.h (u++[(nm,.arr true t zs)])) n'=if n'=nm then some (.arr true t zs) else qL M.h u n':=fun n'=>by
  rw[lE,U3];by_cases e:n'=nm
  ·rw[if_pos e,e,yW]
  ·rw[if_neg e,yZ _ _ e]
 have hle:=Nat.mul_le_mul_right t.size hc;have:=zN.move_ok (M:=M) (nm:=nm) (o':=.arr true t zs) (C':=C) (h':=qL M.h (u++[(nm,.arr true t zs)])) (H':=M.H.push (.cells us e)) ok (fun j=>j∈u.map (·.1)) aV
  (fun j hj=>by
   obtain⟨p,hp,e⟩:=List.mem_map.1 hj;obtain⟨_,o,ho,iX⟩:=hg p hp;refine⟨o,by simp_all,iX,?_⟩;have bx:j≠nm:=by grind
   rw[hh,if_neg bx];exact VQ (by grind) hj)
  (by simp_all) (fun n' h1 h2=>by rw[hh,if_neg h2];exact Ep h1) (by simp) (by grind) (fun b hb=>D6 (pQ hb))
  (fun b hb=>by
   simp only[C,qE.fp] at hb;simp_all)
  (fun x=>⟨rfl,rfl,(by grind),us,e,Bd,by simp,by omega,fun i hi=>vF x.G x.sameG t _ _ _ (by simp) (hx i hi)⟩)
 refine⟨_,hw.2.1,hw.2.2.1,hw.2.2.2,by show M.H.push _=_;simp_all,rfl,this.1,this.2,C,κset_same _ _ _,_,c,rfl,?_⟩;refine⟨hc,0,by rw[hM],by simp,?_⟩;have:yE (M.H.push (.cells us e)) M.H.size=us.size:=by simp[yE]
 show(0+c)*t.size≤yE (M.H.push (.cells us e)) M.H.size;simp_all
theorem vIk {P M w}(ok:Ok M)(hM:M.H=w.heap){nm t zs us e s c}{u:vL}(aV:M.h nm=none)
  (hg:∀p∈u,p.2=.gone∧∃o,M.h p.1=some o∧o.owned=true) (hc:zs.length≤c) (hs:c*t.size≤us.size) (hx:∀i h,qH M.H M.G t zs[i] (fun j=>us[i*t.size+j]?))
  {w'} (hr:s.run P w=.ok (.slice (some ⟨w.heap.size,0,none⟩) zs.length c) w') (hw:w'.heap=w.heap.push (.cells us e)∧w'.os=w.os∧w'.tape=w.tape∧w'.output=w.output):
  qM P s M w (.c (.osl nm none)) (u++[(nm,.arr true t zs)]):=
 (yUv ok hM aV hg hc hs hx hw).runs hr
theorem vL6 {M:zN}{w:World}(ok:Ok M)(hM:M.H=w.heap){id nm:Nat}{t:Ty}{iz zs:List t.den}{C:qE}{H':Array Go.Obj}{c:Nat}{A:Option Addr}{w':World}
  (an:M.h id=some (.arr true t iz)) (hC:M.κ id=some C) (aV:M.h nm=none) (dH:H'.size=M.H.size) (hH:∀b,b∉C.fp→H'[b]? =M.H[b]?) (cR:∀b,yE H' b=yE M.H b)
  (hx:∀M',yV M M'→M'.H=H'→M'.G=M.G→match C.blk with
   |none=>zs=[]
   |some B=>∃vals e,H'[B]? =some (.cells vals e (0,0))∧zs.length*t.size≤vals.size∧∀i (h:i<zs.length),qH M'.H M'.G t zs[i] (fun j=>vals[i*t.size+j]?))
  (hA:match C.blk with
   |none=>A=none∧zs.length=0∧c=0
   |some B=>zs.length≤c∧∃a,A=some ⟨B,a,none⟩∧(c=0∨a=0)∧c*t.size≤yE M.H B)
  (hw:w'.heap=H'∧w'.os=w.os∧w'.tape=w.tape∧w'.output=w.output):
  JW M w (.c (.osl nm none)) [(id,.gone),(nm,.arr true t zs)] (.slice A zs.length c) w':=by
 obtain⟨C0,su,hO⟩:=ok.obj id _ an;rw[hC] at su;cases su;obtain⟨fr,ff⟩:=JI hO;have bx:id≠nm:=by grind
 let C':qE:=⟨C.blk,zs.length,t.size,0,[]⟩;have hh:∀n',(qL M.h [(id,.gone),(nm,.arr true t zs)]) n'=if n'=nm then some (.arr true t zs) else if n'=id then some .gone else M.h n':=fun n'=>by
  show(yP (yP M.h id .gone) nm _) n'=_;by_cases e:n'=nm
  ·rw[if_pos e,e,yW]
  ·rw[if_neg e,yZ _ _ e];by_cases e2:n'=id
   ·rw[if_pos e2,e2,yW]
   ·rw[if_neg e2,yZ _ _ e2]
 have:=zN.move_ok (M:=M) (nm:=nm) (o':=.arr true t zs) (C':=C') (h':=qL M.h [(id,.gone),(nm,.arr true t zs)]) (H':=H') ok (fun j=>j=id) aV
  (fun j hj=>⟨.arr true t iz,by rw[hj];exact an,rfl,by simp_all⟩)
  (by rw[hh,if_pos rfl]) (by grind) (by omega) (by grind) (fun b _=>cR b)
  (fun b hb=>.inr ⟨id,C,rfl,hC,by
   simp only[C',qE.fp,List.filterMap_nil,List.append_nil] at hb;rw[ff];exact hb⟩)
  (fun x=>by
   refine⟨rfl,rfl,(by grind),?_⟩;have:=hx _ x rfl rfl;show match C.blk with
    |none=>_
    |some B=>_
   cases hB:C.blk with
   |none=>simp_all
   |some B=>
    rw[hB] at this;obtain⟨vals,e,h1,h2,h3⟩:=this;exact⟨vals,e,h1,by simp,h2,h3⟩)
 refine⟨_,hw.2.1,hw.2.2.1,hw.2.2.2,by rw[hw.1];rfl,rfl,this.1,this.2,C',κset_same _ _ _,_,c,rfl,?_⟩;show match C.blk with
  |none=>_
  |some B=>_
 cases hB:C.blk with
 |none=>rw[hB] at hA;exact hA
 |some B=>
  rw[hB] at hA;obtain⟨h1,a,h2,h3,h4⟩:=hA;refine⟨h1,a,h2,by simpa using h3,?_⟩;show(0+c)*t.size≤yE H' B;simp_all
theorem V0 {P M w}(ok:Ok M)(hM:M.H=w.heap){id nm t iz zs C H' s c A w'}
  (an:M.h id=some (.arr true t iz)) (hC:M.κ id=some C) (aV:M.h nm=none) (dH:H'.size=M.H.size) (hH:∀b,b∉C.fp→H'[b]? =M.H[b]?) (cR:∀b,yE H' b=yE M.H b)
  (hx:∀M',yV M M'→M'.H=H'→M'.G=M.G→match C.blk with
   |none=>zs=[]
   |some B=>∃vals e,H'[B]? =some (.cells vals e (0,0))∧zs.length*t.size≤vals.size∧∀i h,qH M'.H M'.G t zs[i] (fun j=>vals[i*t.size+j]?))
  (hA:match C.blk with
   |none=>A=none∧zs.length=0∧c=0
   |some B=>zs.length≤c∧∃a,A=some ⟨B,a,none⟩∧(c=0∨a=0)∧c*t.size≤yE M.H B)
  (hw:w'.heap=H'∧w'.os=w.os∧w'.tape=w.tape∧w'.output=w.output) (hr:s.run P w=.ok (.slice A zs.length c) w'):
  qM P s M w (.c (.osl nm none)) [(id,.gone),(nm,.arr true t zs)]:=
 (vL6 ok hM an hC aV dH hH cR hx hA hw).runs hr
theorem JX {n b}(h:(Nat.ble (n*b) 140737488355328&&Nat.ble n 140737488355328)=true):n*b≤140737488355328∧n≤140737488355328:=by
 simp_all
theorem V1 {H H' F F'}:∀t x rd,t.flat=true→qH H F t x rd→qH H' F' t x rd
 |.int k,n,rd,_,h
 |.bool,n,rd,_,h=>h
 |.pair a b,p,rd,hf,h=>by
  simp[Ty.flat] at hf;exact⟨V1 a _ _ hf.1 h.1,V1 b _ _ hf.2 h.2⟩
theorem vJ6 {M:zN}{sh s}{xs:List s.den}{v}(hs:(sh||s.flat)=true)(hv:qH M.H (bif sh then M.G else M.F) (.sl s) xs (fun _=>some v)):
  ∃news,jB M.H v xs.length s.size news∧∀i hi,qH M.H M.G s xs[i] (fun j=>news[i*s.size+j]?):=by
 obtain⟨news,h1,h2⟩:=VX hv;refine⟨news,h1,fun i hi=>?_⟩;cases sh with
 |true=>simp_all
 |false=>exact V1 _ _ _ hs (h2 i hi)
theorem yHz {M}(ok:Ok M){t x ys u v}(hv:qA M x v)(h:tQ M.h t x=some (ys,u)):
  u=[]∧∃news,jB M.H v ys.length t.size news∧∀i hi,qH M.H M.G t ys[i] (fun j=>news[i*t.size+j]?):=by
 unfold tQ at h;split at h
 ·cases h;have e:v=.slice none 0 0:=hv;subst e;exact⟨rfl,JV⟩
 ·rename_i sh s xs;cases hs:(sh||s.flat) with
  |false=>simp_all
  |true=>
   rw[hs] at h;simp  at h;obtain⟨zs,hz,rfl,rfl⟩:=h;obtain⟨e,hz⟩:=lF hz;subst e;subst hz;exact⟨rfl,vJ6 hs hv⟩
 ·rename_i sh s xs;cases hs:(sh||s.flat) with
  |false=>rw[hs] at h;cases h
  |true=>
   rw[hs] at h;simp  at h;obtain⟨zs,hz,rfl,rfl⟩:=h;obtain⟨e,hz⟩:=lF hz;subst e;subst hz;exact⟨rfl,vJ6 hs hv.2⟩
 ·split at h
  ·rename_i own s xs an;simp  at h;obtain⟨zs,hz,rfl,rfl⟩:=h;obtain⟨e,hz⟩:=lF hz;subst e;subst hz;obtain⟨C,hC,hO⟩:=ok.obj _ _ an;exact⟨rfl,Bq hC hO hv⟩
  ·cases h
 ·cases h
theorem V2 {P M w}(ok:Ok M)(hM:M.H=w.heap){nm t e T ty x ys news}(hu:P.underlying t=some (.slice e))(dK:kD P e=some ty)(aV:M.h nm=none)
  (hx:jB M.H x ys.length ty.size news) (hE:∀i hi,qH M.H M.G ty ys[i] (fun j=>news[i*ty.size+j]?)) (aZ:ys.length*P.bytesOf e≤140737488355328∧ys.length≤140737488355328):
  qM P (Builtin.append_ #[t,t] T #[.slice none 0 0,x]) M w (.c (.osl nm none)) [(nm,.arr true ty ys)]:=by
 obtain⟨i,z,h1,h2,h3,h4,h5,h6,h7⟩:=sr dK;by_cases h0:ys.length=0
 ·have hy:ys=[]:=by grind
  subst hy;have hr:=ss (P:=P) (w:=w) (A:=none) (sLen:=0) (sCap:=0) T hu h1 h3 (by rw[←hM];exact hx) (by simp) w rfl;let C:qE:=⟨none,0,ty.size,0,[]⟩;have:=zN.move_ok (M:=M) (nm:=nm) (o':=.arr true ty []) (C':=C) (h':=yP M.h nm (.arr true ty [])) (H':=M.H) ok (fun _=>False) aV (by simp) (yW _ _ _)
   (fun n' _ h2=>yZ _ _ h2) (by simp) (by simp) (by simp) (nofun) (fun x=>⟨rfl,rfl,by grind,rfl⟩)
  exact⟨_,_,M.move nm C (yP M.h nm (.arr true ty [])) M.H,hr,rfl,rfl,rfl,hM,rfl,this.1,this.2,C,κset_same _ _ _,_,_,rfl,rfl,rfl,rfl⟩
 ·have hb:jB w.heap (.slice none 0 0) 0 ty.size []:=⟨none,0,rfl,by simp,by simp,rfl⟩;have hr:=VY (P:=P) (w:=w) T hu h1 h2 h3 hb (by rw[←hM];exact hx) (by omega) (by simp_all) (by omega);simp  at hr;have hlen:news.length=ys.length*ty.size:=hx.choose_spec.choose_spec.2.1;have oU:=grownCap_ge w ys.length 0 e;refine vIk (u:=[]) ok hM aV (by simp) oU ?_ (fun i hi=>?_) hr ⟨rfl,rfl,rfl,rfl⟩
  ·simp[Er,h7,hlen,←Nat.add_mul];simp_all
  ·refine vF (by simp) (by simp) ty _ _ _ (fun j hj=>?_) (hE i hi);have:=Nat.mul_le_mul_right ty.size (show i+1≤ys.length by omega);grind
theorem V3 {P}{M w}(ok:Ok M)(hM:M.H=w.heap){id nm t e T ty x b iz ys r news}(hu:P.underlying t=some (.slice e))(dK:kD P e=some ty)
  (aV:M.h nm=none) (an:M.h id=some (.arr true ty iz)) (hb:qA M (.osl id r) b) (ub:match r with|none=>True|some (lo,_)=>lo=0)
  (hx:jB M.H x ys.length ty.size news) (hE:∀i hi,qH M.H M.G ty ys[i] (fun j=>news[i*ty.size+j]?))
  (aZ:((j9 iz r).length+ys.length)*P.bytesOf e≤140737488355328∧(j9 iz r).length+ys.length≤140737488355328):
  qM P (Builtin.append_ #[t,t] T #[b,x]) M w (.c (.osl nm none)) [(id,.gone),(nm,.arr true ty (j9 iz r++ys))]:=by
 obtain⟨i,z,h1,h2,h3,h4,h5,h6,h7⟩:=sr dK;obtain⟨C,hC,hO⟩:=ok.obj id _ an;obtain⟨olds,ho,hEo⟩:=Bq hC hO hb;have hlen:news.length=ys.length*ty.size:=hx.choose_spec.choose_spec.2.1;have ni:olds.length=(j9 iz r).length*ty.size:=ho.choose_spec.choose_spec.2.1;obtain⟨C',aF,hS⟩:=hb;rw[hC] at aF;cases aF;have oZ:∃n,(j9 iz r).length=n∧jJ M.H C 0 n b:=by
  cases r with
  |none=>exact⟨C.len,by rw[hO.1];rfl,hS⟩
  |some p=>
   obtain⟨lo,n⟩:=p;have:lo=0:=ub;subst this;exact⟨n,Eb (by have:=hO.1;have:=hS.1;omega),hS.2.1⟩
 obtain⟨n,hn,A,sCap,rfl,oZ⟩:=oZ;rw[hn] at ni ho aZ;have bn:=VZ (H:=M.H) (F:=M.G) (t:=ty) (xs:=j9 iz r) (ys:=ys) (olds:=olds) (news:=news) (by rw[hn];exact ni) hEo hE;have sv:(j9 iz r++ys).length=n+ys.length:=by rw[List.length_append,hn]
 by_cases cT:n+ys.length≤sCap
 ·
  cases hB:C.blk with
  |none=>
   rw[hB] at oZ;obtain⟨rfl,rfl,rfl⟩:=oZ;have hr:=ss (P:=P) (w:=w) (A:=none) (sLen:=0) (sCap:=0) T hu h1 h3 (by rw[←hM];exact hx) cT w rfl;rw[←sv] at hr;refine V0 (s:=Builtin.append_ #[t,t] T #[.slice none 0 0,x]) (H':=M.H) ok hM an hC aV rfl (fun _ _=>rfl) (fun _=>rfl) (fun M' _ _ _=>?_) ?_ ⟨hM.symm,rfl,rfl,rfl⟩ hr
   ·rw[hB];exact List.eq_nil_of_length_eq_zero (by omega)
   ·rw[hB];exact⟨rfl,by omega,rfl⟩
  |some B=>
   rw[hB] at oZ;obtain⟨hc,a,rfl,ha,hs⟩:=oZ;obtain⟨k1,k2,k3,k4⟩:=hO;rw[hB] at k4;obtain⟨vals,ev,k5,k6,k7,k8⟩:=k4;rw[Nat.zero_mul] at ha;rw[Nat.zero_add,k2] at hs;have cR:yE M.H B=vals.size:=by simp only[yE,k5]
   rw[cR] at hs;have kf:w.heap[B]? =some (.cells vals ev (0,0)):=by rw[←hM];exact k5
   by_cases h0:sCap=0
   ·
    have Es:n=0:=by omega
    have V4:ys.length=0:=by omega
    have hr := ss (P := P) (w := w) (A := some ⟨B, a, none⟩) (sLen := n) (sCap := sCap) T hu h1 h3 (by rw [← hM]; exact hx) cT w (by
     have:news=[]:=List.eq_nil_of_length_eq_zero (by rw[hlen,V4,Nat.zero_mul]);rw[this];rfl)
    rw[←sv] at hr;have Pd:j9 iz r++ys=[]:=List.eq_nil_of_length_eq_zero (by omega);refine V0 (s:=Builtin.append_ #[t,t] T #[.slice (some ⟨B,a,none⟩) n sCap,x]) (H':=M.H) ok hM an hC aV rfl (fun _ _=>rfl) (fun _=>rfl) (fun M' _ _ _=>?_) ?_ ⟨hM.symm,rfl,rfl,rfl⟩ hr
    ·rw[hB];refine⟨vals,ev,k5,by rw[Pd];simp,fun i hi=>?_⟩;rw[Pd] at hi;simp at hi
    ·rw[hB];exact⟨by omega,a,rfl,.inl h0,by rw[h0];simp⟩
   ·have nR:a=0:=by rcases ha with ha|ha<;>omega
    subst nR;have hle:=Nat.mul_le_mul_right ty.size cT;rw[Nat.add_mul] at hle;have aM:n*ty.size+news.length≤vals.size:=by omega
    have ka:=run_storeCells_at (P:=P) B (n*ty.size) ev news 0 vals w kf (by simpa using aM) (fun v hv=>Be (hx.choose_spec.choose_spec.2.2.1 v hv));simp only[Nat.add_zero] at ka;have hr:=ss (P:=P) (w:=w) (A:=some ⟨B,0,none⟩) (sLen:=n) (sCap:=sCap) T hu h1 h3 (by rw[←hM];exact hx) cT (w.setRow B (vB vals (n*ty.size) news)) (by show(storeCells (Addr.add ⟨B,0,none⟩ (n*ty.size)) news).run P w=_;rw[Addr.add_lit,Nat.zero_add];exact ka);rw[←sv] at hr;obtain⟨f1,f2,f3,f4⟩:=oW kf (new:=vB vals (n*ty.size) news) (gU aM);refine V0 (s:=Builtin.append_ #[t,t] T #[.slice (some ⟨B,0,none⟩) n sCap,x]) (H':=(w.setRow B (vB vals (n*ty.size) news)).heap) ok hM an hC aV (by rw[hM];exact f1)
     (fun b hb=>by rw[hM];exact f3 b fun e=>hb (e▸fS hB)) (fun b=>by rw[hM];exact f4 b) (fun M' xt hH hG=>?_) ?_ ⟨rfl,rfl,rfl,rfl⟩ hr
    ·rw[hB];refine⟨_,ev,f2,by rw[sv,gU aM,Nat.add_mul];omega,fun i hi=>?_⟩;refine vF xt.G xt.sameG ty _ _ _ (fun j hj=>?_) (bn i hi);have aU:=Nat.mul_le_mul_right ty.size (show i+1≤n+ys.length by omega);rw[Nat.add_mul,Nat.add_mul] at aU;rw[dZ aM];by_cases aS:i*ty.size+j<n*ty.size
     ·rw[if_pos aS,List.getElem?_append_left (by omega)];obtain⟨A',c',e1,_,_,hold⟩:=ho;simp only[Value.slice.injEq] at e1;obtain⟨rfl,_,rfl⟩:=e1;rcases hold with Es|⟨_,hold⟩
      ·rw[Es] at aS;omega
      ·have sw:i*ty.size+j<olds.length:=by omega
       have:=hold (i*ty.size+j) olds[i*ty.size+j] (List.getElem?_eq_getElem sw);rw[List.getElem?_eq_getElem sw,←this];simp only[yY,k5,Nat.zero_add]
     ·rw[if_neg aS,if_pos (by omega),List.getElem?_append_right (by omega),ni]
    ·rw[hB];exact by grind
 ·
  have hr:=VY (P:=P) (w:=w) T hu h1 h2 h3 (by rw[←hM];exact ho) (by rw[←hM];exact hx) (by omega) (by rw[h6] at aZ;exact aZ.1) aZ.2;have oU:=grownCap_ge w (n+ys.length) sCap e;rw[←sv] at hr oU;refine vIk (s:=Builtin.append_ #[t,t] T #[.slice A n sCap,x]) (u:=[(id,.gone)]) ok hM aV (fun p hp=>?_) oU ?_ (fun i hi=>?_) hr ⟨rfl,rfl,rfl,rfl⟩
  ·simp only[List.mem_singleton] at hp;subst hp;exact⟨rfl,_,an,rfl⟩
  ·simp only[Array.size_append,List.size_toArray,Er,h7,hlen,ni,←Nat.add_mul];exact Nat.le_of_eq (by congr 1;omega)
  ·refine vF (fun _ h=>h) (fun _ _=>rfl) ty _ _ _ (fun j hj=>?_) (bn i hi);have:=Nat.mul_le_mul_right ty.size (show i+1≤n+ys.length by omega);rw[Nat.add_mul,Nat.add_mul] at this;rw[Array.getElem?_append_left (by simp;omega)];simp
def Et (H:Array Go.Obj)(row:List Int)(m:Option (Option Nat×Nat))(c:Option Value):Prop:=∃rb v,m=some (rb,row.length)∧c=some v∧mX H rb row.length v∧
 (∀R,rb=some R→∃rv er,H[R]? =some (.cells rv er (0,0))∧∀j (h':j<row.length),rv[j]? =some (.int .i64 row[j]))
theorem vEk {M ver xs C}(h:vC M (.mat ver xs) C):C.len=xs.length∧C.sz=1∧C.rows.length=xs.length∧C.fp.Nodup∧
  ∃cL:List Value,cL.length=xs.length∧(∀k (h:k<xs.length),Et M.H xs[k] C.rows[k]? cL[k]?)∧
   (match C.blk with
    |none=>xs=[]
    |some B=>∃vals e,M.H[B]? =some (.cells vals e (0,0))∧xs.length≤vals.size∧∀k,k<xs.length→vals[k]? =cL[k]?):=by
 obtain⟨h1,h2,h3,h4,h5,h6⟩:=h;refine⟨h2,h3,h4,h5,?_⟩;cases hB:C.blk with
 |none=>
  simp_all
 |some B=>
  rw[hB] at h6;obtain⟨vals,e,h7,h8,h9⟩:=h6;refine⟨vals.toList.take xs.length,by simp;omega,fun k hk=>?_,vals,e,h7,h8,by grind⟩;obtain⟨rb,v,k1,k2,k3,k4⟩:=h9 k hk;exact⟨rb,v,k1,by grind,k3,k4⟩
theorem Et.one {H row m v}(h:Et H row m (some v)):v.one1=true:=by
 obtain⟨rb,v',_,e,h,_⟩:=h;cases e;exact h.one
theorem vMd {M}{xs:List (List Int)}{C id v}(hC:M.κ id=some C)(hv:qA M (.osl id none) v){cL}(hl:cL.length=xs.length)(hlen:C.len=xs.length)(dH:C.sz=1)
  (bS : ∀ u ∈ cL, u.one1 = true) (hb:match C.blk with
    |none=>xs=[]
    |some B=>∃vals e,M.H[B]? =some (.cells vals e (0,0))∧xs.length≤vals.size∧∀k,k<xs.length→vals[k]? =cL[k]?):jB M.H v xs.length 1 cL:=by
 obtain⟨C',aF,A,c,rfl,hS⟩:=hv;rw[hC] at aF;cases aF;rw[hlen];refine⟨A,c,rfl,by omega,bS,?_⟩;cases hB:C.blk with
 |none=>
  simp_all
 |some B=>
  rw[hB] at hS hb;obtain⟨hc,a,rfl,ha,_⟩:=hS;obtain⟨vals,e,h1,h2,h3⟩:=hb;by_cases h0:xs.length=0
  ·omega
  ·refine .inr ⟨rfl,fun j u hu=>?_⟩;have nR:a=0:=by omega
   have hj:j<xs.length:=by
    grind
   simp[yY];simp_all
theorem yQz {C D:qE}(hC:C.fp.Nodup)(hD:D.fp.Nodup)(ee:∀b,b∈C.fp→b∉D.fp):((C.rows++D.rows).filterMap (·.1)).Nodup:=by
 rw[List.filterMap_append];refine List.nodup_append.2 ⟨(List.nodup_append.1 hC).2.1,(List.nodup_append.1 hD).2.1,fun a ha b hb e=>?_⟩;exact ee a (by simp[qE.fp];simp_all) (by simp[qE.fp];simp_all)
theorem Pg {P M w w'}(ok:Ok M)(hM:M.H=w.heap){id jd nm v1 v2 xs ys C Cj C' s A c H'}
  (an:M.h id=some (.mat v1 xs)) (dh:M.h jd=some (.mat v2 ys)) (bx:id≠jd) (hC:M.κ id=some C) (eM:M.κ jd=some Cj) (aV:M.h nm=none) (dH:M.H.size≤H'.size)
  (hH:∀b,b<M.H.size→C.blk≠some b→H'[b]? =M.H[b]?) (cR:∀b,b<M.H.size→yE H' b=yE M.H b)
  (hl:C'.len=(xs++ys).length) (Eu:C'.sz=1) (Br:C'.ver=0) (nj:C'.rows=C.rows++Cj.rows) (V5:∀B,C'.blk=some B→(M.H.size≤B∧B<H'.size)∨C.blk=some B)
  (hx:match C'.blk with
   |none=>xs++ys=[]
   |some B=>∃vals e,H'[B]? =some (.cells vals e (0,0))∧(xs++ys).length≤vals.size∧∀k (h:k<(xs++ys).length),Et M.H (xs++ys)[k] (C.rows++Cj.rows)[k]? vals[k]?)
  (hA:jJ H' C' 0 C'.len (.slice A (xs++ys).length c))
  (hw:w'.heap=H'∧w'.os=w.os∧w'.tape=w.tape∧w'.output=w.output) (hr:s.run P w=.ok (.slice A (xs++ys).length c) w'):
  qM P s M w (.c (.osl nm none)) [(id,.gone),(jd,.gone),(nm,.mat 0 (xs++ys))]:=by
 obtain⟨C0,su,hO⟩:=ok.obj id _ an;rw[hC] at su;cases su;obtain⟨C1,iW,nS⟩:=ok.obj jd _ dh;rw[eM] at iW;cases iW;have V6:=hO.2.2.2.2.1;have ndD:=nS.2.2.2.2.1;have ee:∀b,b∈C.fp→b∉Cj.fp:=fun b h1 h2=>ok.disj id jd _ _ C Cj b bx an dh rfl rfl hC eM h1 h2
 have Ph:id≠nm:=by grind
 have hnj:jd≠nm:=by grind
 have hh:∀n',(qL M.h [(id,.gone),(jd,.gone),(nm,.mat 0 (xs++ys))]) n'=if n'=nm then some (.mat 0 (xs++ys)) else if n'=jd then some .gone else if n'=id then some .gone else M.h n':=fun n'=>by
  show(yP (yP (yP M.h id .gone) jd .gone) nm _) n'=_;by_cases e:n'=nm
  ·rw[if_pos e,e,yW]
  ·rw[if_neg e,yZ _ _ e];by_cases e2:n'=jd
   ·rw[if_pos e2,e2,yW]
   ·rw[if_neg e2,yZ _ _ e2];by_cases e3:n'=id
    ·rw[if_pos e3,e3,yW]
    ·rw[if_neg e3,yZ _ _ e3]
 have JY:∀b∈C.fp,b<M.H.size:=fun b hb=>(ok.own b ⟨id,_,C,an,rfl,hC,hb⟩).2
 have JZ:∀b∈Cj.fp,b<M.H.size:=fun b hb=>(ok.own b ⟨jd,_,Cj,dh,rfl,eM,hb⟩).2
 have dp:∀R∈(C.rows++Cj.rows).filterMap (·.1),R∈C.fp∧C.blk≠some R∨R∈Cj.fp:=fun R hR=>by
  rw[List.filterMap_append] at hR;rcases List.mem_append.1 hR with h|h
  ·refine .inl ⟨by simp only[qE.fp,List.mem_append];exact .inr h,fun e=>?_⟩;exact(List.nodup_append.1 V6).2.2 R (by simp[e]) R h rfl
  ·exact .inr (by simp only[qE.fp,List.mem_append];exact .inr h)
 have J0:∀R∈(C.rows++Cj.rows).filterMap (·.1),R<M.H.size∧C.blk≠some R:=fun R hR=>by
  rcases dp R hR with⟨h1,h2⟩|h
  ·exact⟨JY R h1,h2⟩
  ·exact⟨JZ R h,fun e=>ee R (fS e) h⟩
 have nd':C'.fp.Nodup:=by
  simp only[qE.fp,nj];cases hB:C'.blk with
  |none=>simpa using yQz V6 ndD ee
  |some B=>
   simp only[Option.toList_some,List.singleton_append];refine List.nodup_cons.2 ⟨fun hm=>?_,yQz V6 ndD ee⟩;grind
 have:=zN.move_ok (M:=M) (nm:=nm) (o':=.mat 0 (xs++ys)) (C':=C') (h':=qL M.h [(id,.gone),(jd,.gone),(nm,.mat 0 (xs++ys))]) (H':=H') ok (fun j=>j=id∨j=jd) aV
  (fun j hj=>by
   rcases hj with rfl|rfl
   ·exact⟨_,an,rfl,by rw[hh,if_neg Ph,if_neg bx,if_pos rfl]⟩
   ·exact⟨_,dh,rfl,by rw[hh,if_neg hnj,if_pos rfl]⟩)
  (by rw[hh,if_pos rfl]) (fun n' h1 h2=>by rw[hh,if_neg h2,if_neg (fun e=>h1 (.inr e)),if_neg (fun e=>h1 (.inl e))]) dH
  (fun b hb hn=>hH b hb fun e=>hn id C (.inl rfl) hC (fS e)) cR
  (fun b hb=>by
   simp only[qE.fp,nj,List.mem_append] at hb;rcases hb with hb|hb
   ·cases hB:C'.blk with
    |none=>rw[hB] at hb;simp at hb
    |some B=>
     rw[hB] at hb;simp at hb;subst hb;rcases V5 b hB with h|h
     ·exact .inl h
     ·exact .inr ⟨id,C,.inl rfl,hC,fS h⟩
   simp_all)
  (fun x=>by
   refine⟨Br,hl,Eu,?_,nd',?_⟩
   ·rw[nj,List.length_append,hO.2.2.2.1,nS.2.2.2.1,List.length_append]
   ·cases hB:C'.blk with
    |none=>rw[hB] at hx;exact hx
    |some B=>
     rw[hB] at hx;obtain⟨vals,e,k1,k2,k3⟩:=hx;refine⟨vals,e,k1,k2,fun k hk=>?_⟩;obtain⟨rb,v,q1,q2,q3,q4⟩:=k3 k hk;refine⟨rb,v,by rw[nj];exact q1,q2,q3.ext x,fun R hR=>?_⟩;obtain⟨rv,er,q5,q6⟩:=q4 R hR;have hRm:=J0 R (List.mem_filterMap.2 ⟨_,List.mem_of_getElem? q1,hR⟩);exact⟨rv,er,by show H'[R]? =_;rw[hH R hRm.1 hRm.2];exact q5,q6⟩)
 exact⟨_,_,M.move nm C' (qL M.h [(id,.gone),(jd,.gone),(nm,.mat 0 (xs++ys))]) H',hr,hw.2.1,hw.2.2.1,hw.2.2.2,hw.1.symm,rfl,this.1,this.2,C',κset_same _ _ _,by rw[hl] at hA⊢;exact hA⟩
theorem V7 {H}{xs:List (List Int)}{rc:List (Option Nat×Nat)}{cL:List Value}(hl:cL.length=xs.length)(h:∀k (h:k<xs.length),Et H xs[k] rc[k]? cL[k]?):∀u∈cL,u.one1=true:=by
 intro u hu;obtain⟨k,hk,rfl⟩:=List.getElem_of_mem hu;have:=h k (by omega);rw[List.getElem?_eq_getElem hk] at this;exact this.one
theorem V8 {P M w}(ok:Ok M)(hM:M.H=w.heap){id jd nm v1 v2 t e T x b xs ys}(hu:P.underlying t=some (.slice e))(dK:kD P e=some (.sl (.int .i64)))
  (aV:M.h nm=none) (an:M.h id=some (.mat v1 xs)) (dh:M.h jd=some (.mat v2 ys)) (bx:id≠jd) (hb:qA M (.osl id none) b) (hx:qA M (.osl jd none) x)
  (aZ:(xs.length+ys.length)*P.bytesOf e≤140737488355328∧xs.length+ys.length≤140737488355328):
  qM P (Builtin.append_ #[t,t] T #[b,x]) M w (.c (.osl nm none)) [(id,.gone),(jd,.gone),(nm,.mat 0 (xs++ys))]:=by
 obtain⟨i,z,h1,h2,h3,h4,h5,h6,h7⟩:=sr dK;obtain⟨C,hC,hO⟩:=ok.obj id _ an;obtain⟨Cj,eM,nS⟩:=ok.obj jd _ dh;obtain⟨a1,a2,a3,a4,olds,a5,a6,a7⟩:=vEk hO;obtain⟨b1,b2,b3,b4,news,b5,b6,b7⟩:=vEk nS;have ho:=vMd hC hb a5 a1 a2 (V7 a5 a6) a7;have hn:=vMd eM hx b5 b1 b2 (V7 b5 b6) b7;have sv:(xs++ys).length=xs.length+ys.length:=List.length_append;have bS:=V7 b5 b6;have bn:∀k (h:k<(xs++ys).length),Et M.H (xs++ys)[k] (C.rows++Cj.rows)[k]? (olds++news)[k]? :=by
  intro k hk;by_cases aS:k<xs.length
  ·rw[List.getElem_append_left aS,List.getElem?_append_left (by omega),List.getElem?_append_left (by omega)];exact a6 k aS
  ·rw[List.getElem_append_right (by omega),List.getElem?_append_right (by omega),List.getElem?_append_right (by omega),a3,a5];exact b6 _ (by omega)
 obtain⟨C',aF,A,sCap,rfl,oZ⟩:=hb;rw[hC] at aF;cases aF;rw[a1] at ho oZ;have ud:i.size=1:=h3;have VK:z.cells.size=1:=h7;by_cases cT:xs.length+ys.length≤sCap
 ·cases hB:C.blk with
  |none=>
   rw[hB] at oZ;obtain⟨rfl,h0,rfl⟩:=oZ;have hr:=ss (P:=P) (w:=w) (A:=none) (sLen:=xs.length) (sCap:=0) T hu h1 ud (by rw[←hM];exact hn) cT w rfl;rw[←sv] at hr;have cO:xs++ys=[]:=List.eq_nil_of_length_eq_zero (by omega);rw[a1];refine Pg (C':=⟨none,(xs++ys).length,1,0,C.rows++Cj.rows⟩) (H':=M.H) ok hM an dh bx hC eM aV (Nat.le_refl _) (fun _ _ _=>rfl) (fun _ _=>rfl) rfl rfl rfl rfl (fun B hB=>by cases hB) cO ⟨none,0,rfl,rfl,(by show(xs++ys).length=0;omega),rfl⟩ ⟨hM.symm,rfl,rfl,rfl⟩ hr
  |some B=>
   rw[hB] at oZ a7;obtain⟨hc,a,rfl,ha,hs⟩:=oZ;obtain⟨vals,ev,k5,k6,k7⟩:=a7;rw[Nat.zero_mul] at ha;rw[Nat.zero_add,a2,Nat.mul_one] at hs;have cR:yE M.H B=vals.size:=by simp only[yE,k5]
   rw[cR] at hs;have kf:w.heap[B]? =some (.cells vals ev (0,0)):=by rw[←hM];exact k5
   by_cases h0:sCap=0
   ·have hr := ss (P := P) (w := w) (A := some ⟨B, a, none⟩) (sLen := xs.length) (sCap := sCap) T hu h1 ud (by rw [← hM]; exact hn) cT w (by
     have:news=[]:=List.eq_nil_of_length_eq_zero (by omega);rw[this];rfl)
    rw[←sv] at hr;have cO:xs++ys=[]:=List.eq_nil_of_length_eq_zero (by omega);rw[a1];refine Pg (C':=⟨some B,(xs++ys).length,1,0,C.rows++Cj.rows⟩) (H':=M.H) ok hM an dh bx hC eM aV (Nat.le_refl _) (fun _ _ _=>rfl) (fun _ _=>rfl) rfl rfl rfl rfl (fun B' fx=>.inr (by cases fx;exact hB))
     ⟨vals,ev,k5,by rw[cO];simp,fun k hk=>by rw[cO] at hk;simp at hk⟩ ⟨_,sCap,rfl,(by show(xs++ys).length≤sCap;omega),a,rfl,.inl h0,by rw[h0];simp⟩ ⟨hM.symm,rfl,rfl,rfl⟩ hr
   ·have nR:a=0:=by rcases ha with ha|ha<;>omega
    subst nR;have aM:xs.length+news.length≤vals.size:=by omega
    have ka:=run_storeCells_at (P:=P) B xs.length ev news 0 vals w kf (by simpa using aM) (fun v hv=>Be (bS v hv));simp only[Nat.add_zero] at ka;have hr:=ss (P:=P) (w:=w) (A:=some ⟨B,0,none⟩) (sLen:=xs.length) (sCap:=sCap) T hu h1 ud (by rw[←hM];exact hn) cT (w.setRow B (vB vals xs.length news))
     (by show(storeCells (Addr.add ⟨B,0,none⟩ (xs.length*1)) news).run P w=_;rw[Addr.add_lit,Nat.zero_add,Nat.mul_one];exact ka)
    rw[←sv] at hr;obtain⟨f1,f2,f3,f4⟩:=oW kf (new:=vB vals xs.length news) (gU aM);rw[a1];refine Pg (C':=⟨some B,(xs++ys).length,1,0,C.rows++Cj.rows⟩) (H':=(w.setRow B (vB vals xs.length news)).heap) ok hM an dh bx hC eM aV (by rw[hM,f1];exact Nat.le_refl _) (fun b hb hn=>by rw[hM];exact f3 b fun e=>hn (e▸hB))
     (fun b _=>by rw[hM];exact f4 b) rfl rfl rfl rfl (fun B' fx=>.inr (by cases fx;exact hB)) ⟨_,ev,f2,by rw[gU aM];omega,fun k hk=>?_⟩ ⟨_,sCap,rfl,(by show(xs++ys).length≤sCap;omega),0,rfl,.inr (by simp),by show(0+sCap)*1≤yE _ B;rw[f4,←hM,cR];omega⟩ ⟨rfl,rfl,rfl,rfl⟩ hr
    have:=bn k hk;rw[dZ aM];by_cases aS:k<xs.length
    ·rw[if_pos aS,k7 k aS];rw[List.getElem?_append_left (l₁:=olds) (by omega)] at this;exact this
    ·rw[if_neg aS,if_pos (by omega)];rw[List.getElem?_append_right (l₁:=olds) (by omega),a5] at this;exact this
 ·have hr:=VY (P:=P) (w:=w) T hu h1 h2 ud (by rw[←hM];exact ho) (by rw[←hM];exact hn) (by omega) (by rw[h6] at aZ;exact aZ.1) aZ.2;have oU:=grownCap_ge w (xs.length+ys.length) sCap e;rw[←sv] at hr oU;generalize oV:olds.toArray++news.toArray++Builtin.zeroCells z.cells (grownCap w (xs++ys).length sCap e-(xs++ys).length)=us at hr;have Wa:us.size=grownCap w (xs++ys).length sCap e:=by
   rw[←oV];simp only[Array.size_append,List.size_toArray,Er,VK];omega
  have Wb:∀k,k<(xs++ys).length→us[k]? =(olds++news)[k]? :=fun k hk=>by
   rw[←oV,Array.getElem?_append_left (by simp;omega)];simp
  have hbz:∀us:Array Value,yE (M.H.push (.cells us e)) M.H.size=us.size:=fun us=>by simp[yE]
  rw[a1];refine Pg (C':=⟨some M.H.size,(xs++ys).length,1,0,C.rows++Cj.rows⟩) (H':=M.H.push (.cells us e)) (w':=w.drew.alloc (.cells us e)) ok hM an dh bx hC eM aV (by simp) (fun b hb _=>pQ hb) (fun b hb=>D6 (pQ hb)) rfl rfl rfl rfl
   (fun B' fx=>.inl (by cases fx;exact⟨Nat.le_refl _,by simp⟩)) ⟨us,e,Bd,by omega,fun k hk=>?_⟩ ⟨_,_,rfl,oU,0,by rw[hM],.inr (by simp),(by rw[hbz,Wa];show(0+_)*1≤_;omega)⟩ ⟨(by rw[hM];rfl),rfl,rfl,rfl⟩ hr
  rw[Wb k hk];exact bn k hk
theorem Bt {c s v u}(h:yQ (bif c then s else .stuck) v u):c=true∧yQ s v u:=by
 cases c with
 |true=>simp_all
 |false=>exact h.elim
theorem vCf {c a b v u}(h:yQ (bif c then a else b) v u):(c=true∧yQ a v u)∨(c=false∧yQ b v u):=by
 grind
theorem yQ2 {z:Value}{t}(h:z.cells.toList=iw t)(hs:z.cells.size=t.size){n i j}(hj:j<t.size)(hi:i<n):(Builtin.zeroCells z.cells n).toList[i*t.size+j]? =(iw t)[j]? :=by
 have aU:=Nat.mul_le_mul_right t.size (show i+1≤n by omega);rw[List.getElem?_eq_getElem (l:=iw t) (by grind),←yZe h hs (i:=i) hj];simp[Builtin.zeroCells];grind
theorem vU1 {z:Value}{t}(h:z.cells.toList=iw t)(hs:z.cells.size=t.size){n}:∀v∈(Builtin.zeroCells z.cells n).toList,v.one1=true:=by
 intro v hv;have hz:∀u∈iw t,u.one1=true:=by
  clear h hs hv
  induction t with
  |pair a b El Em=>
   intro u hu;rcases List.mem_append.1 hu with hu|hu
   all_goals simp_all
  |_=>
   intro u hu;rw[List.mem_singleton.1 hu];rfl
 obtain⟨k,hk,rfl⟩:=List.getElem_of_mem hv;have pT:k<n*t.size:=by rw[Array.length_toList,Er,hs] at hk;exact hk
 have h0:=t.size_pos;have := yQ2 h hs (n := n) (i := k / t.size) (j := k % t.size) (Nat.mod_lt _ h0) (by
  rw[Nat.div_lt_iff_lt_mul h0];omega)
 rw[Nat.div_add_mod' k t.size,List.getElem?_eq_getElem hk,List.getElem?_eq_getElem (by grind),Option.some.injEq] at this;simp_all
theorem Wc {P}{M:zN}{w:World}(ok:Ok M)(hM:M.H=w.heap){id nm n':Nat}{t:Ty}{iz zs}{C:qE}{H'}{s:Sem Value}{c:Nat}{A:Option Addr}{w':World}
  (an:M.h id=some (.arr true t iz)) (hC:M.κ id=some C) (aV:M.h nm=none) (dH:H'.size=M.H.size) (hH:∀b,b∉C.fp→H'[b]? =M.H[b]?) (cR:∀b,yE H' b=yE M.H b)
  (hx:∀M',yV M M'→M'.H=H'→M'.G=M.G→match C.blk with
   |none=>zs=[]
   |some B=>∃vals e,H'[B]? =some (.cells vals e (0,0))∧zs.length*t.size≤vals.size∧∀i (h:i<zs.length),qH M'.H M'.G t zs[i] (fun j=>vals[i*t.size+j]?))
  (hn : n' ≤ zs.length) (hc : zs.length ≤ c) (hA:match C.blk with
   |none=>A=none∧n'=0∧c=0
   |some B=>∃a,A=some ⟨B,a,none⟩∧(c=0∨a=0)∧c*t.size≤yE M.H B)
  (hw:w'.heap=H'∧w'.os=w.os∧w'.tape=w.tape∧w'.output=w.output) (hr:s.run P w=.ok (.slice A n' c) w'):
  qM P s M w (.c (.osl nm (some (0,n')))) [(id,.gone),(nm,.arr true t zs)]:=by
 obtain⟨C0,su,hO⟩:=ok.obj id _ an;rw[hC] at su;cases su;obtain⟨fr,ff⟩:=JI hO;have bx:id≠nm:=fun e=>by simp_all
 let C':qE:=⟨C.blk,zs.length,t.size,0,[]⟩;have hh:∀n',(qL M.h [(id,.gone),(nm,.arr true t zs)]) n'=if n'=nm then some (.arr true t zs) else if n'=id then some .gone else M.h n':=fun n'=>by
  show(yP (yP M.h id .gone) nm _) n'=_;by_cases e:n'=nm
  ·rw[if_pos e,e,yW]
  ·rw[if_neg e,yZ _ _ e];by_cases e2:n'=id
   ·rw[if_pos e2,e2,yW]
   ·rw[if_neg e2,yZ _ _ e2]
 have:=zN.move_ok (M:=M) (nm:=nm) (o':=.arr true t zs) (C':=C') (h':=qL M.h [(id,.gone),(nm,.arr true t zs)]) (H':=H') ok (fun j=>j=id) aV
  (fun j hj=>⟨.arr true t iz,by rw[hj];exact an,rfl,by simp_all⟩)
  (by rw[hh,if_pos rfl]) (by grind) (by omega) (fun b hb hn=>hH b (hn id C rfl hC)) (fun b _=>cR b)
  (fun b hb=>.inr ⟨id,C,rfl,hC,by
   simp only[C',qE.fp,List.filterMap_nil,List.append_nil] at hb;rw[ff];exact hb⟩)
  (fun x=>by
   refine⟨rfl,rfl,fun _=>rfl,?_⟩;have:=hx _ x rfl rfl;cases hB:C.blk with
   |none=>simp_all
   |some B=>
    rw[hB] at this;obtain⟨vals,e,h1,h2,h3⟩:=this;exact⟨vals,e,h1,by simp,h2,h3⟩)
 refine⟨_,_,_,hr,hw.2.1,hw.2.2.1,hw.2.2.2,by rw[hw.1];rfl,rfl,this.1,this.2,C',κset_same _ _ _,by grind,⟨_,c,rfl,?_⟩,_,_,_,rfl,by grind⟩;show match C.blk with
  |none=>_
  |some B=>_
 cases hB:C.blk with
 |none=>rw[hB] at hA;exact hA
 |some B=>
  rw[hB] at hA;obtain⟨a,h2,h3,h4⟩:=hA;refine⟨by omega,a,h2,by simpa using h3,?_⟩;show(0+c)*t.size≤yE H' B;simp_all
theorem Wd {P}{M w}(ok:Ok M)(hM:M.H=w.heap){id nm i j m t e T ty x b xs}(hu:P.underlying t=some (.slice e))(dK:kD P e=some ty)
  (aV:M.h nm=none) (an:M.h id=some (.arr true ty xs)) (hb:qA M (.osl id (some (0,i))) b) (hx:qA M (.osl id (some (j,m))) x) (mZ:i≤j):
  qM P (Builtin.append_ #[t,t] T #[b,x]) M w (.c (.osl nm (some (0,i+m)))) [(id,.gone),(nm,.arr true ty (xs.take i++qS xs j m++xs.drop (i+m)))]:=by
 obtain⟨inf,z,h1,h2,h3,h4,h5,h6,h7⟩:=sr dK;obtain⟨C,hC,hO⟩:=ok.obj id _ an;obtain⟨news,hR,hE⟩:=Bq hC hO hx;obtain⟨C1,iW,du,_⟩:=hx;rw[hC] at iW;cases iW;obtain⟨C1,iW,kb,⟨A,c,rfl,hS⟩,iV⟩:=hb;rw[hC] at iW;cases iW;obtain⟨_,_,_,iV,JQ⟩:=iV;cases iV;have hlen:=hO.1;have o6:(j9 xs (some (j,m))).length=m:=Eb (by omega);rw[o6] at hR;have Pj:news.length=m*ty.size:=hR.choose_spec.choose_spec.2.1;have ue:(qS xs j m).length=m:=o6;have uf:(xs.take i).length=i:=by rw[List.length_take];omega
 have J1:(xs.take i++qS xs j m++xs.drop (i+m)).length=xs.length:=by
  rw[List.length_append,List.length_append,ue,uf,List.length_drop];omega
 have aZ:i+m≤c:=by omega
 cases hB:C.blk with
 |none=>
  rw[hB] at hS;obtain⟨rfl,rfl,rfl⟩:=hS;have hr:=ss (P:=P) (w:=w) (A:=none) (sLen:=0) (sCap:=0) T hu h1 h3 (by rw[←hM];exact hR) aZ w rfl;refine Wc (s:=Builtin.append_ #[t,t] T #[.slice none 0 0,x]) (H':=M.H) ok hM an hC aV rfl (fun _ _=>rfl) (fun _=>rfl) (fun M' _ _ _=>?_) (by omega) (by omega) ?_ ⟨hM.symm,rfl,rfl,rfl⟩ hr
  ·rw[hB];exact List.eq_nil_of_length_eq_zero (by omega)
  ·rw[hB];exact⟨rfl,by omega,rfl⟩
 |some B=>
  rw[hB] at hS;obtain⟨hc,a,rfl,ha,hs⟩:=hS;obtain⟨k1,k2,k3,k4⟩:=hO;rw[hB] at k4;obtain⟨vals,ev,k5,k6,k7,k8⟩:=k4;rw[Nat.zero_mul] at ha;rw[Nat.zero_add,k2] at hs;have cR:yE M.H B=vals.size:=by simp only[yE,k5]
  have kf:w.heap[B]? =some (.cells vals ev (0,0)):=by rw[←hM];exact k5
  by_cases h0:c=0
  ·have hm0:m=0:=by omega
   have hr := ss (P := P) (w := w) (A := some ⟨B, a, none⟩) (sLen := i) (sCap := c) T hu h1 h3 (by rw [← hM]; exact hR) aZ w (by
    have:news=[]:=List.eq_nil_of_length_eq_zero (by rw[Pj,hm0,Nat.zero_mul]);rw[this];rfl)
   refine Wc (s:=Builtin.append_ #[t,t] T #[.slice (some ⟨B,a,none⟩) i c,x]) (H':=M.H) ok hM an hC aV rfl (fun _ _=>rfl) (fun _=>rfl) (fun M' _ _ _=>?_) (by omega) (by omega) ?_ ⟨hM.symm,rfl,rfl,rfl⟩ hr
   ·rw[hB];refine⟨vals,ev,k5,by rw[J1];exact k7,fun p hp=>?_⟩;rw[J1] at hp;omega
   ·rw[hB];exact⟨a,rfl,.inl h0,by rw[h0];simp⟩
  ·have nR:a=0:=by rcases ha with ha|ha<;>omega
   subst nR;have hle:=Nat.mul_le_mul_right ty.size (show i+m≤xs.length by omega);rw[Nat.add_mul] at hle;have aM:i*ty.size+news.length≤vals.size:=by omega
   have ka:=run_storeCells_at (P:=P) B (i*ty.size) ev news 0 vals w kf (by simpa using aM) (fun v hv=>Be (hR.choose_spec.choose_spec.2.2.1 v hv));simp only[Nat.add_zero] at ka;have hr:=ss (P:=P) (w:=w) (A:=some ⟨B,0,none⟩) (sLen:=i) (sCap:=c) T hu h1 h3 (by rw[←hM];exact hR) aZ (w.setRow B (vB vals (i*ty.size) news)) (by show(storeCells (Addr.add ⟨B,0,none⟩ (i*ty.size)) news).run P w=_;rw[Addr.add_lit,Nat.zero_add];exact ka);obtain⟨f1,f2,f3,f4⟩:=oW kf (new:=vB vals (i*ty.size) news) (gU aM);refine Wc (s:=Builtin.append_ #[t,t] T #[.slice (some ⟨B,0,none⟩) i c,x]) (H':=(w.setRow B (vB vals (i*ty.size) news)).heap) ok hM an hC aV (by rw[hM];exact f1)
    (fun b hb=>by rw[hM];exact f3 b fun e=>hb (e▸fS hB)) (fun b=>by rw[hM];exact f4 b) (fun M' xt hH hG=>?_) (by omega) (by omega) ?_ ⟨rfl,rfl,rfl,rfl⟩ hr
   ·rw[hB];refine⟨_,ev,f2,by rw[J1,gU aM];exact k7,fun p hp=>?_⟩;rw[J1] at hp;have aU:=Nat.mul_le_mul_right ty.size (show p+1≤xs.length by omega);rw[Nat.add_mul] at aU;have Bu:(xs.take i++qS xs j m++xs.drop (i+m))[p]? =xs[p]? →(∀q,q<ty.size→(vB vals (i*ty.size) news)[p*ty.size+q]? =vals[p*ty.size+q]?)→qH M'.H M'.G ty ((xs.take i++qS xs j m++xs.drop (i+m))[p]'(by omega)) (fun q=>(vB vals (i*ty.size) news)[p*ty.size+q]?):=fun e1 e2=>by
     have e3:(xs.take i++qS xs j m++xs.drop (i+m))[p]'(by omega)=xs[p]:=by
      rw[List.getElem?_eq_getElem (by omega),List.getElem?_eq_getElem hp,Option.some.injEq] at e1;exact e1
     rw[e3];exact vF xt.G xt.sameG ty _ _ _ e2 (k8 p hp)
    by_cases Pk:p<i
    ·refine Bu ?_ fun q hq=>?_
     ·rw[List.append_assoc,List.getElem?_append_left (by omega),List.getElem?_take,if_pos Pk]
     ·have:=Nat.mul_le_mul_right ty.size (show p+1≤i by omega);rw[Nat.add_mul] at this;rw[dZ aM,if_pos (by omega)]
    ·by_cases J2:p<i+m
     ·have e3:(xs.take i++qS xs j m++xs.drop (i+m))[p]'(by omega)=(j9 xs (some (j,m)))[p-i]'(by omega):=by
       rw[List.getElem_append_left (by rw[List.length_append,uf,ue];exact J2),List.getElem_append_right (by omega)];simp only[uf];rfl
      rw[e3];refine vF xt.G xt.sameG ty _ _ _ (fun q hq=>?_) (hE (p-i) (by omega));have q1:=Nat.mul_le_mul_right ty.size (show i≤p by omega);have q2:=Nat.mul_le_mul_right ty.size (show p-i+1≤m by omega);rw[Nat.add_mul] at q2;have q3:(p-i)*ty.size=p*ty.size-i*ty.size:=Nat.sub_mul ..
      rw[dZ aM,if_neg (by omega),if_pos (by omega)]
      congr 1;omega
     ·refine Bu ?_ fun q hq=>?_
      ·rw[List.getElem?_append_right (by rw[List.length_append,uf,ue];omega),List.getElem?_drop]
       congr 1
       rw[List.length_append,uf,ue];omega
      ·have:=Nat.mul_le_mul_right ty.size (show i+m≤p by omega);rw[Nat.add_mul] at this;rw[dZ aM,if_neg (by omega),if_neg (by omega)]
   ·rw[hB];exact⟨0,rfl,.inr rfl,by rw[←k2] at hs⊢;exact hs⟩
theorem We {P M w}(ok:Ok M)(hM:M.H=w.heap){t T id lo n rx v u}(hx:qA M (.osl id (some (lo,n))) rx)
  (h:yQ (OC P M.h t id lo n) v u):qM P (Builtin.clear_ #[t] T #[rx]) M w v u:=by
 unfold OC at h;split at h
 case h_2=>exact h.elim
 rename_i e s xs hu an;split at h
 case h_2=>exact h.elim
 rename_i ty dK;obtain⟨heq,h⟩:=Bt h;have:=Jr heq;subst this;obtain⟨_,rfl,rfl⟩:=gT h;obtain⟨inf,z,h1,h2,h3,h4,h5,h6,h7⟩:=sr dK;obtain⟨C,hC,du,⟨A,c,rfl,hS⟩,_⟩:=hx;obtain⟨C1,iW,hO⟩:=ok.obj id _ an;rw[hC] at iW;cases iW;by_cases Es:n=0
 ·subst Es;have e0:xs.take lo++List.replicate 0 ty.dflt++xs.drop (lo+0)=xs:=by simp
  rw[e0];refine⟨.tuple #[],w,M,?_,rfl,rfl,rfl,hM,?_,ok,yT.refl M,trivial⟩
  ·cases A with
   |none=>simp[Builtin.clear_,run_underlying hu]
   |some a=>simp[Builtin.clear_,run_underlying hu]
  ·rw[U3,Ea an]
 ·obtain⟨k1,k2,k3,k4⟩:=hO;cases hB:C.blk with
  |none=>rw[hB] at hS;omega
  |some B=>
   rw[hB] at hS k4;obtain⟨hc,a,rfl,ha,hs⟩:=hS;obtain⟨vals,ev,k5,k6,k7,k8⟩:=k4;have si:a=lo*ty.size:=by rw[←k2];rcases ha with ha|ha<;>omega
   subst si;have kf:w.heap[B]? =some (.cells vals ev (0,0)):=by rw[←hM];exact k5
   have J1:(Builtin.zeroCells z.cells n).toList.length=n*ty.size:=by rw[Array.length_toList,Er,h7]
   have hle:=Nat.mul_le_mul_right ty.size (show lo+n≤xs.length by omega);rw[Nat.add_mul] at hle;have aM:lo*ty.size+(Builtin.zeroCells z.cells n).toList.length≤vals.size:=by omega
   have bS:∀v∈(Builtin.zeroCells z.cells n).toList,v.one1=true:=vU1 h4 h7;have ka:=run_storeCells_at (P:=P) B (lo*ty.size) ev (Builtin.zeroCells z.cells n).toList 0 vals w kf (by simpa using aM) (fun v hv=>Be (bS v hv));simp only[Nat.add_zero] at ka;obtain⟨f1,f2,f3,f4⟩:=oW kf (new:=vB vals (lo*ty.size) (Builtin.zeroCells z.cells n).toList) (gU aM);have nV:(Builtin.clear_ #[t] T #[.slice (some ⟨B,lo*ty.size,none⟩) n c]).run P w=.ok (.tuple #[]) (w.setRow B (vB vals (lo*ty.size) (Builtin.zeroCells z.cells n).toList)):=by
    obtain⟨n',rfl⟩:∃n',n=n'+1:=⟨n-1,by omega⟩;have e:(storeCells ⟨B,lo*ty.size,none⟩ (Builtin.zeroCells z.cells (n'+1)).toList).run P w=.ok () (w.setRow B (vB vals (lo*ty.size) (Builtin.zeroCells z.cells (n'+1)).toList)):=ka;simp[Builtin.clear_,run_underlying hu,zeroValue,typeInfo,h1,h2,e]
   have hH:∀b,b∉C.fp→(w.setRow B (vB vals (lo*ty.size) (Builtin.zeroCells z.cells n).toList)).heap[b]? =M.H[b]? :=fun b tY=>by
    rw[hM];exact f3 b fun e=>tY (e▸fS hB)
   have cR:∀b,b<M.H.size→yE (w.setRow B (vB vals (lo*ty.size) (Builtin.zeroCells z.cells n).toList)).heap b=yE M.H b:=fun b _=>by rw[hM];exact f4 b
   have hol:(xs.take lo++List.replicate n ty.dflt++xs.drop (lo+n)).length=xs.length:=by
    simp only[List.length_append,List.length_take,List.length_replicate,List.length_drop];omega
   have x:=zN.write_ext ok an rfl hC C.le_refl hH cR (.arr true ty (xs.take lo++List.replicate n ty.dflt++xs.drop (lo+n)));have := zN.write_ok ok an rfl hC C.le_refl (fun _ h => h) (by rw [hM]; exact f1) hH cR (o' := .arr true ty (xs.take lo ++ List.replicate n ty.dflt ++ xs.drop (lo + n))) (by
    refine⟨by rw[hol];exact k1,k2,k3,?_⟩;rw[hB];refine⟨_,ev,f2,fun h=>(by cases h),by rw[hol,gU aM];exact k7,fun p hp=>?_⟩;rw[hol] at hp;have aU:=Nat.mul_le_mul_right ty.size (show p+1≤xs.length by omega);rw[Nat.add_mul] at aU;have Ev:(xs.take lo).length=lo:=by rw[List.length_take];omega
    have Bu:(xs.take lo++List.replicate n ty.dflt++xs.drop (lo+n))[p]? =xs[p]? →(∀q,q<ty.size→(vB vals (lo*ty.size) (Builtin.zeroCells z.cells n).toList)[p*ty.size+q]? =vals[p*ty.size+q]?)→
      qH (M.write id (.arr true ty (xs.take lo++List.replicate n ty.dflt++xs.drop (lo+n))) C (w.setRow B (vB vals (lo*ty.size) (Builtin.zeroCells z.cells n).toList)).heap).H (M.write id (.arr true ty (xs.take lo++List.replicate n ty.dflt++xs.drop (lo+n))) C (w.setRow B (vB vals (lo*ty.size) (Builtin.zeroCells z.cells n).toList)).heap).G ty ((xs.take lo++List.replicate n ty.dflt++xs.drop (lo+n))[p]'(by omega)) (fun q=>(vB vals (lo*ty.size) (Builtin.zeroCells z.cells n).toList)[p*ty.size+q]?):=fun e1 e2=>by
     have e3:(xs.take lo++List.replicate n ty.dflt++xs.drop (lo+n))[p]'(by omega)=xs[p]:=by
      rw[List.getElem?_eq_getElem (by omega),List.getElem?_eq_getElem hp,Option.some.injEq] at e1;exact e1
     rw[e3];exact vF x.G x.sameG ty _ _ _ e2 (k8 p hp)
    by_cases Pk:p<lo
    ·refine Bu ?_ fun q hq=>?_
     ·rw[List.append_assoc,List.getElem?_append_left (by omega),List.getElem?_take,if_pos Pk]
     ·have:=Nat.mul_le_mul_right ty.size (show p+1≤lo by omega);rw[Nat.add_mul] at this;rw[dZ aM,if_pos (by omega)]
    ·by_cases J2:p<lo+n
     ·have e3:(xs.take lo++List.replicate n ty.dflt++xs.drop (lo+n))[p]'(by omega)=ty.dflt:=by
       rw[List.getElem_append_left (by rw[List.length_append,Ev,List.length_replicate];exact J2),List.getElem_append_right (by omega)];simp
      rw[e3];refine JT ty _ fun q hq=>?_
      have q1:=Nat.mul_le_mul_right ty.size (show lo≤p by omega);have q2:=Nat.mul_le_mul_right ty.size (show p-lo+1≤n by omega);rw[Nat.add_mul] at q2;have q3:(p-lo)*ty.size=p*ty.size-lo*ty.size:=Nat.sub_mul ..
      rw[dZ aM,if_neg (by omega),if_pos (by omega),show p*ty.size+q-lo*ty.size=(p-lo)*ty.size+q by omega,yQ2 h4 h7 hq (by omega)]
     ·refine Bu ?_ fun q hq=>?_
      ·rw[List.getElem?_append_right (by rw[List.length_append,Ev,List.length_replicate];omega),List.getElem?_drop]
       congr 1
       rw[List.length_append,Ev,List.length_replicate];omega
      ·have:=Nat.mul_le_mul_right ty.size (show lo+n≤p by omega);rw[Nat.add_mul] at this;rw[dZ aM,if_neg (by omega),if_neg (by omega)])
   exact⟨_,_,_,nV,rfl,rfl,rfl,rfl,rfl,this.1,this.2,trivial⟩
theorem Wg {P M w}(ok:Ok M)(hM:M.H=w.heap){mat nm t T b x v u rb rx}
  (hb:zX M b rb) (hx:zX M x rx) (h:yQ (DT P mat nm M.h t b x) v u):qM P (Builtin.append_ #[t,t] T #[rb,rx]) M w v u:=by
 unfold DT at h;split at h
 case h_2=>exact h.elim
 rename_i e b x hu aV;split at h
 ·exact h.elim
 rename_i ty dK;cases mat with
 |true=>
  split at h
  ·rename_i id jd;split at h
   ·rename_i v1 xs v2 ys an dh;cases bx:Nat.beq id jd with
    |true=>rw[bx] at h;exact h.elim
    |false=>
     rw[bx] at h;obtain⟨hr,rfl,rfl⟩:=gT h;exact V8 ok hM hu dK aV an dh (fun e=>by subst e;simp at bx) hb hx (JX hr)
   ·exact h.elim
  ·exact h.elim
 |false=>
  simp only[cond_false] at h;split at h
  ·split at h
   ·rename_i ys u1 ht;obtain⟨hr,rfl,rfl⟩:=gT h;obtain⟨rfl,news,h1,h2⟩:=yHz ok hx ht;rw[show rb=.slice none 0 0 from hb];exact V2 ok hM hu dK aV h1 h2 (JX hr)
   ·exact h.elim
  ·split at h
   ·rename_i s xs an;split at h
    ·rename_i zs ys u1 hz ht;obtain⟨e1,hz⟩:=lF hz;subst e1;subst hz;obtain⟨rfl,news,h1,h2⟩:=yHz ok hx ht;split at h
     ·rcases vCf h with⟨hc,h⟩|⟨_,h⟩
      ·split at h
       ·rename_i i' jd j m zs e1 e2 _;cases e1;have:=Nat.eq_of_beq_eq_true hc;subst this;obtain⟨_,hz⟩:=lF e2;subst hz;obtain⟨hr,rfl,rfl⟩:=gT h;exact Wd ok hM hu dK aV an hb hx (Nat.le_of_ble_eq_true hr)
       ·exact h.elim
      ·obtain⟨hr,rfl,rfl⟩:=gT h;exact V3 ok hM hu dK aV an hb rfl h1 h2 (JX hr)
     ·rcases vCf h with⟨hc,h⟩|⟨_,h⟩
      ·exact h.elim
      ·obtain⟨hr,rfl,rfl⟩:=gT h;exact V3 ok hM hu dK aV an hb trivial h1 h2 (JX hr)
     ·exact h.elim
    ·exact h.elim
   ·exact h.elim
  ·exact h.elim
theorem Wh {M}(ok:Ok M){c v t ys}(hv:qA M c v)(h:kE M.h c=some ⟨t,ys⟩){kd}(ht:t=.int kd):
  ∃news,jB M.H v ys.length t.size news∧∃F,∀i hi,qH M.H F t ys[i] (fun j=>news[i*t.size+j]?):=by
 unfold kE at h;split at h
 ·cases h;obtain⟨news,h1,h2⟩:=VX hv;exact⟨news,h1,_,h2⟩
 ·split at h
  ·rename_i own s xs an;cases h;obtain⟨C,hC,hO⟩:=ok.obj _ _ an;obtain⟨news,h1,h2⟩:=Bq hC hO hv;exact⟨news,h1,_,h2⟩
  all_goals grind
 ·rename_i id i ver;split at h
  ·rename_i v' xs an;cases fU:Nat.beq v' ver with
   |false=>simp_all
   |true=>
    rw[fU] at h;cases h;have e:v'=ver:=by simp_all
    subst e;obtain⟨C,hC,hO⟩:=ok.obj _ _ an;obtain⟨C',aF,bS,_,aU⟩:=hv;rw[hC] at aF;cases aF;obtain⟨rb,rl,xp,sA⟩:=aU hO.1;by_cases hi:i<xs.length
    ·obtain⟨B,pS,v2,k1,k2,k3,k4,k5,k6⟩:=D9 hO hi;rw[xp] at k3;cases k3;rw[show xs.getD i []=xs[i] by simp_all];cases rb with
     |none=>
      obtain⟨rfl,h0⟩:=sA;have cO:xs[i]=[]:=by grind
      rw[cO];obtain⟨news,q1,q2⟩:=JV (H:=M.H) (F:=M.G) (t:=.int .i64) (A:=none) (c:=0);exact⟨news,q1,_,q2⟩
     |some R=>
      obtain⟨a,c,rfl,h1,h2,h3⟩:=sA;by_cases h0:xs[i].length=0
      ·have cO:xs[i]=[]:=by grind
       rw[cO];obtain⟨news,q1,q2⟩:=JV (H:=M.H) (F:=M.G) (t:=.int .i64) (A:=some ⟨R,a,none⟩) (c:=c);exact⟨news,q1,_,q2⟩
      ·have ha:a=0:=by omega
       subst ha;obtain ⟨news, q1, q2⟩ := VW (H := M.H) (F := fun _ => True) (t := .int .i64) (ys := xs[i]) (B := R) (o := 0) (c := c) h1 (fun j hj=>by
        simp[qH,Ty.size];simp_all)
       exact⟨news,q1,_,q2⟩
    ·have:C.rows[i]? =none:=List.getElem?_eq_none (by have:=hO.2.2.2.1;omega);simp_all
  ·cases h
 ·cases h
theorem Wi {M}(ok:Ok M){c v t ys}(hv:qA M c v)(h:kE M.h c=some ⟨t,ys⟩):∃A k,v=.slice A ys.length k:=by
 by_cases ht:t=.int .i64
 ·obtain⟨news,⟨A,k,e,_⟩,_⟩:=Wh ok hv h ht;simp_all
 unfold kE at h;split at h
 ·cases h;obtain⟨news,⟨A,k,e,_⟩,_⟩:=VX hv;simp_all
 ·rename_i id r;split at h
  ·rename_i own s xs an;cases h;obtain⟨C,hC,hO⟩:=ok.obj _ _ an;obtain⟨news,⟨A,k,e,_⟩,_⟩:=Bq hC hO hv;simp_all
  ·rename_i ver xs an;cases r with
   |none=>
    cases h;obtain⟨C,hC,hO⟩:=ok.obj _ _ an;obtain⟨C',aF,A,k,e,_⟩:=hv;rw[hC] at aF;cases aF;exact⟨A,k,by rw[e,hO.2.1]⟩
   |some p=>cases h
  ·cases h
 all_goals grind
theorem Wj {M}(ok:Ok M){c v n}(hv:qA M c v)(h:DH M.h c=some n):∃A k,v=.slice A n k:=by
 unfold DH at h;split at h
 ·cases h;exact⟨none,0,hv⟩
 ·obtain⟨C,B,_,_,e⟩:=hv;simp_all
 ·split at h
  ·rename_i t xs hr;cases h;exact Wi ok hv hr
  ·cases h
theorem Wk {P w t e A n k T ts}(h0:ts[0]? =some t)(hu:P.underlying t=some (.slice e)):
  (Builtin.len_ ts T #[.slice A n k]).run P w=.ok (.int .i64 n) w:=by
 have hr:(underlying t).run P w=.ok (.slice e) w:=by simp[underlying,hu]
 simp[Builtin.len_,h0,hr,goInt]
theorem vBl {P M w}(ok:Ok M)(hM:M.H=w.heap){lt l rl v u ts T}(hl:zO (zX M) l rl.toList)
  (h:yQ (OD lt l) v u):qM P (bif lt then Builtin.min_ ts T rl else Builtin.max_ ts T rl) M w v u:=by
 unfold OD at h;split at h
 ·rename_i k x j y;obtain⟨rfl,rfl⟩:=wR h;obtain⟨rl⟩:=rl
  match rl,hl with
  |[a,b],⟨h1,h2,_⟩=>
   rw[show a=.int k x from h1,show b=.int j y from h2];refine .pure (rv:=.int k (bif lt then(bif decide (y<x) then y else x) else(bif decide (y>x) then y else x))) ok hM ?_ rfl;cases lt<;>simp[Builtin.min_,Builtin.max_,Builtin.min2,Builtin.max2,Bool.cond_decide]
 ·rename_i k x j y i z;obtain⟨rfl,rfl⟩:=wR h;obtain⟨rl⟩:=rl
  match rl,hl with
  |[a,b,c],⟨h1,h2,h3,_⟩=>
   rw[show a=.int k x from h1,show b=.int j y from h2,show c=.int i z from h3];refine .pure (rv:=_) ok hM ?_ rfl;cases lt<;>simp[Builtin.min_,Builtin.max_,Builtin.min2,Builtin.max2,Bool.cond_decide]
 ·exact h.elim
theorem yLm {M:zN}:∀{cs ns},A9 cs=some ns→cs=ns.map (.int .i64)
 |[],ns,h=>by cases h;rfl
 |.int .i64 n::l,ns,h=>by
  unfold A9 at h;split at h
  ·rename_i r hr;cases h;rw[yLm (M:=M) hr];rfl
  ·cases h
theorem yKk xs:∀(ns:List Int) i,Ba xs i (ns.map (.int .i64))=(((xs.drop i).take ns.length)++ns.drop ((xs.drop i).take ns.length).length).map (.int .i64)
 |[],i=>by rfl
 |n::ns,i=>by
  simp only[List.map_cons,Ba,yKk xs ns (i+1)];by_cases hi:i<xs.length
  ·have hb:Nat.blt i xs.length=true:=by simp_all
   rw[hb,List.drop_eq_getElem_cons hi];grind
  ·have hb:Nat.blt i xs.length=false:=by
    cases h:Nat.blt i xs.length with
    |false=>rfl
    |true=>exact absurd (by simp_all) hi
   have e1:xs.drop i=[]:=List.drop_eq_nil_of_le (by omega);grind
theorem vP4 {P M w}(ok:Ok M)(hM:M.H=w.heap){t e ts T d s v u rd rs}(h0:ts[0]? =some t)(hu:P.underlying t=some (.slice e))(he:P.cellsOf e=1)
  (hd:zX M d rd) (hs:zX M s rs) (h:yQ (DU M.h d s) v u):qM P (Builtin.copy_ ts T #[rd,rs]) M w v u:=by
 unfold DU at h;split at h
 case h_2=>exact h.elim
 rename_i id off n s;split at h
 case h_2=>exact h.elim
 rename_i cells ys an pX;split at h
 case h_2=>exact h.elim
 rename_i vs eZ;split at h
 case h_2=>exact h.elim
 rename_i ns VF;obtain⟨_,rfl,rfl⟩:=gT h;clear h;obtain⟨C,B,hC,hB,rfl⟩:=hd;obtain⟨C',aF,B',vals,ev,k1,k2,k3,k4,k5⟩:=ok.obj id _ an;rw[hC] at aF;cases aF;rw[hB] at k1;cases k1;obtain⟨c1,c2,c3⟩:=JE eZ;obtain⟨i,hi⟩:=oT (P:=P) (t:=e) (by omega);obtain⟨A,k,rfl,ma⟩:∃A k,rs=.slice A ys.length k∧∃news,jB M.H (.slice A ys.length k) ys.length 1 news∧news=ys.map (.int .i64):=by
  split at pX
  ·cases pX;exact⟨none,0,hs,[],⟨none,0,rfl,rfl,by simp,rfl⟩,rfl⟩
  ·obtain⟨news,hR,F,hE⟩:=Wh ok hs pX rfl;obtain⟨A,k,e,hl,r⟩:=hR;refine⟨A,k,e,news,⟨A,k,rfl,hl,r⟩,?_⟩;refine List.ext_getElem (by simpa[Ty.size] using hl) fun j h1 h2=>?_
   have:=hE j (by simpa using h2);simp only[qH,Ty.size,Nat.mul_one,Nat.add_zero] at this;rw[List.getElem?_eq_getElem h1,Option.some.injEq] at this;rw[this];simp
 obtain⟨news,⟨A',k',e',hl,bS,ma⟩,J3⟩:=ma;cases e';let m:=min ys.length n;have hm:Nat.min ys.length n=m:=rfl;have Bv:(Builtin.firstCells 1 m (.slice A ys.length k)).run P w=.ok (news.take m).toArray w:=by
  have:jB M.H (.slice A m k) m 1 (news.take m):=by
   refine⟨A,k,rfl,?_,fun u hu=>bS u (List.mem_of_mem_take hu),?_⟩;all_goals grind
  have:=this.first (P:=P) w hM.symm
  cases A<;>exact this
 have hbw:w.heap[B]? =some (.cells vals ev (0,0)):=by rw[←hM];exact k3
 have bK:=k4.length;have Pj:(news.take m).length=m:=by rw[List.length_take,hl];omega
 have aM:off+(news.take m).length≤vals.size:=by
  rw[Pj];simp at bK;omega
 have ka:=run_storeCells_at (P:=P) B off ev (news.take m) 0 vals w hbw (by simpa using aM) (fun v hv=>Be (bS v (List.mem_of_mem_take hv)));simp only[Nat.add_zero] at ka;have nV:(Builtin.copy_ ts T #[.slice (some ⟨B,off,none⟩) n n,.slice A ys.length k]).run P w=.ok (.int .i64 (m:Nat)) (w.setRow B (vB vals off (news.take m))):=by
  simp[Builtin.copy_,h0,run_underlying hu,Builtin.lenOf,iS w hi,he,hm,Bv,goInt];have e:(storeCells ⟨B,off,none⟩ (news.take m)).run P w=.ok () (w.setRow B (vB vals off (news.take m))):=ka;rw[e];rfl
 obtain⟨f1,f2,f3,f4⟩:=oW hbw (new:=vB vals off (news.take m)) (gU aM);have hH:∀b,b∉C.fp→(w.setRow B (vB vals off (news.take m))).heap[b]? =M.H[b]? :=fun b tY=>by
  rw[hM];exact f3 b fun e=>tY (e▸fS hB)
 have cR:∀b,b<M.H.size→yE (w.setRow B (vB vals off (news.take m))).heap b=yE M.H b:=fun b _=>by rw[hM];exact f4 b
 let o':Obj:=.box true (cells.take off++Ba ys 0 vs++cells.drop (off+n));have x:=zN.write_ext ok an rfl hC C.le_refl hH cR o';have aH:cells.take off++Ba ys 0 vs++cells.drop (off+n)=cells.take off++(ys.take m).map (.int .i64)++cells.drop (off+((ys.take m).map (qC.int .i64)).length):=by
  have hv:=yLm (M:=M) VF;have hnn:ns.length=n:=by rw[←c3,hv];simp
  have J4:(ys.drop 0).take ns.length=ys.take m:=by
   grind
  rw[hv,yKk,J4,List.map_append,List.map_drop,←hv,List.append_assoc,List.append_assoc,List.append_assoc]
  congr 2
  have Pl:(ys.take m).length=m:=by rw[List.length_take];omega
  have e1:cells.drop (off+n)=(cells.drop (off+m)).drop (n-m):=by
   rw[List.drop_drop];congr 1;omega
  rw[List.length_map,Pl,c2,List.drop_take,List.drop_drop,e1,List.take_append_drop]
 have := zN.write_ok ok an rfl hC C.le_refl (fun _ h => h) (by rw [hM]; exact f1) hH cR (o' := o') (by
  refine⟨B,_,ev,hB,k2,f2,?_,fun h=>(by cases h)⟩;rw[aH];refine U7 x k4 (us:=news.take m) ?_ (by simpa using aM);rw[J3];refine zO.of_get (by simp) fun j h1 h2=>?_
  simp[qA])
 exact⟨_,_,_,nV,rfl,rfl,rfl,rfl,rfl,this.1,this.2,rfl⟩
theorem yJw {P t}(h:Jx P t=true):∃k e i,P.underlying t=some (.map k e)∧P.underlying k=some (.int .i64)∧P.info? e=some i∧i.zero=some (.bool false):=by
 unfold Jx at h;split at h
 ·split at h
  ·rename_i hk hz;obtain⟨i,h1,h2⟩:=Option.bind_eq_some_iff.1 hz;grind
  ·cases h
 ·cases h
theorem Wl {P M w}(ok:Ok M)(hM:M.H=w.heap){nm t v u}(h:yQ (DP P nm M.h t) v u):qM P (Instr.makeMap t none) M w v u:=by
 unfold DP at h;split at h
 case h_2=>exact h.elim
 rename_i aV;obtain⟨_,h⟩:=Bt h;obtain⟨_,rfl,rfl⟩:=gT h;let C:qE:=⟨some M.H.size,0,0,0,[]⟩;have := zN.new_ok ok aV (.imap []) C (.map #[] 0) (by simp [C, qE.fp]) (by
  refine⟨M.H.size,#[],0,rfl,rfl,Bd,by simp,fun n=>rfl⟩)
 refine⟨.map (some w.heap.size),w.alloc (.map #[] 0),_,?_,rfl,rfl,rfl,?_,rfl,this.1,this.2,C,M.H.size,κset_same _ _ _,rfl,by rw[hM]⟩
 ·rfl
 ·show M.H.push _=w.heap.push _;rw[hM]
theorem Wm {n}:∀{es i},(∀e∈es,∃m b,e.key=.int .i64 m∧e.val=.bool b)→
  (fw n es=none∧Instr.findNow (.int .i64) (.int .i64 n) es i=some none)∨
  (∃j b e,fw n es=some (.bool b)∧Instr.findNow (.int .i64) (.int .i64 n) es i=some (some (i+j,.bool b))∧es[j]? =some e∧e.key=.int .i64 n∧
   ∀f:MapEntry→MapEntry,(∀e,(f e).key=.int .i64 n)→fw n (es.modify j f)=some (f e).val∧(∀m,m≠n→fw m (es.modify j f)=fw m es)∧∀e'∈es.modify j f,e'∈es∨e'=f e)
 |[],i,_=>.inl ⟨rfl,rfl⟩
 |e::es,i,h=>by
  obtain⟨m,b,h1,h2⟩:=h e (by simp);by_cases hm:n=m
  ·subst hm;refine .inr ⟨0,b,e,?_,?_,rfl,h1,fun f hf=>⟨?_,fun m bx=>?_,fun e' he=>?_⟩⟩
   ·simp[fw,h1,h2]
   ·simp[Instr.findNow,Instr.sameNow,h1,h2]
   ·simp[fw,hf]
   ·simp[fw,hf,h1,bx]
   grind
  ·have hs:Instr.findNow (.int .i64) (.int .i64 n) (e::es) i=Instr.findNow (.int .i64) (.int .i64 n) es (i+1):=by
    have hb:(n==m)=false:=by simp[hm]
    simp[Instr.findNow,Instr.sameNow,h1,hb]
   have hf:fw n (e::es)=fw n es:=by simp[fw,h1,hm]
   rcases Wm (es:=es) (i:=i+1) (by grind) with⟨k1,k2⟩|⟨j,b',e',k1,k2,k3,k4,k5⟩
   ·exact .inl ⟨hf.trans k1,hs.trans k2⟩
   ·refine .inr ⟨j+1,b',e',hf.trans k1,by grind,by simp_all,k4,fun f hfk=>?_⟩;obtain⟨q1,q2,q3⟩:=k5 f hfk;refine⟨by simp[fw,h1,hm,q1],fun m' bx=>?_,fun e'' he=>?_⟩
    ·rw[List.modify_succ_cons];simp[fw,q2 m' bx]
    grind
theorem Pm {P w r es ck}(h:w.heap[r]? =some (.map es ck)):(getObj r).run P w=.ok (.map es ck) w:=by
 simp[getObj,Sem.run,h]
theorem yPf {P w r es ck} o (h:w.heap[r]? =some (.map es ck)):(setObj r o).run P w=.ok () {w with heap:=w.heap.setIfInBounds r o}:=by
 simp[setObj,Sem.run,h]
theorem Pn {P w k b n}(h:P.underlying k=some (.int .i64)):(Instr.checkKey b 10000 k (.int .i64 n)).run P w=.ok () w:=by
 unfold Instr.checkKey;simp[run_underlying h]
theorem Po {P w k n es r}(h:P.underlying k=some (.int .i64))(hf:Instr.findNow (.int .i64) (.int .i64 n) es 0=some r):(Instr.findKey k (.int .i64 n) es).run P w=.ok r w:=by
 unfold Instr.findKey;simp[run_underlying h,hf]
theorem vOk {P M w}(ok:Ok M)(hM:M.H=w.heap){t x i v u rx ri}(hx:zX M x rx)(hi:zX M i ri)(h:yQ (DQ P M.h t x i) v u):qM P (Instr.lookup t rx ri false) M w v u:=by
 unfold DQ at h;split at h
 case h_2=>exact h.elim
 rename_i id n;split at h
 case h_2=>exact h.elim
 rename_i df an;obtain⟨hb,h⟩:=Bt h;obtain⟨rfl,rfl⟩:=wR h;obtain⟨k,e,inf,h1,h2,h3,h4⟩:=yJw hb;obtain⟨C,B,hC,hB,rfl⟩:=hx;obtain⟨C',aF,B',es,ck,k1,k2,k3,k4,k5⟩:=ok.obj id _ an;rw[hC] at aF;cases aF;rw[hB] at k1;cases k1;have me:ri=.int .i64 n:=hi;subst me;rw[hM] at k3;refine .pure (rv:=.bool ((df.lookup n).getD false)) ok hM ?_ rfl;have h5:=k5 n;unfold Instr.lookup;rcases Wm (n:=n) (i:=0) k4 with⟨q1,q2⟩|⟨j,b,e',q1,q2,q3,q4,q5⟩
 ·have:df.lookup n=none:=by cases hl:df.lookup n with|none=>rfl|some b=>simp_all
  simp[run_underlying h1,Pm k3,Pn h2,Po h2 q2,zeroValue,typeInfo,h3,h4,this]
 ·have:df.lookup n=some b:=by cases hl:df.lookup n with|none=>simp_all|some b=>simp_all
  simp[run_underlying h1,Pm k3,Pn h2,Po h2 q2,this]
theorem Wn {n b c}:∀{es},fw n es=none→∀m,fw m (es++[⟨.int .i64 n,.bool b,c⟩])=if m=n then some (.bool b) else fw m es
 |[],_,m=>by rfl
 |e::es,h,m=>by
  rw[List.cons_append];have aI:∀(m:Int) (l:List MapEntry),fw m (e::l)=match e.key with|.int .i64 k=>if m=k then some e.val else fw m l|_=>fw m l:=fun m l=>rfl
  rw[aI] at h;rw[aI,aI];split at h
  ·rename_i k hk;split at h
   ·cases h
   ·by_cases hm:m=k
    ·grind
    ·rw[if_neg hm,Wn h m,if_neg hm]
  ·exact Wn h m
theorem Wo {P M w}(ok:Ok M)(hM:M.H=w.heap){t x i y v u rx ri ry}(hx:zX M x rx)(hi:zX M i ri)(hy:zX M y ry)(h:yQ (DR P M.h t x i y) v u):
  v=.undef∧ng P (Instr.mapUpdate t rx ri ry) M w u:=by
 unfold DR at h;split at h
 case h_2=>exact h.elim
 rename_i id n b;split at h
 case h_2=>exact h.elim
 rename_i df an;obtain⟨hb,h⟩:=Bt h;obtain⟨_,rfl,rfl⟩:=gT h;obtain⟨k,e,inf,h1,h2,h3,h4⟩:=yJw hb;obtain⟨C,B,hC,hB,rfl⟩:=hx;obtain⟨C',aF,B',es,ck,k1,k2,k3,k4,k5⟩:=ok.obj id _ an;rw[hC] at aF;cases aF;rw[hB] at k1;cases k1;have me:ri=.int .i64 n:=hi;subst me;have hry:ry=.bool b:=hy;subst hry;have k3':=k3;rw[hM] at k3;have write:∀(sB:Array MapEntry) (xq:Nat),(Instr.mapUpdate t (.map (some B)) (.int .i64 n) (.bool b)).run P w=.ok () {w with heap:=w.heap.setIfInBounds B (.map sB xq)}→
   (∀e∈sB.toList,∃m b,e.key=.int .i64 m∧e.val=.bool b)→(∀m,fw m sB.toList=if m=n then some (.bool b) else fw m es.toList)→ng P (Instr.mapUpdate t (.map (some B)) (.int .i64 n) (.bool b)) M w [(id,.imap ((n,b)::df))]:=by
  intro sB xq hr he hf;have Bw:∀c,(w.heap.setIfInBounds B (.map sB xq))[c]? =if c=B then some (.map sB xq) else w.heap[c]? :=by grind
  have hH:∀c,c∉C.fp→(w.heap.setIfInBounds B (.map sB xq))[c]? =M.H[c]? :=fun c hc=>by
   rw[Bw,if_neg (fun(e:c=B)=>hc (by rw[e];exact fS hB)),hM]
  have cR:∀c,c<M.H.size→yE (w.heap.setIfInBounds B (.map sB xq)) c=yE M.H c:=fun c _=>by
   unfold yE;grind
  have := zN.write_ok ok an rfl hC C.le_refl (by simp) (by rw [hM]; simp) hH cR (o' := .imap ((n, b) :: df)) (by
   refine⟨B,sB,xq,hB,k2,?_,he,fun m=>?_⟩
   ·show(w.heap.setIfInBounds B (.map sB xq))[B]? =_;rw[Bw,if_pos rfl]
   grind)
  exact⟨_,_,hr,rfl,rfl,rfl,rfl,rfl,this.1,this.2⟩
 refine⟨rfl,?_⟩;rcases Wm (n:=n) (i:=0) k4 with⟨q1,q2⟩|⟨j,b',e',q1,q2,q3,q4,q5⟩
 ·refine write (es.push ⟨.int .i64 n,.bool b,ck⟩) (ck+1) ?_ (fun e he=>?_) fun m=>?_
  ·unfold Instr.mapUpdate;simp[run_underlying h1,Pm k3,Pn h2,Po h2 q2,yPf _ k3]
  ·grind
  ·rw[Array.toList_push];exact Wn q1 m
 ·refine write (es.modify j fun e=>{e with key:=.int .i64 n,val:=.bool b}) ck ?_ (by grind) fun m=>?_
  ·unfold Instr.mapUpdate;rw[Nat.zero_add] at q2;simp only[Array.getElem?_toList] at q3;simp[run_underlying h1,Pm k3,Pn h2,Po h2 q2,yPf _ k3,q3,q4,Instr.keyThatStays,Instr.sameBits]
  all_goals grind
theorem yJ7:∀(ns:List Int) (b:ByteArray),ns.foldl (fun r n=>r.push (UInt8.ofNat n.toNat)) b=⟨(b.data.toList++nM ns).toArray⟩
 |[],b=>by simp[nM]
 |n::ns,b=>by
  rw[List.foldl_cons,yJ7 ns];simp[nM]
theorem Wp {P M}(ok:Ok M){c v xs}(hv:qA M c v)(h:DG M.h c=some xs){w}(hM:M.H=w.heap):
  ∃A n k,v=.slice A n k∧(Conv.bytesToString v).run P w=.ok (.string ⟨(nM xs).toArray⟩) w:=by
 unfold DG at h;split at h
 ·cases h;refine⟨none,0,0,hv,?_⟩;rw[show v=.slice none 0 0 from hv];rfl
 ·split at h
  ·rename_i ys hr;obtain rfl:ys=xs:=by simp_all
   obtain⟨news,⟨A,k,e,hl,bS,ma⟩,F,hE⟩:=Wh ok hv hr rfl;refine⟨A,_,k,e,?_⟩;have hn:news=ys.map (Value.int .u8):=by
    refine List.ext_getElem (by simpa[Ty.size] using hl) fun j h1 h2=>?_
    have:=hE j (by simp_all);simp[qH,Ty.size] at this;grind
   subst e;cases A with
   |none=>
    have h1:ys=[]:=by grind
    subst h1;rfl
   |some a=>
    have nc:(loadCells a ys.length).run P w=.ok (ys.map (Value.int .u8)).toArray w:=by
     rcases ma with h0|⟨h1,h2⟩
     ·have h1:ys=[]:=by grind
      subst h1;rfl
     ·have:=jB.first (P:=P) (H:=M.H) (v:=.slice (some a) ys.length k) (n:=ys.length) (size:=1) (news:=news) ⟨_,k,rfl,by grind,bS,by grind⟩ w hM.symm
      rw[hn] at this
      simpa[Builtin.firstCells] using this
    rw[run_bytesToString w a _ k ys nc,yJ7];rfl
  ·cases h
structure ug (M:zN) (w:World) (u:vL) (M':zN) (w':World):Prop where
 os:w'.os=w.os
 tape:w'.tape=w.tape
 output:w'.output=w.output
 H:M'.H=w'.heap
 h:M'.h=qL M.h u
 ok:Ok M'
 step:yT M M'
def uh (P:Program)(f:Nat)(args:List zZ)(h:Hp)(v:zZ)(u:vL):Prop:=
 ∀(M:zN) (w:World) (vs:Array Value),M.h=h→M.H=w.heap→Ok M→zO (zX M) args vs.toList→
  ((callFunc f vs).run P w=.ok (.enter f vs) w∧Calls P f vs w fun
   |.returned rv,w'=>∃M',ug M w u M' w'∧zX M' v rv
   |_,_=>False)∨∃rv w' M',(callFunc f vs).run P w=.ok (.value rv) w'∧ug M w u M' w'∧zX M' v rv
def yOk (P:Program)(S:OE):Prop:=∀k nm f args h v u,yQ (S k nm f args h) v u→uh P f args h v u
structure gD (E:Env):Prop where
 eq:JL E.P E.eqT
 sums:yOk E.P E.sums
section
variable {P:Program} {Q:Exit→Act→World→Prop} {o:Oper} {a:Act} {w:World} {M:zN} {next:Act→World→Prop} {v:zZ} {u:vL}
theorem gE {s}(hr:qM P s M w v u)(he:execOp a.eval o=(do pure (.value (←s)):Sem Next))(hn:∀M' w' rv,ug M w u M' w'→zX M' v rv→next (a.put o.dst rv) w'):
  o.wp P a w next Q:=by
 obtain⟨rv,w',M',h1,h2,h3,h4,h5,h6,h7,h8,h9⟩:=hr;unfold Oper.wp;rw[he];simp[h1];exact hn M' w' rv ⟨h2,h3,h4,h5,h6,h7,h8⟩ h9
theorem vEi {s}(hr:ng P s M w u)(he:execOp a.eval o=(do s;pure .skip:Sem Next))(hn:∀M' w' rv,ug M w u M' w'→zX M' .undef rv→next (a.put o.dst rv) w'):
  o.wp P a w next Q:=by
 obtain⟨w',M',h1,h2,h3,h4,h5,h6,h7,h8⟩:=hr;unfold Oper.wp;rw[he];simp[h1];exact hn M' w' undef ⟨h2,h3,h4,h5,h6,h7,h8⟩ trivial
theorem pY (ok:Ok M)(hM:M.H=w.heap){rv}(hu:u=[])(hv:zX M v rv)(he:(execOp a.eval o).run P w=.ok (.value rv) w)(hn:∀M' w' rv,ug M w u M' w'→zX M' v rv→next (a.put o.dst rv) w'):
  o.wp P a w next Q:=by
 unfold Oper.wp;rw[he];subst hu;exact hn M w rv ⟨rfl,rfl,rfl,hM,rfl,ok,.refl M⟩ hv
end
theorem J5 {α β} f:∀(l:List α) (r:List β),l.mapM f=some r→zO (fun a b=>f a=some b) l r
 |[],r,h=>by simp at h;subst h;trivial
 |a::l,r,h=>by
  simp[Option.bind_eq_some_iff] at h;obtain⟨b,h1,bs,h2,h3⟩:=h;cases h3;exact⟨h1,J5 f l bs h2⟩
theorem zO.map_left {α β γ R}{f:α→γ}:∀{l} {m:List β},zO (fun a b=>R (f a) b) l m→zO R (l.map f) m
 |[],[],_=>trivial
 |_::_,_::_,h=>⟨h.1,zO.map_left h.2⟩
def _root_.Go.Operand.lit:Operand→Value
 |.const c=>c
 |_=>undef
theorem Wq {P:Program}{M:zN}{w:World}{t:TypeId}{d}{y:Operand}{x:qC}{rx ry:Value}{b:Bool}(hu:P.underlying t=some d)(hx:qA M x rx)(hy:ry=y.lit)
  (h:Uw d y x=some b) op (sC:op=.eql∨op=.neq) ox oy:
  (eqGuard op t ox oy rx ry).run P w=.ok () w∧(binOp op t rx ry).run P w=.ok (.bool (sb op b)) w:=by
 have key:∀n,(Op.equalIn (n+1) t rx ry).run P w=.ok b w→(eqGuard op t ox oy rx ry).run P w=.ok () w→(binOp op t rx ry=match op with|.eql=>(do pure (.bool (←Op.equal t rx ry)))|_=>(do pure (.bool (!(←Op.equal t rx ry)))))→
   n=9999→(eqGuard op t ox oy rx ry).run P w=.ok () w∧(binOp op t rx ry).run P w=.ok (.bool (sb op b)) w:=by
  intro n h1 h2 h3 hn;have fa:(Op.equal t rx ry).run P w=.ok b w:=by subst hn;exact h1
  refine⟨h2,?_⟩;rw[h3];rcases sC with rfl|rfl<;>simp[fa,sb]
 unfold Uw at h;split at h<;>cases h<;>simp only[Operand.lit] at hy<;>subst hy;all_goals (try obtain rfl:rx=_:=hx)
 all_goals (try obtain⟨C,B,_,_,_,rfl⟩:=hx)
 all_goals (try obtain⟨B,o,rfl,_⟩:=hx)
 all_goals (try obtain⟨cv,rfl,_⟩:=hx)
 all_goals (try obtain⟨⟨_,_,_,rfl⟩,_⟩:=hx)
 all_goals
  refine key 9999 ?_ ?_ ?_ rfl
  ·generalize 9999=n;unfold Op.equalIn;simp[run_underlying hu]
  ·rcases sC with rfl|rfl<;>simp[eqGuard]
  ·rcases sC with rfl|rfl<;>rfl
theorem Wr {M}(ok:Ok M){c v n}(hv:qA M c v)(h:DI M.h c=some n)(hn:0<n):∃a k,v=.slice (some a) n k:=by
 unfold DI at h;split at h
 ·rename_i sh t xs;cases h;have hv:qH M.H (bif sh then M.G else M.F) (.sl t) xs (fun _=>some v):=hv;simp[qH] at hv;obtain⟨A,m,c,rfl,rfl,hc,h⟩:=hv;rcases h with⟨rfl,_⟩|⟨B,o,rfl,_⟩
  ·simp at hn
  ·exact⟨_,_,rfl⟩
 ·rename_i id;split at h
  ·rename_i own t xs an;cases h;obtain⟨C,hC,hO⟩:=ok.obj _ _ an;obtain⟨C',aF,A,k,e,hS⟩:=hv;rw[hC] at aF;cases aF;have hl:C.len=xs.length:=hO.1;rw[e,hl];cases hB:C.blk with
   |none=>rw[hB] at hS;omega
   |some B=>
    rw[hB] at hS;obtain⟨_,a,rfl,_⟩:=hS;exact⟨_,_,rfl⟩
  ·cases h
 ·cases h
theorem Ws {P:Program}{w:World}{t e}{a n k}(hu:P.underlying t=some (.slice e)) op (sC:op=.eql∨op=.neq) ox oy:
  (eqGuard op t ox oy (.slice (some a) n k) (.slice none 0 0)).run P w=.ok () w∧(binOp op t (.slice (some a) n k) (.slice none 0 0)).run P w=.ok (.bool (sb op false)) w:=by
 have key:∀m,(Op.equalIn (m+1) t (.slice (some a) n k) (.slice none 0 0)).run P w=.ok false w:=fun m=>by
  unfold Op.equalIn;simp[run_underlying hu]
 have h1:(Op.equal t (.slice (some a) n k) (.slice none 0 0)).run P w=.ok false w:=key 9999;rcases sC with rfl|rfl
 ·refine⟨by simp[eqGuard],?_⟩;rw[show binOp .eql t (.slice (some a) n k) (.slice none 0 0)=(do pure (.bool (←Op.equal t (.slice (some a) n k) (.slice none 0 0)))) from rfl];simp[h1,sb]
 ·refine⟨by simp[eqGuard],?_⟩;rw[show binOp .neq t (.slice (some a) n k) (.slice none 0 0)=(do pure (.bool (!(←Op.equal t (.slice (some a) n k) (.slice none 0 0))))) from rfl];simp[h1,sb]
theorem Wt {M}{ev:Operand→zZ}{ρ:Operand→Value}(aW:∀x,zX M (ev x) (ρ x)):∀(l:List (Nat×Operand)),zO (Bp M) (l.map fun p=>(p.1,ev p.2)) (l.map fun p=>(p.1,ρ p.2))
 |[]=>trivial
 |p::l=>⟨⟨rfl,aW p.2⟩,Wt aW l⟩
theorem vFx {f:Operand→Value}(parts:Array (Nat×Operand)):(parts.map fun(i,x)=>(i,f x))=(parts.toList.map fun p=>(p.1,f p.2)).toArray:=by
 grind
theorem yKj {M}{ev:Operand→zZ}{ρ}(aW:∀x,zX M (ev x) (ρ x)):∀{l ids},zO (fun x id=>xd (ev x)=some id) l ids→
  zO (fun id u=>∃C B,M.κ id=some C∧C.blk=some B∧u=.pointer (some ⟨B,0,none⟩)) ids (l.map ρ)
 |[],[],_=>trivial
 |x::l,id::ids,h=>by
  refine⟨?_,yKj aW h.2⟩;have h1:xd (ev x)=some id:=h.1;have hx:=aW x;unfold xd at h1;split at h1
  ·rename_i Ew hc;cases h1;rw[hc] at hx;exact hx
  ·cases h1
theorem yV7 {M ev ρ}(aW:∀x,zX M (ev x) (ρ x)):∀(l:List Operand),zO (zX M) (l.map ev) (l.map ρ)
 |[]=>trivial
 |x::l=>⟨aW x,yV7 aW l⟩
theorem Wu {E}(hE:gD E){A}{k pre}{Q}{o}{a}{w}{M}{next}{v}{u ev}(ok:Ok M)(hM:M.H=w.heap)
  (aW:∀x,zX M (ev x) (a.eval x)) (h:yQ (lD E A k pre o ev M.h) v u) (hn:∀M' w' rv,ug M w u M' w'→zX M' v rv→next (a.put o.dst rv) w'):o.wp E.P a w next Q:=by
 unfold lD at h;dsimp only at h;split at h
 ·rename_i x ho;obtain⟨rfl,rfl⟩:=wR h;exact pY ok hM rfl (aW x) (by cases o;cases ho;rfl) hn
 ·rename_i x ho;obtain⟨rfl,rfl⟩:=wR h;exact pY ok hM rfl (aW x) (by cases o;cases ho;rfl) hn
 ·rename_i c x y ho;split at h
  ·rename_i cb hc;have lH:=aW c;rw[hc] at lH;have lH:a.eval c=.bool cb:=lH;split at h
   ·rename_i xb yb hx hy;obtain⟨rfl,rfl⟩:=wR h;have h1:=aW x;have h2:=aW y;rw[hx] at h1;rw[hy] at h2;refine pY (rv:=.bool (bif cb then xb else yb)) ok hM rfl (show zX M (.c (.bool _)) (.bool _) from rfl) ?_ hn;have h1:a.eval x=.bool xb:=h1;have h2:a.eval y=.bool yb:=h2;cases o;cases ho;show(do pure (.value (if←asBool (a.eval c) then a.eval x else a.eval y)):Sem Next).run E.P w=_;cases cb<;>simp[lH,asBool,h1,h2]
   ·refine pY (rv:=if cb then a.eval x else a.eval y) ok hM ?_ ?_ ?_ hn
    ·rcases h with⟨_,_,rfl⟩|⟨_,⟨_,_,rfl⟩|⟨_,h⟩⟩
     ·rfl
     ·rfl
     ·exact h.elim
    ·rcases h with⟨rfl,rfl,_⟩|⟨rfl,⟨_,rfl,_⟩|⟨_,h⟩⟩
     ·exact aW x
     ·exact aW y
     ·exact h.elim
    ·cases o;cases ho;show(do pure (.value (if←asBool (a.eval c) then a.eval x else a.eval y)):Sem Next).run E.P w=_;cases cb<;>simp[lH,asBool]
  ·exact h.elim
 ·rename_i t ho;split at h
  ·rename_i zs aV hz;obtain⟨_,rfl,rfl⟩:=gT h;exact gE (vQ4 ok hM aV hz) (by cases o;cases ho;rfl) hn
  ·exact h.elim
 ·rename_i t x ho;split at h
  ·rename_i vs aV hv;obtain⟨_,rfl,rfl⟩:=gT h;exact gE (VI ok hM aV (aW x) hv _) (by cases o;cases ho;rfl) hn
  ·exact h.elim
 ·rename_i t parts ho;have hp:=Wt aW parts.toList;have:=vWc ok hM hp h;exact gE this (by cases o;cases ho;rw[←vFx];rfl) hn
 ·rename_i t n parts ho;have hp:=Wt aW parts.toList;exact gE (VT ok hM hp h) (by cases o;cases ho;rw[←vFx];rfl) hn
 ·rename_i t x ho;exact gE (vTj ok hM (aW x) h) (by cases o;cases ho;rfl) hn
 ·rename_i t x y ho;obtain⟨rfl,hr⟩:=vYc ok hM (aW x) (aW y) h;exact vEi hr (by cases o;cases ho;rfl) hn
 ·rename_i x ho;have hx:=aW x;have key:∀c,ev x=.c c→v=.c c→u=[]→(match a.eval x with|.pointer none|.nilIface|.nilFunc=>False|.func (.method _) _ _=>False|_=>True)→o.wp E.P a w next Q:=by
   intro c hc hv hu hm;rw[hc] at hx;refine pY (rv:=a.eval x) ok hM hu (by rw[hv];exact hx) ?_ hn;cases o;cases ho;simp only[execOp];generalize a.eval x=r at*
   split<;>first|rfl|exact hm.elim
  split at h
  ·rename_i i j hc;obtain⟨rfl,rfl⟩:=wR h;refine key _ hc rfl rfl ?_;rw[hc] at hx;obtain⟨C,B,_,_,e⟩:=hx;rw[e];trivial
  ·rename_i i j k hc;obtain⟨rfl,rfl⟩:=wR h;refine key _ hc rfl rfl ?_;rw[hc] at hx;obtain⟨C,B,_,_,_,e⟩:=hx;rw[e];trivial
  ·rename_i i j k l hc;obtain⟨rfl,rfl⟩:=wR h;refine key _ hc rfl rfl ?_;rw[hc] at hx;obtain⟨B,o,e,_⟩:=hx;rw[e];trivial
  ·rename_i i j hc;obtain⟨rfl,rfl⟩:=wR h;refine key _ hc rfl rfl ?_;rw[hc] at hx;obtain⟨cv,e,_⟩:=hx;rw[e];trivial
  ·exact h.elim
 ·rename_i op t x y _ ho;cases hc:(Uy y&&Ux op) with
  |false=>
   rw[hc] at h;exact gE (Vy hE.eq ok hM (aW x) (aW y) h) (by cases o;cases ho;rfl) hn
  |true=>
   rw[hc] at h;rw[Bool.and_eq_true] at hc;have sC:op=.eql∨op=.neq:=by cases op<;>first|(left;rfl)|(right;rfl)|(cases hc.2)
   split at h
   ·rename_i d cv hu lH;split at h
    ·rename_i b hb;obtain⟨rfl,rfl⟩:=wR h;have hx:=aW x;rw[lH] at hx;have hy:a.eval y=y.lit:=by
      cases y<;>first|rfl|(cases hc.1)
     obtain⟨h1,h2⟩:=Wq (w:=w) hu hx hy hb op sC x y;refine pY (rv:=.bool (sb op b)) ok hM rfl (show zX M (.c (.bool _)) (.bool _) from rfl) ?_ hn;cases o;cases ho;show(do pure (.value (←(do eqGuard op t x y (a.eval x) (a.eval y);binOp op t (a.eval x) (a.eval y)))):Sem Next).run E.P w=_;simp only[Sem.run_bind,h1,Result.andThen_ok,h2,Sem.run_pure]
    ·split at h
     ·rename_i n hln ajt;obtain⟨mg,rfl,rfl⟩:=l9 h;have hx:=aW x;rw[lH] at hx;obtain⟨a',k',hx⟩:=Wr ok hx hln (by simpa using mg);obtain⟨h1,h2⟩:=Ws (P:=E.P) (w:=w) (a:=a') (n:=n) (k:=k') hu op sC x (.const (.slice none 0 0));have hy:a.eval (.const (.slice none 0 0))=.slice none 0 0:=rfl;refine pY (rv:=.bool (sb op false)) ok hM rfl (show zX M (.c (.bool _)) (.bool _) from rfl) ?_ hn;cases o;cases ho;show(do pure (.value (←(do eqGuard op t x (.const (.slice none 0 0)) (a.eval x) (a.eval (.const (.slice none 0 0)));binOp op t (a.eval x) (a.eval (.const (.slice none 0 0)))))):Sem Next).run E.P w=_;rw[hx,hy];simp only[Sem.run_bind,h1,Result.andThen_ok,h2,Sem.run_pure]
     ·exact h.elim
   ·exact h.elim
 ·rename_i op t x ho;exact gE (vXw ok hM (aW x) h) (by cases o;cases ho;rfl) hn
 ·rename_i s d x ho;split at h
  ·rename_i k1 k k2 n hs hd hx;obtain⟨rfl,rfl⟩:=wR h;have mh:=aW x;rw[hx] at mh;have mh:a.eval x=.int k2 n:=mh;refine pY (rv:=.int k (k.wrap n)) ok hM rfl (show zX M (.c (.int _ _)) (.int _ _) from rfl) ?_ hn;cases o;cases ho;show(do pure (.value (←convert s d (a.eval x))):Sem Next).run E.P w=_;simp[convert,run_underlying hs,run_underlying hd,mh,Conv.intToInt]
  ·rename_i e c hs hd hx;split at h
   ·rename_i xs he J6;obtain⟨rfl,rfl⟩:=wR h;have mh:=aW x;rw[hx] at mh;obtain⟨A,n,k,e1,e2⟩:=Wp (P:=E.P) (w:=w) ok mh J6 hM;refine pY (rv:=.string ⟨(nM xs).toArray⟩) ok hM rfl (show zX M (.c (.str xs)) _ from rfl) ?_ hn;cases o;cases ho;show(do pure (.value (←convert s d (a.eval x))):Sem Next).run E.P w=_;rw[e1] at e2⊢;simp only[Sem.run_bind,run_convert_bytes_string w s d e A n k hs he hd,e2,Result.andThen_ok,Sem.run_pure]
   ·exact h.elim
  ·exact h.elim
 ·rename_i f first captured ho
  cases hf:Nat.beq first.size 0 with
  |false=>rw[hf] at h;exact h.elim
  |true=>
   rw[hf] at h;simp only[cond_true] at h;split at h
   ·rename_i ids kK;obtain⟨rfl,rfl⟩:=wR h;have h0:first=#[]:=Array.eq_empty_of_size_eq_zero (by simpa using hf)
    refine pY (rv:=.func (.func f) #[] (captured.map a.eval)) ok hM rfl ?_ ?_ hn
    case refine_2=>
     cases o;cases ho;show(do pure (.value (←Instr.makeFunc (.func f) (first.map a.eval) (captured.map a.eval))):Sem Next).run E.P w=_;subst h0;simp[Instr.makeFunc]
    refine⟨_,rfl,?_⟩;rw[Array.toList_map];exact yKj aW (J5 _ _ _ kK)
   ·exact h.elim
 ·rename_i t l c ho;exact gE (vOo ok hM (aW l) (aW c) h) (by cases o;cases ho;rfl) hn
 ·rename_i t ho;exact gE (Wl ok hM h) (by cases o;cases ho;rfl) hn
 ·rename_i t x i ho;exact gE (vOk ok hM (aW x) (aW i) h) (by cases o;cases ho;rfl) hn
 ·rename_i t x i y ho;obtain⟨rfl,hr⟩:=Wo ok hM (aW x) (aW i) (aW y) h;exact vEi hr (by cases o;cases ho;rfl) hn
 ·rename_i t x lo hi mx ho;have hO:∀y:Option Operand,Ei M (y.map ev) (y.map a.eval):=fun y=>by
   cases y with
   |none=>trivial
   |some y=>exact aW y
  exact gE (VA ok hM (aW x) (hO lo) (hO hi) (hO mx) h) (by cases o;cases ho;rfl) hn
 ·rename_i t x f ho;exact gE (vN3 ok hM (aW x) h) (by cases o;cases ho;rfl) hn
 ·rename_i t x f ho;exact gE (Vq ok hM (aW x) h) (by cases o;cases ho;rfl) hn
 ·rename_i t x i ho;exact gE (Vo ok hM (aW x) (aW i) h) (by cases o;cases ho;rfl) hn
 ·rename_i t x i ho;split at h
  ·rename_i s;exact gE (vXc ok hM (aW i) h) (by cases o;cases ho;rfl) hn
  ·exact gE (vQw ok hM (aW x) (aW i) h) (by cases o;cases ho;rfl) hn
 ·rename_i t i ho;have ht:=aW t;split at h
  ·rename_i xs J6;rw[J6] at ht;obtain⟨vs,dI,bn⟩:=ht;split at h
   ·rename_i g cs hi;obtain⟨hp,rfl⟩:=UW h;have hl:=bn.length;have aS:i<xs.length:=by
     rcases Nat.lt_or_ge i xs.length with h|h
     ·exact h
     ·rw[List.getElem?_eq_none h] at hi;cases hi
    have kH:i<vs.size:=by simp at hl;omega
    have hc:=bn.get i aS (by simpa using kH);rw[List.getElem?_eq_getElem aS,Option.some.injEq] at hi;rw[hi] at hc;refine pY (rv:=vs[i]) ok hM rfl ?_ ?_ hn
    ·rcases U1 hp with⟨e1,rfl⟩|⟨e1,c,rfl,rfl⟩
     ·cases e1;exact hc
     ·cases e1;exact hc
    ·cases o;cases ho;show(do pure (.value (←Instr.extract (a.eval t) i)):Sem Next).run E.P w=_;rw[dI];simp[Instr.extract,kH]
   ·exact h.elim
  ·exact h.elim
 ·rename_i c ho;have cM:=yV7 aW c.args.toList;have exec:∀b,c.callee=.builtin b→∀s:Sem Value,(∀C,Go.builtin b c.argTypes o.type C (c.args.map a.eval)=(do pure (.value (←s)):Sem Next))→execOp a.eval o=(do pure (.value (←s)):Sem Next):=fun b hb s hs=>by
   cases o;cases ho;show(do let d←resolve a.eval c _;invoke d.target d.args:Sem Next)=_;unfold resolve;rw[hb];exact hs _
  have kL:c.args.map a.eval=(c.args.toList.map a.eval).toArray:=by cases c.args;simp
  split at h
  ·rename_i b kM;unfold UL at h;split at h
   ·split at h
    case h_2=>exact h.elim
    rename_i x hx;have h1:∃rx,(c.args.toList.map a.eval).toArray=#[rx]∧qA M x rx:=by
     rw[hx] at cM
     match hl:c.args.toList.map a.eval,cM with
     |[rx],hh=>exact⟨rx,rfl,hh.1⟩
    obtain⟨rx,Bx,mh⟩:=h1;split at h
    ·rename_i e hu;split at h
     ·rename_i n hlen;obtain⟨rfl,rfl⟩:=wR h;obtain⟨t,ht,hu⟩:=Option.bind_eq_some_iff.1 hu;obtain⟨A,k,rfl⟩:=Wj ok mh hlen;refine gE (s:=Builtin.len_ c.argTypes o.type (c.args.map a.eval)) ?_ (exec _ kM _ fun _=>rfl) hn;rw[kL,Bx];exact .pure ok hM (Wk ht hu) rfl
     ·exact h.elim
    ·exact h.elim
   ·split at h
    case h_2=>exact h.elim
    rename_i b x hx;have h1:∃rb rx,(c.args.toList.map a.eval).toArray=#[rb,rx]∧zX M b rb∧zX M x rx:=by
     rw[hx] at cM
     match hl:c.args.toList.map a.eval,cM with
     |[rb,rx],hh=>exact⟨rb,rx,rfl,hh.1,hh.2.1⟩
    obtain⟨rb,rx,Bx,Wv,mh⟩:=h1;split at h
    ·rename_i t t' hts;obtain⟨htt,h'⟩:=Bt h;have:t=t':=by simpa using htt
     subst this;refine gE (s:=Builtin.append_ c.argTypes o.type (c.args.map a.eval)) ?_ (exec _ kM _ fun _=>rfl) hn;have ht:c.argTypes=#[t,t]:=by
      have:=congrArg List.toArray hts
      simpa using this
     rw[kL,Bx,ht];exact Wg ok hM Wv mh h'
    ·exact h.elim
   ·split at h
    case h_2=>exact h.elim
    rename_i d s hx;have h1:∃rb rx,(c.args.toList.map a.eval).toArray=#[rb,rx]∧zX M d rb∧zX M s rx:=by
     rw[hx] at cM
     match hl:c.args.toList.map a.eval,cM with
     |[rb,rx],hh=>exact⟨rb,rx,rfl,hh.1,hh.2.1⟩
    obtain⟨rb,rx,Bx,Wv,mh⟩:=h1;split at h
    ·rename_i e hu;obtain⟨Ww,h⟩:=Bt h;obtain⟨t,ht,hu⟩:=Option.bind_eq_some_iff.1 hu;refine gE (s:=Builtin.copy_ c.argTypes o.type (c.args.map a.eval)) ?_ (exec _ kM _ fun _=>rfl) hn;rw[kL,Bx];exact vP4 ok hM ht hu (by simpa using Ww) Wv mh h
    ·exact h.elim
   ·split at h
    case h_2=>exact h.elim
    rename_i id lo n hx;have h1:∃rx,(c.args.toList.map a.eval).toArray=#[rx]∧qA M (.osl id (some (lo,n))) rx:=by
     rw[hx] at cM
     match hl:c.args.toList.map a.eval,cM with
     |[rx],hh=>exact⟨rx,rfl,hh.1⟩
    obtain⟨rx,Bx,mh⟩:=h1;split at h
    ·rename_i t ht;refine gE (s:=Builtin.clear_ c.argTypes o.type (c.args.map a.eval)) ?_ (exec _ kM _ fun _=>rfl) hn;rw[kL,Bx];obtain⟨rv,w',M',q1,q2⟩:=We (T:=o.type) ok hM mh h;refine⟨rv,w',M',?_,q2⟩;have e:(Builtin.clear_ c.argTypes o.type #[rx]).run E.P w=(Builtin.clear_ #[t] o.type #[rx]).run E.P w:=by
      simp only[Builtin.clear_,ht];rfl
     rw[e];exact q1
    ·exact h.elim
   ·refine gE (s:=Builtin.max_ c.argTypes o.type (c.args.map a.eval)) ?_ (exec _ kM _ fun _=>rfl) hn;rw[kL];exact vBl (lt:=false) (ts:=c.argTypes) (T:=o.type) ok hM cM h
   ·refine gE (s:=Builtin.min_ c.argTypes o.type (c.args.map a.eval)) ?_ (exec _ kM _ fun _=>rfl) hn;rw[kL];exact vBl (lt:=true) (ts:=c.argTypes) (T:=o.type) ok hM cM h
   ·exact h.elim
  ·rename_i f kM;split at h
   ·rename_i Wx cap hf;have hfv:=aW f;rw[hf] at hfv;obtain⟨cv,lH,J7⟩:=hfv;have bn:zO (zX M) (c.args.toList.map ev++cap.map fun id=>.c (.ptr id 0)) (c.args.map a.eval++cv).toList:=by
     rw[Array.toList_append,Array.toList_map];exact cM.append (zO.map_left J7)
    have ub:(execOp a.eval o).run E.P w=(callFunc Wx (c.args.map a.eval++cv)).run E.P w:=by
     cases o;cases ho;show(do let d←resolve a.eval c _;invoke d.target d.args:Sem Next).run E.P w=_;unfold resolve;rw[kM];simp only[lH,Deferred.ofValue,Sem.run_bind,Sem.run_pure,Result.andThen_ok,invoke,Array.empty_append]
    rcases hE.sums k _ Wx _ M.h v u h M w _ rfl hM ok bn with⟨h1,h2⟩|⟨rv,w',M',h1,hB,hv⟩
    case inr=>
     unfold Oper.wp;rw[ub,h1];exact hn M' w' rv hB hv
    unfold Oper.wp;rw[ub,h1,Oper.upon_enter];refine Calls.mono h2 fun e w' he=>?_
    cases e with
    |returned rv=>
     obtain⟨M',hB,hv⟩:=he;exact hn M' w' rv hB hv
    |panicked _=>exact he.elim
    |outgrown=>exact he.elim
   ·exact h.elim
  ·exact h.elim
 ·exact h.elim
section
variable {P:Program} {h h':Hp}
theorem vU3 {t a}(hh:∀id∈yU a,h id=h' id):DK P h t a=DK P h' t a:=by
 unfold DK;cases a with
 |c v=>cases v<;>first|rfl|(have:=hh _ (List.mem_singleton.2 rfl);simp_all)
 |_=>rfl
theorem yKt {v}(hh:∀id∈vO v,h id=h' id):oS h v=oS h' v:=by
 unfold oS;cases v<;>first|rfl|(have:=hh _ (List.mem_singleton.2 rfl);simp_all)
theorem Wy:∀{vs},(∀id∈vs.flatMap vO,h id=h' id)→nN h vs=nN h' vs
 |[],_=>rfl
 |v::vs,hh=>by
  simp  at hh;unfold nN;rw[yKt fun id hi=>hh id (.inl hi),Wy (by grind)]
theorem yVe {v vs}(e:oQ v=some vs):vs.flatMap vO=yU v:=by
 unfold oQ at e;split at e
 ·cases e;simp[yU]
 ·cases e;rfl
 ·cases e
theorem vYh {t a v}(ha:∀id∈yU a,h id=h' id)(hv:∀id∈yU v,h id=h' id):DL P h t a v=DL P h' t a v:=by
 unfold DL;cases e:oQ v with
 |none=>rfl
 |some vs=>
  have hf:nN h vs=nN h' vs:=Wy (by rw[yVe e];exact hv);cases a with
  |c x=>
   cases x with
   |mptr id i=>
    have h1:=ha _ (List.mem_singleton.2 rfl);simp only[h1];generalize h' id=ob;rcases ob with _|(_|_|_|_|_|_|_)<;>first|rfl|skip
    all_goals cases v with
    |c y=>cases y with
     |osl jd r=>cases r with
      |none=>
       have h2:=hv _ (List.mem_singleton.2 rfl);simp_all
      |some _=>rfl
     |_=>rfl
    |_=>rfl
   |ptr id off=>
    have h1:=ha _ (List.mem_singleton.2 rfl);simp_all
   |eptr id i off=>
    have h1:=ha _ (List.mem_singleton.2 rfl);simp_all
   |meptr id i j ver=>
    have h1:=ha _ (List.mem_singleton.2 rfl);simp[h1]
   |_=>rfl
  |_=>rfl
theorem Pp {v}(hh:∀id∈vO v,h id=h' id):kE h v=kE h' v:=by
 unfold kE;cases v<;>first|rfl|(have:=hh _ (List.mem_singleton.2 rfl);simp_all)
theorem Wz {v}(hh:∀id∈vO v,h id=h' id):DH h v=DH h' v:=by
 have e:=Pp hh;unfold DH;grind
theorem vSc {t x i}(hh:∀id∈yU x,h id=h' id):DM P h t x i=DM P h' t x i:=by
 unfold DM;generalize P.underlying t=d;rcases d with _|d
 ·rfl
 ·cases d with
  |slice e=>
   cases x with
   |c v=>
    cases i with
    |c iv=>
     cases iv with
     |int k n=>cases v<;>first|rfl|(have:=hh _ (List.mem_singleton.2 rfl);simp_all)
     |_=>cases v<;>rfl
    |_=>rfl
   |_=>rfl
  |array n e=>
   grind
  |_=>rfl
theorem WA {nm t}(h0:h nm=h' nm):DP P nm h t=DP P nm h' t:=by
 unfold DP;rw[h0]
theorem WB {t x i}(hh:∀id∈yU x,h id=h' id):DQ P h t x i=DQ P h' t x i:=by
 unfold DQ;split
 ·rename_i id n;rw[hh id (by simp[yU,vO])]
 ·rfl
theorem vWq {t x i y}(hh:∀id∈yU x,h id=h' id):DR P h t x i y=DR P h' t x i y:=by
 unfold DR;split
 ·rename_i id n b;rw[hh id (by simp[yU,vO])]
 ·rfl
theorem WC {t x lo hi mx}(hh:∀id∈yU x,h id=h' id):DS P h t x lo hi mx=DS P h' t x lo hi mx:=by
 unfold DS;split
 ·rfl
 ·rename_i id r _;rw[hh id (by simp[yU,vO])]
 ·rename_i id _;rw[hh id (by simp[yU,vO])]
 ·rename_i id off _;rw[hh id (by simp[yU,vO])]
 ·rfl
theorem WD {v}(hh:∀id∈yU v,h id=h' id):A7 h v=A7 h' v:=by
 unfold A7;cases v with
 |c v=>cases v with
  |osl jd r=>cases r with
   |none=>
    have h2:=hh _ (List.mem_singleton.2 rfl);simp_all
   |some _=>rfl
  |_=>rfl
 |_=>rfl
theorem yY4:∀{parts rows},(∀id∈(parts.map (·.2)).flatMap yU,h id=h' id)→A8 h rows parts=A8 h' rows parts
 |[],_,_=>rfl
 |(i,v)::rest,rows,hh=>by
  simp only[List.map_cons,List.flatMap_cons,List.mem_append] at hh;unfold A8;rw[WD fun id hi=>hh id (.inl hi)];cases A7 h' v with
  |none=>rfl
  |some p=>simp[yY4 fun id hi=>hh id (.inr hi)]
theorem yZ9 {t}:∀{parts xs},(∀id∈(parts.map (·.2)).flatMap yU,h id=h' id)→sd h t xs parts=sd h' t xs parts
 |[],_,_=>rfl
 |(i,v)::rest,xs,hh=>by
  simp only[List.map_cons,List.flatMap_cons,List.mem_append] at hh;unfold sd;cases e:oQ v with
  |none=>rfl
  |some vs=>
   have hf:nN h vs=nN h' vs:=Wy (by rw[yVe e];simp_all);simp[hf];cases nN h' vs with
   |none=>rfl
   |some p=>
    dsimp only;cases Js t p.1 with
    |none=>rfl
    |some x=>simp[yZ9 fun id hi=>hh id (.inr hi)]
theorem WE {mat nm t n parts}(h0:h nm=h' nm)(hh:∀id∈(parts.map (·.2)).flatMap yU,h id=h' id):
  DN P mat nm h t n parts=DN P mat nm h' t n parts:=by
 have e':∀ty:Ty,sd h ty (List.replicate n ty.dflt) parts=sd h' ty (List.replicate n ty.dflt) parts:=fun ty=>yZ9 hh
 unfold DN;rw[h0,yY4 hh];simp_all
theorem vUd {mat nm t l c}(h0:h nm=h' nm):DO P mat nm h t l c=DO P mat nm h' t l c:=by
 unfold DO;rw[h0]
theorem vZ4 {t v}(hh:∀id∈vO v,h id=h' id):tQ h t v=tQ h' t v:=by
 unfold tQ;cases v with
 |osl id r=>
  have:=hh _ (List.mem_singleton.2 rfl);simp_all
 |_=>rfl
theorem WG {mat:Bool}{nm:Nat}{t:TypeId}{b x:zZ}(h0:h nm=h' nm)(hb:∀id∈yU b,h id=h' id)(hx:∀id∈yU x,h id=h' id):DT P mat nm h t b x=DT P mat nm h' t b x:=by
 unfold DT;rw[h0];generalize P.underlying t=d;rcases d with _|d
 ·rfl
 cases d with
 |slice e=>
  generalize h' nm=on;cases on with
  |some _=>rfl
  |none=>
   cases b with
   |c b=>
    cases x with
    |c x=>
     have ht:∀ty,tQ h ty x=tQ h' ty x:=fun ty=>vZ4 hx
     simp only[ht];cases b with
     |osl id r=>
      have h1:=hb _ (List.mem_singleton.2 rfl);simp only[h1];cases x with
      |osl jd r2=>
       have h2:=hx _ (List.mem_singleton.2 rfl);grind
      |_=>cases mat with
       |false=>rfl
       |true=>
        generalize kD P e=et;rcases et with _|(_|_|_|_)<;>first|rfl|skip
        rename_i t2;cases t2<;>first|rfl|skip
        rename_i k;cases k<;>cases r<;>rfl
     |_=>cases mat with
      |false=>rfl
      |true=>
       generalize kD P e=et;rcases et with _|(_|_|_|_)<;>first|rfl|skip
       rename_i t2;cases t2<;>first|rfl|skip
       rename_i k;cases k<;>rfl
    |_=>rfl
   |_=>rfl
 |_=>rfl
theorem vZ7 {d s}(hd:∀id∈yU d,h id=h' id)(hs:∀id∈yU s,h id=h' id):DU h d s=DU h' d s:=by
 unfold DU;cases d with
 |c d=>
  cases s with
  |c s=>
   cases d with
   |bsl id off n=>
    have h1:=hd _ (List.mem_singleton.2 rfl);have h2:kE h s=kE h' s:=Pp hs;grind
   |_=>rfl
  |_=>simp
 |_=>rfl
end
theorem vUv {E}{A}{k pre}{o}{ev ui}{h}(he:∀x∈o.op.operands,ev x=ui x):lD E A k pre o ev h=lD E A k pre o ui h:=by
 obtain⟨dst,op,type,pos,after,guard⟩:=o;have fR:∀ps:Array (Nat×Operand),(∀x∈ps.map (·.2),ev x=ui x)→(ps.toList.map fun p=>(p.1,ev p.2))=(ps.toList.map fun p=>(p.1,ui p.2)):=fun ps hp=>
  List.map_congr_left (by grind)
 have maps:∀xs:Array Operand,(∀x∈xs,ev x=ui x)→xs.toList.map ev=xs.toList.map ui:=by simp
 cases op<;>simp only[Op.operands] at he<;>simp only[lD]
 case build t ps=>rw[fR ps fun x hx=>he x (by simpa using hx)]
 case buildSlice t n ps=>rw[fR ps fun x hx=>he x (by simpa using hx)]
 case makeFunc fn first captured=>
  cases fn<;>first|rfl|skip
  have:captured.toList.mapM (fun x=>xd (ev x))=captured.toList.mapM (fun x=>xd (ui x)):=by
   have h2:∀l:List Operand,(∀x∈l,ev x=ui x)→l.mapM (fun x=>xd (ev x))=l.mapM (fun x=>xd (ui x)):=fun l=>by
    induction l with
    |nil=>exact fun _=>rfl
    |cons y l ih=>simp_all
   exact by grind
  simp only[this]
 case call c=>
  obtain⟨callee,args,ats⟩:=c;have ha:=maps args fun x hx=>he x (by simp[Call.operands,hx])
  cases callee with
  |value f=>
   have hf:=he f (by simp[Call.operands]);simp only[hf,ha]
  |builtin b=>simp only[ha]
  |invoke _ _=>rfl
 case makeMap t r=>cases r<;>rfl
 case lookup t x i ok=>cases ok<;>simp_all
 case slice t x lo hi mx=>
  have h1:=he x (by simp);cases lo<;>cases hi<;>cases mx<;>simp_all
 all_goals (first|rfl|(simp only[he _ (by simp:_∈#[_])];done)|(simp_all;done))
def kg (S:OE):Prop:=∀k nm f (args:List zZ) h h',(args.any wU=false→∀id,(id∈args.flatMap yU∨nP nm id=true)→h id=h' id)→(args.any wU=true→h=h')→S k nm f args h=S k nm f args h'
theorem vV4 nm:nP nm nm=true:=by
 simp[nP]
theorem vOt {E}(hS:kg E.sums){A k pre o ev h h'}
  (hh:match sf ev o with|none=>h=h'|some l=>∀id,(id∈l∨nP (se pre o.dst) id=true)→h id=h' id):lD E A k pre o ev h=lD E A k pre o ev h':=by
 have full:h=h'→lD E A k pre o ev h=lD E A k pre o ev h':=fun e=>by rw[e]
 unfold sf at hh;dsimp only at hh;cases hq:yXf o.op with
 |true=>
  obtain⟨dst,op,type,pos,after,guard⟩:=o;cases op<;>first|rfl|cases hq
 |false=>
 rw[hq] at hh;simp only[cond_false] at hh;cases hc:(UM o.op&&(o.op.operands.toList.map ev).any wU) with
 |true=>rw[hc] at hh;exact full hh
 |false=>
  rw[hc] at hh;replace hh:∀id,(id∈(o.op.operands.toList.map ev).flatMap yU∨nP (se pre o.dst) id=true)→h id=h' id:=hh;have h0:h (se pre o.dst)=h' (se pre o.dst):=hh _ (.inr (vV4 _));have hx:∀x∈o.op.operands,∀id∈yU (ev x),h id=h' id:=by grind
  obtain⟨dst,op,type,pos,after,guard⟩:=o;dsimp only at h0 hx hc;cases op<;>simp only[Op.operands] at hx<;>simp only[lD]
  case alloc t=>rw[h0]
  case box t x=>rw[h0]
  case buildSlice t n ps=>
   exact WE h0 (by grind)
  case load t x=>exact vU3 (hx x (by simp))
  case store t x y=>exact vYh (hx x (by simp)) (hx y (by simp))
  case makeSlice t l c=>exact vUd h0
  case slice t x lo hi mx=>exact WC (hx x (by simp))
  case makeMap t r=>cases r<;>first|rfl|exact WA h0
  case lookup t x i ok=>cases ok<;>first|rfl|exact WB (hx x (by simp))
  case mapUpdate t x i y=>exact vWq (hx x (by simp))
  case indexAddr t x i=>exact vSc (hx x (by simp))
  case binOp op t x y p=>
   have hx:=hx x (by simp);have hl:∀v,ev x=.c v→DI h v=DI h' v:=fun v e=>by
    cases v with
    |osl id r=>cases r with
     |none=>simp only[DI,hx id (by rw[e];simp[yU,vO])]
     |some p=>rfl
    |_=>rfl
   split
   ·cases Uy y&&Ux op with
    |false=>rfl
    |true=>
     rename_i d v hu hv;simp only[hl v hv]
   ·rfl
  case convert s d x=>
   have hx:=hx x (by simp);have hs:∀v,ev x=.c v→DG h v=DG h' v:=fun v e=>by
    have:=Pp (h:=h) (h':=h') (v:=v) fun id an=>hx id (by rw[e];exact an)
    unfold DG;cases v<;>first|rfl|simp only[this]
   split
   ·rfl
   ·rename_i e c _ _ hc;rw[hs c hc]
   ·rfl
  case call c=>
   obtain⟨callee,args,ats⟩:=c;have ha:∀v∈args.toList.map ev,∀id∈yU v,h id=h' id:=fun v hv=>by
    obtain⟨x,By,rfl⟩:=List.mem_map.1 hv;exact hx x (by simp at By;simp[Call.operands,By])
   cases callee with
   |value f=>
    dsimp only;cases hf:ev f with
    |c fv=>cases fv with
     |fn Wx cap=>
      dsimp only;simp only[UM,Bool.true_and] at hc;have iV:cap=[]:=by
       have hm:ev f∈(Op.call ⟨.value f,args,ats⟩).operands.toList.map ev:=List.mem_map_of_mem (by simp[Op.operands,Call.operands]);have:=List.any_eq_false.1 hc _ hm;rw[hf] at this
       simpa[wU] using this
      subst iV;simp only[List.map_nil,List.append_nil];have hb:(args.toList.map ev).any wU=false:=by
       refine List.any_eq_false.2 fun v hv=>?_
       obtain⟨x,By,rfl⟩:=List.mem_map.1 hv;exact List.any_eq_false.1 hc _ (List.mem_map_of_mem (by simp at By;simp[Op.operands,Call.operands,By]))
      refine hS _ _ _ _ _ _ (fun _ id an=>?_) fun ht=>?_
      ·rcases an with an|an
       ·obtain⟨v,hv,an⟩:=List.mem_flatMap.1 an;exact ha v hv id an
       ·exact hh id (.inr an)
      ·rw[hb] at ht;cases ht
     |_=>rfl
    |_=>rfl
   |invoke _ _=>rfl
   |builtin b=>
    generalize hl:args.toList.map ev=l at ha;unfold UL;cases b<;>first|rfl|skip
    case len=>
     match l,ha with
     |[],_=>rfl
     |[v],ha=>cases v with
      |c v=>
       have:=Wz (ha (.c v) (by simp));simp only[this]
      |_=>rfl
     |v::_::_,_=>cases v<;>rfl
    case append=>
     match l,ha with
     |[],_|[_],_|_::_::_::_,_=>rfl
     |[b,x],ha=>
      have:=fun mat t=>WG (P:=E.P) (mat:=mat) (t:=t) h0 (ha b (by simp)) (ha x (by simp))
      simp only[this]
    case clear=>
     match l,ha with
     |[],_=>rfl
     |[v],ha=>cases v with
      |c v=>cases v with
       |osl id r=>cases r with
        |none=>rfl
        |some p=>
         have e:=ha (.c (.osl id (some p))) (by simp) id (by simp[yU,vO]);dsimp only;split
         ·unfold OC;rw[e]
         ·rfl
       |_=>rfl
      |_=>rfl
     |v::_::_,_=>cases v with
      |c v=>cases v with
       |osl id r=>cases r<;>rfl
       |_=>rfl
      |_=>rfl
    case copy=>
     match l,ha with
     |[],_|[_],_|_::_::_::_,_=>rfl
     |[b,x],ha=>
      have:=vZ7 (ha b (by simp)) (ha x (by simp));simp only[this]
  case makeFunc fn first captured=>cases fn<;>rfl
  all_goals rfl
end Go.Ab
set_option linter.unusedSectionVars false
namespace Go.Ab
structure kh (M M':zN):Prop where
 F:∀b,M.F b→M'.F b
 G:∀b,M.G b→M'.G b
 same:∀b,M.F b→M'.H[b]? =M.H[b]?
 sameG:∀b,M.G b→M'.H[b]? =M.H[b]?
 bsz:∀b,b<M.H.size→yE M'.H b=yE M.H b
 size:M.H.size≤M'.H.size
 frame:∀b,b<M.H.size→¬qU M b→M'.H[b]? =M.H[b]?
 own:∀b,qU M' b→b<M.H.size→qU M b
 Gb:∀b,M'.G b→b<M.H.size→M.G b∨qU M b
 Fb:∀b,M'.F b→b<M.H.size→M.F b∨qU M b
theorem yT.grow {M M'}(s:yT M M'):kh M M':=⟨s.ext.F,s.ext.G,s.ext.same,s.ext.sameG,s.ext.bsz,s.size,s.frame,s.own,s.Gb,s.Fb⟩
theorem kh.trans {M M' mY}(x:kh M M')(y:kh M' mY):kh M mY where
 F b h:=y.F b (x.F b h)
 G b h:=y.G b (x.G b h)
 same b h:=(y.same b (x.F b h)).trans (x.same b h)
 sameG b h:=(y.sameG b (x.G b h)).trans (x.sameG b h)
 bsz b h:=(y.bsz b (by have:=x.size;omega)).trans (x.bsz b h)
 size:=Nat.le_trans x.size y.size
 frame b h hn:=by
  have:=x.size;rw[y.frame b (by omega) fun ho=>hn (x.own b ho h),x.frame b h hn]
 own b ho h:=x.own b (y.own b ho (by have:=x.size;omega)) h
 Gb b hg h:=by
  rcases y.Gb b hg (by have:=x.size;omega) with k|k
  ·exact x.Gb b k h
  ·exact .inr (x.own b k h)
 Fb b hg h:=by
  rcases y.Fb b hg (by have:=x.size;omega) with k|k
  ·exact x.Fb b k h
  ·exact .inr (x.own b k h)
def Pq (M M':zN):Prop:=∀id C,M.κ id=some C→∃C',M'.κ id=some C'∧C'.blk=C.blk
structure uj (nl:Bool) (M M':zN):Prop where
 g:kh M M'
 k:nl=true→Pq M M'
theorem uj.step {nl M M' mY}(x:uj nl M M')(s:yT M' mY):uj nl M mY:=
 ⟨x.g.trans s.grow,fun h id C hC=>by
  obtain⟨C1,h1,e1⟩:=x.k h id C hC;obtain⟨C2,h2,le⟩:=s.ext.κ id C1 h1;exact⟨C2,h2,le.blk.trans e1⟩⟩
theorem uj.trans {M M' mY}(x:uj false M M')(y:kh M' mY):uj false M mY:=⟨x.g.trans y,by simp⟩
structure vY (nl:Bool) (na nt:Nat) (a0:Nat→Value) (M0:zN) (w0:World) (st:St) (a:Act) (w:World):Prop where
 ex:∃M:zN,M.h=st.h∧M.H=w.heap∧Ok M∧uj nl M0 M∧∀t,zX M (st.t t) (a.tmps.getD t undef)
 defers:a.defers=[]
 size:a.tmps.size=nt
 os:w.os=w0.os
 tape:w.tape=w0.tape
 output:w.output=w0.output
 keep:∀t,t<na→a.tmps.getD t undef=a0 t
theorem vNh {M}{st:St}{a:Act}(h:∀t,zX M (st.t t) (a.tmps.getD t undef)) x:zX M (st.ev x) (a.eval x):=by
 cases x with
 |tmp t=>exact h t
 |const v=>exact U0 M v
 |global g=>trivial
 |func f=>exact⟨#[],rfl,trivial⟩
theorem WH {t s v}(h:t s=v):jY t s v=t:=by
 funext n;unfold jY;cases e:Nat.beq n s with
 |false=>rfl
 |true=>
  simp_all
def Ey (ops:Array Oper)(o:Oper)(st:St):Option Bool:=match o.guard with
 |none=>some true
 |some (j,want)=>match OK ops j with
  |none=>none
  |some s=>match st.t s with
   |.c (.bool b)=>some (b==want)
   |.skp=>some false
   |_=>none
theorem yI6 {R ops o st yes no}{out:R}(h:OM ops o st yes no=some out):
  ∃b,Ey ops o st=some b∧(if b=true then yes st else no st)=some out:=by
 unfold OM at h;unfold Ey;cases hg:o.guard with
 |none=>simp_all
 |some p=>
  obtain⟨j,want⟩:=p;rw[hg] at h;dsimp only at h⊢;cases hs:OK ops j with
  |none=>simp_all
  |some s=>
   rw[hs] at h;dsimp only at h⊢;split at h
   ·rename_i b hb;rw[hb];refine⟨b==want,rfl,?_⟩;cases b with
    |true=>
     simp[WH hb] at h;cases want<;>exact h
    |false=>
     simp[WH hb] at h;cases want<;>exact h
   all_goals simp_all
theorem getD_some {a:Array Value}{s v}(h:a.getD s undef=v)(hv:v≠undef):a[s]? =some v:=by
 by_cases hs:s<a.size
 all_goals simp_all
theorem yJy {ops o st b nl na nt a0 M0 w0 w a}(h:Ey ops o st=some b)(R:vY nl na nt a0 M0 w0 st a w):Region.wanted o (yielded ops a.tmps)=b:=by
 obtain⟨M,_,_,_,_,ht⟩:=R.ex;unfold Ey at h;unfold Region.wanted;split at h
 ·simp_all
 ·rename_i j want hg;rw[hg];split at h
  ·cases h
  ·rename_i s hs;have hv:=ht s;have pZ:(ops[j]?).bind (·.dst)=some s:=hs;split at h
   ·rename_i b' hb;cases h;rw[hb] at hv;have:=getD_some hv (by nofun);simp only[yielded,pZ,Option.bind_some,this];rfl
   ·rename_i hb;cases h;rw[hb] at hv;have hv:a.tmps.getD s undef=undef:=hv;have:∀x:Option Value,(x=none∨x=some undef)→((match x with|some (.bool b)=>some b|_=>none:Option Bool)==some want)=false:=fun x hx=>by
     rcases hx with rfl|rfl<;>cases want<;>rfl
    refine this _ ?_;by_cases aS:s<a.tmps.size
    all_goals simp_all
   ·cases h
theorem ug.rel {nl na nt a0 M0 M M' w0 w w' st a dst v u rv}(R:vY nl na nt a0 M0 w0 st a w)(hh:M.h=st.h)(hs:uj nl M0 M)(ht:∀t,zX M (st.t t) (a.tmps.getD t undef))
  (hd:∀d,dst=some d→na≤d∧d<nt) (hB:ug M w u M' w') (hv:zX M' v rv):vY nl na nt a0 M0 w0 {t:=j8 st.t dst v,h:=qL st.h u} (a.put dst rv) w' where
 ex:=by
  refine⟨M',by rw[hB.h,hh],hB.H,hB.ok,hs.step hB.step,fun t=>?_⟩;cases dst with
  |none=>exact(ht t).ext hB.step.ext
  |some d=>
   show zX M' (jY st.t d v t) ((a.tmps.setIfInBounds d rv).getD t undef);have aS:d<a.tmps.size:=by rw[R.size];simp_all
   unfold jY;cases e:Nat.beq t d with
   |true=>
    simp_all
   |false=>
    have e:t≠d:=fun e'=>by simp_all
    have:=(ht t).ext hB.step.ext;simp[Array.getElem?_setIfInBounds_ne (Ne.symm e)] at this⊢;exact this
 defers:=by cases dst<;>exact R.defers
 size:=by cases dst<;>simp[Act.put,R.size]
 os:=hB.os.trans R.os
 tape:=hB.tape.trans R.tape
 output:=hB.output.trans R.output
 keep t h:=by
  cases dst with
  |none=>exact R.keep t h
  |some d=>
   have bx:d≠t:=by grind
   rw[←R.keep t h];simp[Act.put,Array.getElem?_setIfInBounds_ne bx]
theorem vY.skip {nl na nt a0 M0 w0 w st a dst}(hd:∀d,dst=some d→na≤d)(R:vY nl na nt a0 M0 w0 st a w):vY nl na nt a0 M0 w0 {st with t:=j8 st.t dst .skp} (a.put dst undef) w where
 ex:=by
  obtain⟨M,h1,h2,h3,h4,ht⟩:=R.ex;refine⟨M,h1,h2,h3,h4,fun t=>?_⟩;cases dst with
  |none=>exact ht t
  |some d=>
   show zX M (jY st.t d .skp t) ((a.tmps.setIfInBounds d undef).getD t undef);unfold jY;cases e:Nat.beq t d with
   |true=>
    have e:t=d:=by simp_all
    subst e;show(a.tmps.setIfInBounds t undef).getD t undef=undef;simp
   |false=>
    have e:t≠d:=fun e'=>by simp_all
    have:=ht t;simp[Array.getElem?_setIfInBounds_ne (Ne.symm e)] at this⊢;exact this
 defers:=by cases dst<;>exact R.defers
 size:=by cases dst<;>simp[Act.put,R.size]
 os:=R.os
 tape:=R.tape
 output:=R.output
 keep t h:=by
  cases dst with
  |none=>exact R.keep t h
  |some d=>
   have bx:d≠t:=by grind
   rw[←R.keep t h];simp[Act.put,Array.getElem?_setIfInBounds_ne bx]
section
variable {E:Env} {A:zV} {nl:Bool} {k pre na nt:Nat} {a0:Nat→Value} {R:Type} {M0:zN} {w0:World} {Q:Exit→Act→World→Prop}
theorem vY.op (hE:gD E){st a w}{o:Oper}{v u next}(r:vY nl na nt a0 M0 w0 st a w)(hd:∀d,o.dst=some d→na≤d∧d<nt)(hy:yQ (lD E A k pre o st.ev st.h) v u)
  (hn:∀a' w',vY nl na nt a0 M0 w0 {t:=j8 st.t o.dst v,h:=qL st.h u} a' w'→next a' w'):o.wp E.P a w next Q:=by
 obtain⟨M,h1,h2,h3,h4,ht⟩:=r.ex;rw[←h1] at hy;exact Wu hE h3 h2 (vNh ht) hy fun M' w' rv hB hv=>hn _ _ (hB.rel r h1 h4 ht hd hv)
theorem WI (hE:gD E){dst}(h:xe na nt dst=true):∀d,dst=some d→na≤d∧d<nt:=fun d hd=>by
 simp[xe] at h;simp_all
theorem yHg (hE:gD E){o st K}{out:R}(h:OJ E A k pre na nt o st K=some out):
  (∀d,o.dst=some d→na≤d∧d<nt)∧∃v u,yQ (lD E A k pre o st.ev st.h) v u∧K v u {t:=j8 st.t o.dst v,h:=qL st.h u}=some out:=by
 unfold OJ at h;cases hc:xe na nt o.dst with
 |false=>simp_all
 |true=>
  rw[hc] at h;exact⟨WI hE hc,yX.elim_some h⟩
theorem vCe (hE:gD E){ops}:∀l st K (out:R) a w,(∀p∈l,ops[p.1]? =some p.2)→ON E A k pre na nt ops l st K=some out→vY nl na nt a0 M0 w0 st a w→
  (∀bJ a' w',vY nl na nt a0 M0 w0 bJ a' w'→K bJ=some out→Q .normal a' w')→wpOps E.P ops Q (l.map (·.1)) a w
 |[],st,K,out,a,w,_,h,r,hK=>hK st a w r h
 |(i,o)::rest,st,K,out,a,w,hl,h,r,hK=>by
  have ho:ops[i]? =some o:=hl (i,o) (by simp);have ih:=fun st K out a w=>vCe hE rest st K out a w fun p hp=>hl p (by grind)
  obtain⟨b,hb,h⟩:=yI6 h;have hw:=yJy hb r;simp[wpOps,ho];cases b with
  |true=>
   rw[if_pos rfl] at h;rw[if_pos hw];obtain⟨hd,v,u,hy,h⟩:=yHg hE h;exact .inl (vY.op hE r hd hy (by grind))
  |false=>
   rw[if_neg (by simp[hw])];cases hc:xe na nt o.dst with
   |false=>simp_all
   |true=>
    rw[hc] at h;exact ih _ _ _ _ _ h (r.skip fun d hd=>(WI hE hc d hd).1) hK
end
def Ez (o:Oper)(acc:Array Nat):Nat:=o.after.foldl (fun s e=>if Region.binds .any e then s|||2^e.on|||acc.getD e.on 0 else s) 0
theorem vIm (acc:Array Nat) i:∀(l:List Edge) s,(l.foldl (fun s e=>if Region.binds .any e then s|||2^e.on|||acc.getD e.on 0 else s) s).testBit i=true→
  s.testBit i=true∨∃e∈l,Region.binds .any e=true∧(e.on=i∨(acc.getD e.on 0).testBit i=true)
 |[],s,h=>.inl h
 |e::l,s,h=>by
  rcases vIm acc i l _ h with h|⟨e',he,h⟩
  all_goals grind
def J8 (ops:Array Oper)(acc:Array Nat):Prop:=∀j,j<acc.size→∀i,(acc.getD j 0).testBit i=true→∃o,ops[j]? =some o∧∃e∈o.after.toList,Region.binds .any e=true∧(e.on=i∨(e.on<j∧(acc.getD e.on 0).testBit i=true))
theorem WJ {ops acc o}(h:J8 ops acc)(ho:ops[acc.size]? =some o):J8 ops (acc.push (Ez o acc)):=by
 have Bu:∀j,j<acc.size→(acc.push (Ez o acc)).getD j 0=acc.getD j 0:=fun j hj=>by
  simp[Array.getElem?_push,Nat.ne_of_lt hj]
 intro j hj i hb;simp  at hj;by_cases aS:j<acc.size
 ·rw[Bu j aS] at hb;obtain⟨o',h1,e,h2,h3,h4⟩:=h j aS i hb;grind
 ·have e:j=acc.size:=by omega
  subst e;rw[show(acc.push (Ez o acc)).getD acc.size 0=Ez o acc by simp] at hb;unfold Ez at hb;rw[←Array.foldl_toList] at hb;rcases vIm acc i _ _ hb with hb|⟨e,h2,h3,h4⟩
  all_goals grind
theorem vYz ops:J8 ops (Region.before ops):=by
 have key:∀(l:List Oper) (acc:Array Nat),J8 ops acc→(∀m (hm:m<l.length),ops[acc.size+m]? =some l[m])→
   J8 ops (l.foldl (fun acc o=>acc.push (Ez o acc)) acc):=by
  intro l
  induction l with
  |nil=>simp
  |cons o l ih=>
   intro acc h ho;refine ih _ (WJ h (ho 0 (by simp))) fun m hm=>?_
   have:=ho (m+1) (by simp;omega);grind
 have:=key ops.toList #[] (nofun) (by simp);unfold Region.before;rw[←Array.foldl_toList];exact this
theorem vKn {ops i j}(h:nQ (Region.before ops) i j=true):∃o,ops[j]? =some o∧∃e∈o.after.toList,Region.binds .any e=true∧(e.on=i∨(e.on<j∧nQ (Region.before ops) i e.on=true)):=by
 unfold nQ at h;by_cases hj:j<(Region.before ops).size
 ·exact vYz ops j hj i h
 simp_all
def J9 (ops:Array Oper)(S:Nat→Bool):Prop:=∀j o,S j=true→ops[j]? =some o→∀e∈o.after.toList,Region.binds .any e=true→S e.on=true
theorem yWn {ops S}(hS:J9 ops S){i}:∀n j,j=n→nQ (Region.before ops) i j=true→S j=true→S i=true:=by
 intro n
 induction n using Nat.strongRecOn with
 |_ n ih=>
  intro j hj h hs;obtain⟨o,ho,e,he,hb,h⟩:=vKn h;have hse:=hS j o hs ho e he hb;grind
theorem WK {ops S}(hS:J9 ops S){i j}(h:nQ (Region.before ops) i j=true)(hr:∀o,ops[j]? =some o→∀e∈o.after.toList,Region.binds .any e=true→S e.on=true):S i=true:=by
 obtain⟨o,ho,e,he,hb,h⟩:=vKn h;have hse:=hr o ho e he hb;rcases h with h|⟨h,hi⟩
 ·simp_all
 ·exact yWn hS _ _ rfl hi hse
structure It where
 i:Nat
 o:Oper
 v:zZ
 u:vL
 r:Option (List Nat)
 wt:Bool
def It.dn (pre:Nat)(it:It):DW:=⟨it.i,se pre it.o.dst,eY it.u,it.r⟩
def app (st:St)(it:It):St:={t:=j8 st.t it.o.dst it.v,h:=qL st.h it.u}
section
variable (E:Env) (A:zV) (k pre na nt:Nat) (ops:Array Oper)
structure Ka (st:St) (it:It):Prop where
 w:Ey ops it.o st=some it.wt
 y:it.wt=true→(∀d,it.o.dst=some d→na≤d∧d<nt)∧yQ (lD E A k pre it.o st.ev st.h) it.v it.u∧it.r=sf st.ev it.o
 n:it.wt=false→it.v=.skp∧it.u=[]∧∀d,it.o.dst=some d→na≤d∧d<nt
def WL (b:Array Nat)(x y:It):Prop:=nQ b x.i y.i=true∨(tT ops x.i y.i=true∧(x.wt=true→y.wt=true→tS (x.dn pre) (y.dn pre)=false))
end
section
variable {E:Env} {A:zV} {k pre na nt:Nat} {R:Type} {ops:Array Oper} {b:Array Nat}
theorem WM (hE:gD E):∀rest done st K (out:R),DX E A k pre na nt ops b rest done st K=some out→
  ∃dO:List It,dO.map (fun it=>(it.i,it.o))=rest∧K (dO.foldl app st)=some out∧(∀bR it post,dO=bR++it::post→Ka E A k pre na nt ops (bR.foldl app st) it)∧
   (∀d∈done,∀it∈dO,nQ b d.i it.i=true∨(tT ops d.i it.i=true∧(it.wt=true→tS d (it.dn pre)=false)))∧dO.Pairwise (WL pre ops b)
 |[],done,st,K,out,h=>⟨[],rfl,h,by simp,by simp,.nil⟩
 |(i,o)::rest,done,st,K,out,h=>by
  unfold DX at h;generalize hc:(done.all fun d=>nQ b d.i i||tT ops d.i i)=c at h;cases c with
  |false=>cases h
  |true=>
   have sD:∀d∈done,nQ b d.i i=true∨tT ops d.i i=true:=by grind
   rw[cond_true] at h;obtain⟨bw,hb,h⟩:=yI6 h;cases bw with
   |true=>
    rw[if_pos rfl] at h;obtain⟨hd,v,u,hy,h⟩:=yHg hE h;dsimp only at h;generalize dq:(done.all fun d=>nQ b d.i i|| !tS d ⟨i,se pre o.dst,eY u,sf st.ev o⟩)=c2 at h;cases c2 with
    |false=>simp_all
    |true=>
     rw[cond_true] at h;have JQ:∀d∈done,nQ b d.i i=true∨tS d ⟨i,se pre o.dst,eY u,sf st.ev o⟩=false:=by grind
     obtain⟨dO,h1,h2,h3,h4,h5⟩:=WM hE rest _ _ K out h;let it:It:=⟨i,o,v,u,sf st.ev o,true⟩;refine⟨it::dO,by grind,h2,fun bR Kb post e=>?_,fun d xr Kb o9=>?_,?_⟩
     ·cases bR with
      |nil=>
       obtain⟨rfl,rfl⟩:=e;exact⟨hb,by grind,by simp⟩
      |cons p bR=>
       simp only[List.cons_append,List.cons.injEq] at e;obtain⟨rfl,e⟩:=e;exact h3 bR Kb post e
     ·rcases List.mem_cons.1 o9 with rfl|o9
      ·rcases sD d xr with h|h
       ·grind
       ·rcases JQ d xr with h'|h'
        ·grind
        ·exact .inr ⟨h,fun _=>h'⟩
      simp_all
     ·refine List.pairwise_cons.2 ⟨fun y Bz=>?_,h5⟩;rcases h4 (it.dn pre) (List.mem_cons_self ..) y Bz with h|⟨h,h'⟩
      ·exact .inl h
      ·exact .inr ⟨h,by grind⟩
   |false=>
    rw[if_neg (by simp)] at h;have uk:xe na nt o.dst=true:=by
     grind
    rw[uk] at h;rw[cond_true] at h;obtain⟨dO,h1,h2,h3,h4,h5⟩:=WM hE rest _ _ K out h;let it:It:=⟨i,o,.skp,[],some [],false⟩;refine⟨it::dO,by grind,h2,fun bR Kb post e=>?_,fun d xr Kb o9=>?_,?_⟩
    ·cases bR with
     |nil=>
      obtain⟨rfl,rfl⟩:=e;exact⟨hb,by simp,fun _=>⟨rfl,rfl,WI hE uk⟩⟩
     |cons p bR=>
      simp  at e;obtain⟨rfl,e⟩:=e;exact h3 bR Kb post e
    ·grind
    ·refine List.pairwise_cons.2 ⟨fun y Bz=>?_,h5⟩;rcases h4 (it.dn pre) (List.mem_cons_self ..) y Bz with h|⟨h,h'⟩
     ·exact .inl h
     ·exact .inr ⟨h,by simp⟩
end
theorem vK8 {t t' d v x}(h:t x=t' x):j8 t d v x=j8 t' d v x:=by
 cases d with
 |none=>exact h
 |some d=>
  show jY t d v x=jY t' d v x;unfold jY;simp_all
theorem Pr {t d v x}(h:d≠some x):j8 t d v x=t x:=by
 cases d with
 |none=>rfl
 |some d=>
  show jY t d v x=_;unfold jY;cases e:Nat.beq x d with
  |false=>rfl
  |true=>simp_all
theorem WN {t t' v x}:j8 t (some x) v x=j8 t' (some x) v x:=by
 show jY t x v x=jY t' x v x;unfold jY;simp
theorem WO {t d e v u}(h:∀x,d=some x→e≠some x):j8 (j8 t d v) e u=j8 (j8 t e u) d v:=by
 funext x;by_cases hd:d=some x
 ·subst hd;rw[Pr (h x rfl)];exact WN
 ·rw[Pr hd];exact vK8 (Pr hd)
theorem BA {n}:∀{u h h'},h n=h' n→qL h u n=qL h' u n
 |[],_,_,e=>e
 | (id, o) :: u, h, h', e => BA (u := u) (by
   by_cases hn:n=id
   ·subst hn;rw[yW,yW]
   ·rw[yZ _ _ hn,yZ _ _ hn];exact e)
theorem yO7 {n}:∀{u h h'},n∈eY u→qL h u n=qL h' u n
 |(id,o)::u,h,h',hm=>by
  by_cases hu:n∈eY u
  ·exact yO7 (u:=u) hu
  ·have e:n=id:=by
    simp[eY] at hm hu;simp_all
   subst e;exact BA (u:=u) (by rw[yW,yW])
theorem vYu {u v h}(hd:∀a∈eY u,a∉eY v):qL (qL h u) v=qL (qL h v) u:=by
 funext n;by_cases hu:n∈eY u
 ·rw[Ep (hd n hu)];exact yO7 hu
 ·rw[Ep (u:=u) (h:=qL h v) hu];exact BA (Ep hu)
theorem WQ {st x y}(hd:∀t,x.o.dst=some t→y.o.dst≠some t)(hu:∀a∈eY x.u,a∉eY y.u):app (app st x) y=app (app st y) x:=by
 unfold app;simp;exact⟨WO hd,vYu hu⟩
theorem yW5 {x}:∀{l:List It} {st},(∀y∈l,(∀t,x.o.dst=some t→y.o.dst≠some t)∧∀a∈eY x.u,a∉eY y.u)→app (l.foldl app st) x=l.foldl app (app st x)
 |[],_,_=>rfl
 |y::l,st,h=>by
  rw[List.foldl_cons,List.foldl_cons,WQ (by grind) (by grind)];exact yW5 (by grind)
theorem Ps t:∀(l:List It) st bJ,st.t t=bJ.t t→(l.foldl app st).t t=((l.filter fun it=>it.o.dst==some t).foldl app bJ).t t
 |[],_,_,h=>h
 |y::l,st,bJ,h=>by
  rw[List.foldl_cons,List.filter_cons];cases hy:y.o.dst==some t with
  |true=>
   exact Ps t l _ _ (vK8 h)
  |false=>
   exact Ps t l _ _ (by
    show j8 st.t y.o.dst y.v t=_;rw[Pr (by simp_all)];exact h)
theorem Pt n:∀(l:List It) st bJ,st.h n=bJ.h n→(l.foldl app st).h n=((l.filter fun it=>(eY it.u).contains n).foldl app bJ).h n
 |[],_,_,h=>h
 |y::l,st,bJ,h=>by
  rw[List.foldl_cons,List.filter_cons];cases hy:(eY y.u).contains n with
  |true=>
   exact Pt n l _ _ (BA h)
  |false=>
   exact Pt n l _ _ (by
    show qL st.h y.u n=_;rw[Ep (by simpa[eY] using hy)];exact h)
theorem vBd {S W bR post}{it:It}(o9:S it=false)(h1:∀y∈bR,W y=true→S y=true)(h2:∀y∈post,W y=true→S y=false):((bR++it::post).filter S).filter W=bR.filter W:=by
 have e1:(bR.filter S).filter W=bR.filter W:=by
  rw[List.filter_filter];refine List.filter_congr fun y hy=>?_
  simp_all
 simp_all
def EA (d:DW)(a:Nat):Prop:=match d.refs with
 |none=>True
 |some l=>a∈l∨nP d.nm a=true
theorem WR {x y}(h:tS x y=false):(∀a∈x.upd,¬EA y a)∧(∀a∈y.upd,¬EA x a)∧∀a∈x.upd,a∉y.upd:=by
 unfold tS at h;have key:∀(d e:DW),OI d.upd e.refs=false→d.upd.any (nP e.nm)=false→∀a∈d.upd,¬EA e a:=by
  intro d e hm ho a ha hl;unfold OI at hm;unfold EA at hl;cases hr:e.refs with
  |none=>
   simp_all
  |some l=>
   simp_all
 refine⟨by grind,by grind,fun a ha hb=>?_⟩;simp_all
section
variable {E:Env} {A:zV} {k pre na nt:Nat} {R:Type} {ops:Array Oper}
theorem WS {i j x y}(hi:ops[i]? =some x)(hj:ops[j]? =some y)(h:tT ops i j=true):
  (∀d,x.dst=some d→d∉y.looksAt ops)∧(∀d,x.dst=some d→y.dst≠some d)∧(∀d,y.dst=some d→d∉x.looksAt ops):=by
 unfold tT at h;rw[hi,hj] at h;exact Oper.apart_spec h
theorem vNu (hE:gD E)(hS:kg E.sums){S}(hC:J9 ops S){st bR post it}(gW:∀y∈bR++it::post,ops[y.i]? =some y.o)(hg:Ka E A k pre na nt ops (bR.foldl app st) it)
  (hu:∀y∈bR++it::post,y.wt=false→y.u=[]) (hp:(bR++it::post).Pairwise (WL pre ops (Region.before ops))) (o9:S it.i=false)
  (hr:∀o,ops[it.i]? =some o→∀e∈o.after.toList,Region.binds .any e=true→S e.on=true):
  Ka E A k pre na nt ops (((bR++it::post).filter fun y=>S y.i).foldl app st) it∧
   (∀y∈post,S y.i=true→(∀t,it.o.dst=some t→y.o.dst≠some t)∧∀a∈eY it.u,a∉eY y.u):=by
 have mi:ops[it.i]? =some it.o:=gW it (by simp);obtain⟨Pk,J2,hp3⟩:=List.pairwise_append.1 hp;have before:∀y∈bR,S y.i=false→tT ops y.i it.i=true∧(y.wt=true→it.wt=true→tS (y.dn pre) (it.dn pre)=false):=fun y hy hs=>by
  rcases hp3 y hy it (by simp) with h|h
  ·rw[WK hC h hr] at hs;cases hs
  ·exact h
 have behind:∀y∈post,S y.i=true→tT ops it.i y.i=true∧(it.wt=true→y.wt=true→tS (it.dn pre) (y.dn pre)=false):=fun y hy hs=>by
  rcases(List.pairwise_cons.1 J2).1 y hy with h|h
  ·rw[yWn hC _ _ rfl h hs] at o9;cases o9
  ·exact h
 have xu:∀t,t∈it.o.looksAt ops→(((bR++it::post).filter fun y=>S y.i).foldl app st).t t=(bR.foldl app st).t t:=fun t ht=>by
  rw[Ps t _ st st rfl,Ps t bR st st rfl,vBd o9 (fun y hy hw=>?_) fun y hy hw=>?_]
  ·cases hs:S y.i with
   |true=>rfl
   |false=>
    have:=(WS (gW y (by simp[hy])) mi (before y hy hs).1).1 t (by simpa using hw);exact absurd ht this
  ·cases hs:S y.i with
   |false=>rfl
   |true=>
    have:=(WS mi (gW y (by simp[hy])) (behind y hy hs).1).2.2 t (by simpa using hw);simp_all
 have hEq:it.wt=true→∀n,EA (it.dn pre) n→(((bR++it::post).filter fun y=>S y.i).foldl app st).h n=(bR.foldl app st).h n:=fun hw n hn=>by
  rw[Pt n _ st st rfl,Pt n bR st st rfl,vBd o9 (fun y hy Bz=>?_) fun y hy Bz=>?_]
  ·cases hs:S y.i with
   |true=>rfl
   |false=>
    have hm:n∈eY y.u:=by simpa using Bz
    have WT:y.wt=true:=by
     cases h:y.wt with
     |true=>rfl
     |false=>rw[hu y (by simp[hy]) h] at hm;simp[eY] at hm
    exact absurd hn ((WR ((before y hy hs).2 WT hw)).1 n hm)
  ·cases hs:S y.i with
   |false=>rfl
   |true=>
    have hm:n∈eY y.u:=by simpa using Bz
    have WT:y.wt=true:=by
     cases h:y.wt with
     |true=>rfl
     |false=>rw[hu y (by simp[hy]) h] at hm;simp[eY] at hm
    exact absurd hn ((WR ((behind y hy hs).2 hw WT)).2.1 n hm)
 generalize hL:((bR++it::post).filter fun y=>S y.i).foldl app st=Pu at xu hEq⊢;refine⟨⟨?_,fun hw=>?_,hg.n⟩,fun y hy hs=>?_⟩
 ·rw[←hg.w];unfold Ey;cases BB:it.o.guard with
  |none=>rfl
  |some p=>
   obtain⟨j,want⟩:=p;dsimp only;cases dP:OK ops j with
   |none=>rfl
   |some s=>
    have:s∈it.o.looksAt ops:=by
     have dP:(ops[j]?).bind (·.dst)=some s:=dP;simp only[Oper.looksAt,BB,dP];simp
    simp_all
 ·obtain⟨hd,hy,hrf⟩:=hg.y hw;have aW:∀x∈it.o.op.operands,Pu.ev x=(bR.foldl app st).ev x:=fun x hx=>by
   cases x with
   |tmp t=>exact xu t (List.mem_append_left _ (List.mem_filterMap.2 ⟨.tmp t,by simpa using hx,rfl⟩))
   |_=>rfl
  have hrefs:sf Pu.ev it.o=sf (bR.foldl app st).ev it.o:=by
   unfold sf;have:it.o.op.operands.toList.map Pu.ev=it.o.op.operands.toList.map (bR.foldl app st).ev:=List.map_congr_left (by grind);simp only[this]
  refine⟨hd,?_,by rw[hrf,hrefs]⟩;rw[vUv aW];have hh : lD E A k pre it.o (bR.foldl app st).ev Pu.h = lD E A k pre it.o (bR.foldl app st).ev (bR.foldl app st).h := vOt hS (by
   rw[←hrf];have:=hEq hw;unfold EA at this;have hdn:(it.dn pre).refs=it.r:=rfl;rw[hdn] at this;cases h:it.r with
   |none=>
    grind
   |some l=>
    rw[h] at this;exact this)
  rw[hh];exact hy
 ·obtain⟨h1,h2⟩:=behind y hy hs;refine⟨(WS mi (gW y (by simp[hy])) h1).2.1,fun a ha hb=>?_⟩;have hwi:it.wt=true:=by
   cases h:it.wt with
   |true=>rfl
   |false=>rw[hu it (by simp) h] at ha;simp[eY] at ha
  have hwy:y.wt=true:=by
   cases h:y.wt with
   |true=>rfl
   |false=>rw[hu y (by simp[hy]) h] at hb;simp[eY] at hb
  exact(WR (h2 hwi hwy)).2.2 a ha hb
end
theorem vTl {ops}(h:Jz ops=true){j o}(ho:ops[j]? =some o):∀e∈o.after.toList,Region.binds .any e=true→e.on<j:=by
 intro e he hb;have hm:(o,j)∈ops.toList.zipIdx:=by
  grind
 have:=List.all_eq_true.1 (List.all_eq_true.1 h _ hm) e he;simp_all
theorem Pv {L:Array Bool}{i}(hi:i<L.size) j:(L.setIfInBounds i true).getD j false=(L.getD j false||i==j):=by
 by_cases h:i=j
 all_goals simp_all
section
variable {E:Env} {A:zV} {nl:Bool} {k pre na nt:Nat} {a0:Nat→Value} {R:Type} {ops:Array Oper} {M0:zN} {w0:World} {Q:Exit→Act→World→Prop}
theorem WU (hE:gD E)(hS:kg E.sums)(he:Jz ops=true){dO st}(hi:dO.map (·.i)=List.range ops.size)(gW:∀y∈dO,ops[y.i]? =some y.o)(hg:∀bR it post,dO=bR++it::post→Ka E A k pre na nt ops (bR.foldl app st) it)
  (hp:dO.Pairwise (WL pre ops (Region.before ops))) (hQ:∀a w,vY nl na nt a0 M0 w0 (dO.foldl app st) a w→Q .normal a w):
  ∀fuel L a w,L.size=ops.size→(∃U:List Nat,U.length≤fuel∧∀j,j<ops.size→L.getD j false=false→j∈U)→J9 ops (fun j=>L.getD j false)→
   vY nl na nt a0 M0 w0 ((dO.filter fun y=>L.getD y.i false).foldl app st) a w→wpAny E.P .any ops Q fuel L a w:=by
 have hu:∀y∈dO,y.wt=false→y.u=[]:=fun y hy hw=>by
  obtain⟨bR,post,e⟩:=List.append_of_mem hy;exact((hg bR y post e).n hw).2.1
 have WV:∀y∈dO,y.i<ops.size:=fun y hy=>(Array.getElem?_eq_some_iff.1 (gW y hy)).1
 have dJ:(dO.map (·.i)).Nodup:=by rw[hi];exact List.nodup_range
 have full:∀(L:Array Bool) (a:Act) (w:World),(∀j,j<ops.size→L.getD j false=true)→vY nl na nt a0 M0 w0 ((dO.filter fun y=>L.getD y.i false).foldl app st) a w→Q .normal a w:=fun L a w hl r=>by
  rw[List.filter_eq_self.2 fun y hy=>hl y.i (WV y hy)] at r;exact hQ a w r
 have rdy:∀(L:Array Bool),L.size=ops.size→Region.ready .any ops L=[]→∀j,j<ops.size→L.getD j false=true:=fun L hL hr j=>by
  induction j using Nat.strongRecOn with
  |_ j ih=>
   intro hj;cases hb:L.getD j false with
   |true=>rfl
   |false=>
    have ho:ops[j]? =some ops[j]:=Array.getElem?_eq_getElem hj;have:j∈Region.ready .any ops L:=mem_ready.2 ⟨by
     have WW:j<L.size:=by omega
     simpa[Array.getD,WW] using hb,ops[j],ho,fun e he' bg=>by
      have aS:=vTl he ho e (by simpa using he') bg;exact ih e.on aS (by omega)⟩
    rw[hr] at this;cases this
 intro fuel
 induction fuel with
 |zero=>
  intro L a w hL hU hC r;obtain⟨U,hUl,hU⟩:=hU;have hU0:U=[]:=List.eq_nil_of_length_eq_zero (by omega);have bn:∀j,j<ops.size→L.getD j false=true:=by grind
  refine⟨?_,full L a w bn r⟩;cases hr:Region.ready .any ops L with
  |nil=>rfl
  |cons j l=>
   have:j∈Region.ready .any ops L:=by rw[hr];exact List.mem_cons_self ..
   obtain⟨h0,o,ho,_⟩:=mem_ready.1 this;have hj:=(Array.getElem?_eq_some_iff.1 ho).1;have:=bn j hj;have WW:j<L.size:=by omega
   simp[Array.getD,WW] at this h0;rw[this] at h0;cases h0
 |succ fuel ih=>
  intro L a w hL hU hC r;refine⟨fun hr=>full L a w (rdy L hL hr) r,fun i hir=>?_⟩;obtain⟨h0,o,ho,BC⟩:=mem_ready.1 hir;have Kc:=(Array.getElem?_eq_some_iff.1 ho).1;have Ke:i<L.size:=by omega
  have um:L.getD i false=false:=by simpa[Array.getD,Ke] using h0
  obtain⟨it,o9,uo⟩:∃it∈dO,it.i=i:=by
   have:i∈dO.map (·.i):=by rw[hi];simpa using Kc
   obtain⟨it,h1,h2⟩:=List.mem_map.1 this;exact⟨it,h1,h2⟩
  obtain⟨bR,post,e⟩:=List.append_of_mem o9;have mi:ops[it.i]? =some it.o:=gW it o9;have iX:o=it.o:=by rw[uo,ho] at mi;exact Option.some.inj mi
  subst iX;have xv:=vNu hE hS hC (by rw[←e];exact gW) (hg bR it post e) (by rw[←e];exact hu) (by rw[←e];exact hp) (by rw[uo];exact um) (by grind);rw[←e] at xv;obtain⟨BB,Kf⟩:=xv;have hw:=yJy BB.w r;have yP:(dO.filter fun y=>(L.setIfInBounds i true).getD y.i false).foldl app st=app ((dO.filter fun y=>L.getD y.i false).foldl app st) it:=by
   have other:∀y∈bR++post,(L.setIfInBounds i true).getD y.i false=L.getD y.i false:=fun y hy=>by
    rw[Pv Ke];grind
   have e1:dO.filter (fun y=>L.getD y.i false)=bR.filter (fun y=>L.getD y.i false)++post.filter (fun y=>L.getD y.i false):=by
    conv=>lhs;rw[e]
    rw[List.filter_append,List.filter_cons,if_neg (by rw[uo,um];simp)]
   have e2:dO.filter (fun y=>(L.setIfInBounds i true).getD y.i false)=bR.filter (fun y=>L.getD y.i false)++it::post.filter (fun y=>L.getD y.i false):=by
    conv=>lhs;rw[e]
    rw[List.filter_append,List.filter_cons,if_pos (by rw[uo,Pv Ke];simp),List.filter_congr fun y hy=>other y (List.mem_append_left _ hy),List.filter_congr fun y hy=>other y (List.mem_append_right _ hy)]
   rw[e1,e2,List.foldl_append,List.foldl_append,List.foldl_cons];exact (yW5 fun y hy=>by
    obtain⟨WX,WY⟩:=List.mem_filter.1 hy;exact Kf y WX WY).symm
  have aF:J9 ops fun j=>(L.setIfInBounds i true).getD j false:=fun j o' hj lZ ed hed hb=>by
   dsimp only at hj⊢;rw[Pv Ke] at hj;refine getD_set_true ?_;rw[Bool.or_eq_true] at hj;rcases hj with hj|hj
   ·exact hC j o' hj lZ ed hed hb
   ·have:i=j:=by simpa using hj
    subst this;rw[ho] at lZ;cases lZ;exact BC ed (by simpa using hed) hb
  have hU':∃U:List Nat,U.length≤fuel∧∀j,j<ops.size→(L.setIfInBounds i true).getD j false=false→j∈U:=by
   obtain⟨U,hl,hU⟩:=hU;refine⟨U.erase i,?_,fun j hj hb=>?_⟩
   ·rw[List.length_erase_of_mem (hU i Kc um)];omega
   ·rw[Pv Ke,Bool.or_eq_false_iff] at hb;exact(List.mem_erase_of_ne (by have:=hb.2;simp at this;exact fun h=>this h.symm)).2 (hU j hj hb.1)
  unfold wpOp;rw[ho];dsimp only;cases BD:it.wt with
  |true=>
   rw[BD] at hw;rw[if_pos hw];obtain⟨hd,hy,_⟩:=BB.y BD;refine .inl (vY.op hE r hd hy fun a' w' r'=>?_);exact ih _ _ _ (by simpa using hL) hU' aF (by rw[yP];exact r')
  |false=>
   rw[BD] at hw;rw[if_neg (by simp[hw])];obtain⟨hv,sn,uk⟩:=BB.n BD;refine ih _ _ _ (by simpa using hL) hU' aF ?_;rw[yP];have:=r.skip (dst:=it.o.dst) fun d hd=>(uk d hd).1
   unfold app;rw[hv,sn];exact this
theorem WZ (hE:gD E)(hS:kg E.sums){id st K}{out:R}{a w}(hm:E.P.follows .mixedOrders=true)(he:Jz ops=true)
  (h:DX E A k pre na nt ops (Region.before ops) (ops.toList.zipIdx.map fun p=>(p.2,p.1)) [] st K=some out) (r:vY nl na nt a0 M0 w0 st a w)
  (hK:∀bJ a' w',vY nl na nt a0 M0 w0 bJ a' w'→K bJ=some out→Q .normal a' w'):(Code.region id ops true).wp E.P Q a w:=by
 obtain⟨dO,h1,h2,h3,_,h5⟩:=WM hE _ _ _ _ _ h;have hi:dO.map (·.i)=List.range ops.size:=by
  have:=congrArg (List.map Prod.fst) h1;rw[List.map_map,List.map_map] at this;refine Eq.trans this ?_;have e:(Prod.fst∘fun p:Oper×Nat=>(p.2,p.1))=Prod.snd:=rfl;rw[e,List.zipIdx_map_snd,←List.range_eq_range'];simp
 have gW:∀y∈dO,ops[y.i]? =some y.o:=fun y hy=>by
  have:(y.i,y.o)∈ops.toList.zipIdx.map fun p=>(p.2,p.1):=by grind
  grind
 refine wp_region_any hm (WU hE hS he (nt:=nt) (na:=na) (a0:=a0) (M0:=M0) (w0:=w0) hi gW h3 h5 (fun a w r=>hK _ a w r h2) _ _ _ _ (by simp) ⟨List.range ops.size,by simp,by grind⟩ (fun j o hj=>?_) ?_)
 ·by_cases h:j<ops.size<;>simp[h] at hj
 ·rw[List.filter_eq_nil_iff.2 fun y hy=>by
   by_cases h:y.i<ops.size<;>simp[h]]
  exact⟨r.ex,r.defers,r.size,r.os,r.tape,r.output,r.keep⟩
end
end Go.Ab
