/- part 1 -/
import Derived.Test.YtnojdbmhfbhdjaaGreatGiAbA
import Derived.Laws.BytesString
set_option linter.unusedVariables false
set_option linter.unusedSimpArgs false
namespace Go.Ab
def zK.move (M:zK)(nm:Nat)(C:qC)(h:Hp)(H:Array Go.Obj):zK:={M with κ:=κset M.κ nm C,h:=h,H:=H}
theorem zK.move_ok {M}(ok:Ok M){nm:Nat}{o':Obj}{C':qC}{h'}{H'}(J:Nat→Prop)(aU:M.h nm=none)
    (hJ:∀j,J j→∃o,M.h j=some o∧o.owned=true∧h' j=some .gone) (JB:h' nm=some o') (cc:∀n,¬J n→n≠nm→h' n=M.h n) (dK:M.H.size≤H'.size)
    (hH:∀b,b<M.H.size→(∀j C,J j→M.κ j=some C→b∉C.fp)→H'[b]? =M.H[b]?) (cR:∀b,b<M.H.size→qU H' b=qU M.H b)
    (rS:∀b∈C'.fp,(M.H.size≤b∧b<H'.size)∨∃j C,J j∧M.κ j=some C∧b∈C.fp)
    (hO:yS M (M.move nm C' h' H')→yY (M.move nm C' h' H') o' C'):Ok (M.move nm C' h' H')∧yO M (M.move nm C' h' H'):=by
  have hJo:∀j C b,J j→M.κ j=some C→b∈C.fp→qN M b:=fun j C b hj hC hb=>by
    obtain⟨o,h1,h2,_⟩:=hJ j hj;exact⟨j,o,C,h1,h2,hC,hb⟩
  have wz:∀b,M.F b→∀j C,J j→M.κ j=some C→b∉C.fp:=fun b hF j C hj hC hb=>(ok.own b (hJo j C b hj hC hb)).1 hF
  have x:yS M (M.move nm C' h' H'):=
    { κ:=fun n D h=>by
        have:n≠nm:=fun e=>by rw[e,ok.non nm aU] at h;cases h
        exact⟨D,by simp only[zK.move];rw[κset_ne _ _ this];exact h,D.le_refl⟩
      F:=fun _ h=>h
      G:=fun _ h=>h
      same:=fun b h=>hH b (ok.Flt b h) (wz b h)
      sameG:=fun b h=>hH b (ok.Flt b (ok.GF b h)) (wz b (ok.GF b h))
      bsz:=cR}
  have U0:∀j,J j→j≠nm:=by grind
  have dm:∀n q,n≠nm→h' n=some q→q.owned=true→¬J n∧M.h n=some q:=by
    intro n q e h1 h2;by_cases hj:J n
    · obtain⟨o,_,_,k⟩:=hJ n hj;rw[k] at h1;cases h1;cases h2
    simp_all
  have tN:∀b,qN (M.move nm C' h' H') b→(M.H.size≤b∧b<H'.size)∨qN M b:=by
    rintro b ⟨n,q,D,h1,h2,h3,h4⟩
    by_cases e:n=nm
    · subst e;simp only[zK.move,κset_same,Option.some.injEq] at h3;grind
    · obtain⟨_,fg⟩:=dm n q e h1 h2;simp only[zK.move] at h3;rw[κset_ne _ _ e] at h3;exact .inr ⟨n,q,D,fg,h2,h3,h4⟩
  refine⟨ok.build x (fun n=>n=nm∨J n) (fun n hn=>cc n (by grind) (by grind)) (fun n hn=>κset_ne _ _ fun e=>hn (.inl e)) ?_ ?_ dK ?_ ?_ ?_ ok.GF ?_,x,dK,?_,?_,fun b h _=>.inl h,fun b h _=>.inl h⟩
  · intro n q D hn h1 h2 h3 b hb;refine hH b (ok.own b ⟨n,q,D,h1,h2,h3,hb⟩).2 fun j C hj hC hc=>?_
    obtain⟨o,k1,k2,_⟩:=hJ j hj;exact ok.disj n j q o D C b (by grind) h1 k1 h2 k2 h3 hC hb hc
  · intro n q D hn h1 h2 h3 b hb;exact(ok.own b ⟨n,q,D,h1,h2,h3,hb⟩).1
  · rintro n q (rfl|hj) h1
    · simp only[zK.move] at h1;rw[JB] at h1;cases h1;exact⟨C',κset_same _ _ _,hO x⟩
    · obtain⟨o,k1,_,k⟩:=hJ n hj;simp only[zK.move] at h1;rw[k] at h1;cases h1;obtain⟨C,hC,_⟩:=ok.obj n o k1;exact⟨C,by simp only[zK.move];rw[κset_ne _ _ (U0 n hj)];exact hC,trivial⟩
  · rintro n (rfl|hj) h1
    · simp only[zK.move] at h1;rw[JB] at h1;cases h1
    · obtain⟨o,_,_,k⟩:=hJ n hj;simp only[zK.move] at h1;rw[k] at h1;cases h1
  · rintro n q D b (rfl|hj) h1 h2 h3 hb
    · simp only[zK.move,κset_same,Option.some.injEq] at h3;subst h3;rcases rS b hb with JC|⟨j,C,hj,hC,bg⟩
      · refine⟨fun k qk Dk hk k1 k2 k3 k4=>?_,fun hF=>?_,JC.2⟩
        · obtain⟨_,DZ⟩:=dm k qk hk k1 k2;simp only[zK.move] at k3;rw[κset_ne _ _ hk] at k3;have:=(ok.own b ⟨k,qk,Dk,DZ,k2,k3,k4⟩).2;omega
        · have:=ok.Flt b hF;omega
      · have ho:=ok.own b (hJo j C b hj hC bg);refine⟨fun k qk Dk hk k1 k2 k3 k4=>?_,ho.1,by simp only[zK.move];omega⟩;obtain⟨hkJ,DZ⟩:=dm k qk hk k1 k2;simp only[zK.move] at k3;rw[κset_ne _ _ hk] at k3;obtain⟨o,j1,j2,_⟩:=hJ j hj;exact ok.disj k j qk o Dk C b (by grind) DZ j1 k2 j2 k3 hC k4 bg
    · obtain⟨o,_,_,k⟩:=hJ n hj;simp only[zK.move] at h1;grind
  · intro b hb;have:=ok.Flt b hb;simp only[zK.move];omega
  · intro b hb hn;exact hH b hb (by grind)
  grind
theorem yGz {P M w}(ok:Ok M)(hM:M.H=w.heap){nm vs us e s}(aU:M.h nm=none)
  (dL:zN (zX M) vs us.toList) (hr:s.run P w=.ok (.pointer (some ⟨w.heap.size,0,none⟩)) (w.alloc (.cells us e))):
  qI P s M w (.c (.ptr nm 0)) [(nm,.box true vs)]:=by
 let C:qC:=⟨some M.H.size,0,0,0,[]⟩;have := zK.new_ok ok aU (.box true vs) C (.cells us e) (by simp [C, qC.fp]) (by
  refine⟨M.H.size,us,e,rfl,rfl,AV,dL.mono fun _ _ h=>h.ext (zK.new_ext ok aU _ _ _),by simp⟩)
 exact⟨_,_,_,hr,rfl,rfl,rfl,by show M.H.push _=w.heap.push _;rw[hM],rfl,this.1,this.2,C,M.H.size,κset_same _ _ _,rfl,by rw[hM]⟩
theorem JD {H F}:∀t rd,(∀j,j<t.size→rd j=(iw t)[j]?)→qF H F t t.dflt rd
 |.int k,rd,h
 |.bool,rd,h=>by simp[qF];rw[h 0 (by simp[Ty.size])];rfl
 |.sl t,rd,h=>by
  simp[Ty.dflt];exact⟨none,0,0,by rw[h 0 (by simp[Ty.size])];rfl,rfl,by simp,by simp⟩
 |.pair a b,rd,h=>by
  have hl:∀t:Ty,(iw t).length=t.size:=by
   intro t
   induction t with
   |pair a b Eb Ec=>simp[iw,Ty.size,Eb,Ec]
   |_=>rfl
  simp[Ty.size,iw] at h;refine⟨JD a rd (by grind),JD b _ (by grind)⟩
theorem OF:∀t:Ty,(iw t).length=t.size
 |.int _|.bool|.sl _=>rfl
 |.pair a b=>by simp[iw,Ty.size,OF a,OF b]
theorem vMe {a b}(h:TK a b=true):a=b:=by
 unfold TK at h;split at h
 ·simp  at h;rw[tD h.1,h.2]
 all_goals grind
theorem ySs:∀{l m},Je l m=true→l=m
 |[],[],_=>rfl
 |a::l,b::m,h=>by
  simp[Je] at h;rw[vMe h.1,ySs h.2]
theorem sb {P e t}(h:kx P e=some t):∃i z,P.info? e=some i∧i.zero=some z∧i.size=t.size∧z.cells.toList=iw t∧P.cellsOf e=t.size∧P.bytesOf e=i.bytes∧z.cells.size=t.size:=by
 unfold kx at h;split at h
 ·rename_i t' i h1 h2;split at h
  ·rename_i z hz;cases hb:(Nat.beq i.size t'.size&&Je z.cells.toList (iw t')) with
   |false=>simp_all
   |true=>
    rw[hb] at h;cases h;simp only[Bool.and_eq_true] at hb;have e1:=Nat.eq_of_beq_eq_true hb.1;have e2:=ySs hb.2;refine⟨i,z,h2,hz,e1,e2,by rw[Ua h2];exact e1,vM3 h2,?_⟩;have:=congrArg List.length e2;rw[OF] at this;omega
  ·cases h
 ·cases h
theorem yT5 {z:Value}{t}(h:z.cells.toList=iw t)(hs:z.cells.size=t.size){i j} hj:z.cells[(i*t.size+j)%z.cells.size]! =(iw t)[j]'(by rw[OF];exact hj):=by
 have e1:(i*t.size+j)%z.cells.size=j:=by rw[hs,Nat.mul_comm,Nat.mul_add_mod,Nat.mod_eq_of_lt hj]
 grind
theorem yLs {H F}{z:Value}{t}(h:z.cells.toList=iw t)(hs:z.cells.size=t.size){n i}(hi:i<n):
  qF H F t t.dflt (fun j=>(madeCells z.cells (n*t.size))[i*t.size+j]?):=by
 refine JD t _ fun j hj=>?_
 have aT:=Nat.mul_le_mul_right t.size (show i+1≤n by omega);rw[List.getElem?_eq_getElem (by grind),←yT5 h hs (i:=i) hj];simp[madeCells];grind
theorem vC5 {P M w}(ok:Ok M)(hM:M.H=w.heap){nm t xs us e s c}(aU:M.h nm=none)
  (hc:xs.length≤c) (hs:c*t.size≤us.size) (hx:∀i h,qF M.H M.G t xs[i] (fun j=>us[i*t.size+j]?))
  (hr:s.run P w=.ok (.slice (some ⟨w.heap.size,0,none⟩) xs.length c) (w.alloc (.cells us e))):
  qI P s M w (.c (.osl nm none)) [(nm,.arr true t xs)]:=by
 let C:qC:=⟨some M.H.size,xs.length,t.size,0,[]⟩;have x:=zK.new_ext ok aU (.arr true t xs) C (.cells us e);have hle:=Nat.mul_le_mul_right t.size hc;have := zK.new_ok ok aU (.arr true t xs) C (.cells us e) (by simp [C, qC.fp]) (by
  refine⟨rfl,rfl,by grind,us,e,AV,by simp,by omega,fun i hi=>?_⟩;exact vB x.G x.sameG t _ _ _ (by simp) (hx i hi))
 refine⟨_,_,_,hr,rfl,rfl,rfl,by show M.H.push _=w.heap.push _;rw[hM],rfl,this.1,this.2,C,κset_same _ _ _,_,c,rfl,?_⟩;refine⟨hc,0,by rw[hM],by simp,?_⟩;simp;have:qU (M.H.push (.cells us e)) M.H.size=us.size:=by simp[qU]
 show c*t.size≤qU (M.H.push (.cells us e)) M.H.size;omega
theorem U1 {P M w}(ok:Ok M)(hM:M.H=w.heap){nm t zs}(aU:M.h nm=none)(hz:zeroCells P t=some zs):
  qI P (Instr.alloc t true (.tuple #[])) M w (.c (.ptr nm 0)) [(nm,.box true zs)]:=by
 obtain⟨i,v,h1,h2,h3,h4,rfl⟩:=yQ5 hz;refine yGz ok hM aU (us:=v.cells) (e:=t) (Oo M h4) ?_;simp[Instr.alloc,zeroValue,typeInfo,h1,h2,newVar,newRow]
theorem yNp {P M w}(ok:Ok M)(hM:M.H=w.heap){nm t x rx vs}(aU:M.h nm=none)(hx:zV M x rx)(hv:oK x=some vs):
  qI P (Instr.box t rx) M w (.c (.ptr nm 0)) [(nm,.box true vs)]:=by
 refine yGz ok hM aU (us:=rx.cells) (e:=t) (Ov hv hx) ?_;rfl
theorem U2 {P M w}(ok:Ok M)(hM:M.H=w.heap){nm t x rx vs}(aU:M.h nm=none)(hx:zV M x rx)(hv:oK x=some vs) m:
  qI P (Instr.box t rx) M w (.c (.ptr nm 0)) [(nm,.box (!m) vs)]:=by
 cases m with
 |false=>exact yNp ok hM aU hx hv
 |true=>
  obtain⟨rv,w',M',a1,a2,a3,a4,a5,a6,a7,a8,a9⟩:=yNp (P:=P) (t:=t) ok hM aU hx hv;have an:M'.h nm=some (.box true vs):=by rw[a6];exact yR _ _ _
  obtain⟨M2,b1,b2,b3,b4,b5⟩:=vJh a7 an;refine⟨rv,w',M2,a1,a2,a3,a4,b1.trans a5,?_,b3,a8.trans b4,a9.ext b4.ext⟩;rw[b2,a6];funext n;show yL (yL M.h nm _) nm _ n=yL M.h nm _ n;by_cases e:n=nm
  ·subst e;rw[yR,yR];rfl
  ·rw[yV _ _ e,yV _ _ e,yV _ _ e]
theorem yVx {α:Type}{n i:Nat}{a:α} h:(List.replicate n a)[i]=a:=by simp
theorem vOz {P M w}(ok:Ok M)(hM:M.H=w.heap){nm n us e s c}(aU:M.h nm=none)
  (hc:n≤c) (hs:c≤us.size) (hx:∀i,i<n→us[i]? =some (.slice none 0 0))
  (hr:s.run P w=.ok (.slice (some ⟨w.heap.size,0,none⟩) n c) (w.alloc (.cells us e))):
  qI P s M w (.c (.osl nm none)) [(nm,.mat 0 (List.replicate n []))]:=by
 let C:qC:=⟨some M.H.size,n,1,0,List.replicate n (none,0)⟩;have hfm:(List.replicate n ((none,0):Option Nat×Nat)).filterMap (·.1)=[]:=by
  simp
 have rS:C.fp=[M.H.size]:=by simp[C,qC.fp]
 have := zK.new_ok ok aU (.mat 0 (List.replicate n [])) C (.cells us e) (by simp_all) (by
  refine⟨rfl,by simp[C],rfl,by simp[C],by simp_all,us,e,AV,by grind,fun i hi=>?_⟩;have gz:i<n:=by simp_all
  refine⟨none,.slice none 0 0,by grind,hx i gz,⟨rfl,by simp⟩,by simp⟩)
 refine⟨_,_,_,hr,rfl,rfl,rfl,by show M.H.push _=w.heap.push _;rw[hM],rfl,this.1,this.2,C,κset_same _ _ _,_,c,rfl,?_⟩;refine⟨hc,0,by rw[hM],by simp,?_⟩;simp;have:qU (M.H.push (.cells us e)) M.H.size=us.size:=by simp[qU]
 show c*1≤qU (M.H.push (.cells us e)) M.H.size;omega
theorem vUf {P M w}(ok:Ok M)(hM:M.H=w.heap){mat nm t l c v u rl rc}(hl:zV M l rl)(hc:zV M c rc)
  (h:yM (DE P mat nm M.h t l c) v u):qI P (Instr.makeSlice t rl rc) M w v u:=by
 unfold DE at h;split at h
 ·rename_i e l c hu aU;have e1:rl=.int .i64 l:=hl;have e2:rc=.int .i64 c:=hc;subst e1;subst e2;cases mat with
  |true=>
   split at h
   ·rename_i dN;obtain⟨fR,rfl,rfl⟩:=gU h;obtain⟨i,z,h1,h2,h3,h4,h5,h6,h7⟩:=sb dN;simp[Bool.and_eq_true] at fR;obtain⟨⟨⟨o1,o2⟩,o3⟩,o4⟩:=fR;have hr:=run_make (P:=P) w t e i z hu h1 h2 .i64 .i64 l c o1 o2 (by grind) (by omega);have dK:i.size=1:=h3;rw[dK,Nat.mul_one] at hr;refine vOz ok hM aU (n:=l.toNat) (c:=c.toNat) (by omega) (by rw[size_madeCells];omega) (fun k hk=>?_) hr;have OG:z.cells.toList=[.slice none 0 0]:=h4;have U3:z.cells.size=1:=h7;simp only[madeCells];have:z.cells.toList[0]'(by simp;omega)=.slice none 0 0:=by grind
    grind
   ·exact h.elim
  |false=>
   simp  at h;split at h
   ·rename_i ty dN;obtain⟨fR,rfl,rfl⟩:=gU h;obtain⟨i,z,h1,h2,h3,h4,h5,h6,h7⟩:=sb dN;simp  at fR;obtain⟨⟨⟨o1,o2⟩,o3⟩,o4⟩:=fR;have hr:=run_make (P:=P) w t e i z hu h1 h2 .i64 .i64 l c o1 o2 (by grind) (by omega);refine vC5 ok hM aU (c:=c.toNat) (us:=madeCells z.cells (c.toNat*ty.size)) (e:=e) (by grind) (by rw[size_madeCells];omega) (fun k hk=>?_) (by simp_all);rw[yVx hk];simp  at hk;exact yLs h4 h7 (by omega)
   ·exact h.elim
 ·exact h.elim
theorem yS4 off:∀l k cells,off+k+l.length≤cells.size→
  (l.zipIdx k).foldl (fun(cs:Array Value) (p:Value×Nat)=>cs.setIfInBounds (off+p.2) p.1) cells=yX cells (off+k) l
 |[],k,cells,h=>by
  apply Array.ext_getElem?;intro j;rw[jW h];simp_all
 |c::l,k,cells,h=>by
  simp;rw[yS4 off l (k+1) _ (by grind)];apply Array.ext_getElem?;intro j;rw[jW (by grind),jW (by omega)];grind
theorem U4 place cells i v rest off size (h:place i=some (off,size))(h1:v.cells.size=size)(h2:off+size≤cells.size):
  Instr.fill place cells ((i,v)::rest)=Instr.fill place (yX cells off v.cells.toList) rest:=by
 have hc:¬(v.cells.size≠size||decide (off+v.cells.size>cells.size))=true:=by
  simp_all
 simp only[Instr.fill,h];rw[if_neg hc]
 congr 1
 rw[←Array.foldl_toList,Array.toList_zipIdx];have:=yS4 off v.cells.toList 0 cells (by simp;omega);omega
def A9 (M:zK):(Nat×zW)→(Nat×Value)→Prop:=fun p q=>p.1=q.1∧zV M p.2 q.2
theorem U5 {M place}:∀{parts aO cells out vals},zN (zX M) cells vals.toList→
  zN (A9 M) parts aO→Jh place cells parts=some out→∃res,Instr.fill place vals aO=some res∧zN (zX M) out res.toList
 |[],[],cells,out,vals,hc,_,h=>by cases h;exact⟨vals,rfl,hc⟩
 |(i,v)::parts,(i',rv)::aO,cells,out,vals,hc,hp,h=>by
  obtain⟨⟨hi,hv⟩,hp⟩:=hp;subst hi;unfold Jh at h;split at h
  ·rename_i off size vs Ed dL;cases hb:(Nat.beq vs.length size&&Nat.ble (off+size) cells.length) with
   |false=>simp_all
   |true=>
    rw[hb] at h;simp only[Bool.and_eq_true] at hb;have b1:=Nat.eq_of_beq_eq_true hb.1;have b2:=Nat.le_of_ble_eq_true hb.2;split at h
    ·rename_i bH U6;obtain⟨p1,rfl⟩:=Ui _ _ _ _ U6;have dy:=Ov dL hv;have hl:=dy.length;have nK:=hc.length;simp  at hl nK;have yW:=Ul (yS.refl M) hc dy (off:=off) (by simp_all);obtain⟨res,h1,h2⟩:=U5 yW hp h;exact⟨res,by rw[U4 place vals i rv aO off size Ed (by omega) (by omega)];exact h1,h2⟩
    ·cases h
  ·cases h
theorem yZ8 {P} w:∀(l:List Field),l.all (fun f=>(P.info? f.type).isSome)=true→
  (l.mapM fun f=>(do pure (f.offset,←sizeOf f.type):Sem (Nat×Nat))).run P w=.ok (l.map fun f=>(f.offset,P.cellsOf f.type)) w
 |[],_=>by simp
 |f::l,h=>by
  simp only[List.all_cons,Bool.and_eq_true] at h;obtain⟨i,hi⟩:=Option.isSome_iff_exists.1 h.1;rw[List.mapM_cons];simp only[Sem.run_bind,iN w hi,Result.andThen_ok,Sem.run_pure,yZ8 w l h.2,List.map_cons]
theorem U7 {P M w}(ok:Ok M)(hM:M.H=w.heap){t parts aO v u}(hp:zN (A9 M) parts aO)
  (h:yM (TU P t parts) v u):qI P (Instr.build t aO.toArray) M w v u:=by
 unfold TU at h;split at h
 ·exact h.elim
 ·rename_i zero hz;obtain⟨i,z,h1,h2,h3,h4,rfl⟩:=yQ5 hz;have hzero:=Oo M h4;split at h
  ·rename_i fs hs;obtain⟨bn,h⟩:=gy h;split at h
   ·rename_i cells hf;obtain⟨rfl,rfl⟩:=wL h;have Ed:(fun(j:Nat)=>(fs[j]?).map fun(f:Field)=>(f.offset,P.cellsOf f.type))=(fun(j:Nat)=>(fs.toList.map fun f=>(f.offset,P.cellsOf f.type)).toArray[j]?):=by
     simp
    obtain⟨res,k1,k2⟩:=U5 hzero hp hf;refine qI.pure ok hM (rv:=.agg res) ?_ ⟨res,rfl,k2⟩;have hm:=yZ8 (P:=P) w fs.toList bn;simp[Instr.build,zeroValue,Ub w h1,run_underlying hs,Array.mapM_eq_mapM_toList];simp_all
   ·exact h.elim
  ·rename_i n e hs;obtain⟨bn,h⟩:=gy h;obtain⟨y,hy⟩:=Option.isSome_iff_exists.1 bn;split at h
   ·rename_i cells hf;obtain⟨rfl,rfl⟩:=wL h;obtain⟨res,k1,k2⟩:=U5 hzero hp hf;refine qI.pure ok hM (rv:=.agg res) ?_ ⟨res,rfl,k2⟩;simp[Instr.build,zeroValue,Sem.run_bind,Ub w h1,Result.andThen_ok,h2,Sem.run_pure,run_underlying hs,iN w hy];simp_all
   ·exact h.elim
  ·exact h.elim
theorem qI.after {P s M M1 w v u1 u2}(h1:M1.h=qH M.h u1)(st:yO M M1)(h:qI P s M1 w v u2):qI P s M w v (u1++u2):=by
 obtain⟨rv,w',M',a1,a2,a3,a4,a5,a6,a7,a8,a9⟩:=h;exact⟨rv,w',M',a1,a2,a3,a4,a5,by rw[a6,h1,ll],a7,st.trans a8,a9⟩
theorem jD.fresh {h0 h}(hf:jD h0 h){n}(hn:h0 n=none):h n=none:=by
 rcases hf n with e|⟨o,t,xs,e1,_⟩|⟨o,xs,e1,_⟩
 all_goals simp_all
theorem yYv {t vs x}(h:Jd t vs=some x):vs.length=t.size∧tF t t.dflt 0 vs=some x:=by
 unfold Jd at h;cases hb:Nat.beq vs.length t.size with
 |false=>simp_all
 |true=>simp_all
theorem U8 {M t vs us x}(h:Jd t vs=some x)(hv:zN (zX M) vs us){rd}(hr:∀i,i<us.length→rd i=us[i]?):qF M.H M.G t x rd:=by
 obtain⟨h1,h2⟩:=yYv h;have hl:=hv.length;refine Us t vs us t.dflt x 0 (fun j=>(iw t)[j]?) rd (JD t _ (by simp)) h2 hv (by grind) (by grind)
theorem yWo {h0 t n}:∀{parts aO xs out vals u M},Ok M→jD h0 M.h→xs.length=n→vals.size=n*t.size→
  (∀k h,qF M.H M.G t xs[k] (fun j=>vals[k*t.size+j]?))→(∀p∈parts,p.1<n)→zN (A9 M) parts aO→rO h0 t xs parts=some (out,u)→
  ∃res M',Instr.fill (fun i=>some (i*t.size,t.size)) vals aO=some res∧M'.H=M.H∧M'.h=qH M.h u∧Ok M'∧yO M M'∧jD h0 M'.h∧out.length=n∧res.size=n*t.size∧
   (∀k h,qF M'.H M'.G t out[k] (fun j=>res[k*t.size+j]?))
 |[],[],xs,out,vals,u,M,ok,hf,hx,hs,hE,_,_,h=>by
  cases h;exact⟨vals,M,rfl,rfl,rfl,ok,yO.refl M,hf,hx,hs,hE⟩
 |(i,v)::parts,(i',rv)::aO,xs,out,vals,u,M,ok,hf,hx,hs,hE,bd,hp,h=>by
  obtain⟨⟨hi,hv⟩,hp⟩:=hp;dsimp only at hi hv;subst hi;unfold rO at h;split at h
  ·rename_i vs dL;split at h
   ·rename_i UF u1 D4;split at h
    ·rename_i x xa;split at h
     ·rename_i xs' us cc;cases h;have dy:=Ov dL hv;obtain⟨M1,a1,a2,a3,a4,a5,a6,a7⟩:=Un ok hf dy D4;have hl:=a5.length;simp  at hl;have OH:=(yYv xa).1;have gz:i<n:=bd (i,v) (by simp);have aT:=Nat.mul_le_mul_right t.size (show i+1≤n by omega);rw[Nat.add_mul] at aT;have aM:i*t.size+rv.cells.toList.length≤vals.size:=by simp_all
      have hE1:∀k (h:k<(xs.set i x).length),qF M1.H M1.G t (xs.set i x)[k] (fun j=>(yX vals (i*t.size) rv.cells.toList)[k*t.size+j]?):=by
       intro k hk;rw[List.length_set] at hk;by_cases e:k=i
       ·subst e;rw[List.getElem_set_self];refine U8 xa a5 fun j hj=>?_
        rw[jW aM,if_neg (by omega),if_pos (by omega)];simp
       ·rw[List.getElem_set_ne (Ne.symm e)];refine vB a4.ext.G (by grind) t _ _ _ (fun j hj=>?_) (hE k hk);rw[jW aM,Array.length_toList];rcases vH9 (Ne.symm e) hj with h|h
        all_goals grind
      obtain⟨res,M2,b1,b2,b3,b4,b5,b6,b7,b8,b9⟩:=yWo a3 a6 (by simp_all) (by rw[gV aM];exact hs) hE1
       (fun p hp=>bd p (by grind)) (hp.mono fun p q hpq=>⟨hpq.1,by
        obtain⟨_,hq⟩:=hpq;exact zV.ext a4.ext hq⟩) cc
      exact⟨res,M2,by rw[U4 _ vals i rv aO (i*t.size) t.size rfl (by omega) (by omega)];exact b1,b2.trans a1,by rw[b3,a2,ll],b4,a4.trans b5,b6,b7,b8,b9⟩
     ·cases h
    ·cases h
   ·cases h
  ·cases h
theorem vG7 {P w t e n aO}{ty:Ty}{i z res}(hu:P.underlying t=some (.slice e))(hi:P.info? e=some i)
  (hz:i.zero=some z) (hs:i.size=ty.size) (cS:n*P.cellsOf e≤16777216) (hf:Instr.fill (fun j=>some (j*ty.size,ty.size)) (madeCells z.cells (n*ty.size)) aO=some res):
  (Instr.buildSlice t n aO.toArray).run P w=.ok (.slice (some ⟨w.heap.size,0,none⟩) n n) (w.alloc (.cells res e)):=by
 have hc:P.cellsOf e=ty.size:=by rw[Ua hi];exact hs
 rw[hc] at cS;have h1:¬2^24<n*ty.size:=by omega
 by_cases h0:n*ty.size=0
 ·have hm:madeCells z.cells (n*ty.size)=#[]:=by rw[h0];simp[madeCells]
  rw[hm] at hf;simp[Instr.buildSlice,run_underlying hu,iN w hi,hc,h0];simp[Array.range_zero',hf,newRow]
 ·simp[Instr.buildSlice,run_underlying hu,Result.andThen_ok,iN w hi,hc,h1,if_false,h0,Sem.run_pure,zeroValue,Ub w hi,hz];rw[show(Array.range (n*ty.size)).map (z.cells[· %z.cells.size]!)=madeCells z.cells (n*ty.size) from rfl,hf];rfl
theorem vEt {parts:List (Nat×zW)}{n}(h:parts.all (fun p=>Nat.blt p.1 n)=true):∀p∈parts,p.1<n:=by
 simp only[List.all_eq_true] at h;exact fun p hp=>Uo (h p hp)
theorem vTg {P M w}(ok:Ok M)(hM:M.H=w.heap){nm t e n parts aO ty xs u}
  (hp:zN (A9 M) parts aO) (hu:P.underlying t=some (.slice e)) (aU:M.h nm=none) (dN:kx P e=some ty) (cS:n*P.cellsOf e≤16777216) (bd:∀p∈parts,p.1<n)
  (hf:rO M.h ty (List.replicate n ty.dflt) parts=some (xs,u)):
  qI P (Instr.buildSlice t n aO.toArray) M w (.c (.osl nm none)) (u++[(nm,.arr true ty xs)]):=by
 obtain⟨i,z,h1,h2,h3,h4,h5,h6,h7⟩:=sb dN;obtain⟨res,M',b1,b2,b3,b4,b5,b6,b7,b8,b9⟩:=yWo (n:=n) ok (jD.refl _) (by simp) (vals:=madeCells z.cells (n*ty.size)) (by rw[size_madeCells])
  (fun k hk=>by rw[yVx hk];exact yLs h4 h7 (by simp_all)) bd hp hf
 have hr:=vG7 (P:=P) (w:=w) hu h1 h2 h3 cS b1;refine qI.after b3 b5 (vC5 b4 (by grind) (b6.fresh aU) (c:=n) (us:=res) (e:=e) (by omega) (by omega) (by grind) ?_);simp_all
structure xc (M:zK) (J:List Nat) (n:Nat) (rows:List (List Int)) (vals:Array Value) (rc:List (Option Nat×Nat)):Prop where
 len:rows.length=n
 size:vals.size=n
 rlen:rc.length=n
 row:∀k (h:k<rows.length),∃rb v,rc[k]? =some (rb,rows[k].length)∧vals[k]? =some v∧mK M.H rb rows[k].length v∧
  (∀R,rb=some R→∃rv er,M.H[R]? =some (.cells rv er (0,0))∧∀j (h':j<rows[k].length),rv[j]? =some (.int .i64 rows[k][j]))
 nd:(rc.filterMap (·.1)).Nodup
 of:∀R∈rc.filterMap (·.1),∃j∈J,∃C,M.κ j=some C∧R∈C.fp
 js:∀j∈J,∃ys:List Int,M.h j=some (.arr true (.int .i64) ys)
theorem xc.put {M}(ok:Ok M){J n rows vals rc}(I:xc M J n rows vals rc){i}(hi:i<n){v rv r u}
  (hv:zV M v rv) (ht:AO M.h v=some (r,u)) (hJ:∀p∈u,p.1∉J):∃OI,xc M (J++u.map (·.1)) n (rows.set i r) (yX vals i rv.cells.toList) OI∧rv.cells.size=1∧(∀p∈u,p.2=.gone):=by
 have put:∀(rb:Option Nat) (J':List Nat),rv.one1=true→mK M.H rb r.length rv→(∀R,rb=some R→∃rv er,M.H[R]? =some (.cells rv er (0,0))∧∀j (h':j<r.length),rv[j]? =some (.int .i64 r[j]))→
   (∀R,rb=some R→R∉rc.filterMap (·.1))→(∀R,rb=some R→∃j∈J',∃C,M.κ j=some C∧R∈C.fp)→(∀j∈J',∃ys:List Int,M.h j=some (.arr true (.int .i64) ys))→
   xc M (J++J') n (rows.set i r) (yX vals i rv.cells.toList) (rc.set i (rb,r.length))∧rv.cells.size=1:=by
  intro rb J' h1 h2 h3 h4 h5 h6;have aH:rv.cells=#[rv]:=by cases rv<;>first|rfl|cases h1
  obtain⟨s1,s2⟩:=Oy (x:=(rb,r.length)) rc i I.nd h4;have aM:i+rv.cells.toList.length≤vals.size:=by rw[aH,I.size];show i+1≤n;omega
  refine⟨⟨by rw[List.length_set];exact I.len,by rw[gV aM];exact I.size,by rw[List.length_set];exact I.rlen,fun k hk=>?_,s1,fun R hR=>?_,fun j hj=>?_⟩,by rw[aH];rfl⟩
  ·rw[List.length_set] at hk;by_cases e:k=i
   ·subst e;rw[List.getElem_set_self];refine⟨rb,rv,?_,?_,h2,h3⟩
    ·rw[List.getElem?_set_self (by rw[I.rlen];exact hi)]
    ·rw[jW aM,if_neg (by omega),if_pos (by rw[aH];show k<k+1;omega),aH];simp
   ·rw[List.getElem_set_ne (Ne.symm e)];obtain⟨pN,v',p1,p2,p3,p4⟩:=I.row k hk;refine⟨pN,v',by rw[List.getElem?_set_ne (Ne.symm e)];exact p1,?_,p3,p4⟩;rw[jW aM,aH];grind
  ·rcases s2 R hR with h|h
   ·obtain⟨j,hj,hC⟩:=I.of R h;exact⟨j,by grind,hC⟩
   grind
  ·rcases List.mem_append.1 hj with h|h
   ·exact I.js j h
   ·exact h6 j h
 unfold AO at ht;split at ht
 ·rename_i jd;split at ht
  ·rename_i ys dh;cases ht;obtain⟨Cj,eN,nJ⟩:=ok.obj jd _ dh;obtain⟨jr,jf⟩:=Jt nJ;obtain⟨r1,r2⟩:=UA eN nJ hv;have w8:∀j∈[jd],∃ys:List Int,M.h j=some (.arr true (.int .i64) ys):=by grind
   have:=put Cj.blk [jd] (zX.one (c:=.osl jd none) hv) r1 r2 (fun R hR hm=>?_) (by grind) (fun j hj=>w8 j hj)
   ·exact(by grind)
   ·obtain⟨j,hj,C,hC,hRC⟩:=I.of R hm;obtain⟨ys',mO⟩:=I.js j hj;have bx:j≠jd:=fun e=>hJ (jd,.gone) (by simp) (e▸hj)
    exact ok.disj j jd _ _ C Cj R bx mO dh rfl rfl hC eN hRC (fQ hR)
  ·cases ht
 ·cases ht;have e:rv=.slice none 0 0:=hv;have:=put none [] (by rw[e];rfl) ⟨e,rfl⟩ (by simp) (by simp) (by simp) (by simp);exact by grind
 ·cases ht
theorem Ee:∀{l},tH l=true→l.Nodup
 |[],_=>by simp
 |a::l,h=>by
  simp only[tH,Bool.and_eq_true] at h;refine List.nodup_cons.2 ⟨fun hm=>?_,Ee h.2⟩;have:l.any (Nat.beq a)=true:=List.any_eq_true.2 ⟨a,hm,by simp⟩;simp_all
theorem vBf {M}(ok:Ok M){n}:∀{parts aO J rows out vals rc u},xc M J n rows vals rc→
  (∀p∈parts,p.1<n)→zN (A9 M) parts aO→AP M.h rows parts=some (out,u)→(J++u.map (·.1)).Nodup→
  ∃res OI,Instr.fill (fun i=>some (i*1,1)) vals aO=some res∧xc M (J++u.map (·.1)) n out res OI∧(∀p∈u,p.2=.gone)
 |[],[],J,rows,out,vals,rc,u,I,_,_,h,_=>by
  cases h;exact⟨vals,rc,rfl,by simp_all,by simp⟩
 |(i,v)::parts,(i',rv)::aO,J,rows,out,vals,rc,u,I,bd,hp,h,dM=>by
  obtain⟨⟨hi,hv⟩,hp⟩:=hp;subst hi;unfold AP at h;split at h
  ·rename_i r u1 ht;split at h
   ·rename_i JE us cc;cases h;rw[List.map_append,←List.append_assoc] at dM;have gz:i<n:=bd (i,v) (by simp);obtain⟨OI,I',h1,hg⟩:=I.put ok gz hv ht (by grind);obtain⟨res,rc2,b1,b2,b3⟩:=vBf ok I' (by grind) hp cc dM;refine⟨res,rc2,?_,by simp_all,fun p hp=>?_⟩
    ·rw[U4 _ vals i rv aO (i*1) 1 rfl h1 (by rw[I.size];omega),Nat.mul_one];exact b1
    grind
   ·cases h
  ·cases h
theorem U9 {j}:∀{u h},(∀p∈u,p.2=.gone)→j∈u.map (·.1)→qH h u j=some .gone
 |(id,o)::u,h,hg,hj=>by
  have ho:o=.gone:=hg (id,o) (by simp);subst ho;by_cases hm:j∈u.map (·.1)
  ·exact U9 (u:=u) (by grind) hm
  ·have e:j=id:=by
    simp_all
   subst e;show qH (yL h j .gone) u j=_;rw[Oz]
   ·exact yR _ _ _
   ·rw[Bool.eq_false_iff];simp_all
theorem Ef {n u h}(hn:n∉u.map (·.1)):qH h u n=h n:=by
 refine Oz h ?_;rw[Bool.eq_false_iff];simp_all
theorem vM8 {P:Program}{M:zK}{w}(ok:Ok M)(hM:M.H=w.heap){nm n c}{rows res rc J}{u:vG}{e s}
  (aU:M.h nm=none) (I:xc M J n rows (res.extract 0 n) rc) (hJ:∀j,j∈J→j∈u.map (·.1)) (hg:∀p∈u,p.2=.gone∧∃o,M.h p.1=some o∧o.owned=true) (hc:n≤c) (hs:c≤res.size)
  w' (hw:w'.heap=w.heap.push (.cells res e)∧w'.os=w.os∧w'.tape=w.tape∧w'.output=w.output)
  (hr:s.run P w=.ok (.slice (some ⟨w.heap.size,0,none⟩) n c) w'):qI P s M w (.c (.osl nm none)) (u++[(nm,.mat 0 rows)]):=by
 let C:qC:=⟨some M.H.size,n,1,0,rc⟩;have hnJ:nm∉u.map (·.1):=(by grind);have aT:∀R∈rc.filterMap (·.1),∃j C,(j∈u.map (·.1))∧M.κ j=some C∧R∈C.fp:=fun R hR=>by
  obtain⟨j,hj,C,hC,hm⟩:=I.of R hR;grind
 have agY:∀R∈rc.filterMap (·.1),R<M.H.size:=fun R hR=>by
  obtain⟨j,hj,C,hC,hm⟩:=I.of R hR;obtain⟨ys,hy⟩:=I.js j hj;exact(ok.own R ⟨j,_,C,hy,rfl,hC,hm⟩).2
 have hh:∀n',(qH M.h (u++[(nm,.mat 0 rows)])) n'=if n'=nm then some (.mat 0 rows) else qH M.h u n':=fun n'=>by
  rw[ll,Uh];by_cases e:n'=nm
  ·rw[if_pos e,e,yR]
  ·rw[if_neg e,yV _ _ e]
 have:=zK.move_ok (M:=M) (nm:=nm) (o':=.mat 0 rows) (C':=C) (h':=qH M.h (u++[(nm,.mat 0 rows)])) (H':=M.H.push (.cells res e)) ok (fun j=>j∈u.map (·.1)) aU
  (fun j hj=>by
   obtain⟨p,hp,e⟩:=List.mem_map.1 hj;obtain⟨_,o,ho,iS⟩:=hg p hp;refine⟨o,by rw[←e];exact ho,iS,?_⟩;have bx:j≠nm:=by grind
   rw[hh,if_neg bx];exact U9 (by grind) hj)
  (by rw[hh,if_pos rfl]) (fun n' h1 h2=>by rw[hh,if_neg h2];exact Ef h1) (by simp) (fun b hb _=>pL hb) (fun b hb=>DS (pL hb))
  (fun b hb=>by
   simp only[C,qC.fp,Option.toList_some,List.singleton_append,List.mem_cons] at hb;grind)
  (fun x=>by
   refine⟨rfl,I.len.symm,rfl,by rw[I.len];exact I.rlen,?_,res,e,AV,by rw[I.len];omega,fun k hk=>?_⟩
   ·simp only[C,qC.fp,Option.toList_some,List.singleton_append];exact List.nodup_cons.2 ⟨by grind,I.nd⟩
   ·obtain⟨rb,v,p1,p2,p3,p4⟩:=I.row k hk;refine⟨rb,v,p1,?_,p3.ext x,fun R hR=>?_⟩
    ·grind
    ·obtain⟨rv,er,p5,p6⟩:=p4 R hR;refine⟨rv,er,?_,p6⟩;have:R<M.H.size:=by grind
     show(M.H.push _)[R]? =_;grind)
 refine⟨_,_,_,hr,hw.2.1,hw.2.2.1,hw.2.2.2,by show M.H.push _=_;rw[hw.1,hM],rfl,this.1,this.2,C,κset_same _ _ _,_,c,rfl,?_⟩;refine⟨hc,0,by rw[hM],.inr (by simp),?_⟩;have:qU (M.H.push (.cells res e)) M.H.size=res.size:=by simp[qU]
 show(0+c)*1≤qU (M.H.push (.cells res e)) M.H.size;rw[this];omega
theorem vQ6 {P M w}(ok:Ok M)(hM:M.H=w.heap){mat nm t n parts aO v u}
  (hp:zN (A9 M) parts aO) (h:yM (DD P mat nm M.h t n parts) v u):qI P (Instr.buildSlice t n aO.toArray) M w v u:=by
 unfold DD at h;split at h
 ·rename_i e hu aU;obtain⟨cS,h⟩:=gy h;have cS:=Nat.le_of_ble_eq_true cS;cases mat with
  |true=>
   split at h
   ·rename_i rows u' dN hf;obtain⟨hb,h⟩:=gy h;simp only[Bool.and_eq_true] at hb;obtain⟨_,rfl,rfl⟩:=gU h;obtain⟨i,z,h1,h2,h3,h4,h5,h6,h7⟩:=sb dN;have OG:z.cells.toList=[.slice none 0 0]:=h4;have U3:z.cells.size=1:=h7;have I0:xc M [] n (List.replicate n []) (madeCells z.cells (n*1)) (List.replicate n (none,0)):=by
     refine⟨by simp,by rw[size_madeCells,Nat.mul_one],by simp,fun k hk=>?_,by simp,by simp,by simp⟩;have hkn:k<n:=by simp_all
     refine⟨none,.slice none 0 0,by simp[hkn],?_,⟨rfl,by simp⟩,by simp⟩;simp only[madeCells];have:z.cells.toList[0]'(by grind)=.slice none 0 0:=by grind
     grind
    obtain⟨res,rc,b1,b2,b3⟩:=vBf ok I0 (vEt hb.2) hp hf (by simpa using Ee hb.1);have hr:=vG7 (P:=P) (w:=w) (ty:=.sl (.int .i64)) hu h1 h2 h3 cS b1;have Va:res.extract 0 n=res:=by
     have:=b2.size;simp_all
    refine vM8 ok hM aU (by rw[Va];exact b2) (by simp) (fun p hp=>⟨b3 p hp,?_⟩) (by simp) (by rw[b2.size];omega) (w.alloc (.cells res e)) ⟨rfl,rfl,rfl,rfl⟩ hr;obtain⟨ys,hy⟩:=b2.js p.1 (by grind);exact⟨_,hy,rfl⟩
   ·exact h.elim
  |false=>
   simp  at h;split at h
   ·rename_i ty dN;split at h
    ·rename_i xs u' hf;obtain⟨hb,h⟩:=gy h;obtain⟨_,rfl,rfl⟩:=gU h;exact vTg ok hM hp hu aU dN cS (vEt hb) hf
    ·exact h.elim
   ·exact h.elim
 ·exact h.elim
theorem Vb {H F}:∀t x rd,qF H F t x rd→∀j,j<t.size→∃v,rd j=some v∧v.one1=true
 |.int k,x,rd,h,j,hj
 |.bool,x,rd,h,j,hj=>by
  simp[Ty.size] at hj;obtain rfl:j=0:=by omega
  exact⟨_,h,rfl⟩
 |.sl t,x,rd,h,j,hj=>by
  simp[Ty.size] at hj;obtain rfl:j=0:=by omega
  obtain⟨A,n,c,h1,_⟩:=h;exact⟨_,h1,rfl⟩
 |.pair a b,x,rd,h,j,hj=>by
  simp[Ty.size] at hj;by_cases bd:j<a.size
  ·exact Vb a _ _ h.1 j bd
  ·have:=Vb b _ _ h.2 (j-a.size) (by omega);simp_all
def wW (H : Array Go.Obj) (v : Value) (n size : Nat) (news : List Value) : Prop := ∃ A c, v = .slice A n c ∧ news.length = n * size ∧ (∀ u ∈ news, u.one1 = true) ∧ (match A with
 |none=>n=0
 |some a=>n=0∨a.spot=none∧∀j u,news[j]? =some u→yW H a.block (a.off+j)=some u)
theorem wW.first {P H v n size news}(h:wW H v n size news) w (hw:w.heap=H):(Builtin.firstCells size n v).run P w=.ok news.toArray w:=by
 obtain⟨A,c,rfl,hl,_,h⟩:=h;cases A with
 |none=>
  have h0:n=0:=h;subst h0;have:news=[]:=by grind
  subst this;rfl
 |some a=>
  rcases h with h0|⟨hs,h⟩
  ·subst h0;have:news=[]:=by grind
   subst this;simp[Builtin.firstCells,loadCells,loadCellsFrom]
  ·obtain⟨B,o,sp⟩:=a;cases hs;exact run_firstCells_some w size n ⟨B,o,none⟩ n c news hl (fun j u hu=>by rw[Addr.add_lit,tM,hw];simp_all)
theorem Vc {H F t}{ys:List t.den}{B o c}(hc:ys.length≤c)(h:∀i hi,qF H F t ys[i] (fun j=>yW H B (o+i*t.size+j))):
  ∃news,wW H (.slice (some ⟨B,o,none⟩) ys.length c) ys.length t.size news∧∀i hi,qF H F t ys[i] (fun j=>news[i*t.size+j]?):=by
 have tot:∀k,k<ys.length*t.size→∃v,yW H B (o+k)=some v∧v.one1=true:=by
  intro k hk;have hi:k/t.size<ys.length:=Nat.div_lt_of_lt_mul (by grind);obtain⟨v,h1,h2⟩:=Vb t _ _ (h _ hi) (k%t.size) (Nat.mod_lt _ t.size_pos);refine⟨v,?_,h2⟩;rw[Nat.add_assoc,Nat.mul_comm,Nat.div_add_mod] at h1;exact h1
 refine⟨(List.range (ys.length*t.size)).map fun k=>(yW H B (o+k)).getD undef,⟨_,c,rfl,by simp,fun u hu=>?_,.inr ⟨rfl,fun j u hu=>?_⟩⟩,fun i hi=>?_⟩
 ·grind
 ·grind
 ·refine vB (by simp) (by simp) t _ _ _ (fun j hj=>?_) (h i hi);have aT:=Nat.mul_le_mul_right t.size (show i+1≤ys.length by omega);grind
theorem JF {H F t A c}:∃news,wW H (.slice A 0 c) 0 t.size news∧∀i hi,qF H F t ([]:List t.den)[i] (fun j=>news[i*t.size+j]?):=
 ⟨[],⟨A,c,rfl,by simp,by simp,by grind⟩,by simp⟩
theorem Vd {H F t}{ys:List t.den}{v}(h:qF H F (.sl t) ys (fun _=>some v)):
  ∃news,wW H v ys.length t.size news∧∀i hi,qF H F t ys[i] (fun j=>news[i*t.size+j]?):=by
 simp[qF] at h;obtain⟨A,n,c,rfl,rfl,hc,h⟩:=h;rcases h with⟨rfl,_⟩|⟨B,o,rfl,hB,hE⟩
 ·exact JF
 ·exact Vc hc hE
theorem Ba {M own t xs C id r v}(hC:M.κ id=some C)(hO:yY M (.arr own t xs) C)(hv:zX M (.osl id r) v):
  ∃news,wW M.H v (j4 xs r).length t.size news∧∀i hi,qF M.H M.G t (j4 xs r)[i] (fun j=>news[i*t.size+j]?):=by
 obtain⟨h1,h2,h3,h4⟩:=hO;obtain⟨C',aF,hv⟩:=hv;rw[hC] at aF;cases aF;have key:∀lo n,lo+n≤C.len→jB M.H C lo n v→∃news,wW M.H v (qM xs lo n).length t.size news∧∀i (hi:i<(qM xs lo n).length),qF M.H M.G t (qM xs lo n)[i] (fun j=>news[i*t.size+j]?):=by
  intro lo n hn hS;obtain⟨A,c,rfl,hS⟩:=hS;have hl:=DX (xs:=xs) (lo:=lo) (n:=n) (by omega);by_cases h0:n=0
  ·subst h0;have e:qM xs lo 0=[]:=by rfl
   exact JF
  ·cases hB:C.blk with
   |none=>simp_all
   |some B=>
    rw[hB] at hS h4;obtain⟨hc,a,rfl,ha,_⟩:=hS;obtain⟨vals,e,h5,h6,h7,h8⟩:=h4;have rT:a=lo*C.sz:=by omega
    have := Vc (H := M.H) (F := M.G) (ys := qM xs lo n) (B := B) (o := a) (c := c) (by omega) (fun i hi=>by
     obtain⟨bJ,e1⟩:=Ow hi;rw[e1];refine vB (by simp) (by simp) t _ _ _ (fun j hj=>?_) (h8 (lo+i) bJ);rw[rT,h2,←Nat.add_mul];simp[yW,h5])
    simp_all
 cases r with
 |none=>
  have:=key 0 C.len (by omega) hv;rw[h1,yRb] at this;exact this
 |some p=>exact key p.1 p.2 hv.1 hv.2.1
theorem sd {P w t e i A sLen sCap n size x news} T (hu:P.underlying t=some (.slice e))(hi:P.info? e=some i)(hs:i.size=size)
  (hx : wW w.heap x n size news) (aY : sLen + n ≤ sCap) w' (hw:match A with
   |none=>w'=w
   |some a=>(storeCells (a.add (sLen*size)) news).run P w=.ok () w'):
  (Builtin.append_ #[t,t] T #[.slice A sLen sCap,x]).run P w=.ok (.slice A (sLen+n) sCap) w':=by
 have hf:=hx.first (P:=P) w rfl
 obtain⟨X,c,rfl,_⟩:=hx;subst hs;cases A with
 |none=>
  subst hw;simp[Builtin.append_,run_underlying hu,sizeOf,typeInfo,hi,Builtin.lenOf,aY,hf]
 |some a=>simp[Builtin.append_,run_underlying hu,sizeOf,typeInfo,hi,Builtin.lenOf,aY,hf,hw]
theorem Ve {P}{w}{t e}{i}{z}{A sLen sCap n size x olds news} T (hu:P.underlying t=some (.slice e))(hi:P.info? e=some i)(hz:i.zero=some z)
  (hs:i.size=size) (hb:wW w.heap (.slice A sLen sCap) sLen size olds) (hx:wW w.heap x n size news) (hg:sCap<sLen+n) (h46:(sLen+n)*i.bytes≤140737488355328) (agZ:sLen+n≤140737488355328):
  (Builtin.append_ #[t,t] T #[.slice A sLen sCap,x]).run P w=
   .ok (.slice (some ⟨w.heap.size,0,none⟩) (sLen+n) (grownCap w (sLen+n) sCap e)) (w.drew.alloc (.cells (olds.toArray++news.toArray++Builtin.zeroCells z.cells (grownCap w (sLen+n) sCap e-(sLen+n))) e)):=by
 have hf:=hx.first (P:=P) w.drew rfl
 have hfo:=hb.first (P:=P) w.drew rfl
 obtain⟨X,c,rfl,_⟩:=hx;subst hs;have hn:¬(sLen+n≤sCap):=by omega
 have ag0:¬(9223372036854775807<((sLen:Int)+(n:Int))):=by omega
 have ag1:¬(281474976710656<Builtin.nextslicecap (sLen+n) sCap*i.bytes):=by
  have h1:=Nat.mul_le_mul_right i.bytes (nextslicecap_le hg);grind
 simp[Builtin.append_,run_underlying hu,sizeOf,typeInfo,zeroValue,hi,hz,Builtin.lenOf,Question.forced,hf,hfo,newRow,grownCap];grind
theorem Eg z n:(Builtin.zeroCells z n).size=n*z.size:=by simp[Builtin.zeroCells]
theorem Vf {H F t}{xs ys:List t.den}{olds news:List Value}(hl:olds.length=xs.length*t.size)(hx:∀i h,qF H F t xs[i] (fun j=>olds[i*t.size+j]?))
  (hy:∀i h,qF H F t ys[i] (fun j=>news[i*t.size+j]?)):∀i h,qF H F t (xs++ys)[i] (fun j=>(olds++news)[i*t.size+j]?):=by
 intro i hi;by_cases h:i<xs.length
 ·rw[List.getElem_append_left h];refine vB (by simp) (by simp) t _ _ _ (fun j hj=>?_) (hx i h);have:=Nat.mul_le_mul_right t.size (show i+1≤xs.length by omega);grind
 ·rw[List.getElem_append_right (by omega)];refine vB (by simp) (by simp) t _ _ _ (fun j hj=>?_) (hy (i-xs.length) (by grind));have:=Nat.mul_le_mul_right t.size (show xs.length≤i by omega);rw[List.getElem?_append_right (by omega),hl]
  congr 1
  rw[Nat.sub_mul];omega
def JG (M:zK)(w:World)(v:zW)(u:vG)(rv:Value)(w':World):Prop:=
 ∃M',w'.os=w.os∧w'.tape=w.tape∧w'.output=w.output∧M'.H=w'.heap∧M'.h=qH M.h u∧Ok M'∧yO M M'∧zV M' v rv
theorem JG.runs {P s M w w' v u rv}(h:JG M w v u rv w')(hr:s.run P w=.ok rv w'):qI P s M w v u:=by
 obtain⟨M',h⟩:=h;exact⟨_,_,M',hr,h⟩
theorem yW0 {M w}(ok:Ok M)(hM:M.H=w.heap){nm t zs us e c}{u:vG}(aU:M.h nm=none)
  (hg:∀p∈u,p.2=.gone∧∃o,M.h p.1=some o∧o.owned=true) (hc:zs.length≤c) (hs:c*t.size≤us.size) (hx:∀i h,qF M.H M.G t zs[i] (fun j=>us[i*t.size+j]?))
  {w':World} (hw:w'.heap=w.heap.push (.cells us e)∧w'.os=w.os∧w'.tape=w.tape∧w'.output=w.output):
  JG M w (.c (.osl nm none)) (u++[(nm,.arr true t zs)]) (.slice (some ⟨w.heap.size,0,none⟩) zs.length c) w':=by
 let C:qC:=⟨some M.H.size,zs.length,t.size,0,[]⟩;have hh:∀n',(qH M.h (u++[(nm,.arr true t zs)])) n'=if n'=nm then some (.arr true t zs) else qH M.h u n':=fun n'=>by
  rw[ll,Uh];by_cases e:n'=nm
  ·rw[if_pos e,e,yR]
  ·rw[if_neg e,yV _ _ e]
 have hle:=Nat.mul_le_mul_right t.size hc;have:=zK.move_ok (M:=M) (nm:=nm) (o':=.arr true t zs) (C':=C) (h':=qH M.h (u++[(nm,.arr true t zs)])) (H':=M.H.push (.cells us e)) ok (fun j=>j∈u.map (·.1)) aU
  (fun j hj=>by
   obtain⟨p,hp,e⟩:=List.mem_map.1 hj;obtain⟨_,o,ho,iS⟩:=hg p hp;refine⟨o,by simp_all,iS,?_⟩;have bx:j≠nm:=by grind
   rw[hh,if_neg bx];exact U9 (by grind) hj)
  (by simp_all) (fun n' h1 h2=>by rw[hh,if_neg h2];exact Ef h1) (by simp) (by grind) (fun b hb=>DS (pL hb))
  (fun b hb=>by
   simp only[C,qC.fp] at hb;simp_all)
  (fun x=>⟨rfl,rfl,(by grind),us,e,AV,by simp,by omega,fun i hi=>vB x.G x.sameG t _ _ _ (by simp) (hx i hi)⟩)
 refine⟨_,hw.2.1,hw.2.2.1,hw.2.2.2,by show M.H.push _=_;simp_all,rfl,this.1,this.2,C,κset_same _ _ _,_,c,rfl,?_⟩;refine⟨hc,0,by rw[hM],by simp,?_⟩;have:qU (M.H.push (.cells us e)) M.H.size=us.size:=by simp[qU]
 show(0+c)*t.size≤qU (M.H.push (.cells us e)) M.H.size;simp_all
theorem yG9 {P M w}(ok:Ok M)(hM:M.H=w.heap){nm t zs us e s c}{u:vG}(aU:M.h nm=none)
  (hg:∀p∈u,p.2=.gone∧∃o,M.h p.1=some o∧o.owned=true) (hc:zs.length≤c) (hs:c*t.size≤us.size) (hx:∀i h,qF M.H M.G t zs[i] (fun j=>us[i*t.size+j]?))
  {w'} (hr:s.run P w=.ok (.slice (some ⟨w.heap.size,0,none⟩) zs.length c) w') (hw:w'.heap=w.heap.push (.cells us e)∧w'.os=w.os∧w'.tape=w.tape∧w'.output=w.output):
  qI P s M w (.c (.osl nm none)) (u++[(nm,.arr true t zs)]):=
 (yW0 ok hM aU hg hc hs hx hw).runs hr
theorem yG4 {M:zK}{w:World}(ok:Ok M)(hM:M.H=w.heap){id nm:Nat}{t:Ty}{iz zs:List t.den}{C:qC}{H':Array Go.Obj}{c:Nat}{A:Option Addr}{w':World}
  (an:M.h id=some (.arr true t iz)) (hC:M.κ id=some C) (aU:M.h nm=none) (dK:H'.size=M.H.size) (hH:∀b,b∉C.fp→H'[b]? =M.H[b]?) (cR:∀b,qU H' b=qU M.H b)
  (hx:∀M',yS M M'→M'.H=H'→M'.G=M.G→match C.blk with
   |none=>zs=[]
   |some B=>∃vals e,H'[B]? =some (.cells vals e (0,0))∧zs.length*t.size≤vals.size∧∀i (h:i<zs.length),qF M'.H M'.G t zs[i] (fun j=>vals[i*t.size+j]?))
  (hA:match C.blk with
   |none=>A=none∧zs.length=0∧c=0
   |some B=>zs.length≤c∧∃a,A=some ⟨B,a,none⟩∧(c=0∨a=0)∧c*t.size≤qU M.H B)
  (hw:w'.heap=H'∧w'.os=w.os∧w'.tape=w.tape∧w'.output=w.output):
  JG M w (.c (.osl nm none)) [(id,.gone),(nm,.arr true t zs)] (.slice A zs.length c) w':=by
 obtain⟨C0,se,hO⟩:=ok.obj id _ an;rw[hC] at se;cases se;obtain⟨fr,ff⟩:=Jt hO;have bx:id≠nm:=by grind
 let C':qC:=⟨C.blk,zs.length,t.size,0,[]⟩;have hh:∀n',(qH M.h [(id,.gone),(nm,.arr true t zs)]) n'=if n'=nm then some (.arr true t zs) else if n'=id then some .gone else M.h n':=fun n'=>by
  show(yL (yL M.h id .gone) nm _) n'=_;by_cases e:n'=nm
  ·rw[if_pos e,e,yR]
  ·rw[if_neg e,yV _ _ e];by_cases e2:n'=id
   ·rw[if_pos e2,e2,yR]
   ·rw[if_neg e2,yV _ _ e2]
 have:=zK.move_ok (M:=M) (nm:=nm) (o':=.arr true t zs) (C':=C') (h':=qH M.h [(id,.gone),(nm,.arr true t zs)]) (H':=H') ok (fun j=>j=id) aU
  (fun j hj=>⟨.arr true t iz,by rw[hj];exact an,rfl,by simp_all⟩)
  (by rw[hh,if_pos rfl]) (by grind) (by omega) (by grind) (fun b _=>cR b)
  (fun b hb=>.inr ⟨id,C,rfl,hC,by
   simp only[C',qC.fp,List.filterMap_nil,List.append_nil] at hb;rw[ff];exact hb⟩)
  (fun x=>by
   refine⟨rfl,rfl,(by grind),?_⟩;have:=hx _ x rfl rfl;show match C.blk with
    |none=>_
    |some B=>_
   cases hB:C.blk with
   |none=>simp_all
   |some B=>
    rw[hB] at this;obtain⟨vals,e,h1,h2,h3⟩:=this;exact⟨vals,e,h1,by simp,h2,h3⟩)
 refine⟨_,hw.2.1,hw.2.2.1,hw.2.2.2,by rw[hw.1];rfl,rfl,this.1,this.2,C',κset_same _ _ _,_,c,rfl,?_⟩;show match C.blk with
  |none=>_
  |some B=>_
 cases hB:C.blk with
 |none=>rw[hB] at hA;exact hA
 |some B=>
  rw[hB] at hA;obtain⟨h1,a,h2,h3,h4⟩:=hA;refine⟨h1,a,h2,by simpa using h3,?_⟩;show(0+c)*t.size≤qU H' B;simp_all
theorem Vg {P M w}(ok:Ok M)(hM:M.H=w.heap){id nm t iz zs C H' s c A w'}
  (an:M.h id=some (.arr true t iz)) (hC:M.κ id=some C) (aU:M.h nm=none) (dK:H'.size=M.H.size) (hH:∀b,b∉C.fp→H'[b]? =M.H[b]?) (cR:∀b,qU H' b=qU M.H b)
  (hx:∀M',yS M M'→M'.H=H'→M'.G=M.G→match C.blk with
   |none=>zs=[]
   |some B=>∃vals e,H'[B]? =some (.cells vals e (0,0))∧zs.length*t.size≤vals.size∧∀i h,qF M'.H M'.G t zs[i] (fun j=>vals[i*t.size+j]?))
  (hA:match C.blk with
   |none=>A=none∧zs.length=0∧c=0
   |some B=>zs.length≤c∧∃a,A=some ⟨B,a,none⟩∧(c=0∨a=0)∧c*t.size≤qU M.H B)
  (hw:w'.heap=H'∧w'.os=w.os∧w'.tape=w.tape∧w'.output=w.output) (hr:s.run P w=.ok (.slice A zs.length c) w'):
  qI P s M w (.c (.osl nm none)) [(id,.gone),(nm,.arr true t zs)]:=
 (yG4 ok hM an hC aU dK hH cR hx hA hw).runs hr
theorem JH {n b}(h:(Nat.ble (n*b) 140737488355328&&Nat.ble n 140737488355328)=true):n*b≤140737488355328∧n≤140737488355328:=by
 simp_all
theorem Vh {H H' F F'}:∀t x rd,t.flat=true→qF H F t x rd→qF H' F' t x rd
 |.int k,n,rd,_,h
 |.bool,n,rd,_,h=>h
 |.pair a b,p,rd,hf,h=>by
  simp[Ty.flat] at hf;exact⟨Vh a _ _ hf.1 h.1,Vh b _ _ hf.2 h.2⟩
theorem ySb {M:zK}{sh s}{xs:List s.den}{v}(hs:(sh||s.flat)=true)(hv:qF M.H (bif sh then M.G else M.F) (.sl s) xs (fun _=>some v)):
  ∃news,wW M.H v xs.length s.size news∧∀i hi,qF M.H M.G s xs[i] (fun j=>news[i*s.size+j]?):=by
 obtain⟨news,h1,h2⟩:=Vd hv;refine⟨news,h1,fun i hi=>?_⟩;cases sh with
 |true=>simp_all
 |false=>exact Vh _ _ _ hs (h2 i hi)
theorem yIo {M}(ok:Ok M){t x ys u v}(hv:zX M x v)(h:tI M.h t x=some (ys,u)):
  u=[]∧∃news,wW M.H v ys.length t.size news∧∀i hi,qF M.H M.G t ys[i] (fun j=>news[i*t.size+j]?):=by
 unfold tI at h;split at h
 ·cases h;have e:v=.slice none 0 0:=hv;subst e;exact⟨rfl,JF⟩
 ·rename_i sh s xs;cases hs:(sh||s.flat) with
  |false=>simp_all
  |true=>
   rw[hs] at h;simp  at h;obtain⟨zs,hz,rfl,rfl⟩:=h;obtain⟨e,hz⟩:=lq hz;subst e;subst hz;exact⟨rfl,ySb hs hv⟩
 ·rename_i sh s xs;cases hs:(sh||s.flat) with
  |false=>rw[hs] at h;cases h
  |true=>
   rw[hs] at h;simp  at h;obtain⟨zs,hz,rfl,rfl⟩:=h;obtain⟨e,hz⟩:=lq hz;subst e;subst hz;exact⟨rfl,ySb hs hv.2⟩
 ·split at h
  ·rename_i own s xs an;simp  at h;obtain⟨zs,hz,rfl,rfl⟩:=h;obtain⟨e,hz⟩:=lq hz;subst e;subst hz;obtain⟨C,hC,hO⟩:=ok.obj _ _ an;exact⟨rfl,Ba hC hO hv⟩
  ·cases h
 ·cases h
theorem Vi {P M w}(ok:Ok M)(hM:M.H=w.heap){nm t e T ty x ys news}(hu:P.underlying t=some (.slice e))(dN:kx P e=some ty)(aU:M.h nm=none)
  (hx:wW M.H x ys.length ty.size news) (hE:∀i hi,qF M.H M.G ty ys[i] (fun j=>news[i*ty.size+j]?)) (aY:ys.length*P.bytesOf e≤140737488355328∧ys.length≤140737488355328):
  qI P (Builtin.append_ #[t,t] T #[.slice none 0 0,x]) M w (.c (.osl nm none)) [(nm,.arr true ty ys)]:=by
 obtain⟨i,z,h1,h2,h3,h4,h5,h6,h7⟩:=sb dN;by_cases h0:ys.length=0
 ·have hy:ys=[]:=by grind
  subst hy;have hr:=sd (P:=P) (w:=w) (A:=none) (sLen:=0) (sCap:=0) T hu h1 h3 (by rw[←hM];exact hx) (by simp) w rfl;let C:qC:=⟨none,0,ty.size,0,[]⟩;have:=zK.move_ok (M:=M) (nm:=nm) (o':=.arr true ty []) (C':=C) (h':=yL M.h nm (.arr true ty [])) (H':=M.H) ok (fun _=>False) aU (by simp) (yR _ _ _)
   (fun n' _ h2=>yV _ _ h2) (by simp) (by simp) (by simp) (nofun) (fun x=>⟨rfl,rfl,by grind,rfl⟩)
  exact⟨_,_,M.move nm C (yL M.h nm (.arr true ty [])) M.H,hr,rfl,rfl,rfl,hM,rfl,this.1,this.2,C,κset_same _ _ _,_,_,rfl,rfl,rfl,rfl⟩
 ·have hb:wW w.heap (.slice none 0 0) 0 ty.size []:=⟨none,0,rfl,by simp,by simp,rfl⟩;have hr:=Ve (P:=P) (w:=w) T hu h1 h2 h3 hb (by rw[←hM];exact hx) (by omega) (by simp_all) (by omega);simp  at hr;have hlen:news.length=ys.length*ty.size:=hx.choose_spec.choose_spec.2.1;have oO:=grownCap_ge w ys.length 0 e;refine yG9 (u:=[]) ok hM aU (by simp) oO ?_ (fun i hi=>?_) hr ⟨rfl,rfl,rfl,rfl⟩
  ·simp[Eg,h7,hlen,←Nat.add_mul];simp_all
  ·refine vB (by simp) (by simp) ty _ _ _ (fun j hj=>?_) (hE i hi);have:=Nat.mul_le_mul_right ty.size (show i+1≤ys.length by omega);grind
theorem Vj {P}{M w}(ok:Ok M)(hM:M.H=w.heap){id nm t e T ty x b iz ys r news}(hu:P.underlying t=some (.slice e))(dN:kx P e=some ty)
  (aU:M.h nm=none) (an:M.h id=some (.arr true ty iz)) (hb:zX M (.osl id r) b) (tT:match r with|none=>True|some (lo,_)=>lo=0)
  (hx:wW M.H x ys.length ty.size news) (hE:∀i hi,qF M.H M.G ty ys[i] (fun j=>news[i*ty.size+j]?))
  (aY:((j4 iz r).length+ys.length)*P.bytesOf e≤140737488355328∧(j4 iz r).length+ys.length≤140737488355328):
  qI P (Builtin.append_ #[t,t] T #[b,x]) M w (.c (.osl nm none)) [(id,.gone),(nm,.arr true ty (j4 iz r++ys))]:=by
 obtain⟨i,z,h1,h2,h3,h4,h5,h6,h7⟩:=sb dN;obtain⟨C,hC,hO⟩:=ok.obj id _ an;obtain⟨olds,ho,hEo⟩:=Ba hC hO hb;have hlen:news.length=ys.length*ty.size:=hx.choose_spec.choose_spec.2.1;have mR:olds.length=(j4 iz r).length*ty.size:=ho.choose_spec.choose_spec.2.1;obtain⟨C',aF,hS⟩:=hb;rw[hC] at aF;cases aF;have oT:∃n,(j4 iz r).length=n∧jB M.H C 0 n b:=by
  cases r with
  |none=>exact⟨C.len,by rw[hO.1];rfl,hS⟩
  |some p=>
   obtain⟨lo,n⟩:=p;have:lo=0:=tT;subst this;exact⟨n,DX (by have:=hO.1;have:=hS.1;omega),hS.2.1⟩
 obtain⟨n,hn,A,sCap,rfl,oT⟩:=oT;rw[hn] at mR ho aY;have bn:=Vf (H:=M.H) (F:=M.G) (t:=ty) (xs:=j4 iz r) (ys:=ys) (olds:=olds) (news:=news) (by rw[hn];exact mR) hEo hE;have sf:(j4 iz r++ys).length=n+ys.length:=by rw[List.length_append,hn]
 by_cases cT:n+ys.length≤sCap
 ·
  cases hB:C.blk with
  |none=>
   rw[hB] at oT;obtain⟨rfl,rfl,rfl⟩:=oT;have hr:=sd (P:=P) (w:=w) (A:=none) (sLen:=0) (sCap:=0) T hu h1 h3 (by rw[←hM];exact hx) cT w rfl;rw[←sf] at hr;refine Vg (s:=Builtin.append_ #[t,t] T #[.slice none 0 0,x]) (H':=M.H) ok hM an hC aU rfl (fun _ _=>rfl) (fun _=>rfl) (fun M' _ _ _=>?_) ?_ ⟨hM.symm,rfl,rfl,rfl⟩ hr
   ·rw[hB];exact List.eq_nil_of_length_eq_zero (by omega)
   ·rw[hB];exact⟨rfl,by omega,rfl⟩
  |some B=>
   rw[hB] at oT;obtain⟨hc,a,rfl,ha,hs⟩:=oT;obtain⟨k1,k2,k3,k4⟩:=hO;rw[hB] at k4;obtain⟨vals,ev,k5,k6,k7,k8⟩:=k4;rw[Nat.zero_mul] at ha;rw[Nat.zero_add,k2] at hs;have cR:qU M.H B=vals.size:=by simp only[qU,k5]
   rw[cR] at hs;have j8:w.heap[B]? =some (.cells vals ev (0,0)):=by rw[←hM];exact k5
   by_cases h0:sCap=0
   ·
    have Eh:n=0:=by omega
    have Vk:ys.length=0:=by omega
    have hr := sd (P := P) (w := w) (A := some ⟨B, a, none⟩) (sLen := n) (sCap := sCap) T hu h1 h3 (by rw [← hM]; exact hx) cT w (by
     have:news=[]:=List.eq_nil_of_length_eq_zero (by rw[hlen,Vk,Nat.zero_mul]);rw[this];rfl)
    rw[←sf] at hr;have OG:j4 iz r++ys=[]:=List.eq_nil_of_length_eq_zero (by omega);refine Vg (s:=Builtin.append_ #[t,t] T #[.slice (some ⟨B,a,none⟩) n sCap,x]) (H':=M.H) ok hM an hC aU rfl (fun _ _=>rfl) (fun _=>rfl) (fun M' _ _ _=>?_) ?_ ⟨hM.symm,rfl,rfl,rfl⟩ hr
    ·rw[hB];refine⟨vals,ev,k5,by rw[OG];simp,fun i hi=>?_⟩;rw[OG] at hi;simp at hi
    ·rw[hB];exact⟨by omega,a,rfl,.inl h0,by rw[h0];simp⟩
   ·have nI:a=0:=by rcases ha with ha|ha<;>omega
    subst nI;have hle:=Nat.mul_le_mul_right ty.size cT;rw[Nat.add_mul] at hle;have aM:n*ty.size+news.length≤vals.size:=by omega
    have j5:=run_storeCells_at (P:=P) B (n*ty.size) ev news 0 vals w j8 (by simpa using aM) (fun v hv=>AW (hx.choose_spec.choose_spec.2.2.1 v hv));simp only[Nat.add_zero] at j5;have hr:=sd (P:=P) (w:=w) (A:=some ⟨B,0,none⟩) (sLen:=n) (sCap:=sCap) T hu h1 h3 (by rw[←hM];exact hx) cT (w.setRow B (yX vals (n*ty.size) news)) (by show(storeCells (Addr.add ⟨B,0,none⟩ (n*ty.size)) news).run P w=_;rw[Addr.add_lit,Nat.zero_add];exact j5);rw[←sf] at hr;obtain⟨f1,f2,f3,f4⟩:=oQ j8 (new:=yX vals (n*ty.size) news) (gV aM);refine Vg (s:=Builtin.append_ #[t,t] T #[.slice (some ⟨B,0,none⟩) n sCap,x]) (H':=(w.setRow B (yX vals (n*ty.size) news)).heap) ok hM an hC aU (by rw[hM];exact f1)
     (fun b hb=>by rw[hM];exact f3 b fun e=>hb (e▸fQ hB)) (fun b=>by rw[hM];exact f4 b) (fun M' xt hH hG=>?_) ?_ ⟨rfl,rfl,rfl,rfl⟩ hr
    ·rw[hB];refine⟨_,ev,f2,by rw[sf,gV aM,Nat.add_mul];omega,fun i hi=>?_⟩;refine vB xt.G xt.sameG ty _ _ _ (fun j hj=>?_) (bn i hi);have aT:=Nat.mul_le_mul_right ty.size (show i+1≤n+ys.length by omega);rw[Nat.add_mul,Nat.add_mul] at aT;rw[jW aM];by_cases bd:i*ty.size+j<n*ty.size
     ·rw[if_pos bd,List.getElem?_append_left (by omega)];obtain⟨A',c',e1,_,_,hold⟩:=ho;simp only[Value.slice.injEq] at e1;obtain⟨rfl,_,rfl⟩:=e1;rcases hold with Eh|⟨_,hold⟩
      ·rw[Eh] at bd;omega
      ·have sg:i*ty.size+j<olds.length:=by omega
       have:=hold (i*ty.size+j) olds[i*ty.size+j] (List.getElem?_eq_getElem sg);rw[List.getElem?_eq_getElem sg,←this];simp only[yW,k5,Nat.zero_add]
     ·rw[if_neg bd,if_pos (by omega),List.getElem?_append_right (by omega),mR]
    ·rw[hB];exact by grind
 ·
  have hr:=Ve (P:=P) (w:=w) T hu h1 h2 h3 (by rw[←hM];exact ho) (by rw[←hM];exact hx) (by omega) (by rw[h6] at aY;exact aY.1) aY.2;have oO:=grownCap_ge w (n+ys.length) sCap e;rw[←sf] at hr oO;refine yG9 (s:=Builtin.append_ #[t,t] T #[.slice A n sCap,x]) (u:=[(id,.gone)]) ok hM aU (fun p hp=>?_) oO ?_ (fun i hi=>?_) hr ⟨rfl,rfl,rfl,rfl⟩
  ·simp only[List.mem_singleton] at hp;subst hp;exact⟨rfl,_,an,rfl⟩
  ·simp only[Array.size_append,List.size_toArray,Eg,h7,hlen,mR,←Nat.add_mul];exact Nat.le_of_eq (by congr 1;omega)
  ·refine vB (fun _ h=>h) (fun _ _=>rfl) ty _ _ _ (fun j hj=>?_) (bn i hi);have:=Nat.mul_le_mul_right ty.size (show i+1≤n+ys.length by omega);rw[Nat.add_mul,Nat.add_mul] at this;rw[Array.getElem?_append_left (by simp;omega)];simp
def Ei (H:Array Go.Obj)(row:List Int)(m:Option (Option Nat×Nat))(c:Option Value):Prop:=∃rb v,m=some (rb,row.length)∧c=some v∧mK H rb row.length v∧
 (∀R,rb=some R→∃rv er,H[R]? =some (.cells rv er (0,0))∧∀j (h':j<row.length),rv[j]? =some (.int .i64 row[j]))
theorem yYb {M ver xs C}(h:yY M (.mat ver xs) C):C.len=xs.length∧C.sz=1∧C.rows.length=xs.length∧C.fp.Nodup∧
  ∃cI:List Value,cI.length=xs.length∧(∀k (h:k<xs.length),Ei M.H xs[k] C.rows[k]? cI[k]?)∧
   (match C.blk with
    |none=>xs=[]
    |some B=>∃vals e,M.H[B]? =some (.cells vals e (0,0))∧xs.length≤vals.size∧∀k,k<xs.length→vals[k]? =cI[k]?):=by
 obtain⟨h1,h2,h3,h4,h5,h6⟩:=h;refine⟨h2,h3,h4,h5,?_⟩;cases hB:C.blk with
 |none=>
  simp_all
 |some B=>
  rw[hB] at h6;obtain⟨vals,e,h7,h8,h9⟩:=h6;refine⟨vals.toList.take xs.length,by simp;omega,fun k hk=>?_,vals,e,h7,h8,by grind⟩;obtain⟨rb,v,k1,k2,k3,k4⟩:=h9 k hk;exact⟨rb,v,k1,by grind,k3,k4⟩
theorem Ei.one {H row m v}(h:Ei H row m (some v)):v.one1=true:=by
 obtain⟨rb,v',_,e,h,_⟩:=h;cases e;exact h.one
theorem vHi {M}{xs:List (List Int)}{C id v}(hC:M.κ id=some C)(hv:zX M (.osl id none) v){cI}(hl:cI.length=xs.length)(hlen:C.len=xs.length)(dK:C.sz=1)
  (bU : ∀ u ∈ cI, u.one1 = true) (hb:match C.blk with
    |none=>xs=[]
    |some B=>∃vals e,M.H[B]? =some (.cells vals e (0,0))∧xs.length≤vals.size∧∀k,k<xs.length→vals[k]? =cI[k]?):wW M.H v xs.length 1 cI:=by
 obtain⟨C',aF,A,c,rfl,hS⟩:=hv;rw[hC] at aF;cases aF;rw[hlen];refine⟨A,c,rfl,by omega,bU,?_⟩;cases hB:C.blk with
 |none=>
  simp_all
 |some B=>
  rw[hB] at hS hb;obtain⟨hc,a,rfl,ha,_⟩:=hS;obtain⟨vals,e,h1,h2,h3⟩:=hb;by_cases h0:xs.length=0
  ·omega
  ·refine .inr ⟨rfl,fun j u hu=>?_⟩;have nI:a=0:=by omega
   have hj:j<xs.length:=by
    grind
   simp[yW];simp_all
theorem vEs {C D:qC}(hC:C.fp.Nodup)(hD:D.fp.Nodup)(ek:∀b,b∈C.fp→b∉D.fp):((C.rows++D.rows).filterMap (·.1)).Nodup:=by
 rw[List.filterMap_append];refine List.nodup_append.2 ⟨(List.nodup_append.1 hC).2.1,(List.nodup_append.1 hD).2.1,fun a ha b hb e=>?_⟩;exact ek a (by simp[qC.fp];simp_all) (by simp[qC.fp];simp_all)
theorem OJ {P M w w'}(ok:Ok M)(hM:M.H=w.heap){id jd nm v1 v2 xs ys C Cj C' s A c H'}
  (an:M.h id=some (.mat v1 xs)) (dh:M.h jd=some (.mat v2 ys)) (bx:id≠jd) (hC:M.κ id=some C) (eN:M.κ jd=some Cj) (aU:M.h nm=none) (dK:M.H.size≤H'.size)
  (hH:∀b,b<M.H.size→C.blk≠some b→H'[b]? =M.H[b]?) (cR:∀b,b<M.H.size→qU H' b=qU M.H b)
  (hl:C'.len=(xs++ys).length) (Ej:C'.sz=1) (Bb:C'.ver=0) (mS:C'.rows=C.rows++Cj.rows) (Vl:∀B,C'.blk=some B→(M.H.size≤B∧B<H'.size)∨C.blk=some B)
  (hx:match C'.blk with
   |none=>xs++ys=[]
   |some B=>∃vals e,H'[B]? =some (.cells vals e (0,0))∧(xs++ys).length≤vals.size∧∀k (h:k<(xs++ys).length),Ei M.H (xs++ys)[k] (C.rows++Cj.rows)[k]? vals[k]?)
  (hA:jB H' C' 0 C'.len (.slice A (xs++ys).length c))
  (hw:w'.heap=H'∧w'.os=w.os∧w'.tape=w.tape∧w'.output=w.output) (hr:s.run P w=.ok (.slice A (xs++ys).length c) w'):
  qI P s M w (.c (.osl nm none)) [(id,.gone),(jd,.gone),(nm,.mat 0 (xs++ys))]:=by
 obtain⟨C0,se,hO⟩:=ok.obj id _ an;rw[hC] at se;cases se;obtain⟨C1,iR,nJ⟩:=ok.obj jd _ dh;rw[eN] at iR;cases iR;have Vm:=hO.2.2.2.2.1;have ndD:=nJ.2.2.2.2.1;have ek:∀b,b∈C.fp→b∉Cj.fp:=fun b h1 h2=>ok.disj id jd _ _ C Cj b bx an dh rfl rfl hC eN h1 h2
 have OK:id≠nm:=by grind
 have hnj:jd≠nm:=by grind
 have hh:∀n',(qH M.h [(id,.gone),(jd,.gone),(nm,.mat 0 (xs++ys))]) n'=if n'=nm then some (.mat 0 (xs++ys)) else if n'=jd then some .gone else if n'=id then some .gone else M.h n':=fun n'=>by
  show(yL (yL (yL M.h id .gone) jd .gone) nm _) n'=_;by_cases e:n'=nm
  ·rw[if_pos e,e,yR]
  ·rw[if_neg e,yV _ _ e];by_cases e2:n'=jd
   ·rw[if_pos e2,e2,yR]
   ·rw[if_neg e2,yV _ _ e2];by_cases e3:n'=id
    ·rw[if_pos e3,e3,yR]
    ·rw[if_neg e3,yV _ _ e3]
 have JI:∀b∈C.fp,b<M.H.size:=fun b hb=>(ok.own b ⟨id,_,C,an,rfl,hC,hb⟩).2
 have JJ:∀b∈Cj.fp,b<M.H.size:=fun b hb=>(ok.own b ⟨jd,_,Cj,dh,rfl,eN,hb⟩).2
 have dp:∀R∈(C.rows++Cj.rows).filterMap (·.1),R∈C.fp∧C.blk≠some R∨R∈Cj.fp:=fun R hR=>by
  rw[List.filterMap_append] at hR;rcases List.mem_append.1 hR with h|h
  ·refine .inl ⟨by simp only[qC.fp,List.mem_append];exact .inr h,fun e=>?_⟩;exact(List.nodup_append.1 Vm).2.2 R (by simp[e]) R h rfl
  ·exact .inr (by simp only[qC.fp,List.mem_append];exact .inr h)
 have JK:∀R∈(C.rows++Cj.rows).filterMap (·.1),R<M.H.size∧C.blk≠some R:=fun R hR=>by
  rcases dp R hR with⟨h1,h2⟩|h
  ·exact⟨JI R h1,h2⟩
  ·exact⟨JJ R h,fun e=>ek R (fQ e) h⟩
 have nd':C'.fp.Nodup:=by
  simp only[qC.fp,mS];cases hB:C'.blk with
  |none=>simpa using vEs Vm ndD ek
  |some B=>
   simp only[Option.toList_some,List.singleton_append];refine List.nodup_cons.2 ⟨fun hm=>?_,vEs Vm ndD ek⟩;grind
 have:=zK.move_ok (M:=M) (nm:=nm) (o':=.mat 0 (xs++ys)) (C':=C') (h':=qH M.h [(id,.gone),(jd,.gone),(nm,.mat 0 (xs++ys))]) (H':=H') ok (fun j=>j=id∨j=jd) aU
  (fun j hj=>by
   rcases hj with rfl|rfl
   ·exact⟨_,an,rfl,by rw[hh,if_neg OK,if_neg bx,if_pos rfl]⟩
   ·exact⟨_,dh,rfl,by rw[hh,if_neg hnj,if_pos rfl]⟩)
  (by rw[hh,if_pos rfl]) (fun n' h1 h2=>by rw[hh,if_neg h2,if_neg (fun e=>h1 (.inr e)),if_neg (fun e=>h1 (.inl e))]) dK
  (fun b hb hn=>hH b hb fun e=>hn id C (.inl rfl) hC (fQ e)) cR
  (fun b hb=>by
   simp only[qC.fp,mS,List.mem_append] at hb;rcases hb with hb|hb
   ·cases hB:C'.blk with
    |none=>rw[hB] at hb;simp at hb
    |some B=>
     rw[hB] at hb;simp at hb;subst hb;rcases Vl b hB with h|h
     ·exact .inl h
     ·exact .inr ⟨id,C,.inl rfl,hC,fQ h⟩
   simp_all)
  (fun x=>by
   refine⟨Bb,hl,Ej,?_,nd',?_⟩
   ·rw[mS,List.length_append,hO.2.2.2.1,nJ.2.2.2.1,List.length_append]
   ·cases hB:C'.blk with
    |none=>rw[hB] at hx;exact hx
    |some B=>
     rw[hB] at hx;obtain⟨vals,e,k1,k2,k3⟩:=hx;refine⟨vals,e,k1,k2,fun k hk=>?_⟩;obtain⟨rb,v,q1,q2,q3,q4⟩:=k3 k hk;refine⟨rb,v,by rw[mS];exact q1,q2,q3.ext x,fun R hR=>?_⟩;obtain⟨rv,er,q5,q6⟩:=q4 R hR;have hRm:=JK R (List.mem_filterMap.2 ⟨_,List.mem_of_getElem? q1,hR⟩);exact⟨rv,er,by show H'[R]? =_;rw[hH R hRm.1 hRm.2];exact q5,q6⟩)
 exact⟨_,_,M.move nm C' (qH M.h [(id,.gone),(jd,.gone),(nm,.mat 0 (xs++ys))]) H',hr,hw.2.1,hw.2.2.1,hw.2.2.2,hw.1.symm,rfl,this.1,this.2,C',κset_same _ _ _,by rw[hl] at hA⊢;exact hA⟩
theorem Vn {H}{xs:List (List Int)}{rc:List (Option Nat×Nat)}{cI:List Value}(hl:cI.length=xs.length)(h:∀k (h:k<xs.length),Ei H xs[k] rc[k]? cI[k]?):∀u∈cI,u.one1=true:=by
 intro u hu;obtain⟨k,hk,rfl⟩:=List.getElem_of_mem hu;have:=h k (by omega);rw[List.getElem?_eq_getElem hk] at this;exact this.one
theorem Vo {P M w}(ok:Ok M)(hM:M.H=w.heap){id jd nm v1 v2 t e T x b xs ys}(hu:P.underlying t=some (.slice e))(dN:kx P e=some (.sl (.int .i64)))
  (aU:M.h nm=none) (an:M.h id=some (.mat v1 xs)) (dh:M.h jd=some (.mat v2 ys)) (bx:id≠jd) (hb:zX M (.osl id none) b) (hx:zX M (.osl jd none) x)
  (aY:(xs.length+ys.length)*P.bytesOf e≤140737488355328∧xs.length+ys.length≤140737488355328):
  qI P (Builtin.append_ #[t,t] T #[b,x]) M w (.c (.osl nm none)) [(id,.gone),(jd,.gone),(nm,.mat 0 (xs++ys))]:=by
 obtain⟨i,z,h1,h2,h3,h4,h5,h6,h7⟩:=sb dN;obtain⟨C,hC,hO⟩:=ok.obj id _ an;obtain⟨Cj,eN,nJ⟩:=ok.obj jd _ dh;obtain⟨a1,a2,a3,a4,olds,a5,a6,a7⟩:=yYb hO;obtain⟨b1,b2,b3,b4,news,b5,b6,b7⟩:=yYb nJ;have ho:=vHi hC hb a5 a1 a2 (Vn a5 a6) a7;have hn:=vHi eN hx b5 b1 b2 (Vn b5 b6) b7;have sf:(xs++ys).length=xs.length+ys.length:=List.length_append;have bU:=Vn b5 b6;have bn:∀k (h:k<(xs++ys).length),Ei M.H (xs++ys)[k] (C.rows++Cj.rows)[k]? (olds++news)[k]? :=by
  intro k hk;by_cases bd:k<xs.length
  ·rw[List.getElem_append_left bd,List.getElem?_append_left (by omega),List.getElem?_append_left (by omega)];exact a6 k bd
  ·rw[List.getElem_append_right (by omega),List.getElem?_append_right (by omega),List.getElem?_append_right (by omega),a3,a5];exact b6 _ (by omega)
 obtain⟨C',aF,A,sCap,rfl,oT⟩:=hb;rw[hC] at aF;cases aF;rw[a1] at ho oT;have tV:i.size=1:=h3;have U3:z.cells.size=1:=h7;by_cases cT:xs.length+ys.length≤sCap
 ·cases hB:C.blk with
  |none=>
   rw[hB] at oT;obtain⟨rfl,h0,rfl⟩:=oT;have hr:=sd (P:=P) (w:=w) (A:=none) (sLen:=xs.length) (sCap:=0) T hu h1 tV (by rw[←hM];exact hn) cT w rfl;rw[←sf] at hr;have cO:xs++ys=[]:=List.eq_nil_of_length_eq_zero (by omega);rw[a1];refine OJ (C':=⟨none,(xs++ys).length,1,0,C.rows++Cj.rows⟩) (H':=M.H) ok hM an dh bx hC eN aU (Nat.le_refl _) (fun _ _ _=>rfl) (fun _ _=>rfl) rfl rfl rfl rfl (fun B hB=>by cases hB) cO ⟨none,0,rfl,rfl,(by show(xs++ys).length=0;omega),rfl⟩ ⟨hM.symm,rfl,rfl,rfl⟩ hr
  |some B=>
   rw[hB] at oT a7;obtain⟨hc,a,rfl,ha,hs⟩:=oT;obtain⟨vals,ev,k5,k6,k7⟩:=a7;rw[Nat.zero_mul] at ha;rw[Nat.zero_add,a2,Nat.mul_one] at hs;have cR:qU M.H B=vals.size:=by simp only[qU,k5]
   rw[cR] at hs;have j8:w.heap[B]? =some (.cells vals ev (0,0)):=by rw[←hM];exact k5
   by_cases h0:sCap=0
   ·have hr := sd (P := P) (w := w) (A := some ⟨B, a, none⟩) (sLen := xs.length) (sCap := sCap) T hu h1 tV (by rw [← hM]; exact hn) cT w (by
     have:news=[]:=List.eq_nil_of_length_eq_zero (by omega);rw[this];rfl)
    rw[←sf] at hr;have cO:xs++ys=[]:=List.eq_nil_of_length_eq_zero (by omega);rw[a1];refine OJ (C':=⟨some B,(xs++ys).length,1,0,C.rows++Cj.rows⟩) (H':=M.H) ok hM an dh bx hC eN aU (Nat.le_refl _) (fun _ _ _=>rfl) (fun _ _=>rfl) rfl rfl rfl rfl (fun B' fD=>.inr (by cases fD;exact hB))
     ⟨vals,ev,k5,by rw[cO];simp,fun k hk=>by rw[cO] at hk;simp at hk⟩ ⟨_,sCap,rfl,(by show(xs++ys).length≤sCap;omega),a,rfl,.inl h0,by rw[h0];simp⟩ ⟨hM.symm,rfl,rfl,rfl⟩ hr
   ·have nI:a=0:=by rcases ha with ha|ha<;>omega
    subst nI;have aM:xs.length+news.length≤vals.size:=by omega
    have j5:=run_storeCells_at (P:=P) B xs.length ev news 0 vals w j8 (by simpa using aM) (fun v hv=>AW (bU v hv));simp only[Nat.add_zero] at j5;have hr:=sd (P:=P) (w:=w) (A:=some ⟨B,0,none⟩) (sLen:=xs.length) (sCap:=sCap) T hu h1 tV (by rw[←hM];exact hn) cT (w.setRow B (yX vals xs.length news))
     (by show(storeCells (Addr.add ⟨B,0,none⟩ (xs.length*1)) news).run P w=_;rw[Addr.add_lit,Nat.zero_add,Nat.mul_one];exact j5)
    rw[←sf] at hr;obtain⟨f1,f2,f3,f4⟩:=oQ j8 (new:=yX vals xs.length news) (gV aM);rw[a1];refine OJ (C':=⟨some B,(xs++ys).length,1,0,C.rows++Cj.rows⟩) (H':=(w.setRow B (yX vals xs.length news)).heap) ok hM an dh bx hC eN aU (by rw[hM,f1];exact Nat.le_refl _) (fun b hb hn=>by rw[hM];exact f3 b fun e=>hn (e▸hB))
     (fun b _=>by rw[hM];exact f4 b) rfl rfl rfl rfl (fun B' fD=>.inr (by cases fD;exact hB)) ⟨_,ev,f2,by rw[gV aM];omega,fun k hk=>?_⟩ ⟨_,sCap,rfl,(by show(xs++ys).length≤sCap;omega),0,rfl,.inr (by simp),by show(0+sCap)*1≤qU _ B;rw[f4,←hM,cR];omega⟩ ⟨rfl,rfl,rfl,rfl⟩ hr
    have:=bn k hk;rw[jW aM];by_cases bd:k<xs.length
    ·rw[if_pos bd,k7 k bd];rw[List.getElem?_append_left (l₁:=olds) (by omega)] at this;exact this
    ·rw[if_neg bd,if_pos (by omega)];rw[List.getElem?_append_right (l₁:=olds) (by omega),a5] at this;exact this
 ·have hr:=Ve (P:=P) (w:=w) T hu h1 h2 tV (by rw[←hM];exact ho) (by rw[←hM];exact hn) (by omega) (by rw[h6] at aY;exact aY.1) aY.2;have oO:=grownCap_ge w (xs.length+ys.length) sCap e;rw[←sf] at hr oO;generalize oP:olds.toArray++news.toArray++Builtin.zeroCells z.cells (grownCap w (xs++ys).length sCap e-(xs++ys).length)=us at hr;have Vp:us.size=grownCap w (xs++ys).length sCap e:=by
   rw[←oP];simp only[Array.size_append,List.size_toArray,Eg,U3];omega
  have Vq:∀k,k<(xs++ys).length→us[k]? =(olds++news)[k]? :=fun k hk=>by
   rw[←oP,Array.getElem?_append_left (by simp;omega)];simp
  have hbz:∀us:Array Value,qU (M.H.push (.cells us e)) M.H.size=us.size:=fun us=>by simp[qU]
  rw[a1];refine OJ (C':=⟨some M.H.size,(xs++ys).length,1,0,C.rows++Cj.rows⟩) (H':=M.H.push (.cells us e)) (w':=w.drew.alloc (.cells us e)) ok hM an dh bx hC eN aU (by simp) (fun b hb _=>pL hb) (fun b hb=>DS (pL hb)) rfl rfl rfl rfl
   (fun B' fD=>.inl (by cases fD;exact⟨Nat.le_refl _,by simp⟩)) ⟨us,e,AV,by omega,fun k hk=>?_⟩ ⟨_,_,rfl,oO,0,by rw[hM],.inr (by simp),(by rw[hbz,Vp];show(0+_)*1≤_;omega)⟩ ⟨(by rw[hM];rfl),rfl,rfl,rfl⟩ hr
  rw[Vq k hk];exact bn k hk
theorem Bc {c s v u}(h:yM (bif c then s else .stuck) v u):c=true∧yM s v u:=by
 cases c with
 |true=>simp_all
 |false=>exact h.elim
theorem yP5 {c a b v u}(h:yM (bif c then a else b) v u):(c=true∧yM a v u)∨(c=false∧yM b v u):=by
 grind
theorem yXk {z:Value}{t}(h:z.cells.toList=iw t)(hs:z.cells.size=t.size){n i j}(hj:j<t.size)(hi:i<n):(Builtin.zeroCells z.cells n).toList[i*t.size+j]? =(iw t)[j]? :=by
 have aT:=Nat.mul_le_mul_right t.size (show i+1≤n by omega);rw[List.getElem?_eq_getElem (l:=iw t) (by grind),←yT5 h hs (i:=i) hj];simp[Builtin.zeroCells];grind
theorem vZh {z:Value}{t}(h:z.cells.toList=iw t)(hs:z.cells.size=t.size){n}:∀v∈(Builtin.zeroCells z.cells n).toList,v.one1=true:=by
 intro v hv;have hz:∀u∈iw t,u.one1=true:=by
  clear h hs hv
  induction t with
  |pair a b Eb Ec=>
   intro u hu;rcases List.mem_append.1 hu with hu|hu
   all_goals simp_all
  |_=>
   intro u hu;rw[List.mem_singleton.1 hu];rfl
 obtain⟨k,hk,rfl⟩:=List.getElem_of_mem hv;have pO:k<n*t.size:=by rw[Array.length_toList,Eg,hs] at hk;exact hk
 have h0:=t.size_pos;have := yXk h hs (n := n) (i := k / t.size) (j := k % t.size) (Nat.mod_lt _ h0) (by
  rw[Nat.div_lt_iff_lt_mul h0];omega)
 rw[Nat.div_add_mod' k t.size,List.getElem?_eq_getElem hk,List.getElem?_eq_getElem (by grind),Option.some.injEq] at this;simp_all
theorem Vr {P}{M:zK}{w:World}(ok:Ok M)(hM:M.H=w.heap){id nm n':Nat}{t:Ty}{iz zs}{C:qC}{H'}{s:Sem Value}{c:Nat}{A:Option Addr}{w':World}
  (an:M.h id=some (.arr true t iz)) (hC:M.κ id=some C) (aU:M.h nm=none) (dK:H'.size=M.H.size) (hH:∀b,b∉C.fp→H'[b]? =M.H[b]?) (cR:∀b,qU H' b=qU M.H b)
  (hx:∀M',yS M M'→M'.H=H'→M'.G=M.G→match C.blk with
   |none=>zs=[]
   |some B=>∃vals e,H'[B]? =some (.cells vals e (0,0))∧zs.length*t.size≤vals.size∧∀i (h:i<zs.length),qF M'.H M'.G t zs[i] (fun j=>vals[i*t.size+j]?))
  (hn : n' ≤ zs.length) (hc : zs.length ≤ c) (hA:match C.blk with
   |none=>A=none∧n'=0∧c=0
   |some B=>∃a,A=some ⟨B,a,none⟩∧(c=0∨a=0)∧c*t.size≤qU M.H B)
  (hw:w'.heap=H'∧w'.os=w.os∧w'.tape=w.tape∧w'.output=w.output) (hr:s.run P w=.ok (.slice A n' c) w'):
  qI P s M w (.c (.osl nm (some (0,n')))) [(id,.gone),(nm,.arr true t zs)]:=by
 obtain⟨C0,se,hO⟩:=ok.obj id _ an;rw[hC] at se;cases se;obtain⟨fr,ff⟩:=Jt hO;have bx:id≠nm:=fun e=>by simp_all
 let C':qC:=⟨C.blk,zs.length,t.size,0,[]⟩;have hh:∀n',(qH M.h [(id,.gone),(nm,.arr true t zs)]) n'=if n'=nm then some (.arr true t zs) else if n'=id then some .gone else M.h n':=fun n'=>by
  show(yL (yL M.h id .gone) nm _) n'=_;by_cases e:n'=nm
  ·rw[if_pos e,e,yR]
  ·rw[if_neg e,yV _ _ e];by_cases e2:n'=id
   ·rw[if_pos e2,e2,yR]
   ·rw[if_neg e2,yV _ _ e2]
 have:=zK.move_ok (M:=M) (nm:=nm) (o':=.arr true t zs) (C':=C') (h':=qH M.h [(id,.gone),(nm,.arr true t zs)]) (H':=H') ok (fun j=>j=id) aU
  (fun j hj=>⟨.arr true t iz,by rw[hj];exact an,rfl,by simp_all⟩)
  (by rw[hh,if_pos rfl]) (by grind) (by omega) (fun b hb hn=>hH b (hn id C rfl hC)) (fun b _=>cR b)
  (fun b hb=>.inr ⟨id,C,rfl,hC,by
   simp only[C',qC.fp,List.filterMap_nil,List.append_nil] at hb;rw[ff];exact hb⟩)
  (fun x=>by
   refine⟨rfl,rfl,fun _=>rfl,?_⟩;have:=hx _ x rfl rfl;cases hB:C.blk with
   |none=>simp_all
   |some B=>
    rw[hB] at this;obtain⟨vals,e,h1,h2,h3⟩:=this;exact⟨vals,e,h1,by simp,h2,h3⟩)
 refine⟨_,_,_,hr,hw.2.1,hw.2.2.1,hw.2.2.2,by rw[hw.1];rfl,rfl,this.1,this.2,C',κset_same _ _ _,by grind,⟨_,c,rfl,?_⟩,_,_,_,rfl,by grind⟩;show match C.blk with
  |none=>_
  |some B=>_
 cases hB:C.blk with
 |none=>rw[hB] at hA;exact hA
 |some B=>
  rw[hB] at hA;obtain⟨a,h2,h3,h4⟩:=hA;refine⟨by omega,a,h2,by simpa using h3,?_⟩;show(0+c)*t.size≤qU H' B;simp_all
theorem vNo {P}{M w}(ok:Ok M)(hM:M.H=w.heap){id nm i j m t e T ty x b xs}(hu:P.underlying t=some (.slice e))(dN:kx P e=some ty)
  (aU:M.h nm=none) (an:M.h id=some (.arr true ty xs)) (hb:zX M (.osl id (some (0,i))) b) (hx:zX M (.osl id (some (j,m))) x) (mM:i≤j):
  qI P (Builtin.append_ #[t,t] T #[b,x]) M w (.c (.osl nm (some (0,i+m)))) [(id,.gone),(nm,.arr true ty (xs.take i++qM xs j m++xs.drop (i+m)))]:=by
 obtain⟨inf,z,h1,h2,h3,h4,h5,h6,h7⟩:=sb dN;obtain⟨C,hC,hO⟩:=ok.obj id _ an;obtain⟨news,hR,hE⟩:=Ba hC hO hx;obtain⟨C1,iR,dw,_⟩:=hx;rw[hC] at iR;cases iR;obtain⟨C1,iR,j6,⟨A,c,rfl,hS⟩,iQ⟩:=hb;rw[hC] at iR;cases iR;obtain⟨_,_,_,iQ,JA⟩:=iQ;cases iQ;have hlen:=hO.1;have oU:(j4 xs (some (j,m))).length=m:=DX (by omega);rw[oU] at hR;have OM:news.length=m*ty.size:=hR.choose_spec.choose_spec.2.1;have tW:(qM xs j m).length=m:=oU;have tX:(xs.take i).length=i:=by rw[List.length_take];omega
 have JL:(xs.take i++qM xs j m++xs.drop (i+m)).length=xs.length:=by
  rw[List.length_append,List.length_append,tW,tX,List.length_drop];omega
 have aY:i+m≤c:=by omega
 cases hB:C.blk with
 |none=>
  rw[hB] at hS;obtain⟨rfl,rfl,rfl⟩:=hS;have hr:=sd (P:=P) (w:=w) (A:=none) (sLen:=0) (sCap:=0) T hu h1 h3 (by rw[←hM];exact hR) aY w rfl;refine Vr (s:=Builtin.append_ #[t,t] T #[.slice none 0 0,x]) (H':=M.H) ok hM an hC aU rfl (fun _ _=>rfl) (fun _=>rfl) (fun M' _ _ _=>?_) (by omega) (by omega) ?_ ⟨hM.symm,rfl,rfl,rfl⟩ hr
  ·rw[hB];exact List.eq_nil_of_length_eq_zero (by omega)
  ·rw[hB];exact⟨rfl,by omega,rfl⟩
 |some B=>
  rw[hB] at hS;obtain⟨hc,a,rfl,ha,hs⟩:=hS;obtain⟨k1,k2,k3,k4⟩:=hO;rw[hB] at k4;obtain⟨vals,ev,k5,k6,k7,k8⟩:=k4;rw[Nat.zero_mul] at ha;rw[Nat.zero_add,k2] at hs;have cR:qU M.H B=vals.size:=by simp only[qU,k5]
  have j8:w.heap[B]? =some (.cells vals ev (0,0)):=by rw[←hM];exact k5
  by_cases h0:c=0
  ·have hm0:m=0:=by omega
   have hr := sd (P := P) (w := w) (A := some ⟨B, a, none⟩) (sLen := i) (sCap := c) T hu h1 h3 (by rw [← hM]; exact hR) aY w (by
    have:news=[]:=List.eq_nil_of_length_eq_zero (by rw[OM,hm0,Nat.zero_mul]);rw[this];rfl)
   refine Vr (s:=Builtin.append_ #[t,t] T #[.slice (some ⟨B,a,none⟩) i c,x]) (H':=M.H) ok hM an hC aU rfl (fun _ _=>rfl) (fun _=>rfl) (fun M' _ _ _=>?_) (by omega) (by omega) ?_ ⟨hM.symm,rfl,rfl,rfl⟩ hr
   ·rw[hB];refine⟨vals,ev,k5,by rw[JL];exact k7,fun p hp=>?_⟩;rw[JL] at hp;omega
   ·rw[hB];exact⟨a,rfl,.inl h0,by rw[h0];simp⟩
  ·have nI:a=0:=by rcases ha with ha|ha<;>omega
   subst nI;have hle:=Nat.mul_le_mul_right ty.size (show i+m≤xs.length by omega);rw[Nat.add_mul] at hle;have aM:i*ty.size+news.length≤vals.size:=by omega
   have j5:=run_storeCells_at (P:=P) B (i*ty.size) ev news 0 vals w j8 (by simpa using aM) (fun v hv=>AW (hR.choose_spec.choose_spec.2.2.1 v hv));simp only[Nat.add_zero] at j5;have hr:=sd (P:=P) (w:=w) (A:=some ⟨B,0,none⟩) (sLen:=i) (sCap:=c) T hu h1 h3 (by rw[←hM];exact hR) aY (w.setRow B (yX vals (i*ty.size) news)) (by show(storeCells (Addr.add ⟨B,0,none⟩ (i*ty.size)) news).run P w=_;rw[Addr.add_lit,Nat.zero_add];exact j5);obtain⟨f1,f2,f3,f4⟩:=oQ j8 (new:=yX vals (i*ty.size) news) (gV aM);refine Vr (s:=Builtin.append_ #[t,t] T #[.slice (some ⟨B,0,none⟩) i c,x]) (H':=(w.setRow B (yX vals (i*ty.size) news)).heap) ok hM an hC aU (by rw[hM];exact f1)
    (fun b hb=>by rw[hM];exact f3 b fun e=>hb (e▸fQ hB)) (fun b=>by rw[hM];exact f4 b) (fun M' xt hH hG=>?_) (by omega) (by omega) ?_ ⟨rfl,rfl,rfl,rfl⟩ hr
   ·rw[hB];refine⟨_,ev,f2,by rw[JL,gV aM];exact k7,fun p hp=>?_⟩;rw[JL] at hp;have aT:=Nat.mul_le_mul_right ty.size (show p+1≤xs.length by omega);rw[Nat.add_mul] at aT;have Bd:(xs.take i++qM xs j m++xs.drop (i+m))[p]? =xs[p]? →(∀q,q<ty.size→(yX vals (i*ty.size) news)[p*ty.size+q]? =vals[p*ty.size+q]?)→qF M'.H M'.G ty ((xs.take i++qM xs j m++xs.drop (i+m))[p]'(by omega)) (fun q=>(yX vals (i*ty.size) news)[p*ty.size+q]?):=fun e1 e2=>by
     have e3:(xs.take i++qM xs j m++xs.drop (i+m))[p]'(by omega)=xs[p]:=by
      rw[List.getElem?_eq_getElem (by omega),List.getElem?_eq_getElem hp,Option.some.injEq] at e1;exact e1
     rw[e3];exact vB xt.G xt.sameG ty _ _ _ e2 (k8 p hp)
    by_cases ON:p<i
    ·refine Bd ?_ fun q hq=>?_
     ·rw[List.append_assoc,List.getElem?_append_left (by omega),List.getElem?_take,if_pos ON]
     ·have:=Nat.mul_le_mul_right ty.size (show p+1≤i by omega);rw[Nat.add_mul] at this;rw[jW aM,if_pos (by omega)]
    ·by_cases JM:p<i+m
     ·have e3:(xs.take i++qM xs j m++xs.drop (i+m))[p]'(by omega)=(j4 xs (some (j,m)))[p-i]'(by omega):=by
       rw[List.getElem_append_left (by rw[List.length_append,tX,tW];exact JM),List.getElem_append_right (by omega)];simp only[tX];rfl
      rw[e3];refine vB xt.G xt.sameG ty _ _ _ (fun q hq=>?_) (hE (p-i) (by omega));have q1:=Nat.mul_le_mul_right ty.size (show i≤p by omega);have q2:=Nat.mul_le_mul_right ty.size (show p-i+1≤m by omega);rw[Nat.add_mul] at q2;have q3:(p-i)*ty.size=p*ty.size-i*ty.size:=Nat.sub_mul ..
      rw[jW aM,if_neg (by omega),if_pos (by omega)]
      congr 1;omega
     ·refine Bd ?_ fun q hq=>?_
      ·rw[List.getElem?_append_right (by rw[List.length_append,tX,tW];omega),List.getElem?_drop]
       congr 1
       rw[List.length_append,tX,tW];omega
      ·have:=Nat.mul_le_mul_right ty.size (show i+m≤p by omega);rw[Nat.add_mul] at this;rw[jW aM,if_neg (by omega),if_neg (by omega)]
   ·rw[hB];exact⟨0,rfl,.inr rfl,by rw[←k2] at hs⊢;exact hs⟩
theorem vLe {P M w}(ok:Ok M)(hM:M.H=w.heap){t T id lo n rx v u}(hx:zX M (.osl id (some (lo,n))) rx)
  (h:yM (N3 P M.h t id lo n) v u):qI P (Builtin.clear_ #[t] T #[rx]) M w v u:=by
 unfold N3 at h;split at h
 case h_2=>exact h.elim
 rename_i e s xs hu an;split at h
 case h_2=>exact h.elim
 rename_i ty dN;obtain⟨heq,h⟩:=Bc h;have:=Jc heq;subst this;obtain⟨_,rfl,rfl⟩:=gU h;obtain⟨inf,z,h1,h2,h3,h4,h5,h6,h7⟩:=sb dN;obtain⟨C,hC,dw,⟨A,c,rfl,hS⟩,_⟩:=hx;obtain⟨C1,iR,hO⟩:=ok.obj id _ an;rw[hC] at iR;cases iR;by_cases Eh:n=0
 ·subst Eh;have e0:xs.take lo++List.replicate 0 ty.dflt++xs.drop (lo+0)=xs:=by simp
  rw[e0];refine⟨.tuple #[],w,M,?_,rfl,rfl,rfl,hM,?_,ok,yO.refl M,trivial⟩
  ·cases A with
   |none=>simp[Builtin.clear_,run_underlying hu]
   |some a=>simp[Builtin.clear_,run_underlying hu]
  ·rw[Uh,DW an]
 ·obtain⟨k1,k2,k3,k4⟩:=hO;cases hB:C.blk with
  |none=>rw[hB] at hS;omega
  |some B=>
   rw[hB] at hS k4;obtain⟨hc,a,rfl,ha,hs⟩:=hS;obtain⟨vals,ev,k5,k6,k7,k8⟩:=k4;have rT:a=lo*ty.size:=by rw[←k2];rcases ha with ha|ha<;>omega
   subst rT;have j8:w.heap[B]? =some (.cells vals ev (0,0)):=by rw[←hM];exact k5
   have JL:(Builtin.zeroCells z.cells n).toList.length=n*ty.size:=by rw[Array.length_toList,Eg,h7]
   have hle:=Nat.mul_le_mul_right ty.size (show lo+n≤xs.length by omega);rw[Nat.add_mul] at hle;have aM:lo*ty.size+(Builtin.zeroCells z.cells n).toList.length≤vals.size:=by omega
   have bU:∀v∈(Builtin.zeroCells z.cells n).toList,v.one1=true:=vZh h4 h7;have j5:=run_storeCells_at (P:=P) B (lo*ty.size) ev (Builtin.zeroCells z.cells n).toList 0 vals w j8 (by simpa using aM) (fun v hv=>AW (bU v hv));simp only[Nat.add_zero] at j5;obtain⟨f1,f2,f3,f4⟩:=oQ j8 (new:=yX vals (lo*ty.size) (Builtin.zeroCells z.cells n).toList) (gV aM);have nM:(Builtin.clear_ #[t] T #[.slice (some ⟨B,lo*ty.size,none⟩) n c]).run P w=.ok (.tuple #[]) (w.setRow B (yX vals (lo*ty.size) (Builtin.zeroCells z.cells n).toList)):=by
    obtain⟨n',rfl⟩:∃n',n=n'+1:=⟨n-1,by omega⟩;have e:(storeCells ⟨B,lo*ty.size,none⟩ (Builtin.zeroCells z.cells (n'+1)).toList).run P w=.ok () (w.setRow B (yX vals (lo*ty.size) (Builtin.zeroCells z.cells (n'+1)).toList)):=j5;simp[Builtin.clear_,run_underlying hu,zeroValue,typeInfo,h1,h2,e]
   have hH:∀b,b∉C.fp→(w.setRow B (yX vals (lo*ty.size) (Builtin.zeroCells z.cells n).toList)).heap[b]? =M.H[b]? :=fun b tQ=>by
    rw[hM];exact f3 b fun e=>tQ (e▸fQ hB)
   have cR:∀b,b<M.H.size→qU (w.setRow B (yX vals (lo*ty.size) (Builtin.zeroCells z.cells n).toList)).heap b=qU M.H b:=fun b _=>by rw[hM];exact f4 b
   have hol:(xs.take lo++List.replicate n ty.dflt++xs.drop (lo+n)).length=xs.length:=by
    simp only[List.length_append,List.length_take,List.length_replicate,List.length_drop];omega
   have x:=zK.write_ext ok an rfl hC C.le_refl hH cR (.arr true ty (xs.take lo++List.replicate n ty.dflt++xs.drop (lo+n)));have := zK.write_ok ok an rfl hC C.le_refl (fun _ h => h) (by rw [hM]; exact f1) hH cR (o' := .arr true ty (xs.take lo ++ List.replicate n ty.dflt ++ xs.drop (lo + n))) (by
    refine⟨by rw[hol];exact k1,k2,k3,?_⟩;rw[hB];refine⟨_,ev,f2,fun h=>(by cases h),by rw[hol,gV aM];exact k7,fun p hp=>?_⟩;rw[hol] at hp;have aT:=Nat.mul_le_mul_right ty.size (show p+1≤xs.length by omega);rw[Nat.add_mul] at aT;have Ek:(xs.take lo).length=lo:=by rw[List.length_take];omega
    have Bd:(xs.take lo++List.replicate n ty.dflt++xs.drop (lo+n))[p]? =xs[p]? →(∀q,q<ty.size→(yX vals (lo*ty.size) (Builtin.zeroCells z.cells n).toList)[p*ty.size+q]? =vals[p*ty.size+q]?)→
      qF (M.write id (.arr true ty (xs.take lo++List.replicate n ty.dflt++xs.drop (lo+n))) C (w.setRow B (yX vals (lo*ty.size) (Builtin.zeroCells z.cells n).toList)).heap).H (M.write id (.arr true ty (xs.take lo++List.replicate n ty.dflt++xs.drop (lo+n))) C (w.setRow B (yX vals (lo*ty.size) (Builtin.zeroCells z.cells n).toList)).heap).G ty ((xs.take lo++List.replicate n ty.dflt++xs.drop (lo+n))[p]'(by omega)) (fun q=>(yX vals (lo*ty.size) (Builtin.zeroCells z.cells n).toList)[p*ty.size+q]?):=fun e1 e2=>by
     have e3:(xs.take lo++List.replicate n ty.dflt++xs.drop (lo+n))[p]'(by omega)=xs[p]:=by
      rw[List.getElem?_eq_getElem (by omega),List.getElem?_eq_getElem hp,Option.some.injEq] at e1;exact e1
     rw[e3];exact vB x.G x.sameG ty _ _ _ e2 (k8 p hp)
    by_cases ON:p<lo
    ·refine Bd ?_ fun q hq=>?_
     ·rw[List.append_assoc,List.getElem?_append_left (by omega),List.getElem?_take,if_pos ON]
     ·have:=Nat.mul_le_mul_right ty.size (show p+1≤lo by omega);rw[Nat.add_mul] at this;rw[jW aM,if_pos (by omega)]
    ·by_cases JM:p<lo+n
     ·have e3:(xs.take lo++List.replicate n ty.dflt++xs.drop (lo+n))[p]'(by omega)=ty.dflt:=by
       rw[List.getElem_append_left (by rw[List.length_append,Ek,List.length_replicate];exact JM),List.getElem_append_right (by omega)];simp
      rw[e3];refine JD ty _ fun q hq=>?_
      have q1:=Nat.mul_le_mul_right ty.size (show lo≤p by omega);have q2:=Nat.mul_le_mul_right ty.size (show p-lo+1≤n by omega);rw[Nat.add_mul] at q2;have q3:(p-lo)*ty.size=p*ty.size-lo*ty.size:=Nat.sub_mul ..
      rw[jW aM,if_neg (by omega),if_pos (by omega),show p*ty.size+q-lo*ty.size=(p-lo)*ty.size+q by omega,yXk h4 h7 hq (by omega)]
     ·refine Bd ?_ fun q hq=>?_
      ·rw[List.getElem?_append_right (by rw[List.length_append,Ek,List.length_replicate];omega),List.getElem?_drop]
       congr 1
       rw[List.length_append,Ek,List.length_replicate];omega
      ·have:=Nat.mul_le_mul_right ty.size (show lo+n≤p by omega);rw[Nat.add_mul] at this;rw[jW aM,if_neg (by omega),if_neg (by omega)])
   exact⟨_,_,_,nM,rfl,rfl,rfl,rfl,rfl,this.1,this.2,trivial⟩
theorem vUs {P M w}(ok:Ok M)(hM:M.H=w.heap){mat nm t T b x v u rb rx}
  (hb:zV M b rb) (hx:zV M x rx) (h:yM (DJ P mat nm M.h t b x) v u):qI P (Builtin.append_ #[t,t] T #[rb,rx]) M w v u:=by
 unfold DJ at h;split at h
 case h_2=>exact h.elim
 rename_i e b x hu aU;split at h
 ·exact h.elim
 rename_i ty dN;cases mat with
 |true=>
  split at h
  ·rename_i id jd;split at h
   ·rename_i v1 xs v2 ys an dh;cases bx:Nat.beq id jd with
    |true=>rw[bx] at h;exact h.elim
    |false=>
     rw[bx] at h;obtain⟨hr,rfl,rfl⟩:=gU h;exact Vo ok hM hu dN aU an dh (fun e=>by subst e;simp at bx) hb hx (JH hr)
   ·exact h.elim
  ·exact h.elim
 |false=>
  simp only[cond_false] at h;split at h
  ·split at h
   ·rename_i ys u1 ht;obtain⟨hr,rfl,rfl⟩:=gU h;obtain⟨rfl,news,h1,h2⟩:=yIo ok hx ht;rw[show rb=.slice none 0 0 from hb];exact Vi ok hM hu dN aU h1 h2 (JH hr)
   ·exact h.elim
  ·split at h
   ·rename_i s xs an;split at h
    ·rename_i zs ys u1 hz ht;obtain⟨e1,hz⟩:=lq hz;subst e1;subst hz;obtain⟨rfl,news,h1,h2⟩:=yIo ok hx ht;split at h
     ·rcases yP5 h with⟨hc,h⟩|⟨_,h⟩
      ·split at h
       ·rename_i i' jd j m zs e1 e2 _;cases e1;have:=Nat.eq_of_beq_eq_true hc;subst this;obtain⟨_,hz⟩:=lq e2;subst hz;obtain⟨hr,rfl,rfl⟩:=gU h;exact vNo ok hM hu dN aU an hb hx (Nat.le_of_ble_eq_true hr)
       ·exact h.elim
      ·obtain⟨hr,rfl,rfl⟩:=gU h;exact Vj ok hM hu dN aU an hb rfl h1 h2 (JH hr)
     ·rcases yP5 h with⟨hc,h⟩|⟨_,h⟩
      ·exact h.elim
      ·obtain⟨hr,rfl,rfl⟩:=gU h;exact Vj ok hM hu dN aU an hb trivial h1 h2 (JH hr)
     ·exact h.elim
    ·exact h.elim
   ·exact h.elim
  ·exact h.elim
theorem Vs {M}(ok:Ok M){c v t ys}(hv:zX M c v)(h:ky M.h c=some ⟨t,ys⟩){kd}(ht:t=.int kd):
  ∃news,wW M.H v ys.length t.size news∧∃F,∀i hi,qF M.H F t ys[i] (fun j=>news[i*t.size+j]?):=by
 unfold ky at h;split at h
 ·cases h;obtain⟨news,h1,h2⟩:=Vd hv;exact⟨news,h1,_,h2⟩
 ·split at h
  ·rename_i own s xs an;cases h;obtain⟨C,hC,hO⟩:=ok.obj _ _ an;obtain⟨news,h1,h2⟩:=Ba hC hO hv;exact⟨news,h1,_,h2⟩
  all_goals grind
 ·rename_i id i ver;split at h
  ·rename_i v' xs an;cases fS:Nat.beq v' ver with
   |false=>simp_all
   |true=>
    rw[fS] at h;cases h;have e:v'=ver:=by simp_all
    subst e;obtain⟨C,hC,hO⟩:=ok.obj _ _ an;obtain⟨C',aF,bU,_,aT⟩:=hv;rw[hC] at aF;cases aF;obtain⟨rb,rl,xd,si⟩:=aT hO.1;by_cases hi:i<xs.length
    ·obtain⟨B,pN,v2,k1,k2,k3,k4,k5,k6⟩:=DV hO hi;rw[xd] at k3;cases k3;rw[show xs.getD i []=xs[i] by simp_all];cases rb with
     |none=>
      obtain⟨rfl,h0⟩:=si;have cO:xs[i]=[]:=by grind
      rw[cO];obtain⟨news,q1,q2⟩:=JF (H:=M.H) (F:=M.G) (t:=.int .i64) (A:=none) (c:=0);exact⟨news,q1,_,q2⟩
     |some R=>
      obtain⟨a,c,rfl,h1,h2,h3⟩:=si;by_cases h0:xs[i].length=0
      ·have cO:xs[i]=[]:=by grind
       rw[cO];obtain⟨news,q1,q2⟩:=JF (H:=M.H) (F:=M.G) (t:=.int .i64) (A:=some ⟨R,a,none⟩) (c:=c);exact⟨news,q1,_,q2⟩
      ·have ha:a=0:=by omega
       subst ha;obtain ⟨news, q1, q2⟩ := Vc (H := M.H) (F := fun _ => True) (t := .int .i64) (ys := xs[i]) (B := R) (o := 0) (c := c) h1 (fun j hj=>by
        simp[qF,Ty.size];simp_all)
       exact⟨news,q1,_,q2⟩
    ·have:C.rows[i]? =none:=List.getElem?_eq_none (by have:=hO.2.2.2.1;omega);simp_all
  ·cases h
 ·cases h
theorem Vt {M}(ok:Ok M){c v t ys}(hv:zX M c v)(h:ky M.h c=some ⟨t,ys⟩):∃A k,v=.slice A ys.length k:=by
 by_cases ht:t=.int .i64
 ·obtain⟨news,⟨A,k,e,_⟩,_⟩:=Vs ok hv h ht;simp_all
 unfold ky at h;split at h
 ·cases h;obtain⟨news,⟨A,k,e,_⟩,_⟩:=Vd hv;simp_all
 ·rename_i id r;split at h
  ·rename_i own s xs an;cases h;obtain⟨C,hC,hO⟩:=ok.obj _ _ an;obtain⟨news,⟨A,k,e,_⟩,_⟩:=Ba hC hO hv;simp_all
  ·rename_i ver xs an;cases r with
   |none=>
    cases h;obtain⟨C,hC,hO⟩:=ok.obj _ _ an;obtain⟨C',aF,A,k,e,_⟩:=hv;rw[hC] at aF;cases aF;exact⟨A,k,by rw[e,hO.2.1]⟩
   |some p=>cases h
  ·cases h
 all_goals grind
theorem Vu {M}(ok:Ok M){c v n}(hv:zX M c v)(h:Dx M.h c=some n):∃A k,v=.slice A n k:=by
 unfold Dx at h;split at h
 ·cases h;exact⟨none,0,hv⟩
 ·obtain⟨C,B,_,_,e⟩:=hv;simp_all
 ·split at h
  ·rename_i t xs hr;cases h;exact Vt ok hv hr
  ·cases h
theorem vSw {P w t e A n k T ts}(h0:ts[0]? =some t)(hu:P.underlying t=some (.slice e)):
  (Builtin.len_ ts T #[.slice A n k]).run P w=.ok (.int .i64 n) w:=by
 have hr:(underlying t).run P w=.ok (.slice e) w:=by simp[underlying,hu]
 simp[Builtin.len_,h0,hr,goInt]
theorem vId {P M w}(ok:Ok M)(hM:M.H=w.heap){lt l rl v u ts T}(hl:zN (zV M) l rl.toList)
  (h:yM (N4 lt l) v u):qI P (bif lt then Builtin.min_ ts T rl else Builtin.max_ ts T rl) M w v u:=by
 unfold N4 at h;split at h
 ·rename_i k x j y;obtain⟨rfl,rfl⟩:=wL h;obtain⟨rl⟩:=rl
  match rl,hl with
  |[a,b],⟨h1,h2,_⟩=>
   rw[show a=.int k x from h1,show b=.int j y from h2];refine .pure (rv:=.int k (bif lt then(bif decide (y<x) then y else x) else(bif decide (y>x) then y else x))) ok hM ?_ rfl;cases lt<;>simp[Builtin.min_,Builtin.max_,Builtin.min2,Builtin.max2,Bool.cond_decide]
 ·rename_i k x j y i z;obtain⟨rfl,rfl⟩:=wL h;obtain⟨rl⟩:=rl
  match rl,hl with
  |[a,b,c],⟨h1,h2,h3,_⟩=>
   rw[show a=.int k x from h1,show b=.int j y from h2,show c=.int i z from h3];refine .pure (rv:=_) ok hM ?_ rfl;cases lt<;>simp[Builtin.min_,Builtin.max_,Builtin.min2,Builtin.max2,Bool.cond_decide]
 ·exact h.elim
theorem yTt {M:zK}:∀{cs ns},AQ cs=some ns→cs=ns.map (.int .i64)
 |[],ns,h=>by cases h;rfl
 |.int .i64 n::l,ns,h=>by
  unfold AQ at h;split at h
  ·rename_i r hr;cases h;rw[yTt (M:=M) hr];rfl
  ·cases h
theorem yZt xs:∀(ns:List Int) i,AR xs i (ns.map (.int .i64))=(((xs.drop i).take ns.length)++ns.drop ((xs.drop i).take ns.length).length).map (.int .i64)
 |[],i=>by rfl
 |n::ns,i=>by
  simp only[List.map_cons,AR,yZt xs ns (i+1)];by_cases hi:i<xs.length
  ·have hb:Nat.blt i xs.length=true:=by simp_all
   rw[hb,List.drop_eq_getElem_cons hi];grind
  ·have hb:Nat.blt i xs.length=false:=by
    cases h:Nat.blt i xs.length with
    |false=>rfl
    |true=>exact absurd (by simp_all) hi
   have e1:xs.drop i=[]:=List.drop_eq_nil_of_le (by omega);grind
theorem Vv {P M w}(ok:Ok M)(hM:M.H=w.heap){t e ts T d s v u rd rs}(h0:ts[0]? =some t)(hu:P.underlying t=some (.slice e))(he:P.cellsOf e=1)
  (hd:zV M d rd) (hs:zV M s rs) (h:yM (DK M.h d s) v u):qI P (Builtin.copy_ ts T #[rd,rs]) M w v u:=by
 unfold DK at h;split at h
 case h_2=>exact h.elim
 rename_i id off n s;split at h
 case h_2=>exact h.elim
 rename_i cells ys an pS;split at h
 case h_2=>exact h.elim
 rename_i vs fe;split at h
 case h_2=>exact h.elim
 rename_i ns UZ;obtain⟨_,rfl,rfl⟩:=gU h;clear h;obtain⟨C,B,hC,hB,rfl⟩:=hd;obtain⟨C',aF,B',vals,ev,k1,k2,k3,k4,k5⟩:=ok.obj id _ an;rw[hC] at aF;cases aF;rw[hB] at k1;cases k1;obtain⟨c1,c2,c3⟩:=Jp fe;obtain⟨i,hi⟩:=oN (P:=P) (t:=e) (by omega);obtain⟨A,k,rfl,lS⟩:∃A k,rs=.slice A ys.length k∧∃news,wW M.H (.slice A ys.length k) ys.length 1 news∧news=ys.map (.int .i64):=by
  split at pS
  ·cases pS;exact⟨none,0,hs,[],⟨none,0,rfl,rfl,by simp,rfl⟩,rfl⟩
  ·obtain⟨news,hR,F,hE⟩:=Vs ok hs pS rfl;obtain⟨A,k,e,hl,r⟩:=hR;refine⟨A,k,e,news,⟨A,k,rfl,hl,r⟩,?_⟩;refine List.ext_getElem (by simpa[Ty.size] using hl) fun j h1 h2=>?_
   have:=hE j (by simpa using h2);simp only[qF,Ty.size,Nat.mul_one,Nat.add_zero] at this;rw[List.getElem?_eq_getElem h1,Option.some.injEq] at this;rw[this];simp
 obtain⟨news,⟨A',k',e',hl,bU,lS⟩,JN⟩:=lS;cases e';let m:=min ys.length n;have hm:Nat.min ys.length n=m:=rfl;have Be:(Builtin.firstCells 1 m (.slice A ys.length k)).run P w=.ok (news.take m).toArray w:=by
  have:wW M.H (.slice A m k) m 1 (news.take m):=by
   refine⟨A,k,rfl,?_,fun u hu=>bU u (List.mem_of_mem_take hu),?_⟩;all_goals grind
  have:=this.first (P:=P) w hM.symm
  cases A<;>exact this
 have hbw:w.heap[B]? =some (.cells vals ev (0,0)):=by rw[←hM];exact k3
 have bL:=k4.length;have OM:(news.take m).length=m:=by rw[List.length_take,hl];omega
 have aM:off+(news.take m).length≤vals.size:=by
  rw[OM];simp at bL;omega
 have j5:=run_storeCells_at (P:=P) B off ev (news.take m) 0 vals w hbw (by simpa using aM) (fun v hv=>AW (bU v (List.mem_of_mem_take hv)));simp only[Nat.add_zero] at j5;have nM:(Builtin.copy_ ts T #[.slice (some ⟨B,off,none⟩) n n,.slice A ys.length k]).run P w=.ok (.int .i64 (m:Nat)) (w.setRow B (yX vals off (news.take m))):=by
  simp[Builtin.copy_,h0,run_underlying hu,Builtin.lenOf,iN w hi,he,hm,Be,goInt];have e:(storeCells ⟨B,off,none⟩ (news.take m)).run P w=.ok () (w.setRow B (yX vals off (news.take m))):=j5;rw[e];rfl
 obtain⟨f1,f2,f3,f4⟩:=oQ hbw (new:=yX vals off (news.take m)) (gV aM);have hH:∀b,b∉C.fp→(w.setRow B (yX vals off (news.take m))).heap[b]? =M.H[b]? :=fun b tQ=>by
  rw[hM];exact f3 b fun e=>tQ (e▸fQ hB)
 have cR:∀b,b<M.H.size→qU (w.setRow B (yX vals off (news.take m))).heap b=qU M.H b:=fun b _=>by rw[hM];exact f4 b
 let o':Obj:=.box true (cells.take off++AR ys 0 vs++cells.drop (off+n));have x:=zK.write_ext ok an rfl hC C.le_refl hH cR o';have aH:cells.take off++AR ys 0 vs++cells.drop (off+n)=cells.take off++(ys.take m).map (.int .i64)++cells.drop (off+((ys.take m).map (qA.int .i64)).length):=by
  have hv:=yTt (M:=M) UZ;have hnn:ns.length=n:=by rw[←c3,hv];simp
  have JO:(ys.drop 0).take ns.length=ys.take m:=by
   grind
  rw[hv,yZt,JO,List.map_append,List.map_drop,←hv,List.append_assoc,List.append_assoc,List.append_assoc]
  congr 2
  have OO:(ys.take m).length=m:=by rw[List.length_take];omega
  have e1:cells.drop (off+n)=(cells.drop (off+m)).drop (n-m):=by
   rw[List.drop_drop];congr 1;omega
  rw[List.length_map,OO,c2,List.drop_take,List.drop_drop,e1,List.take_append_drop]
 have := zK.write_ok ok an rfl hC C.le_refl (fun _ h => h) (by rw [hM]; exact f1) hH cR (o' := o') (by
  refine⟨B,_,ev,hB,k2,f2,?_,fun h=>(by cases h)⟩;rw[aH];refine Ul x k4 (us:=news.take m) ?_ (by simpa using aM);rw[JN];refine zN.of_get (by simp) fun j h1 h2=>?_
  simp[zX])
 exact⟨_,_,_,nM,rfl,rfl,rfl,rfl,rfl,this.1,this.2,rfl⟩
theorem vFz {P t}(h:Ji P t=true):∃k e i,P.underlying t=some (.map k e)∧P.underlying k=some (.int .i64)∧P.info? e=some i∧i.zero=some (.bool false):=by
 unfold Ji at h;split at h
 ·split at h
  ·rename_i hk hz;obtain⟨i,h1,h2⟩:=Option.bind_eq_some_iff.1 hz;grind
  ·cases h
 ·cases h
theorem Vw {P M w}(ok:Ok M)(hM:M.H=w.heap){nm t v u}(h:yM (DF P nm M.h t) v u):qI P (Instr.makeMap t none) M w v u:=by
 unfold DF at h;split at h
 case h_2=>exact h.elim
 rename_i aU;obtain⟨_,h⟩:=Bc h;obtain⟨_,rfl,rfl⟩:=gU h;let C:qC:=⟨some M.H.size,0,0,0,[]⟩;have := zK.new_ok ok aU (.imap []) C (.map #[] 0) (by simp [C, qC.fp]) (by
  refine⟨M.H.size,#[],0,rfl,rfl,AV,by simp,fun n=>rfl⟩)
 refine⟨.map (some w.heap.size),w.alloc (.map #[] 0),_,?_,rfl,rfl,rfl,?_,rfl,this.1,this.2,C,M.H.size,κset_same _ _ _,rfl,by rw[hM]⟩
 ·rfl
 ·show M.H.push _=w.heap.push _;rw[hM]
theorem Vx {n}:∀{es i},(∀e∈es,∃m b,e.key=.int .i64 m∧e.val=.bool b)→
  (fB n es=none∧Instr.findNow (.int .i64) (.int .i64 n) es i=some none)∨
  (∃j b e,fB n es=some (.bool b)∧Instr.findNow (.int .i64) (.int .i64 n) es i=some (some (i+j,.bool b))∧es[j]? =some e∧e.key=.int .i64 n∧
   ∀f:MapEntry→MapEntry,(∀e,(f e).key=.int .i64 n)→fB n (es.modify j f)=some (f e).val∧(∀m,m≠n→fB m (es.modify j f)=fB m es)∧∀e'∈es.modify j f,e'∈es∨e'=f e)
 |[],i,_=>.inl ⟨rfl,rfl⟩
 |e::es,i,h=>by
  obtain⟨m,b,h1,h2⟩:=h e (by simp);by_cases hm:n=m
  ·subst hm;refine .inr ⟨0,b,e,?_,?_,rfl,h1,fun f hf=>⟨?_,fun m bx=>?_,fun e' he=>?_⟩⟩
   ·simp[fB,h1,h2]
   ·simp[Instr.findNow,Instr.sameNow,h1,h2]
   ·simp[fB,hf]
   ·simp[fB,hf,h1,bx]
   grind
  ·have hs:Instr.findNow (.int .i64) (.int .i64 n) (e::es) i=Instr.findNow (.int .i64) (.int .i64 n) es (i+1):=by
    have hb:(n==m)=false:=by simp[hm]
    simp[Instr.findNow,Instr.sameNow,h1,hb]
   have hf:fB n (e::es)=fB n es:=by simp[fB,h1,hm]
   rcases Vx (es:=es) (i:=i+1) (by grind) with⟨k1,k2⟩|⟨j,b',e',k1,k2,k3,k4,k5⟩
   ·exact .inl ⟨hf.trans k1,hs.trans k2⟩
   ·refine .inr ⟨j+1,b',e',hf.trans k1,by grind,by simp_all,k4,fun f hfk=>?_⟩;obtain⟨q1,q2,q3⟩:=k5 f hfk;refine⟨by simp[fB,h1,hm,q1],fun m' bx=>?_,fun e'' he=>?_⟩
    ·rw[List.modify_succ_cons];simp[fB,q2 m' bx]
    grind
theorem OP {P w r es ck}(h:w.heap[r]? =some (.map es ck)):(getObj r).run P w=.ok (.map es ck) w:=by
 simp[getObj,Sem.run,h]
theorem vI3 {P w r es ck} o (h:w.heap[r]? =some (.map es ck)):(setObj r o).run P w=.ok () {w with heap:=w.heap.setIfInBounds r o}:=by
 simp[setObj,Sem.run,h]
theorem OQ {P w k b n}(h:P.underlying k=some (.int .i64)):(Instr.checkKey b 10000 k (.int .i64 n)).run P w=.ok () w:=by
 unfold Instr.checkKey;simp[run_underlying h]
theorem OR {P w k n es r}(h:P.underlying k=some (.int .i64))(hf:Instr.findNow (.int .i64) (.int .i64 n) es 0=some r):(Instr.findKey k (.int .i64 n) es).run P w=.ok r w:=by
 unfold Instr.findKey;simp[run_underlying h,hf]
theorem Vy {P M w}(ok:Ok M)(hM:M.H=w.heap){t x i v u rx ri}(hx:zV M x rx)(hi:zV M i ri)(h:yM (DG P M.h t x i) v u):qI P (Instr.lookup t rx ri false) M w v u:=by
 unfold DG at h;split at h
 case h_2=>exact h.elim
 rename_i id n;split at h
 case h_2=>exact h.elim
 rename_i df an;obtain⟨hb,h⟩:=Bc h;obtain⟨rfl,rfl⟩:=wL h;obtain⟨k,e,inf,h1,h2,h3,h4⟩:=vFz hb;obtain⟨C,B,hC,hB,rfl⟩:=hx;obtain⟨C',aF,B',es,ck,k1,k2,k3,k4,k5⟩:=ok.obj id _ an;rw[hC] at aF;cases aF;rw[hB] at k1;cases k1;have lV:ri=.int .i64 n:=hi;subst lV;rw[hM] at k3;refine .pure (rv:=.bool ((df.lookup n).getD false)) ok hM ?_ rfl;have h5:=k5 n;unfold Instr.lookup;rcases Vx (n:=n) (i:=0) k4 with⟨q1,q2⟩|⟨j,b,e',q1,q2,q3,q4,q5⟩
 ·have:df.lookup n=none:=by cases hl:df.lookup n with|none=>rfl|some b=>simp_all
  simp[run_underlying h1,OP k3,OQ h2,OR h2 q2,zeroValue,typeInfo,h3,h4,this]
 ·have:df.lookup n=some b:=by cases hl:df.lookup n with|none=>simp_all|some b=>simp_all
  simp[run_underlying h1,OP k3,OQ h2,OR h2 q2,this]
theorem Vz {n b c}:∀{es},fB n es=none→∀m,fB m (es++[⟨.int .i64 n,.bool b,c⟩])=if m=n then some (.bool b) else fB m es
 |[],_,m=>by rfl
 |e::es,h,m=>by
  rw[List.cons_append];have aI:∀(m:Int) (l:List MapEntry),fB m (e::l)=match e.key with|.int .i64 k=>if m=k then some e.val else fB m l|_=>fB m l:=fun m l=>rfl
  rw[aI] at h;rw[aI,aI];split at h
  ·rename_i k hk;split at h
   ·cases h
   ·by_cases hm:m=k
    ·grind
    ·rw[if_neg hm,Vz h m,if_neg hm]
  ·exact Vz h m
theorem VA {P M w}(ok:Ok M)(hM:M.H=w.heap){t x i y v u rx ri ry}(hx:zV M x rx)(hi:zV M i ri)(hy:zV M y ry)(h:yM (DH P M.h t x i y) v u):
  v=.undef∧mP P (Instr.mapUpdate t rx ri ry) M w u:=by
 unfold DH at h;split at h
 case h_2=>exact h.elim
 rename_i id n b;split at h
 case h_2=>exact h.elim
 rename_i df an;obtain⟨hb,h⟩:=Bc h;obtain⟨_,rfl,rfl⟩:=gU h;obtain⟨k,e,inf,h1,h2,h3,h4⟩:=vFz hb;obtain⟨C,B,hC,hB,rfl⟩:=hx;obtain⟨C',aF,B',es,ck,k1,k2,k3,k4,k5⟩:=ok.obj id _ an;rw[hC] at aF;cases aF;rw[hB] at k1;cases k1;have lV:ri=.int .i64 n:=hi;subst lV;have hry:ry=.bool b:=hy;subst hry;have k3':=k3;rw[hM] at k3;have write:∀(sj:Array MapEntry) (xe:Nat),(Instr.mapUpdate t (.map (some B)) (.int .i64 n) (.bool b)).run P w=.ok () {w with heap:=w.heap.setIfInBounds B (.map sj xe)}→
   (∀e∈sj.toList,∃m b,e.key=.int .i64 m∧e.val=.bool b)→(∀m,fB m sj.toList=if m=n then some (.bool b) else fB m es.toList)→mP P (Instr.mapUpdate t (.map (some B)) (.int .i64 n) (.bool b)) M w [(id,.imap ((n,b)::df))]:=by
  intro sj xe hr he hf;have Bf:∀c,(w.heap.setIfInBounds B (.map sj xe))[c]? =if c=B then some (.map sj xe) else w.heap[c]? :=by grind
  have hH:∀c,c∉C.fp→(w.heap.setIfInBounds B (.map sj xe))[c]? =M.H[c]? :=fun c hc=>by
   rw[Bf,if_neg (fun(e:c=B)=>hc (by rw[e];exact fQ hB)),hM]
  have cR:∀c,c<M.H.size→qU (w.heap.setIfInBounds B (.map sj xe)) c=qU M.H c:=fun c _=>by
   unfold qU;grind
  have := zK.write_ok ok an rfl hC C.le_refl (by simp) (by rw [hM]; simp) hH cR (o' := .imap ((n, b) :: df)) (by
   refine⟨B,sj,xe,hB,k2,?_,he,fun m=>?_⟩
   ·show(w.heap.setIfInBounds B (.map sj xe))[B]? =_;rw[Bf,if_pos rfl]
   grind)
  exact⟨_,_,hr,rfl,rfl,rfl,rfl,rfl,this.1,this.2⟩
 refine⟨rfl,?_⟩;rcases Vx (n:=n) (i:=0) k4 with⟨q1,q2⟩|⟨j,b',e',q1,q2,q3,q4,q5⟩
 ·refine write (es.push ⟨.int .i64 n,.bool b,ck⟩) (ck+1) ?_ (fun e he=>?_) fun m=>?_
  ·unfold Instr.mapUpdate;simp[run_underlying h1,OP k3,OQ h2,OR h2 q2,vI3 _ k3]
  ·grind
  ·rw[Array.toList_push];exact Vz q1 m
 ·refine write (es.modify j fun e=>{e with key:=.int .i64 n,val:=.bool b}) ck ?_ (by grind) fun m=>?_
  ·unfold Instr.mapUpdate;rw[Nat.zero_add] at q2;simp only[Array.getElem?_toList] at q3;simp[run_underlying h1,OP k3,OQ h2,OR h2 q2,vI3 _ k3,q3,q4,Instr.keyThatStays,Instr.sameBits]
  all_goals grind
theorem yJc:∀(ns:List Int) (b:ByteArray),ns.foldl (fun r n=>r.push (UInt8.ofNat n.toNat)) b=⟨(b.data.toList++nD ns).toArray⟩
 |[],b=>by simp[nD]
 |n::ns,b=>by
  rw[List.foldl_cons,yJc ns];simp[nD]
theorem VB {P M}(ok:Ok M){c v xs}(hv:zX M c v)(h:Dw M.h c=some xs){w}(hM:M.H=w.heap):
  ∃A n k,v=.slice A n k∧(Conv.bytesToString v).run P w=.ok (.string ⟨(nD xs).toArray⟩) w:=by
 unfold Dw at h;split at h
 ·cases h;refine⟨none,0,0,hv,?_⟩;rw[show v=.slice none 0 0 from hv];rfl
 ·split at h
  ·rename_i ys hr;obtain rfl:ys=xs:=by simp_all
   obtain⟨news,⟨A,k,e,hl,bU,lS⟩,F,hE⟩:=Vs ok hv hr rfl;refine⟨A,_,k,e,?_⟩;have hn:news=ys.map (Value.int .u8):=by
    refine List.ext_getElem (by simpa[Ty.size] using hl) fun j h1 h2=>?_
    have:=hE j (by simp_all);simp[qF,Ty.size] at this;grind
   subst e;cases A with
   |none=>
    have h1:ys=[]:=by grind
    subst h1;rfl
   |some a=>
    have mN:(loadCells a ys.length).run P w=.ok (ys.map (Value.int .u8)).toArray w:=by
     rcases lS with h0|⟨h1,h2⟩
     ·have h1:ys=[]:=by grind
      subst h1;rfl
     ·have:=wW.first (P:=P) (H:=M.H) (v:=.slice (some a) ys.length k) (n:=ys.length) (size:=1) (news:=news) ⟨_,k,rfl,by grind,bU,by grind⟩ w hM.symm
      rw[hn] at this
      simpa[Builtin.firstCells] using this
    rw[run_bytesToString w a _ k ys mN,yJc];rfl
  ·cases h
structure tY (M:zK) (w:World) (u:vG) (M':zK) (w':World):Prop where
 os:w'.os=w.os
 tape:w'.tape=w.tape
 output:w'.output=w.output
 H:M'.H=w'.heap
 h:M'.h=qH M.h u
 ok:Ok M'
 step:yO M M'
def tZ (P:Program)(f:Nat)(args:List zW)(h:Hp)(v:zW)(u:vG):Prop:=
 ∀(M:zK) (w:World) (vs:Array Value),M.h=h→M.H=w.heap→Ok M→zN (zV M) args vs.toList→
  ((callFunc f vs).run P w=.ok (.enter f vs) w∧Calls P f vs w fun
   |.returned rv,w'=>∃M',tY M w u M' w'∧zV M' v rv
   |_,_=>False)∨∃rv w' M',(callFunc f vs).run P w=.ok (.value rv) w'∧tY M w u M' w'∧zV M' v rv
def yZl (P:Program)(S:N5):Prop:=∀k nm f args h v u,yM (S k nm f args h) v u→tZ P f args h v u
structure gA (E:Env):Prop where
 eq:Jw E.P E.eqT
 sums:yZl E.P E.sums
section
variable {P:Program} {Q:Exit→Act→World→Prop} {o:Oper} {a:Act} {w:World} {M:zK} {next:Act→World→Prop} {v:zW} {u:vG}
theorem gC {s}(hr:qI P s M w v u)(he:execOp a.eval o=(do pure (.value (←s)):Sem Next))(hn:∀M' w' rv,tY M w u M' w'→zV M' v rv→next (a.put o.dst rv) w'):
  o.wp P a w next Q:=by
 obtain⟨rv,w',M',h1,h2,h3,h4,h5,h6,h7,h8,h9⟩:=hr;unfold Oper.wp;rw[he];simp[h1];exact hn M' w' rv ⟨h2,h3,h4,h5,h6,h7,h8⟩ h9
theorem vGi {s}(hr:mP P s M w u)(he:execOp a.eval o=(do s;pure .skip:Sem Next))(hn:∀M' w' rv,tY M w u M' w'→zV M' .undef rv→next (a.put o.dst rv) w'):
  o.wp P a w next Q:=by
 obtain⟨w',M',h1,h2,h3,h4,h5,h6,h7,h8⟩:=hr;unfold Oper.wp;rw[he];simp[h1];exact hn M' w' undef ⟨h2,h3,h4,h5,h6,h7,h8⟩ trivial
theorem pT (ok:Ok M)(hM:M.H=w.heap){rv}(hu:u=[])(hv:zV M v rv)(he:(execOp a.eval o).run P w=.ok (.value rv) w)(hn:∀M' w' rv,tY M w u M' w'→zV M' v rv→next (a.put o.dst rv) w'):
  o.wp P a w next Q:=by
 unfold Oper.wp;rw[he];subst hu;exact hn M w rv ⟨rfl,rfl,rfl,hM,rfl,ok,.refl M⟩ hv
end
theorem JP {α β} f:∀(l:List α) (r:List β),l.mapM f=some r→zN (fun a b=>f a=some b) l r
 |[],r,h=>by simp at h;subst h;trivial
 |a::l,r,h=>by
  simp[Option.bind_eq_some_iff] at h;obtain⟨b,h1,bs,h2,h3⟩:=h;cases h3;exact⟨h1,JP f l bs h2⟩
theorem zN.map_left {α β γ R}{f:α→γ}:∀{l} {m:List β},zN (fun a b=>R (f a) b) l m→zN R (l.map f) m
 |[],[],_=>trivial
 |_::_,_::_,h=>⟨h.1,zN.map_left h.2⟩
def _root_.Go.Operand.lit:Operand→Value
 |.const c=>c
 |_=>undef
theorem vQw {P:Program}{M:zK}{w:World}{t:TypeId}{d}{y:Operand}{x:qA}{rx ry:Value}{b:Bool}(hu:P.underlying t=some d)(hx:zX M x rx)(hy:ry=y.lit)
  (h:TL d y x=some b) op (sk:op=.eql∨op=.neq) ox oy:
  (eqGuard op t ox oy rx ry).run P w=.ok () w∧(binOp op t rx ry).run P w=.ok (.bool (rN op b)) w:=by
 have key:∀n,(Op.equalIn (n+1) t rx ry).run P w=.ok b w→(eqGuard op t ox oy rx ry).run P w=.ok () w→(binOp op t rx ry=match op with|.eql=>(do pure (.bool (←Op.equal t rx ry)))|_=>(do pure (.bool (!(←Op.equal t rx ry)))))→
   n=9999→(eqGuard op t ox oy rx ry).run P w=.ok () w∧(binOp op t rx ry).run P w=.ok (.bool (rN op b)) w:=by
  intro n h1 h2 h3 hn;have fg:(Op.equal t rx ry).run P w=.ok b w:=by subst hn;exact h1
  refine⟨h2,?_⟩;rw[h3];rcases sk with rfl|rfl<;>simp[fg,rN]
 unfold TL at h;split at h<;>cases h<;>simp only[Operand.lit] at hy<;>subst hy;all_goals (try obtain rfl:rx=_:=hx)
 all_goals (try obtain⟨C,B,_,_,_,rfl⟩:=hx)
 all_goals (try obtain⟨B,o,rfl,_⟩:=hx)
 all_goals (try obtain⟨cv,rfl,_⟩:=hx)
 all_goals (try obtain⟨⟨_,_,_,rfl⟩,_⟩:=hx)
 all_goals
  refine key 9999 ?_ ?_ ?_ rfl
  ·generalize 9999=n;unfold Op.equalIn;simp[run_underlying hu]
  ·rcases sk with rfl|rfl<;>simp[eqGuard]
  ·rcases sk with rfl|rfl<;>rfl
theorem VC {M}(ok:Ok M){c v n}(hv:zX M c v)(h:Dy M.h c=some n)(hn:0<n):∃a k,v=.slice (some a) n k:=by
 unfold Dy at h;split at h
 ·rename_i sh t xs;cases h;have hv:qF M.H (bif sh then M.G else M.F) (.sl t) xs (fun _=>some v):=hv;simp[qF] at hv;obtain⟨A,m,c,rfl,rfl,hc,h⟩:=hv;rcases h with⟨rfl,_⟩|⟨B,o,rfl,_⟩
  ·simp at hn
  ·exact⟨_,_,rfl⟩
 ·rename_i id;split at h
  ·rename_i own t xs an;cases h;obtain⟨C,hC,hO⟩:=ok.obj _ _ an;obtain⟨C',aF,A,k,e,hS⟩:=hv;rw[hC] at aF;cases aF;have hl:C.len=xs.length:=hO.1;rw[e,hl];cases hB:C.blk with
   |none=>rw[hB] at hS;omega
   |some B=>
    rw[hB] at hS;obtain⟨_,a,rfl,_⟩:=hS;exact⟨_,_,rfl⟩
  ·cases h
 ·cases h
theorem vOd {P:Program}{w:World}{t e}{a n k}(hu:P.underlying t=some (.slice e)) op (sk:op=.eql∨op=.neq) ox oy:
  (eqGuard op t ox oy (.slice (some a) n k) (.slice none 0 0)).run P w=.ok () w∧(binOp op t (.slice (some a) n k) (.slice none 0 0)).run P w=.ok (.bool (rN op false)) w:=by
 have key:∀m,(Op.equalIn (m+1) t (.slice (some a) n k) (.slice none 0 0)).run P w=.ok false w:=fun m=>by
  unfold Op.equalIn;simp[run_underlying hu]
 have h1:(Op.equal t (.slice (some a) n k) (.slice none 0 0)).run P w=.ok false w:=key 9999;rcases sk with rfl|rfl
 ·refine⟨by simp[eqGuard],?_⟩;rw[show binOp .eql t (.slice (some a) n k) (.slice none 0 0)=(do pure (.bool (←Op.equal t (.slice (some a) n k) (.slice none 0 0)))) from rfl];simp[h1,rN]
 ·refine⟨by simp[eqGuard],?_⟩;rw[show binOp .neq t (.slice (some a) n k) (.slice none 0 0)=(do pure (.bool (!(←Op.equal t (.slice (some a) n k) (.slice none 0 0))))) from rfl];simp[h1,rN]
theorem VD {M}{ev:Operand→zW}{ρ:Operand→Value}(aV:∀x,zV M (ev x) (ρ x)):∀(l:List (Nat×Operand)),zN (A9 M) (l.map fun p=>(p.1,ev p.2)) (l.map fun p=>(p.1,ρ p.2))
 |[]=>trivial
 |p::l=>⟨⟨rfl,aV p.2⟩,VD aV l⟩
theorem vDc {f:Operand→Value}(parts:Array (Nat×Operand)):(parts.map fun(i,x)=>(i,f x))=(parts.toList.map fun p=>(p.1,f p.2)).toArray:=by
 grind
theorem yJd {M}{ev:Operand→zW}{ρ}(aV:∀x,zV M (ev x) (ρ x)):∀{l ids},zN (fun x id=>wm (ev x)=some id) l ids→
  zN (fun id u=>∃C B,M.κ id=some C∧C.blk=some B∧u=.pointer (some ⟨B,0,none⟩)) ids (l.map ρ)
 |[],[],_=>trivial
 |x::l,id::ids,h=>by
  refine⟨?_,yJd aV h.2⟩;have h1:wm (ev x)=some id:=h.1;have hx:=aV x;unfold wm at h1;split at h1
  ·rename_i El hc;cases h1;rw[hc] at hx;exact hx
  ·cases h1
theorem vC9 {M ev ρ}(aV:∀x,zV M (ev x) (ρ x)):∀(l:List Operand),zN (zV M) (l.map ev) (l.map ρ)
 |[]=>trivial
 |x::l=>⟨aV x,vC9 aV l⟩
theorem vTr {E}(hE:gA E){A}{k pre}{Q}{o}{a}{w}{M}{next}{v}{u ev}(ok:Ok M)(hM:M.H=w.heap)
  (aV:∀x,zV M (ev x) (a.eval x)) (h:yM (lk E A k pre o ev M.h) v u) (hn:∀M' w' rv,tY M w u M' w'→zV M' v rv→next (a.put o.dst rv) w'):o.wp E.P a w next Q:=by
 unfold lk at h;dsimp only at h;split at h
 ·rename_i x ho;obtain⟨rfl,rfl⟩:=wL h;exact pT ok hM rfl (aV x) (by cases o;cases ho;rfl) hn
 ·rename_i x ho;obtain⟨rfl,rfl⟩:=wL h;exact pT ok hM rfl (aV x) (by cases o;cases ho;rfl) hn
 ·rename_i c x y ho;split at h
  ·rename_i cb hc;have lu:=aV c;rw[hc] at lu;have lu:a.eval c=.bool cb:=lu;split at h
   ·rename_i xb yb hx hy;obtain⟨rfl,rfl⟩:=wL h;have h1:=aV x;have h2:=aV y;rw[hx] at h1;rw[hy] at h2;refine pT (rv:=.bool (bif cb then xb else yb)) ok hM rfl (show zV M (.c (.bool _)) (.bool _) from rfl) ?_ hn;have h1:a.eval x=.bool xb:=h1;have h2:a.eval y=.bool yb:=h2;cases o;cases ho;show(do pure (.value (if←asBool (a.eval c) then a.eval x else a.eval y)):Sem Next).run E.P w=_;cases cb<;>simp[lu,asBool,h1,h2]
   ·refine pT (rv:=if cb then a.eval x else a.eval y) ok hM ?_ ?_ ?_ hn
    ·rcases h with⟨_,_,rfl⟩|⟨_,⟨_,_,rfl⟩|⟨_,h⟩⟩
     ·rfl
     ·rfl
     ·exact h.elim
    ·rcases h with⟨rfl,rfl,_⟩|⟨rfl,⟨_,rfl,_⟩|⟨_,h⟩⟩
     ·exact aV x
     ·exact aV y
     ·exact h.elim
    ·cases o;cases ho;show(do pure (.value (if←asBool (a.eval c) then a.eval x else a.eval y)):Sem Next).run E.P w=_;cases cb<;>simp[lu,asBool]
  ·exact h.elim
 ·rename_i t ho;split at h
  ·rename_i zs aU hz;obtain⟨_,rfl,rfl⟩:=gU h;exact gC (U1 ok hM aU hz) (by cases o;cases ho;rfl) hn
  ·exact h.elim
 ·rename_i t x ho;split at h
  ·rename_i vs aU hv;obtain⟨_,rfl,rfl⟩:=gU h;exact gC (U2 ok hM aU (aV x) hv _) (by cases o;cases ho;rfl) hn
  ·exact h.elim
 ·rename_i t parts ho;have hp:=VD aV parts.toList;have:=U7 ok hM hp h;exact gC this (by cases o;cases ho;rw[←vDc];rfl) hn
 ·rename_i t n parts ho;have hp:=VD aV parts.toList;exact gC (vQ6 ok hM hp h) (by cases o;cases ho;rw[←vDc];rfl) hn
 ·rename_i t x ho;exact gC (Ug ok hM (aV x) h) (by cases o;cases ho;rfl) hn
 ·rename_i t x y ho;obtain⟨rfl,hr⟩:=UE ok hM (aV x) (aV y) h;exact vGi hr (by cases o;cases ho;rfl) hn
 ·rename_i x ho;have hx:=aV x;have key:∀c,ev x=.c c→v=.c c→u=[]→(match a.eval x with|.pointer none|.nilIface|.nilFunc=>False|.func (.method _) _ _=>False|_=>True)→o.wp E.P a w next Q:=by
   intro c hc hv hu hm;rw[hc] at hx;refine pT (rv:=a.eval x) ok hM hu (by rw[hv];exact hx) ?_ hn;cases o;cases ho;simp only[execOp];generalize a.eval x=r at*
   split<;>first|rfl|exact hm.elim
  split at h
  ·rename_i i j hc;obtain⟨rfl,rfl⟩:=wL h;refine key _ hc rfl rfl ?_;rw[hc] at hx;obtain⟨C,B,_,_,e⟩:=hx;rw[e];trivial
  ·rename_i i j k hc;obtain⟨rfl,rfl⟩:=wL h;refine key _ hc rfl rfl ?_;rw[hc] at hx;obtain⟨C,B,_,_,_,e⟩:=hx;rw[e];trivial
  ·rename_i i j k l hc;obtain⟨rfl,rfl⟩:=wL h;refine key _ hc rfl rfl ?_;rw[hc] at hx;obtain⟨B,o,e,_⟩:=hx;rw[e];trivial
  ·rename_i i j hc;obtain⟨rfl,rfl⟩:=wL h;refine key _ hc rfl rfl ?_;rw[hc] at hx;obtain⟨cv,e,_⟩:=hx;rw[e];trivial
  ·exact h.elim
 ·rename_i op t x y _ ho;cases hc:(TN y&&TM op) with
  |false=>
   rw[hc] at h;exact gC (US hE.eq ok hM (aV x) (aV y) h) (by cases o;cases ho;rfl) hn
  |true=>
   rw[hc] at h;rw[Bool.and_eq_true] at hc;have sk:op=.eql∨op=.neq:=by cases op<;>first|(left;rfl)|(right;rfl)|(cases hc.2)
   split at h
   ·rename_i d cv hu lu;split at h
    ·rename_i b hb;obtain⟨rfl,rfl⟩:=wL h;have hx:=aV x;rw[lu] at hx;have hy:a.eval y=y.lit:=by
      cases y<;>first|rfl|(cases hc.1)
     obtain⟨h1,h2⟩:=vQw (w:=w) hu hx hy hb op sk x y;refine pT (rv:=.bool (rN op b)) ok hM rfl (show zV M (.c (.bool _)) (.bool _) from rfl) ?_ hn;cases o;cases ho;show(do pure (.value (←(do eqGuard op t x y (a.eval x) (a.eval y);binOp op t (a.eval x) (a.eval y)))):Sem Next).run E.P w=_;simp only[Sem.run_bind,h1,Result.andThen_ok,h2,Sem.run_pure]
    ·split at h
     ·rename_i n hln agJ;obtain⟨lX,rfl,rfl⟩:=lR h;have hx:=aV x;rw[lu] at hx;obtain⟨a',k',hx⟩:=VC ok hx hln (by simpa using lX);obtain⟨h1,h2⟩:=vOd (P:=E.P) (w:=w) (a:=a') (n:=n) (k:=k') hu op sk x (.const (.slice none 0 0));have hy:a.eval (.const (.slice none 0 0))=.slice none 0 0:=rfl;refine pT (rv:=.bool (rN op false)) ok hM rfl (show zV M (.c (.bool _)) (.bool _) from rfl) ?_ hn;cases o;cases ho;show(do pure (.value (←(do eqGuard op t x (.const (.slice none 0 0)) (a.eval x) (a.eval (.const (.slice none 0 0)));binOp op t (a.eval x) (a.eval (.const (.slice none 0 0)))))):Sem Next).run E.P w=_;rw[hx,hy];simp only[Sem.run_bind,h1,Result.andThen_ok,h2,Sem.run_pure]
     ·exact h.elim
   ·exact h.elim
 ·rename_i op t x ho;exact gC (UT ok hM (aV x) h) (by cases o;cases ho;rfl) hn
 ·rename_i s d x ho;split at h
  ·rename_i k1 k k2 n hs hd hx;obtain⟨rfl,rfl⟩:=wL h;have lY:=aV x;rw[hx] at lY;have lY:a.eval x=.int k2 n:=lY;refine pT (rv:=.int k (k.wrap n)) ok hM rfl (show zV M (.c (.int _ _)) (.int _ _) from rfl) ?_ hn;cases o;cases ho;show(do pure (.value (←convert s d (a.eval x))):Sem Next).run E.P w=_;simp[convert,run_underlying hs,run_underlying hd,lY,Conv.intToInt]
  ·rename_i e c hs hd hx;split at h
   ·rename_i xs he JQ;obtain⟨rfl,rfl⟩:=wL h;have lY:=aV x;rw[hx] at lY;obtain⟨A,n,k,e1,e2⟩:=VB (P:=E.P) (w:=w) ok lY JQ hM;refine pT (rv:=.string ⟨(nD xs).toArray⟩) ok hM rfl (show zV M (.c (.str xs)) _ from rfl) ?_ hn;cases o;cases ho;show(do pure (.value (←convert s d (a.eval x))):Sem Next).run E.P w=_;rw[e1] at e2⊢;simp only[Sem.run_bind,run_convert_bytes_string w s d e A n k hs he hd,e2,Result.andThen_ok,Sem.run_pure]
   ·exact h.elim
  ·exact h.elim
 ·rename_i f first captured ho
  cases hf:Nat.beq first.size 0 with
  |false=>rw[hf] at h;exact h.elim
  |true=>
   rw[hf] at h;simp only[cond_true] at h;split at h
   ·rename_i ids kE;obtain⟨rfl,rfl⟩:=wL h;have h0:first=#[]:=Array.eq_empty_of_size_eq_zero (by simpa using hf)
    refine pT (rv:=.func (.func f) #[] (captured.map a.eval)) ok hM rfl ?_ ?_ hn
    case refine_2=>
     cases o;cases ho;show(do pure (.value (←Instr.makeFunc (.func f) (first.map a.eval) (captured.map a.eval))):Sem Next).run E.P w=_;subst h0;simp[Instr.makeFunc]
    refine⟨_,rfl,?_⟩;rw[Array.toList_map];exact yJd aV (JP _ _ _ kE)
   ·exact h.elim
 ·rename_i t l c ho;exact gC (vUf ok hM (aV l) (aV c) h) (by cases o;cases ho;rfl) hn
 ·rename_i t ho;exact gC (Vw ok hM h) (by cases o;cases ho;rfl) hn
 ·rename_i t x i ho;exact gC (Vy ok hM (aV x) (aV i) h) (by cases o;cases ho;rfl) hn
 ·rename_i t x i y ho;obtain⟨rfl,hr⟩:=VA ok hM (aV x) (aV i) (aV y) h;exact vGi hr (by cases o;cases ho;rfl) hn
 ·rename_i t x lo hi mx ho;have hO:∀y:Option Operand,D8 M (y.map ev) (y.map a.eval):=fun y=>by
   cases y with
   |none=>trivial
   |some y=>exact aV y
  exact gC (vOa ok hM (aV x) (hO lo) (hO hi) (hO mx) h) (by cases o;cases ho;rfl) hn
 ·rename_i t x f ho;exact gC (UG ok hM (aV x) h) (by cases o;cases ho;rfl) hn
 ·rename_i t x f ho;exact gC (vN0 ok hM (aV x) h) (by cases o;cases ho;rfl) hn
 ·rename_i t x i ho;exact gC (UH ok hM (aV x) (aV i) h) (by cases o;cases ho;rfl) hn
 ·rename_i t x i ho;split at h
  ·rename_i s;exact gC (UJ ok hM (aV i) h) (by cases o;cases ho;rfl) hn
  ·exact gC (vOf ok hM (aV x) (aV i) h) (by cases o;cases ho;rfl) hn
 ·rename_i t i ho;have ht:=aV t;split at h
  ·rename_i xs JQ;rw[JQ] at ht;obtain⟨vs,dL,bn⟩:=ht;split at h
   ·rename_i g cs hi;obtain⟨hp,rfl⟩:=T9 h;have hl:=bn.length;have bd:i<xs.length:=by
     rcases Nat.lt_or_ge i xs.length with h|h
     ·exact h
     ·rw[List.getElem?_eq_none h] at hi;cases hi
    have kB:i<vs.size:=by simp at hl;omega
    have hc:=bn.get i bd (by simpa using kB);rw[List.getElem?_eq_getElem bd,Option.some.injEq] at hi;rw[hi] at hc;refine pT (rv:=vs[i]) ok hM rfl ?_ ?_ hn
    ·rcases Ue hp with⟨e1,rfl⟩|⟨e1,c,rfl,rfl⟩
     ·cases e1;exact hc
     ·cases e1;exact hc
    ·cases o;cases ho;show(do pure (.value (←Instr.extract (a.eval t) i)):Sem Next).run E.P w=_;rw[dL];simp[Instr.extract,kB]
   ·exact h.elim
  ·exact h.elim
 ·rename_i c ho;have cJ:=vC9 aV c.args.toList;have exec:∀b,c.callee=.builtin b→∀s:Sem Value,(∀C,Go.builtin b c.argTypes o.type C (c.args.map a.eval)=(do pure (.value (←s)):Sem Next))→execOp a.eval o=(do pure (.value (←s)):Sem Next):=fun b hb s hs=>by
   cases o;cases ho;show(do let d←resolve a.eval c _;invoke d.target d.args:Sem Next)=_;unfold resolve;rw[hb];exact hs _
  have kF:c.args.map a.eval=(c.args.toList.map a.eval).toArray:=by cases c.args;simp
  split at h
  ·rename_i b kG;unfold T0 at h;split at h
   ·split at h
    case h_2=>exact h.elim
    rename_i x hx;have h1:∃rx,(c.args.toList.map a.eval).toArray=#[rx]∧zX M x rx:=by
     rw[hx] at cJ
     match hl:c.args.toList.map a.eval,cJ with
     |[rx],hh=>exact⟨rx,rfl,hh.1⟩
    obtain⟨rx,Bg,lY⟩:=h1;split at h
    ·rename_i e hu;split at h
     ·rename_i n hlen;obtain⟨rfl,rfl⟩:=wL h;obtain⟨t,ht,hu⟩:=Option.bind_eq_some_iff.1 hu;obtain⟨A,k,rfl⟩:=Vu ok lY hlen;refine gC (s:=Builtin.len_ c.argTypes o.type (c.args.map a.eval)) ?_ (exec _ kG _ fun _=>rfl) hn;rw[kF,Bg];exact .pure ok hM (vSw ht hu) rfl
     ·exact h.elim
    ·exact h.elim
   ·split at h
    case h_2=>exact h.elim
    rename_i b x hx;have h1:∃rb rx,(c.args.toList.map a.eval).toArray=#[rb,rx]∧zV M b rb∧zV M x rx:=by
     rw[hx] at cJ
     match hl:c.args.toList.map a.eval,cJ with
     |[rb,rx],hh=>exact⟨rb,rx,rfl,hh.1,hh.2.1⟩
    obtain⟨rb,rx,Bg,VE,lY⟩:=h1;split at h
    ·rename_i t t' hts;obtain⟨htt,h'⟩:=Bc h;have:t=t':=by simpa using htt
     subst this;refine gC (s:=Builtin.append_ c.argTypes o.type (c.args.map a.eval)) ?_ (exec _ kG _ fun _=>rfl) hn;have ht:c.argTypes=#[t,t]:=by
      have:=congrArg List.toArray hts
      simpa using this
     rw[kF,Bg,ht];exact vUs ok hM VE lY h'
    ·exact h.elim
   ·split at h
    case h_2=>exact h.elim
    rename_i d s hx;have h1:∃rb rx,(c.args.toList.map a.eval).toArray=#[rb,rx]∧zV M d rb∧zV M s rx:=by
     rw[hx] at cJ
     match hl:c.args.toList.map a.eval,cJ with
     |[rb,rx],hh=>exact⟨rb,rx,rfl,hh.1,hh.2.1⟩
    obtain⟨rb,rx,Bg,VE,lY⟩:=h1;split at h
    ·rename_i e hu;obtain⟨VF,h⟩:=Bc h;obtain⟨t,ht,hu⟩:=Option.bind_eq_some_iff.1 hu;refine gC (s:=Builtin.copy_ c.argTypes o.type (c.args.map a.eval)) ?_ (exec _ kG _ fun _=>rfl) hn;rw[kF,Bg];exact Vv ok hM ht hu (by simpa using VF) VE lY h
    ·exact h.elim
   ·split at h
    case h_2=>exact h.elim
    rename_i id lo n hx;have h1:∃rx,(c.args.toList.map a.eval).toArray=#[rx]∧zX M (.osl id (some (lo,n))) rx:=by
     rw[hx] at cJ
     match hl:c.args.toList.map a.eval,cJ with
     |[rx],hh=>exact⟨rx,rfl,hh.1⟩
    obtain⟨rx,Bg,lY⟩:=h1;split at h
    ·rename_i t ht;refine gC (s:=Builtin.clear_ c.argTypes o.type (c.args.map a.eval)) ?_ (exec _ kG _ fun _=>rfl) hn;rw[kF,Bg];obtain⟨rv,w',M',q1,q2⟩:=vLe (T:=o.type) ok hM lY h;refine⟨rv,w',M',?_,q2⟩;have e:(Builtin.clear_ c.argTypes o.type #[rx]).run E.P w=(Builtin.clear_ #[t] o.type #[rx]).run E.P w:=by
      simp only[Builtin.clear_,ht];rfl
     rw[e];exact q1
    ·exact h.elim
   ·refine gC (s:=Builtin.max_ c.argTypes o.type (c.args.map a.eval)) ?_ (exec _ kG _ fun _=>rfl) hn;rw[kF];exact vId (lt:=false) (ts:=c.argTypes) (T:=o.type) ok hM cJ h
   ·refine gC (s:=Builtin.min_ c.argTypes o.type (c.args.map a.eval)) ?_ (exec _ kG _ fun _=>rfl) hn;rw[kF];exact vId (lt:=true) (ts:=c.argTypes) (T:=o.type) ok hM cJ h
   ·exact h.elim
  ·rename_i f kG;split at h
   ·rename_i VG cap hf;have hfv:=aV f;rw[hf] at hfv;obtain⟨cv,lu,JR⟩:=hfv;have bn:zN (zV M) (c.args.toList.map ev++cap.map fun id=>.c (.ptr id 0)) (c.args.map a.eval++cv).toList:=by
     rw[Array.toList_append,Array.toList_map];exact cJ.append (zN.map_left JR)
    have tT:(execOp a.eval o).run E.P w=(callFunc VG (c.args.map a.eval++cv)).run E.P w:=by
     cases o;cases ho;show(do let d←resolve a.eval c _;invoke d.target d.args:Sem Next).run E.P w=_;unfold resolve;rw[kG];simp only[lu,Deferred.ofValue,Sem.run_bind,Sem.run_pure,Result.andThen_ok,invoke,Array.empty_append]
    rcases hE.sums k _ VG _ M.h v u h M w _ rfl hM ok bn with⟨h1,h2⟩|⟨rv,w',M',h1,hB,hv⟩
    case inr=>
     unfold Oper.wp;rw[tT,h1];exact hn M' w' rv hB hv
    unfold Oper.wp;rw[tT,h1,Oper.upon_enter];refine Calls.mono h2 fun e w' he=>?_
    cases e with
    |returned rv=>
     obtain⟨M',hB,hv⟩:=he;exact hn M' w' rv hB hv
    |panicked _=>exact he.elim
    |outgrown=>exact he.elim
   ·exact h.elim
  ·exact h.elim
 ·exact h.elim
section
variable {P:Program} {h h':Hp}
theorem vSy {t a}(hh:∀id∈yT a,h id=h' id):DA P h t a=DA P h' t a:=by
 unfold DA;cases a with
 |c v=>cases v<;>first|rfl|(have:=hh _ (List.mem_singleton.2 rfl);simp_all)
 |_=>rfl
theorem yJf {v}(hh:∀id∈vL v,h id=h' id):oM h v=oM h' v:=by
 unfold oM;cases v<;>first|rfl|(have:=hh _ (List.mem_singleton.2 rfl);simp_all)
theorem VH:∀{vs},(∀id∈vs.flatMap vL,h id=h' id)→nE h vs=nE h' vs
 |[],_=>rfl
 |v::vs,hh=>by
  simp  at hh;unfold nE;rw[yJf fun id hi=>hh id (.inl hi),VH (by grind)]
theorem yI5 {v vs}(e:oK v=some vs):vs.flatMap vL=yT v:=by
 unfold oK at e;split at e
 ·cases e;simp[yT]
 ·cases e;rfl
 ·cases e
theorem VI {t a v}(ha:∀id∈yT a,h id=h' id)(hv:∀id∈yT v,h id=h' id):DB P h t a v=DB P h' t a v:=by
 unfold DB;cases e:oK v with
 |none=>rfl
 |some vs=>
  have hf:nE h vs=nE h' vs:=VH (by rw[yI5 e];exact hv);cases a with
  |c x=>
   cases x with
   |mptr id i=>
    have h1:=ha _ (List.mem_singleton.2 rfl);simp only[h1];generalize h' id=ob;rcases ob with _|(_|_|_|_|_|_|_)<;>first|rfl|skip
    all_goals cases v with
    |c y=>cases y with
     |osl jd r=>cases r with
      |none=>
       have h2:=hv _ (List.mem_singleton.2 rfl);simp_all
      |some _=>rfl
     |_=>rfl
    |_=>rfl
   |ptr id off=>
    have h1:=ha _ (List.mem_singleton.2 rfl);simp_all
   |eptr id i off=>
    have h1:=ha _ (List.mem_singleton.2 rfl);simp_all
   |meptr id i j ver=>
    have h1:=ha _ (List.mem_singleton.2 rfl);simp[h1]
   |_=>rfl
  |_=>rfl
theorem OT {v}(hh:∀id∈vL v,h id=h' id):ky h v=ky h' v:=by
 unfold ky;cases v<;>first|rfl|(have:=hh _ (List.mem_singleton.2 rfl);simp_all)
theorem vRi {v}(hh:∀id∈vL v,h id=h' id):Dx h v=Dx h' v:=by
 have e:=OT hh;unfold Dx;grind
theorem vWy {t x i}(hh:∀id∈yT x,h id=h' id):DC P h t x i=DC P h' t x i:=by
 unfold DC;generalize P.underlying t=d;rcases d with _|d
 ·rfl
 ·cases d with
  |slice e=>
   cases x with
   |c v=>
    cases i with
    |c iv=>
     cases iv with
     |int k n=>cases v<;>first|rfl|(have:=hh _ (List.mem_singleton.2 rfl);simp_all)
     |_=>cases v<;>rfl
    |_=>rfl
   |_=>rfl
  |array n e=>
   grind
  |_=>rfl
theorem vM0 {nm t}(h0:h nm=h' nm):DF P nm h t=DF P nm h' t:=by
 unfold DF;rw[h0]
theorem vPg {t x i}(hh:∀id∈yT x,h id=h' id):DG P h t x i=DG P h' t x i:=by
 unfold DG;split
 ·rename_i id n;rw[hh id (by simp[yT,vL])]
 ·rfl
theorem VJ {t x i y}(hh:∀id∈yT x,h id=h' id):DH P h t x i y=DH P h' t x i y:=by
 unfold DH;split
 ·rename_i id n b;rw[hh id (by simp[yT,vL])]
 ·rfl
theorem VK {t x lo hi mx}(hh:∀id∈yT x,h id=h' id):DI P h t x lo hi mx=DI P h' t x lo hi mx:=by
 unfold DI;split
 ·rfl
 ·rename_i id r _;rw[hh id (by simp[yT,vL])]
 ·rename_i id _;rw[hh id (by simp[yT,vL])]
 ·rename_i id off _;rw[hh id (by simp[yT,vL])]
 ·rfl
theorem vZg {v}(hh:∀id∈yT v,h id=h' id):AO h v=AO h' v:=by
 unfold AO;cases v with
 |c v=>cases v with
  |osl jd r=>cases r with
   |none=>
    have h2:=hh _ (List.mem_singleton.2 rfl);simp_all
   |some _=>rfl
  |_=>rfl
 |_=>rfl
theorem vGf:∀{parts rows},(∀id∈(parts.map (·.2)).flatMap yT,h id=h' id)→AP h rows parts=AP h' rows parts
 |[],_,_=>rfl
 |(i,v)::rest,rows,hh=>by
  simp only[List.map_cons,List.flatMap_cons,List.mem_append] at hh;unfold AP;rw[vZg fun id hi=>hh id (.inl hi)];cases AO h' v with
  |none=>rfl
  |some p=>simp[vGf fun id hi=>hh id (.inr hi)]
theorem yGl {t}:∀{parts xs},(∀id∈(parts.map (·.2)).flatMap yT,h id=h' id)→rO h t xs parts=rO h' t xs parts
 |[],_,_=>rfl
 |(i,v)::rest,xs,hh=>by
  simp only[List.map_cons,List.flatMap_cons,List.mem_append] at hh;unfold rO;cases e:oK v with
  |none=>rfl
  |some vs=>
   have hf:nE h vs=nE h' vs:=VH (by rw[yI5 e];simp_all);simp[hf];cases nE h' vs with
   |none=>rfl
   |some p=>
    dsimp only;cases Jd t p.1 with
    |none=>rfl
    |some x=>simp[yGl fun id hi=>hh id (.inr hi)]
theorem vL7 {mat nm t n parts}(h0:h nm=h' nm)(hh:∀id∈(parts.map (·.2)).flatMap yT,h id=h' id):
  DD P mat nm h t n parts=DD P mat nm h' t n parts:=by
 have e':∀ty:Ty,rO h ty (List.replicate n ty.dflt) parts=rO h' ty (List.replicate n ty.dflt) parts:=fun ty=>yGl hh
 unfold DD;rw[h0,vGf hh];simp_all
theorem vYh {mat nm t l c}(h0:h nm=h' nm):DE P mat nm h t l c=DE P mat nm h' t l c:=by
 unfold DE;rw[h0]
theorem VL {t v}(hh:∀id∈vL v,h id=h' id):tI h t v=tI h' t v:=by
 unfold tI;cases v with
 |osl id r=>
  have:=hh _ (List.mem_singleton.2 rfl);simp_all
 |_=>rfl
theorem vO9 {mat:Bool}{nm:Nat}{t:TypeId}{b x:zW}(h0:h nm=h' nm)(hb:∀id∈yT b,h id=h' id)(hx:∀id∈yT x,h id=h' id):DJ P mat nm h t b x=DJ P mat nm h' t b x:=by
 unfold DJ;rw[h0];generalize P.underlying t=d;rcases d with _|d
 ·rfl
 cases d with
 |slice e=>
  generalize h' nm=on;cases on with
  |some _=>rfl
  |none=>
   cases b with
   |c b=>
    cases x with
    |c x=>
     have ht:∀ty,tI h ty x=tI h' ty x:=fun ty=>VL hx
     simp only[ht];cases b with
     |osl id r=>
      have h1:=hb _ (List.mem_singleton.2 rfl);simp only[h1];cases x with
      |osl jd r2=>
       have h2:=hx _ (List.mem_singleton.2 rfl);grind
      |_=>cases mat with
       |false=>rfl
       |true=>
        generalize kx P e=et;rcases et with _|(_|_|_|_)<;>first|rfl|skip
        rename_i t2;cases t2<;>first|rfl|skip
        rename_i k;cases k<;>cases r<;>rfl
     |_=>cases mat with
      |false=>rfl
      |true=>
       generalize kx P e=et;rcases et with _|(_|_|_|_)<;>first|rfl|skip
       rename_i t2;cases t2<;>first|rfl|skip
       rename_i k;cases k<;>rfl
    |_=>rfl
   |_=>rfl
 |_=>rfl
theorem vRc {d s}(hd:∀id∈yT d,h id=h' id)(hs:∀id∈yT s,h id=h' id):DK h d s=DK h' d s:=by
 unfold DK;cases d with
 |c d=>
  cases s with
  |c s=>
   cases d with
   |bsl id off n=>
    have h1:=hd _ (List.mem_singleton.2 rfl);have h2:ky h s=ky h' s:=OT hs;grind
   |_=>rfl
  |_=>simp
 |_=>rfl
end
theorem VM {E}{A}{k pre}{o}{ev ua}{h}(he:∀x∈o.op.operands,ev x=ua x):lk E A k pre o ev h=lk E A k pre o ua h:=by
 obtain⟨dst,op,type,pos,after,guard⟩:=o;have fO:∀ps:Array (Nat×Operand),(∀x∈ps.map (·.2),ev x=ua x)→(ps.toList.map fun p=>(p.1,ev p.2))=(ps.toList.map fun p=>(p.1,ua p.2)):=fun ps hp=>
  List.map_congr_left (by grind)
 have maps:∀xs:Array Operand,(∀x∈xs,ev x=ua x)→xs.toList.map ev=xs.toList.map ua:=by simp
 cases op<;>simp only[Op.operands] at he<;>simp only[lk]
 case build t ps=>rw[fO ps fun x hx=>he x (by simpa using hx)]
 case buildSlice t n ps=>rw[fO ps fun x hx=>he x (by simpa using hx)]
 case makeFunc fn first captured=>
  cases fn<;>first|rfl|skip
  have:captured.toList.mapM (fun x=>wm (ev x))=captured.toList.mapM (fun x=>wm (ua x)):=by
   have h2:∀l:List Operand,(∀x∈l,ev x=ua x)→l.mapM (fun x=>wm (ev x))=l.mapM (fun x=>wm (ua x)):=fun l=>by
    induction l with
    |nil=>exact fun _=>rfl
    |cons y l ih=>simp_all
   exact by grind
  simp only[this]
 case call c=>
  obtain⟨callee,args,ats⟩:=c;have ha:=maps args fun x hx=>he x (by simp[Call.operands,hx])
  cases callee with
  |value f=>
   have hf:=he f (by simp[Call.operands]);simp only[hf,ha]
  |builtin b=>simp only[ha]
  |invoke _ _=>rfl
 case makeMap t r=>cases r<;>rfl
 case lookup t x i ok=>cases ok<;>simp_all
 case slice t x lo hi mx=>
  have h1:=he x (by simp);cases lo<;>cases hi<;>cases mx<;>simp_all
 all_goals (first|rfl|(simp only[he _ (by simp:_∈#[_])];done)|(simp_all;done))
def j9 (S:N5):Prop:=∀k nm f (args:List zW) h h',(args.any wO=false→∀id,(id∈args.flatMap yT∨nG nm id=true)→h id=h' id)→(args.any wO=true→h=h')→S k nm f args h=S k nm f args h'
theorem vNh nm:nG nm nm=true:=by
 simp[nG]
theorem vOo {E}(hS:j9 E.sums){A k pre o ev h h'}
  (hh:match rR ev o with|none=>h=h'|some l=>∀id,(id∈l∨nG (rQ pre o.dst) id=true)→h id=h' id):lk E A k pre o ev h=lk E A k pre o ev h':=by
 have full:h=h'→lk E A k pre o ev h=lk E A k pre o ev h':=fun e=>by rw[e]
 unfold rR at hh;dsimp only at hh;cases hq:yT7 o.op with
 |true=>
  obtain⟨dst,op,type,pos,after,guard⟩:=o;cases op<;>first|rfl|cases hq
 |false=>
 rw[hq] at hh;simp only[cond_false] at hh;cases hc:(T1 o.op&&(o.op.operands.toList.map ev).any wO) with
 |true=>rw[hc] at hh;exact full hh
 |false=>
  rw[hc] at hh;replace hh:∀id,(id∈(o.op.operands.toList.map ev).flatMap yT∨nG (rQ pre o.dst) id=true)→h id=h' id:=hh;have h0:h (rQ pre o.dst)=h' (rQ pre o.dst):=hh _ (.inr (vNh _));have hx:∀x∈o.op.operands,∀id∈yT (ev x),h id=h' id:=by grind
  obtain⟨dst,op,type,pos,after,guard⟩:=o;dsimp only at h0 hx hc;cases op<;>simp only[Op.operands] at hx<;>simp only[lk]
  case alloc t=>rw[h0]
  case box t x=>rw[h0]
  case buildSlice t n ps=>
   exact vL7 h0 (by grind)
  case load t x=>exact vSy (hx x (by simp))
  case store t x y=>exact VI (hx x (by simp)) (hx y (by simp))
  case makeSlice t l c=>exact vYh h0
  case slice t x lo hi mx=>exact VK (hx x (by simp))
  case makeMap t r=>cases r<;>first|rfl|exact vM0 h0
  case lookup t x i ok=>cases ok<;>first|rfl|exact vPg (hx x (by simp))
  case mapUpdate t x i y=>exact VJ (hx x (by simp))
  case indexAddr t x i=>exact vWy (hx x (by simp))
  case binOp op t x y p=>
   have hx:=hx x (by simp);have hl:∀v,ev x=.c v→Dy h v=Dy h' v:=fun v e=>by
    cases v with
    |osl id r=>cases r with
     |none=>simp only[Dy,hx id (by rw[e];simp[yT,vL])]
     |some p=>rfl
    |_=>rfl
   split
   ·cases TN y&&TM op with
    |false=>rfl
    |true=>
     rename_i d v hu hv;simp only[hl v hv]
   ·rfl
  case convert s d x=>
   have hx:=hx x (by simp);have hs:∀v,ev x=.c v→Dw h v=Dw h' v:=fun v e=>by
    have:=OT (h:=h) (h':=h') (v:=v) fun id an=>hx id (by rw[e];exact an)
    unfold Dw;cases v<;>first|rfl|simp only[this]
   split
   ·rfl
   ·rename_i e c _ _ hc;rw[hs c hc]
   ·rfl
  case call c=>
   obtain⟨callee,args,ats⟩:=c;have ha:∀v∈args.toList.map ev,∀id∈yT v,h id=h' id:=fun v hv=>by
    obtain⟨x,Bh,rfl⟩:=List.mem_map.1 hv;exact hx x (by simp at Bh;simp[Call.operands,Bh])
   cases callee with
   |value f=>
    dsimp only;cases hf:ev f with
    |c fv=>cases fv with
     |fn VG cap=>
      dsimp only;simp only[T1,Bool.true_and] at hc;have iQ:cap=[]:=by
       have hm:ev f∈(Op.call ⟨.value f,args,ats⟩).operands.toList.map ev:=List.mem_map_of_mem (by simp[Op.operands,Call.operands]);have:=List.any_eq_false.1 hc _ hm;rw[hf] at this
       simpa[wO] using this
      subst iQ;simp only[List.map_nil,List.append_nil];have hb:(args.toList.map ev).any wO=false:=by
       refine List.any_eq_false.2 fun v hv=>?_
       obtain⟨x,Bh,rfl⟩:=List.mem_map.1 hv;exact List.any_eq_false.1 hc _ (List.mem_map_of_mem (by simp at Bh;simp[Op.operands,Call.operands,Bh]))
      refine hS _ _ _ _ _ _ (fun _ id an=>?_) fun ht=>?_
      ·rcases an with an|an
       ·obtain⟨v,hv,an⟩:=List.mem_flatMap.1 an;exact ha v hv id an
       ·exact hh id (.inr an)
      ·rw[hb] at ht;cases ht
     |_=>rfl
    |_=>rfl
   |invoke _ _=>rfl
   |builtin b=>
    generalize hl:args.toList.map ev=l at ha;unfold T0;cases b<;>first|rfl|skip
    case len=>
     match l,ha with
     |[],_=>rfl
     |[v],ha=>cases v with
      |c v=>
       have:=vRi (ha (.c v) (by simp));simp only[this]
      |_=>rfl
     |v::_::_,_=>cases v<;>rfl
    case append=>
     match l,ha with
     |[],_|[_],_|_::_::_::_,_=>rfl
     |[b,x],ha=>
      have:=fun mat t=>vO9 (P:=E.P) (mat:=mat) (t:=t) h0 (ha b (by simp)) (ha x (by simp))
      simp only[this]
    case clear=>
     match l,ha with
     |[],_=>rfl
     |[v],ha=>cases v with
      |c v=>cases v with
       |osl id r=>cases r with
        |none=>rfl
        |some p=>
         have e:=ha (.c (.osl id (some p))) (by simp) id (by simp[yT,vL]);dsimp only;split
         ·unfold N3;rw[e]
         ·rfl
       |_=>rfl
      |_=>rfl
     |v::_::_,_=>cases v with
      |c v=>cases v with
       |osl id r=>cases r<;>rfl
       |_=>rfl
      |_=>rfl
    case copy=>
     match l,ha with
     |[],_|[_],_|_::_::_::_,_=>rfl
     |[b,x],ha=>
      have:=vRc (ha b (by simp)) (ha x (by simp));simp only[this]
  case makeFunc fn first captured=>cases fn<;>rfl
  all_goals rfl
end Go.Ab
set_option linter.unusedSectionVars false
namespace Go.Ab
structure ka (M M':zK):Prop where
 F:∀b,M.F b→M'.F b
 G:∀b,M.G b→M'.G b
 same:∀b,M.F b→M'.H[b]? =M.H[b]?
 sameG:∀b,M.G b→M'.H[b]? =M.H[b]?
 bsz:∀b,b<M.H.size→qU M'.H b=qU M.H b
 size:M.H.size≤M'.H.size
 frame:∀b,b<M.H.size→¬qN M b→M'.H[b]? =M.H[b]?
 own:∀b,qN M' b→b<M.H.size→qN M b
 Gb:∀b,M'.G b→b<M.H.size→M.G b∨qN M b
 Fb:∀b,M'.F b→b<M.H.size→M.F b∨qN M b
theorem yO.grow {M M'}(s:yO M M'):ka M M':=⟨s.ext.F,s.ext.G,s.ext.same,s.ext.sameG,s.ext.bsz,s.size,s.frame,s.own,s.Gb,s.Fb⟩
theorem ka.trans {M M' mL}(x:ka M M')(y:ka M' mL):ka M mL where
 F b h:=y.F b (x.F b h)
 G b h:=y.G b (x.G b h)
 same b h:=(y.same b (x.F b h)).trans (x.same b h)
 sameG b h:=(y.sameG b (x.G b h)).trans (x.sameG b h)
 bsz b h:=(y.bsz b (by have:=x.size;omega)).trans (x.bsz b h)
 size:=Nat.le_trans x.size y.size
 frame b h hn:=by
  have:=x.size;rw[y.frame b (by omega) fun ho=>hn (x.own b ho h),x.frame b h hn]
 own b ho h:=x.own b (y.own b ho (by have:=x.size;omega)) h
 Gb b hg h:=by
  rcases y.Gb b hg (by have:=x.size;omega) with k|k
  ·exact x.Gb b k h
  ·exact .inr (x.own b k h)
 Fb b hg h:=by
  rcases y.Fb b hg (by have:=x.size;omega) with k|k
  ·exact x.Fb b k h
  ·exact .inr (x.own b k h)
def OU (M M':zK):Prop:=∀id C,M.κ id=some C→∃C',M'.κ id=some C'∧C'.blk=C.blk
structure ub (nl:Bool) (M M':zK):Prop where
 g:ka M M'
 k:nl=true→OU M M'
theorem ub.step {nl M M' mL}(x:ub nl M M')(s:yO M' mL):ub nl M mL:=
 ⟨x.g.trans s.grow,fun h id C hC=>by
  obtain⟨C1,h1,e1⟩:=x.k h id C hC;obtain⟨C2,h2,le⟩:=s.ext.κ id C1 h1;exact⟨C2,h2,le.blk.trans e1⟩⟩
theorem ub.trans {M M' mL}(x:ub false M M')(y:ka M' mL):ub false M mL:=⟨x.g.trans y,by simp⟩
structure vW (nl:Bool) (na nt:Nat) (a0:Nat→Value) (M0:zK) (w0:World) (st:St) (a:Act) (w:World):Prop where
 ex:∃M:zK,M.h=st.h∧M.H=w.heap∧Ok M∧ub nl M0 M∧∀t,zV M (st.t t) (a.tmps.getD t undef)
 defers:a.defers=[]
 size:a.tmps.size=nt
 os:w.os=w0.os
 tape:w.tape=w0.tape
 output:w.output=w0.output
 keep:∀t,t<na→a.tmps.getD t undef=a0 t
theorem yKk {M}{st:St}{a:Act}(h:∀t,zV M (st.t t) (a.tmps.getD t undef)) x:zV M (st.ev x) (a.eval x):=by
 cases x with
 |tmp t=>exact h t
 |const v=>exact Ud M v
 |global g=>trivial
 |func f=>exact⟨#[],rfl,trivial⟩
theorem VN {t s v}(h:t s=v):jX t s v=t:=by
 funext n;unfold jX;cases e:Nat.beq n s with
 |false=>rfl
 |true=>
  simp_all
def Em (ops:Array Oper)(o:Oper)(st:St):Option Bool:=match o.guard with
 |none=>some true
 |some (j,want)=>match Ob ops j with
  |none=>none
  |some s=>match st.t s with
   |.c (.bool b)=>some (b==want)
   |.skp=>some false
   |_=>none
theorem yXl {R ops o st yes no}{out:R}(h:Oc ops o st yes no=some out):
  ∃b,Em ops o st=some b∧(if b=true then yes st else no st)=some out:=by
 unfold Oc at h;unfold Em;cases hg:o.guard with
 |none=>simp_all
 |some p=>
  obtain⟨j,want⟩:=p;rw[hg] at h;dsimp only at h⊢;cases hs:Ob ops j with
  |none=>simp_all
  |some s=>
   rw[hs] at h;dsimp only at h⊢;split at h
   ·rename_i b hb;rw[hb];refine⟨b==want,rfl,?_⟩;cases b with
    |true=>
     simp[VN hb] at h;cases want<;>exact h
    |false=>
     simp[VN hb] at h;cases want<;>exact h
   all_goals simp_all
theorem getD_some {a:Array Value}{s v}(h:a.getD s undef=v)(hv:v≠undef):a[s]? =some v:=by
 by_cases hs:s<a.size
 all_goals simp_all
theorem vEj {ops o st b nl na nt a0 M0 w0 w a}(h:Em ops o st=some b)(R:vW nl na nt a0 M0 w0 st a w):Region.wanted o (yielded ops a.tmps)=b:=by
 obtain⟨M,_,_,_,_,ht⟩:=R.ex;unfold Em at h;unfold Region.wanted;split at h
 ·simp_all
 ·rename_i j want hg;rw[hg];split at h
  ·cases h
  ·rename_i s hs;have hv:=ht s;have pU:(ops[j]?).bind (·.dst)=some s:=hs;split at h
   ·rename_i b' hb;cases h;rw[hb] at hv;have:=getD_some hv (by nofun);simp only[yielded,pU,Option.bind_some,this];rfl
   ·rename_i hb;cases h;rw[hb] at hv;have hv:a.tmps.getD s undef=undef:=hv;have:∀x:Option Value,(x=none∨x=some undef)→((match x with|some (.bool b)=>some b|_=>none:Option Bool)==some want)=false:=fun x hx=>by
     rcases hx with rfl|rfl<;>cases want<;>rfl
    refine this _ ?_;by_cases bd:s<a.tmps.size
    all_goals simp_all
   ·cases h
theorem tY.rel {nl na nt a0 M0 M M' w0 w w' st a dst v u rv}(R:vW nl na nt a0 M0 w0 st a w)(hh:M.h=st.h)(hs:ub nl M0 M)(ht:∀t,zV M (st.t t) (a.tmps.getD t undef))
  (hd:∀d,dst=some d→na≤d∧d<nt) (hB:tY M w u M' w') (hv:zV M' v rv):vW nl na nt a0 M0 w0 {t:=j3 st.t dst v,h:=qH st.h u} (a.put dst rv) w' where
 ex:=by
  refine⟨M',by rw[hB.h,hh],hB.H,hB.ok,hs.step hB.step,fun t=>?_⟩;cases dst with
  |none=>exact(ht t).ext hB.step.ext
  |some d=>
   show zV M' (jX st.t d v t) ((a.tmps.setIfInBounds d rv).getD t undef);have bd:d<a.tmps.size:=by rw[R.size];simp_all
   unfold jX;cases e:Nat.beq t d with
   |true=>
    simp_all
   |false=>
    have e:t≠d:=fun e'=>by simp_all
    have:=(ht t).ext hB.step.ext;simp[Array.getElem?_setIfInBounds_ne (Ne.symm e)] at this⊢;exact this
 defers:=by cases dst<;>exact R.defers
 size:=by cases dst<;>simp[Act.put,R.size]
 os:=hB.os.trans R.os
 tape:=hB.tape.trans R.tape
 output:=hB.output.trans R.output
 keep t h:=by
  cases dst with
  |none=>exact R.keep t h
  |some d=>
   have bx:d≠t:=by grind
   rw[←R.keep t h];simp[Act.put,Array.getElem?_setIfInBounds_ne bx]
theorem vW.skip {nl na nt a0 M0 w0 w st a dst}(hd:∀d,dst=some d→na≤d)(R:vW nl na nt a0 M0 w0 st a w):vW nl na nt a0 M0 w0 {st with t:=j3 st.t dst .skp} (a.put dst undef) w where
 ex:=by
  obtain⟨M,h1,h2,h3,h4,ht⟩:=R.ex;refine⟨M,h1,h2,h3,h4,fun t=>?_⟩;cases dst with
  |none=>exact ht t
  |some d=>
   show zV M (jX st.t d .skp t) ((a.tmps.setIfInBounds d undef).getD t undef);unfold jX;cases e:Nat.beq t d with
   |true=>
    have e:t=d:=by simp_all
    subst e;show(a.tmps.setIfInBounds t undef).getD t undef=undef;simp
   |false=>
    have e:t≠d:=fun e'=>by simp_all
    have:=ht t;simp[Array.getElem?_setIfInBounds_ne (Ne.symm e)] at this⊢;exact this
 defers:=by cases dst<;>exact R.defers
 size:=by cases dst<;>simp[Act.put,R.size]
 os:=R.os
 tape:=R.tape
 output:=R.output
 keep t h:=by
  cases dst with
  |none=>exact R.keep t h
  |some d=>
   have bx:d≠t:=by grind
   rw[←R.keep t h];simp[Act.put,Array.getElem?_setIfInBounds_ne bx]
section
variable {E:Env} {A:zU} {nl:Bool} {k pre na nt:Nat} {a0:Nat→Value} {R:Type} {M0:zK} {w0:World} {Q:Exit→Act→World→Prop}
theorem vW.op (hE:gA E){st a w}{o:Oper}{v u next}(r:vW nl na nt a0 M0 w0 st a w)(hd:∀d,o.dst=some d→na≤d∧d<nt)(hy:yM (lk E A k pre o st.ev st.h) v u)
  (hn:∀a' w',vW nl na nt a0 M0 w0 {t:=j3 st.t o.dst v,h:=qH st.h u} a' w'→next a' w'):o.wp E.P a w next Q:=by
 obtain⟨M,h1,h2,h3,h4,ht⟩:=r.ex;rw[←h1] at hy;exact vTr hE h3 h2 (yKk ht) hy fun M' w' rv hB hv=>hn _ _ (hB.rel r h1 h4 ht hd hv)
theorem VO (hE:gA E){dst}(h:wo na nt dst=true):∀d,dst=some d→na≤d∧d<nt:=fun d hd=>by
 simp[wo] at h;simp_all
theorem yGg (hE:gA E){o st K}{out:R}(h:Oa E A k pre na nt o st K=some out):
  (∀d,o.dst=some d→na≤d∧d<nt)∧∃v u,yM (lk E A k pre o st.ev st.h) v u∧K v u {t:=j3 st.t o.dst v,h:=qH st.h u}=some out:=by
 unfold Oa at h;cases hc:wo na nt o.dst with
 |false=>simp_all
 |true=>
  rw[hc] at h;exact⟨VO hE hc,yU.elim_some h⟩
theorem yIe (hE:gA E){ops}:∀l st K (out:R) a w,(∀p∈l,ops[p.1]? =some p.2)→Od E A k pre na nt ops l st K=some out→vW nl na nt a0 M0 w0 st a w→
  (∀bK a' w',vW nl na nt a0 M0 w0 bK a' w'→K bK=some out→Q .normal a' w')→wpOps E.P ops Q (l.map (·.1)) a w
 |[],st,K,out,a,w,_,h,r,hK=>hK st a w r h
 |(i,o)::rest,st,K,out,a,w,hl,h,r,hK=>by
  have ho:ops[i]? =some o:=hl (i,o) (by simp);have ih:=fun st K out a w=>yIe hE rest st K out a w fun p hp=>hl p (by grind)
  obtain⟨b,hb,h⟩:=yXl h;have hw:=vEj hb r;simp[wpOps,ho];cases b with
  |true=>
   rw[if_pos rfl] at h;rw[if_pos hw];obtain⟨hd,v,u,hy,h⟩:=yGg hE h;exact .inl (vW.op hE r hd hy (by grind))
  |false=>
   rw[if_neg (by simp[hw])];cases hc:wo na nt o.dst with
   |false=>simp_all
   |true=>
    rw[hc] at h;exact ih _ _ _ _ _ h (r.skip fun d hd=>(VO hE hc d hd).1) hK
end
def En (o:Oper)(acc:Array Nat):Nat:=o.after.foldl (fun s e=>if Region.binds .any e then s|||2^e.on|||acc.getD e.on 0 else s) 0
theorem yLv (acc:Array Nat) i:∀(l:List Edge) s,(l.foldl (fun s e=>if Region.binds .any e then s|||2^e.on|||acc.getD e.on 0 else s) s).testBit i=true→
  s.testBit i=true∨∃e∈l,Region.binds .any e=true∧(e.on=i∨(acc.getD e.on 0).testBit i=true)
 |[],s,h=>.inl h
 |e::l,s,h=>by
  rcases yLv acc i l _ h with h|⟨e',he,h⟩
  all_goals grind
def JS (ops:Array Oper)(acc:Array Nat):Prop:=∀j,j<acc.size→∀i,(acc.getD j 0).testBit i=true→∃o,ops[j]? =some o∧∃e∈o.after.toList,Region.binds .any e=true∧(e.on=i∨(e.on<j∧(acc.getD e.on 0).testBit i=true))
theorem VP {ops acc o}(h:JS ops acc)(ho:ops[acc.size]? =some o):JS ops (acc.push (En o acc)):=by
 have Bd:∀j,j<acc.size→(acc.push (En o acc)).getD j 0=acc.getD j 0:=fun j hj=>by
  simp[Array.getElem?_push,Nat.ne_of_lt hj]
 intro j hj i hb;simp  at hj;by_cases bd:j<acc.size
 ·rw[Bd j bd] at hb;obtain⟨o',h1,e,h2,h3,h4⟩:=h j bd i hb;grind
 ·have e:j=acc.size:=by omega
  subst e;rw[show(acc.push (En o acc)).getD acc.size 0=En o acc by simp] at hb;unfold En at hb;rw[←Array.foldl_toList] at hb;rcases yLv acc i _ _ hb with hb|⟨e,h2,h3,h4⟩
  all_goals grind
theorem vMq ops:JS ops (Region.before ops):=by
 have key:∀(l:List Oper) (acc:Array Nat),JS ops acc→(∀m (hm:m<l.length),ops[acc.size+m]? =some l[m])→
   JS ops (l.foldl (fun acc o=>acc.push (En o acc)) acc):=by
  intro l
  induction l with
  |nil=>simp
  |cons o l ih=>
   intro acc h ho;refine ih _ (VP h (ho 0 (by simp))) fun m hm=>?_
   have:=ho (m+1) (by simp;omega);grind
 have:=key ops.toList #[] (nofun) (by simp);unfold Region.before;rw[←Array.foldl_toList];exact this
theorem yTo {ops i j}(h:nH (Region.before ops) i j=true):∃o,ops[j]? =some o∧∃e∈o.after.toList,Region.binds .any e=true∧(e.on=i∨(e.on<j∧nH (Region.before ops) i e.on=true)):=by
 unfold nH at h;by_cases hj:j<(Region.before ops).size
 ·exact vMq ops j hj i h
 simp_all
def JT (ops:Array Oper)(S:Nat→Bool):Prop:=∀j o,S j=true→ops[j]? =some o→∀e∈o.after.toList,Region.binds .any e=true→S e.on=true
theorem yK4 {ops S}(hS:JT ops S){i}:∀n j,j=n→nH (Region.before ops) i j=true→S j=true→S i=true:=by
 intro n
 induction n using Nat.strongRecOn with
 |_ n ih=>
  intro j hj h hs;obtain⟨o,ho,e,he,hb,h⟩:=yTo h;have hse:=hS j o hs ho e he hb;grind
theorem vYq {ops S}(hS:JT ops S){i j}(h:nH (Region.before ops) i j=true)(hr:∀o,ops[j]? =some o→∀e∈o.after.toList,Region.binds .any e=true→S e.on=true):S i=true:=by
 obtain⟨o,ho,e,he,hb,h⟩:=yTo h;have hse:=hr o ho e he hb;rcases h with h|⟨h,hi⟩
 ·simp_all
 ·exact yK4 hS _ _ rfl hi hse
structure It where
 i:Nat
 o:Oper
 v:zW
 u:vG
 r:Option (List Nat)
 wt:Bool
def It.dn (pre:Nat)(it:It):DM:=⟨it.i,rQ pre it.o.dst,fc it.u,it.r⟩
def wD (st:St)(it:It):St:={t:=j3 st.t it.o.dst it.v,h:=qH st.h it.u}
section
variable (E:Env) (A:zU) (k pre na nt:Nat) (ops:Array Oper)
structure JU (st:St) (it:It):Prop where
 w:Em ops it.o st=some it.wt
 y:it.wt=true→(∀d,it.o.dst=some d→na≤d∧d<nt)∧yM (lk E A k pre it.o st.ev st.h) it.v it.u∧it.r=rR st.ev it.o
 n:it.wt=false→it.v=.skp∧it.u=[]∧∀d,it.o.dst=some d→na≤d∧d<nt
def VQ (b:Array Nat)(x y:It):Prop:=nH b x.i y.i=true∨(tL ops x.i y.i=true∧(x.wt=true→y.wt=true→tK (x.dn pre) (y.dn pre)=false))
end
section
variable {E:Env} {A:zU} {k pre na nt:Nat} {R:Type} {ops:Array Oper} {b:Array Nat}
theorem VR (hE:gA E):∀rest done st K (out:R),DN E A k pre na nt ops b rest done st K=some out→
  ∃dR:List It,dR.map (fun it=>(it.i,it.o))=rest∧K (dR.foldl wD st)=some out∧(∀bT it post,dR=bT++it::post→JU E A k pre na nt ops (bT.foldl wD st) it)∧
   (∀d∈done,∀it∈dR,nH b d.i it.i=true∨(tL ops d.i it.i=true∧(it.wt=true→tK d (it.dn pre)=false)))∧dR.Pairwise (VQ pre ops b)
 |[],done,st,K,out,h=>⟨[],rfl,h,by simp,by simp,.nil⟩
 |(i,o)::rest,done,st,K,out,h=>by
  unfold DN at h;generalize hc:(done.all fun d=>nH b d.i i||tL ops d.i i)=c at h;cases c with
  |false=>cases h
  |true=>
   have sm:∀d∈done,nH b d.i i=true∨tL ops d.i i=true:=by grind
   rw[cond_true] at h;obtain⟨bw,hb,h⟩:=yXl h;cases bw with
   |true=>
    rw[if_pos rfl] at h;obtain⟨hd,v,u,hy,h⟩:=yGg hE h;dsimp only at h;generalize dq:(done.all fun d=>nH b d.i i|| !tK d ⟨i,rQ pre o.dst,fc u,rR st.ev o⟩)=c2 at h;cases c2 with
    |false=>simp_all
    |true=>
     rw[cond_true] at h;have JA:∀d∈done,nH b d.i i=true∨tK d ⟨i,rQ pre o.dst,fc u,rR st.ev o⟩=false:=by grind
     obtain⟨dR,h1,h2,h3,h4,h5⟩:=VR hE rest _ _ K out h;let it:It:=⟨i,o,v,u,rR st.ev o,true⟩;refine⟨it::dR,by grind,h2,fun bT JV post e=>?_,fun d xf JV oV=>?_,?_⟩
     ·cases bT with
      |nil=>
       obtain⟨rfl,rfl⟩:=e;exact⟨hb,by grind,by simp⟩
      |cons p bT=>
       simp only[List.cons_append,List.cons.injEq] at e;obtain⟨rfl,e⟩:=e;exact h3 bT JV post e
     ·rcases List.mem_cons.1 oV with rfl|oV
      ·rcases sm d xf with h|h
       ·grind
       ·rcases JA d xf with h'|h'
        ·grind
        ·exact .inr ⟨h,fun _=>h'⟩
      simp_all
     ·refine List.pairwise_cons.2 ⟨fun y Bi=>?_,h5⟩;rcases h4 (it.dn pre) (List.mem_cons_self ..) y Bi with h|⟨h,h'⟩
      ·exact .inl h
      ·exact .inr ⟨h,by grind⟩
   |false=>
    rw[if_neg (by simp)] at h;have uc:wo na nt o.dst=true:=by
     grind
    rw[uc] at h;rw[cond_true] at h;obtain⟨dR,h1,h2,h3,h4,h5⟩:=VR hE rest _ _ K out h;let it:It:=⟨i,o,.skp,[],some [],false⟩;refine⟨it::dR,by grind,h2,fun bT JV post e=>?_,fun d xf JV oV=>?_,?_⟩
    ·cases bT with
     |nil=>
      obtain⟨rfl,rfl⟩:=e;exact⟨hb,by simp,fun _=>⟨rfl,rfl,VO hE uc⟩⟩
     |cons p bT=>
      simp  at e;obtain⟨rfl,e⟩:=e;exact h3 bT JV post e
    ·grind
    ·refine List.pairwise_cons.2 ⟨fun y Bi=>?_,h5⟩;rcases h4 (it.dn pre) (List.mem_cons_self ..) y Bi with h|⟨h,h'⟩
     ·exact .inl h
     ·exact .inr ⟨h,by simp⟩
end
theorem yRy {t t' d v x}(h:t x=t' x):j3 t d v x=j3 t' d v x:=by
 cases d with
 |none=>exact h
 |some d=>
  show jX t d v x=jX t' d v x;unfold jX;simp_all
theorem OV {t d v x}(h:d≠some x):j3 t d v x=t x:=by
 cases d with
 |none=>rfl
 |some d=>
  show jX t d v x=_;unfold jX;cases e:Nat.beq x d with
  |false=>rfl
  |true=>simp_all
theorem VT {t t' v x}:j3 t (some x) v x=j3 t' (some x) v x:=by
 show jX t x v x=jX t' x v x;unfold jX;simp
theorem vN2 {t d e v u}(h:∀x,d=some x→e≠some x):j3 (j3 t d v) e u=j3 (j3 t e u) d v:=by
 funext x;by_cases hd:d=some x
 ·subst hd;rw[OV (h x rfl)];exact VT
 ·rw[OV hd];exact yRy (OV hd)
theorem Bj {n}:∀{u h h'},h n=h' n→qH h u n=qH h' u n
 |[],_,_,e=>e
 | (id, o) :: u, h, h', e => Bj (u := u) (by
   by_cases hn:n=id
   ·subst hn;rw[yR,yR]
   ·rw[yV _ _ hn,yV _ _ hn];exact e)
theorem yP2 {n}:∀{u h h'},n∈fc u→qH h u n=qH h' u n
 |(id,o)::u,h,h',hm=>by
  by_cases hu:n∈fc u
  ·exact yP2 (u:=u) hu
  ·have e:n=id:=by
    simp[fc] at hm hu;simp_all
   subst e;exact Bj (u:=u) (by rw[yR,yR])
theorem vPx {u v h}(hd:∀a∈fc u,a∉fc v):qH (qH h u) v=qH (qH h v) u:=by
 funext n;by_cases hu:n∈fc u
 ·rw[Ef (hd n hu)];exact yP2 hu
 ·rw[Ef (u:=u) (h:=qH h v) hu];exact Bj (Ef hu)
theorem VU {st x y}(hd:∀t,x.o.dst=some t→y.o.dst≠some t)(hu:∀a∈fc x.u,a∉fc y.u):wD (wD st x) y=wD (wD st y) x:=by
 unfold wD;simp;exact⟨vN2 hd,vPx hu⟩
theorem yH9 {x}:∀{l:List It} {st},(∀y∈l,(∀t,x.o.dst=some t→y.o.dst≠some t)∧∀a∈fc x.u,a∉fc y.u)→wD (l.foldl wD st) x=l.foldl wD (wD st x)
 |[],_,_=>rfl
 |y::l,st,h=>by
  rw[List.foldl_cons,List.foldl_cons,VU (by grind) (by grind)];exact yH9 (by grind)
theorem OW t:∀(l:List It) st bK,st.t t=bK.t t→(l.foldl wD st).t t=((l.filter fun it=>it.o.dst==some t).foldl wD bK).t t
 |[],_,_,h=>h
 |y::l,st,bK,h=>by
  rw[List.foldl_cons,List.filter_cons];cases hy:y.o.dst==some t with
  |true=>
   exact OW t l _ _ (yRy h)
  |false=>
   exact OW t l _ _ (by
    show j3 st.t y.o.dst y.v t=_;rw[OV (by simp_all)];exact h)
theorem OX n:∀(l:List It) st bK,st.h n=bK.h n→(l.foldl wD st).h n=((l.filter fun it=>(fc it.u).contains n).foldl wD bK).h n
 |[],_,_,h=>h
 |y::l,st,bK,h=>by
  rw[List.foldl_cons,List.filter_cons];cases hy:(fc y.u).contains n with
  |true=>
   exact OX n l _ _ (Bj h)
  |false=>
   exact OX n l _ _ (by
    show qH st.h y.u n=_;rw[Ef (by simpa[fc] using hy)];exact h)
theorem yM0 {S W bT post}{it:It}(oV:S it=false)(h1:∀y∈bT,W y=true→S y=true)(h2:∀y∈post,W y=true→S y=false):((bT++it::post).filter S).filter W=bT.filter W:=by
 have e1:(bT.filter S).filter W=bT.filter W:=by
  rw[List.filter_filter];refine List.filter_congr fun y hy=>?_
  simp_all
 simp_all
def Eo (d:DM)(a:Nat):Prop:=match d.refs with
 |none=>True
 |some l=>a∈l∨nG d.nm a=true
theorem VV {x y}(h:tK x y=false):(∀a∈x.upd,¬Eo y a)∧(∀a∈y.upd,¬Eo x a)∧∀a∈x.upd,a∉y.upd:=by
 unfold tK at h;have key:∀(d e:DM),N9 d.upd e.refs=false→d.upd.any (nG e.nm)=false→∀a∈d.upd,¬Eo e a:=by
  intro d e hm ho a ha hl;unfold N9 at hm;unfold Eo at hl;cases hr:e.refs with
  |none=>
   simp_all
  |some l=>
   simp_all
 refine⟨by grind,by grind,fun a ha hb=>?_⟩;simp_all
section
variable {E:Env} {A:zU} {k pre na nt:Nat} {R:Type} {ops:Array Oper}
theorem VW {i j x y}(hi:ops[i]? =some x)(hj:ops[j]? =some y)(h:tL ops i j=true):
  (∀d,x.dst=some d→d∉y.looksAt ops)∧(∀d,x.dst=some d→y.dst≠some d)∧(∀d,y.dst=some d→d∉x.looksAt ops):=by
 unfold tL at h;rw[hi,hj] at h;exact Oper.apart_spec h
theorem VX (hE:gA E)(hS:j9 E.sums){S}(hC:JT ops S){st bT post it}(gX:∀y∈bT++it::post,ops[y.i]? =some y.o)(hg:JU E A k pre na nt ops (bT.foldl wD st) it)
  (hu:∀y∈bT++it::post,y.wt=false→y.u=[]) (hp:(bT++it::post).Pairwise (VQ pre ops (Region.before ops))) (oV:S it.i=false)
  (hr:∀o,ops[it.i]? =some o→∀e∈o.after.toList,Region.binds .any e=true→S e.on=true):
  JU E A k pre na nt ops (((bT++it::post).filter fun y=>S y.i).foldl wD st) it∧
   (∀y∈post,S y.i=true→(∀t,it.o.dst=some t→y.o.dst≠some t)∧∀a∈fc it.u,a∉fc y.u):=by
 have lZ:ops[it.i]? =some it.o:=gX it (by simp);obtain⟨ON,JM,hp3⟩:=List.pairwise_append.1 hp;have before:∀y∈bT,S y.i=false→tL ops y.i it.i=true∧(y.wt=true→it.wt=true→tK (y.dn pre) (it.dn pre)=false):=fun y hy hs=>by
  rcases hp3 y hy it (by simp) with h|h
  ·rw[vYq hC h hr] at hs;cases hs
  ·exact h
 have behind:∀y∈post,S y.i=true→tL ops it.i y.i=true∧(it.wt=true→y.wt=true→tK (it.dn pre) (y.dn pre)=false):=fun y hy hs=>by
  rcases(List.pairwise_cons.1 JM).1 y hy with h|h
  ·rw[yK4 hC _ _ rfl h hs] at oV;cases oV
  ·exact h
 have xg:∀t,t∈it.o.looksAt ops→(((bT++it::post).filter fun y=>S y.i).foldl wD st).t t=(bT.foldl wD st).t t:=fun t ht=>by
  rw[OW t _ st st rfl,OW t bT st st rfl,yM0 oV (fun y hy hw=>?_) fun y hy hw=>?_]
  ·cases hs:S y.i with
   |true=>rfl
   |false=>
    have:=(VW (gX y (by simp[hy])) lZ (before y hy hs).1).1 t (by simpa using hw);exact absurd ht this
  ·cases hs:S y.i with
   |false=>rfl
   |true=>
    have:=(VW lZ (gX y (by simp[hy])) (behind y hy hs).1).2.2 t (by simpa using hw);simp_all
 have hEq:it.wt=true→∀n,Eo (it.dn pre) n→(((bT++it::post).filter fun y=>S y.i).foldl wD st).h n=(bT.foldl wD st).h n:=fun hw n hn=>by
  rw[OX n _ st st rfl,OX n bT st st rfl,yM0 oV (fun y hy Bi=>?_) fun y hy Bi=>?_]
  ·cases hs:S y.i with
   |true=>rfl
   |false=>
    have hm:n∈fc y.u:=by simpa using Bi
    have VY:y.wt=true:=by
     cases h:y.wt with
     |true=>rfl
     |false=>rw[hu y (by simp[hy]) h] at hm;simp[fc] at hm
    exact absurd hn ((VV ((before y hy hs).2 VY hw)).1 n hm)
  ·cases hs:S y.i with
   |false=>rfl
   |true=>
    have hm:n∈fc y.u:=by simpa using Bi
    have VY:y.wt=true:=by
     cases h:y.wt with
     |true=>rfl
     |false=>rw[hu y (by simp[hy]) h] at hm;simp[fc] at hm
    exact absurd hn ((VV ((behind y hy hs).2 hw VY)).2.1 n hm)
 generalize hL:((bT++it::post).filter fun y=>S y.i).foldl wD st=OY at xg hEq⊢;refine⟨⟨?_,fun hw=>?_,hg.n⟩,fun y hy hs=>?_⟩
 ·rw[←hg.w];unfold Em;cases Bk:it.o.guard with
  |none=>rfl
  |some p=>
   obtain⟨j,want⟩:=p;dsimp only;cases dz:Ob ops j with
   |none=>rfl
   |some s=>
    have:s∈it.o.looksAt ops:=by
     have dz:(ops[j]?).bind (·.dst)=some s:=dz;simp only[Oper.looksAt,Bk,dz];simp
    simp_all
 ·obtain⟨hd,hy,hrf⟩:=hg.y hw;have aV:∀x∈it.o.op.operands,OY.ev x=(bT.foldl wD st).ev x:=fun x hx=>by
   cases x with
   |tmp t=>exact xg t (List.mem_append_left _ (List.mem_filterMap.2 ⟨.tmp t,by simpa using hx,rfl⟩))
   |_=>rfl
  have hrefs:rR OY.ev it.o=rR (bT.foldl wD st).ev it.o:=by
   unfold rR;have:it.o.op.operands.toList.map OY.ev=it.o.op.operands.toList.map (bT.foldl wD st).ev:=List.map_congr_left (by grind);simp only[this]
  refine⟨hd,?_,by rw[hrf,hrefs]⟩;rw[VM aV];have hh : lk E A k pre it.o (bT.foldl wD st).ev OY.h = lk E A k pre it.o (bT.foldl wD st).ev (bT.foldl wD st).h := vOo hS (by
   rw[←hrf];have:=hEq hw;unfold Eo at this;have hdn:(it.dn pre).refs=it.r:=rfl;rw[hdn] at this;cases h:it.r with
   |none=>
    grind
   |some l=>
    rw[h] at this;exact this)
  rw[hh];exact hy
 ·obtain⟨h1,h2⟩:=behind y hy hs;refine⟨(VW lZ (gX y (by simp[hy])) h1).2.1,fun a ha hb=>?_⟩;have hwi:it.wt=true:=by
   cases h:it.wt with
   |true=>rfl
   |false=>rw[hu it (by simp) h] at ha;simp[fc] at ha
  have hwy:y.wt=true:=by
   cases h:y.wt with
   |true=>rfl
   |false=>rw[hu y (by simp[hy]) h] at hb;simp[fc] at hb
  exact(VV (h2 hwi hwy)).2.2 a ha hb
end
theorem VZ {ops}(h:Jk ops=true){j o}(ho:ops[j]? =some o):∀e∈o.after.toList,Region.binds .any e=true→e.on<j:=by
 intro e he hb;have hm:(o,j)∈ops.toList.zipIdx:=by
  grind
 have:=List.all_eq_true.1 (List.all_eq_true.1 h _ hm) e he;simp_all
theorem OZ {L:Array Bool}{i}(hi:i<L.size) j:(L.setIfInBounds i true).getD j false=(L.getD j false||i==j):=by
 by_cases h:i=j
 all_goals simp_all
section
variable {E:Env} {A:zU} {nl:Bool} {k pre na nt:Nat} {a0:Nat→Value} {R:Type} {ops:Array Oper} {M0:zK} {w0:World} {Q:Exit→Act→World→Prop}
theorem V0 (hE:gA E)(hS:j9 E.sums)(he:Jk ops=true){dR st}(hi:dR.map (·.i)=List.range ops.size)(gX:∀y∈dR,ops[y.i]? =some y.o)(hg:∀bT it post,dR=bT++it::post→JU E A k pre na nt ops (bT.foldl wD st) it)
  (hp:dR.Pairwise (VQ pre ops (Region.before ops))) (hQ:∀a w,vW nl na nt a0 M0 w0 (dR.foldl wD st) a w→Q .normal a w):
  ∀fuel L a w,L.size=ops.size→(∃U:List Nat,U.length≤fuel∧∀j,j<ops.size→L.getD j false=false→j∈U)→JT ops (fun j=>L.getD j false)→
   vW nl na nt a0 M0 w0 ((dR.filter fun y=>L.getD y.i false).foldl wD st) a w→wpAny E.P .any ops Q fuel L a w:=by
 have hu:∀y∈dR,y.wt=false→y.u=[]:=fun y hy hw=>by
  obtain⟨bT,post,e⟩:=List.append_of_mem hy;exact((hg bT y post e).n hw).2.1
 have V1:∀y∈dR,y.i<ops.size:=fun y hy=>(Array.getElem?_eq_some_iff.1 (gX y hy)).1
 have dM:(dR.map (·.i)).Nodup:=by rw[hi];exact List.nodup_range
 have full:∀(L:Array Bool) (a:Act) (w:World),(∀j,j<ops.size→L.getD j false=true)→vW nl na nt a0 M0 w0 ((dR.filter fun y=>L.getD y.i false).foldl wD st) a w→Q .normal a w:=fun L a w hl r=>by
  rw[List.filter_eq_self.2 fun y hy=>hl y.i (V1 y hy)] at r;exact hQ a w r
 have rdy:∀(L:Array Bool),L.size=ops.size→Region.ready .any ops L=[]→∀j,j<ops.size→L.getD j false=true:=fun L hL hr j=>by
  induction j using Nat.strongRecOn with
  |_ j ih=>
   intro hj;cases hb:L.getD j false with
   |true=>rfl
   |false=>
    have ho:ops[j]? =some ops[j]:=Array.getElem?_eq_getElem hj;have:j∈Region.ready .any ops L:=mem_ready.2 ⟨by
     have V2:j<L.size:=by omega
     simpa[Array.getD,V2] using hb,ops[j],ho,fun e he' bg=>by
      have bd:=VZ he ho e (by simpa using he') bg;exact ih e.on bd (by omega)⟩
    rw[hr] at this;cases this
 intro fuel
 induction fuel with
 |zero=>
  intro L a w hL hU hC r;obtain⟨U,hUl,hU⟩:=hU;have hU0:U=[]:=List.eq_nil_of_length_eq_zero (by omega);have bn:∀j,j<ops.size→L.getD j false=true:=by grind
  refine⟨?_,full L a w bn r⟩;cases hr:Region.ready .any ops L with
  |nil=>rfl
  |cons j l=>
   have:j∈Region.ready .any ops L:=by rw[hr];exact List.mem_cons_self ..
   obtain⟨h0,o,ho,_⟩:=mem_ready.1 this;have hj:=(Array.getElem?_eq_some_iff.1 ho).1;have:=bn j hj;have V2:j<L.size:=by omega
   simp[Array.getD,V2] at this h0;rw[this] at h0;cases h0
 |succ fuel ih=>
  intro L a w hL hU hC r;refine⟨fun hr=>full L a w (rdy L hL hr) r,fun i hir=>?_⟩;obtain⟨h0,o,ho,Bl⟩:=mem_ready.1 hir;have JW:=(Array.getElem?_eq_some_iff.1 ho).1;have JX:i<L.size:=by omega
  have ud:L.getD i false=false:=by simpa[Array.getD,JX] using h0
  obtain⟨it,oV,ue⟩:∃it∈dR,it.i=i:=by
   have:i∈dR.map (·.i):=by rw[hi];simpa using JW
   obtain⟨it,h1,h2⟩:=List.mem_map.1 this;exact⟨it,h1,h2⟩
  obtain⟨bT,post,e⟩:=List.append_of_mem oV;have lZ:ops[it.i]? =some it.o:=gX it oV;have iS:o=it.o:=by rw[ue,ho] at lZ;exact Option.some.inj lZ
  subst iS;have xh:=VX hE hS hC (by rw[←e];exact gX) (hg bT it post e) (by rw[←e];exact hu) (by rw[←e];exact hp) (by rw[ue];exact ud) (by grind);rw[←e] at xh;obtain⟨Bk,JY⟩:=xh;have hw:=vEj Bk.w r;have yL:(dR.filter fun y=>(L.setIfInBounds i true).getD y.i false).foldl wD st=wD ((dR.filter fun y=>L.getD y.i false).foldl wD st) it:=by
   have other:∀y∈bT++post,(L.setIfInBounds i true).getD y.i false=L.getD y.i false:=fun y hy=>by
    rw[OZ JX];grind
   have e1:dR.filter (fun y=>L.getD y.i false)=bT.filter (fun y=>L.getD y.i false)++post.filter (fun y=>L.getD y.i false):=by
    conv=>lhs;rw[e]
    rw[List.filter_append,List.filter_cons,if_neg (by rw[ue,ud];simp)]
   have e2:dR.filter (fun y=>(L.setIfInBounds i true).getD y.i false)=bT.filter (fun y=>L.getD y.i false)++it::post.filter (fun y=>L.getD y.i false):=by
    conv=>lhs;rw[e]
    rw[List.filter_append,List.filter_cons,if_pos (by rw[ue,OZ JX];simp),List.filter_congr fun y hy=>other y (List.mem_append_left _ hy),List.filter_congr fun y hy=>other y (List.mem_append_right _ hy)]
   rw[e1,e2,List.foldl_append,List.foldl_append,List.foldl_cons];exact (yH9 fun y hy=>by
    obtain⟨V3,V4⟩:=List.mem_filter.1 hy;exact JY y V3 V4).symm
  have aF:JT ops fun j=>(L.setIfInBounds i true).getD j false:=fun j o' hj lQ ed hed hb=>by
   dsimp only at hj⊢;rw[OZ JX] at hj;refine getD_set_true ?_;rw[Bool.or_eq_true] at hj;rcases hj with hj|hj
   ·exact hC j o' hj lQ ed hed hb
   ·have:i=j:=by simpa using hj
    subst this;rw[ho] at lQ;cases lQ;exact Bl ed (by simpa using hed) hb
  have hU':∃U:List Nat,U.length≤fuel∧∀j,j<ops.size→(L.setIfInBounds i true).getD j false=false→j∈U:=by
   obtain⟨U,hl,hU⟩:=hU;refine⟨U.erase i,?_,fun j hj hb=>?_⟩
   ·rw[List.length_erase_of_mem (hU i JW ud)];omega
   ·rw[OZ JX,Bool.or_eq_false_iff] at hb;exact(List.mem_erase_of_ne (by have:=hb.2;simp at this;exact fun h=>this h.symm)).2 (hU j hj hb.1)
  unfold wpOp;rw[ho];dsimp only;cases Bm:it.wt with
  |true=>
   rw[Bm] at hw;rw[if_pos hw];obtain⟨hd,hy,_⟩:=Bk.y Bm;refine .inl (vW.op hE r hd hy fun a' w' r'=>?_);exact ih _ _ _ (by simpa using hL) hU' aF (by rw[yL];exact r')
  |false=>
   rw[Bm] at hw;rw[if_neg (by simp[hw])];obtain⟨hv,rY,uc⟩:=Bk.n Bm;refine ih _ _ _ (by simpa using hL) hU' aF ?_;rw[yL];have:=r.skip (dst:=it.o.dst) fun d hd=>(uc d hd).1
   unfold wD;rw[hv,rY];exact this
theorem vW9 (hE:gA E)(hS:j9 E.sums){id st K}{out:R}{a w}(hm:E.P.follows .mixedOrders=true)(he:Jk ops=true)
  (h:DN E A k pre na nt ops (Region.before ops) (ops.toList.zipIdx.map fun p=>(p.2,p.1)) [] st K=some out) (r:vW nl na nt a0 M0 w0 st a w)
  (hK:∀bK a' w',vW nl na nt a0 M0 w0 bK a' w'→K bK=some out→Q .normal a' w'):(Code.region id ops true).wp E.P Q a w:=by
 obtain⟨dR,h1,h2,h3,_,h5⟩:=VR hE _ _ _ _ _ h;have hi:dR.map (·.i)=List.range ops.size:=by
  have:=congrArg (List.map Prod.fst) h1;rw[List.map_map,List.map_map] at this;refine Eq.trans this ?_;have e:(Prod.fst∘fun p:Oper×Nat=>(p.2,p.1))=Prod.snd:=rfl;rw[e,List.zipIdx_map_snd,←List.range_eq_range'];simp
 have gX:∀y∈dR,ops[y.i]? =some y.o:=fun y hy=>by
  have:(y.i,y.o)∈ops.toList.zipIdx.map fun p=>(p.2,p.1):=by grind
  grind
 refine wp_region_any hm (V0 hE hS he (nt:=nt) (na:=na) (a0:=a0) (M0:=M0) (w0:=w0) hi gX h3 h5 (fun a w r=>hK _ a w r h2) _ _ _ _ (by simp) ⟨List.range ops.size,by simp,by grind⟩ (fun j o hj=>?_) ?_)
 ·by_cases h:j<ops.size<;>simp[h] at hj
 ·rw[List.filter_eq_nil_iff.2 fun y hy=>by
   by_cases h:y.i<ops.size<;>simp[h]]
  exact⟨r.ex,r.defers,r.size,r.os,r.tape,r.output,r.keep⟩
end
end Go.Ab
