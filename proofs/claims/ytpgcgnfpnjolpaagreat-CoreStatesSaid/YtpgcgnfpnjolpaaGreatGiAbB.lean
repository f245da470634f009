/- part 1 -/
import Derived.Test.YtpgcgnfpnjolpaaGreatGiAbA
import Derived.Laws.BytesString
set_option linter.unusedVariables false
set_option linter.unusedSimpArgs false
namespace Go.Ab
def zI.move (M:zI)(nm:Nat)(C:zZ)(h:Hp)(H:Array Go.Obj):zI:={M with κ:=κset M.κ nm C,h:=h,H:=H}
theorem zI.move_ok {M}(ok:Ok M){nm:Nat}{o':Obj}{C':zZ}{h'}{H'}(J:Nat→Prop)(aO:M.h nm=none)
    (hJ:∀j,J j→∃o,M.h j=some o∧o.owned=true∧h' j=some .gone) (Ew:h' nm=some o') (bS:∀n,¬J n→n≠nm→h' n=M.h n) (df:M.H.size≤H'.size)
    (hH:∀b,b<M.H.size→(∀j C,J j→M.κ j=some C→b∉C.fp)→H'[b]? =M.H[b]?) (cC:∀b,b<M.H.size→qO H' b=qO M.H b)
    (nF:∀b∈C'.fp,(M.H.size≤b∧b<H'.size)∨∃j C,J j∧M.κ j=some C∧b∈C.fp)
    (hO:yF M (M.move nm C' h' H')→yP (M.move nm C' h' H') o' C'):Ok (M.move nm C' h' H')∧yS M (M.move nm C' h' H'):=by
  have YV:∀j C b,J j→M.κ j=some C→b∈C.fp→qJ M b:=fun j C b hj hC hb=>by
    obtain⟨o,h1,h2,_⟩:=hJ j hj;exact⟨j,o,C,h1,h2,hC,hb⟩
  have rV:∀b,M.F b→∀j C,J j→M.κ j=some C→b∉C.fp:=fun b hF j C hj hC hb=>(ok.own b (YV j C b hj hC hb)).1 hF
  have x:yF M (M.move nm C' h' H'):=
    { κ:=fun n D h=>by
        have:n≠nm:=fun e=>by rw[e,ok.non nm aO] at h;cases h
        exact⟨D,by simp only[zI.move];rw[κset_ne _ _ this];exact h,D.le_refl⟩
      F:=fun _ h=>h
      G:=fun _ h=>h
      same:=fun b h=>hH b (ok.Flt b h) (rV b h)
      sameG:=fun b h=>hH b (ok.Flt b (ok.GF b h)) (rV b (ok.GF b h))
      bsz:=cC}
  have Of:∀j,J j→j≠nm:=by grind
  have cQ:∀n q,n≠nm→h' n=some q→q.owned=true→¬J n∧M.h n=some q:=by
    intro n q e h1 h2;by_cases hj:J n
    · obtain⟨o,_,_,k⟩:=hJ n hj;rw[k] at h1;cases h1;cases h2
    simp_all
  have ph:∀b,qJ (M.move nm C' h' H') b→(M.H.size≤b∧b<H'.size)∨qJ M b:=by
    rintro b ⟨n,q,D,h1,h2,h3,h4⟩
    by_cases e:n=nm
    · subst e;simp only[zI.move,κset_same,Option.some.injEq] at h3;grind
    · obtain⟨_,eL⟩:=cQ n q e h1 h2;simp only[zI.move] at h3;rw[κset_ne _ _ e] at h3;exact .inr ⟨n,q,D,eL,h2,h3,h4⟩
  refine⟨ok.build x (fun n=>n=nm∨J n) (fun n hn=>bS n (by grind) (by grind)) (fun n hn=>κset_ne _ _ fun e=>hn (.inl e)) ?_ ?_ df ?_ ?_ ?_ ok.GF ?_,x,df,?_,?_,fun b h _=>.inl h,fun b h _=>.inl h⟩
  · intro n q D hn h1 h2 h3 b hb;refine hH b (ok.own b ⟨n,q,D,h1,h2,h3,hb⟩).2 fun j C hj hC hc=>?_
    obtain⟨o,k1,k2,_⟩:=hJ j hj;exact ok.disj n j q o D C b (by grind) h1 k1 h2 k2 h3 hC hb hc
  · intro n q D hn h1 h2 h3 b hb;exact(ok.own b ⟨n,q,D,h1,h2,h3,hb⟩).1
  · rintro n q (rfl|hj) h1
    · simp only[zI.move] at h1;rw[Ew] at h1;cases h1;exact⟨C',κset_same _ _ _,hO x⟩
    · obtain⟨o,k1,_,k⟩:=hJ n hj;simp only[zI.move] at h1;rw[k] at h1;cases h1;obtain⟨C,hC,_⟩:=ok.obj n o k1;exact⟨C,by simp only[zI.move];rw[κset_ne _ _ (Of n hj)];exact hC,trivial⟩
  · rintro n (rfl|hj) h1
    · simp only[zI.move] at h1;rw[Ew] at h1;cases h1
    · obtain⟨o,_,_,k⟩:=hJ n hj;simp only[zI.move] at h1;rw[k] at h1;cases h1
  · rintro n q D b (rfl|hj) h1 h2 h3 hb
    · simp only[zI.move,κset_same,Option.some.injEq] at h3;subst h3;rcases nF b hb with Ey|⟨j,C,hj,hC,bD⟩
      · refine⟨fun k qk Dk hk k1 k2 k3 k4=>?_,fun hF=>?_,Ey.2⟩
        · obtain⟨_,za⟩:=cQ k qk hk k1 k2;simp only[zI.move] at k3;rw[κset_ne _ _ hk] at k3;have:=(ok.own b ⟨k,qk,Dk,za,k2,k3,k4⟩).2;omega
        · have:=ok.Flt b hF;omega
      · have ho:=ok.own b (YV j C b hj hC bD);refine⟨fun k qk Dk hk k1 k2 k3 k4=>?_,ho.1,by simp only[zI.move];omega⟩;obtain⟨hkJ,za⟩:=cQ k qk hk k1 k2;simp only[zI.move] at k3;rw[κset_ne _ _ hk] at k3;obtain⟨o,j1,j2,_⟩:=hJ j hj;exact ok.disj k j qk o Dk C b (by grind) za j1 k2 j2 k3 hC k4 bD
    · obtain⟨o,_,_,k⟩:=hJ n hj;simp only[zI.move] at h1;grind
  · intro b hb;have:=ok.Flt b hb;simp only[zI.move];omega
  · intro b hb hn;exact hH b hb (by grind)
  grind
theorem YW {P M w}(ok:Ok M)(hM:M.H=w.heap){nm vs us e s}(aO:M.h nm=none)
  (dh:zK (zQ M) vs us.toList) (hr:s.run P w=.ok (.pointer (some ⟨w.heap.size,0,none⟩)) (w.alloc (.cells us e))):
  qH P s M w (.c (.ptr nm 0)) [(nm,.box true vs)]:=by
 let C:zZ:=⟨some M.H.size,0,0,0,[]⟩;have := zI.new_ok ok aO (.box true vs) C (.cells us e) (by simp [C, zZ.fp]) (by
  refine⟨M.H.size,us,e,rfl,rfl,uu,dh.mono fun _ _ h=>h.ext (zI.new_ext ok aO _ _ _),by simp⟩)
 exact⟨_,_,_,hr,rfl,rfl,rfl,by show M.H.push _=w.heap.push _;rw[hM],rfl,this.1,this.2,C,M.H.size,κset_same _ _ _,rfl,by rw[hM]⟩
theorem Ez {H F}:∀t rd,(∀j,j<t.size→rd j=(fy t)[j]?)→qB H F t t.dflt rd
 |.int k,rd,h
 |.bool,rd,h=>by simp[qB];rw[h 0 (by simp[Ty.size])];rfl
 |.sl t,rd,h=>by
  simp[Ty.dflt];exact⟨none,0,0,by rw[h 0 (by simp[Ty.size])];rfl,rfl,by simp,by simp⟩
 |.pair a b,rd,h=>by
  have hl:∀t:Ty,(fy t).length=t.size:=by
   intro t
   induction t with
   |pair a b zj zk=>simp[fy,Ty.size,zj,zk]
   |_=>rfl
  simp[Ty.size,fy] at h;refine⟨Ez a rd (by grind),Ez b _ (by grind)⟩
theorem I7:∀t:Ty,(fy t).length=t.size
 |.int _|.bool|.sl _=>rfl
 |.pair a b=>by simp[fy,Ty.size,I7 a,I7 b]
theorem vC2 {a b}(h:Ni a b=true):a=b:=by
 unfold Ni at h;split at h
 ·simp  at h;rw[oW h.1,h.2]
 all_goals grind
theorem YX:∀{l m},D7 l m=true→l=m
 |[],[],_=>rfl
 |a::l,b::m,h=>by
  simp[D7] at h;rw[vC2 h.1,YX h.2]
theorem nK {P e t}(h:gX P e=some t):∃i z,P.info? e=some i∧i.zero=some z∧i.size=t.size∧z.cells.toList=fy t∧P.cellsOf e=t.size∧P.bytesOf e=i.bytes∧z.cells.size=t.size:=by
 unfold gX at h;split at h
 ·rename_i t' i h1 h2;split at h
  ·rename_i z hz;cases hb:(Nat.beq i.size t'.size&&D7 z.cells.toList (fy t')) with
   |false=>simp_all
   |true=>
    rw[hb] at h;cases h;simp only[Bool.and_eq_true] at hb;have e1:=Nat.eq_of_beq_eq_true hb.1;have e2:=YX hb.2;refine⟨i,z,h2,hz,e1,e2,by rw[NI h2];exact e1,vFa h2,?_⟩;have:=congrArg List.length e2;rw[I7] at this;omega
  ·cases h
 ·cases h
theorem YY {z:Value}{t}(h:z.cells.toList=fy t)(hs:z.cells.size=t.size){i j} hj:z.cells[(i*t.size+j)%z.cells.size]! =(fy t)[j]'(by rw[I7];exact hj):=by
 have e1:(i*t.size+j)%z.cells.size=j:=by rw[hs,Nat.mul_comm,Nat.mul_add_mod,Nat.mod_eq_of_lt hj]
 grind
theorem YZ {H F}{z:Value}{t}(h:z.cells.toList=fy t)(hs:z.cells.size=t.size){n i}(hi:i<n):
  qB H F t t.dflt (fun j=>(madeCells z.cells (n*t.size))[i*t.size+j]?):=by
 refine Ez t _ fun j hj=>?_
 have aU:=Nat.mul_le_mul_right t.size (show i+1≤n by omega);rw[List.getElem?_eq_getElem (by grind),←YY h hs (i:=i) hj];simp[madeCells];grind
theorem Y0 {P M w}(ok:Ok M)(hM:M.H=w.heap){nm t xs us e s c}(aO:M.h nm=none)
  (hc:xs.length≤c) (hs:c*t.size≤us.size) (hx:∀i h,qB M.H M.G t xs[i] (fun j=>us[i*t.size+j]?))
  (hr:s.run P w=.ok (.slice (some ⟨w.heap.size,0,none⟩) xs.length c) (w.alloc (.cells us e))):
  qH P s M w (.c (.osl nm none)) [(nm,.arr true t xs)]:=by
 let C:zZ:=⟨some M.H.size,xs.length,t.size,0,[]⟩;have x:=zI.new_ext ok aO (.arr true t xs) C (.cells us e);have hle:=Nat.mul_le_mul_right t.size hc;have := zI.new_ok ok aO (.arr true t xs) C (.cells us e) (by simp [C, zZ.fp]) (by
  refine⟨rfl,rfl,by grind,us,e,uu,by simp,by omega,fun i hi=>?_⟩;exact yR x.G x.sameG t _ _ _ (by simp) (hx i hi))
 refine⟨_,_,_,hr,rfl,rfl,rfl,by show M.H.push _=w.heap.push _;rw[hM],rfl,this.1,this.2,C,κset_same _ _ _,_,c,rfl,?_⟩;refine⟨hc,0,by rw[hM],by simp,?_⟩;simp;have:qO (M.H.push (.cells us e)) M.H.size=us.size:=by simp[qO]
 show c*t.size≤qO (M.H.push (.cells us e)) M.H.size;omega
theorem vBn {P M w}(ok:Ok M)(hM:M.H=w.heap){nm t zs}(aO:M.h nm=none)(hz:zeroCells P t=some zs):
  qH P (Instr.alloc t true (.tuple #[])) M w (.c (.ptr nm 0)) [(nm,.box true zs)]:=by
 obtain⟨i,v,h1,h2,h3,h4,rfl⟩:=Yt hz;refine YW ok hM aO (us:=v.cells) (e:=t) (IS M h4) ?_;simp[Instr.alloc,zeroValue,typeInfo,h1,h2,newVar,newRow]
theorem Y1 {P M w}(ok:Ok M)(hM:M.H=w.heap){nm t x rx vs}(aO:M.h nm=none)(hx:zP M x rx)(hv:lK x=some vs):
  qH P (Instr.box t rx) M w (.c (.ptr nm 0)) [(nm,.box true vs)]:=by
 refine YW ok hM aO (us:=rx.cells) (e:=t) (IW hv hx) ?_;rfl
theorem vH2 {P M w}(ok:Ok M)(hM:M.H=w.heap){nm t x rx vs}(aO:M.h nm=none)(hx:zP M x rx)(hv:lK x=some vs) m:
  qH P (Instr.box t rx) M w (.c (.ptr nm 0)) [(nm,.box (!m) vs)]:=by
 cases m with
 |false=>exact Y1 ok hM aO hx hv
 |true=>
  obtain⟨rv,w',M',a1,a2,a3,a4,a5,a6,a7,a8,a9⟩:=Y1 (P:=P) (t:=t) ok hM aO hx hv;have ah:M'.h nm=some (.box true vs):=by rw[a6];exact yE _ _ _
  obtain⟨M2,b1,b2,b3,b4,b5⟩:=YT a7 ah;refine⟨rv,w',M2,a1,a2,a3,a4,b1.trans a5,?_,b3,a8.trans b4,a9.ext b4.ext⟩;rw[b2,a6];funext n;show qX (qX M.h nm _) nm _ n=qX M.h nm _ n;by_cases e:n=nm
  ·subst e;rw[yE,yE];rfl
  ·rw[yJ _ _ e,yJ _ _ e,yJ _ _ e]
theorem Y2 {α:Type}{n i:Nat}{a:α} h:(List.replicate n a)[i]=a:=by simp
theorem vBb {P M w}(ok:Ok M)(hM:M.H=w.heap){nm n us e s c}(aO:M.h nm=none)
  (hc:n≤c) (hs:c≤us.size) (hx:∀i,i<n→us[i]? =some (.slice none 0 0))
  (hr:s.run P w=.ok (.slice (some ⟨w.heap.size,0,none⟩) n c) (w.alloc (.cells us e))):
  qH P s M w (.c (.osl nm none)) [(nm,.mat 0 (List.replicate n []))]:=by
 let C:zZ:=⟨some M.H.size,n,1,0,List.replicate n (none,0)⟩;have hfm:(List.replicate n ((none,0):Option Nat×Nat)).filterMap (·.1)=[]:=by
  simp
 have nF:C.fp=[M.H.size]:=by simp[C,zZ.fp]
 have := zI.new_ok ok aO (.mat 0 (List.replicate n [])) C (.cells us e) (by simp_all) (by
  refine⟨rfl,by simp[C],rfl,by simp[C],by simp_all,us,e,uu,by grind,fun i hi=>?_⟩;have dZ:i<n:=by simp_all
  refine⟨none,.slice none 0 0,by grind,hx i dZ,⟨rfl,by simp⟩,by simp⟩)
 refine⟨_,_,_,hr,rfl,rfl,rfl,by show M.H.push _=w.heap.push _;rw[hM],rfl,this.1,this.2,C,κset_same _ _ _,_,c,rfl,?_⟩;refine⟨hc,0,by rw[hM],by simp,?_⟩;simp;have:qO (M.H.push (.cells us e)) M.H.size=us.size:=by simp[qO]
 show c*1≤qO (M.H.push (.cells us e)) M.H.size;omega
theorem vFv {P M w}(ok:Ok M)(hM:M.H=w.heap){mat nm t l c v u rl rc}(hl:zP M l rl)(hc:zP M c rc)
  (h:yC (yg P mat nm M.h t l c) v u):qH P (Instr.makeSlice t rl rc) M w v u:=by
 unfold yg at h;split at h
 ·rename_i e l c hu aO;have e1:rl=.int .i64 l:=hl;have e2:rc=.int .i64 c:=hc;subst e1;subst e2;cases mat with
  |true=>
   split at h
   ·rename_i dj;obtain⟨ek,rfl,rfl⟩:=eZ h;obtain⟨i,z,h1,h2,h3,h4,h5,h6,h7⟩:=nK dj;simp[Bool.and_eq_true] at ek;obtain⟨⟨⟨o1,o2⟩,o3⟩,o4⟩:=ek;have hr:=run_make (P:=P) w t e i z hu h1 h2 .i64 .i64 l c o1 o2 (by grind) (by omega);have df:i.size=1:=h3;rw[df,Nat.mul_one] at hr;refine vBb ok hM aO (n:=l.toNat) (c:=c.toNat) (by omega) (by rw[size_madeCells];omega) (fun k hk=>?_) hr;have I8:z.cells.toList=[.slice none 0 0]:=h4;have Og:z.cells.size=1:=h7;simp only[madeCells];have:z.cells.toList[0]'(by simp;omega)=.slice none 0 0:=by grind
    grind
   ·exact h.elim
  |false=>
   simp  at h;split at h
   ·rename_i ty dj;obtain⟨ek,rfl,rfl⟩:=eZ h;obtain⟨i,z,h1,h2,h3,h4,h5,h6,h7⟩:=nK dj;simp  at ek;obtain⟨⟨⟨o1,o2⟩,o3⟩,o4⟩:=ek;have hr:=run_make (P:=P) w t e i z hu h1 h2 .i64 .i64 l c o1 o2 (by grind) (by omega);refine Y0 ok hM aO (c:=c.toNat) (us:=madeCells z.cells (c.toNat*ty.size)) (e:=e) (by grind) (by rw[size_madeCells];omega) (fun k hk=>?_) (by simp_all);rw[Y2 hk];simp  at hk;exact YZ h4 h7 (by omega)
   ·exact h.elim
 ·exact h.elim
theorem Y3 off:∀l k cells,off+k+l.length≤cells.size→
  (l.zipIdx k).foldl (fun(cs:Array Value) (p:Value×Nat)=>cs.setIfInBounds (off+p.2) p.1) cells=yK cells (off+k) l
 |[],k,cells,h=>by
  apply Array.ext_getElem?;intro j;rw[wO h];simp_all
 |c::l,k,cells,h=>by
  simp;rw[Y3 off l (k+1) _ (by grind)];apply Array.ext_getElem?;intro j;rw[wO (by grind),wO (by omega)];grind
theorem Oh place cells i v rest off size (h:place i=some (off,size))(h1:v.cells.size=size)(h2:off+size≤cells.size):
  Instr.fill place cells ((i,v)::rest)=Instr.fill place (yK cells off v.cells.toList) rest:=by
 have hc:¬(v.cells.size≠size||decide (off+v.cells.size>cells.size))=true:=by
  simp_all
 simp only[Instr.fill,h];rw[if_neg hc]
 congr 1
 rw[←Array.foldl_toList,Array.toList_zipIdx];have:=Y3 off v.cells.toList 0 cells (by simp;omega);omega
def uG (M:zI):(Nat×zT)→(Nat×Value)→Prop:=fun p q=>p.1=q.1∧zP M p.2 q.2
theorem Oi {M place}:∀{parts aK cells out vals},zK (zQ M) cells vals.toList→
  zK (uG M) parts aK→Ea place cells parts=some out→∃res,Instr.fill place vals aK=some res∧zK (zQ M) out res.toList
 |[],[],cells,out,vals,hc,_,h=>by cases h;exact⟨vals,rfl,hc⟩
 |(i,v)::parts,(i',rv)::aK,cells,out,vals,hc,hp,h=>by
  obtain⟨⟨hi,hv⟩,hp⟩:=hp;subst hi;unfold Ea at h;split at h
  ·rename_i off size vs zl dh;cases hb:(Nat.beq vs.length size&&Nat.ble (off+size) cells.length) with
   |false=>simp_all
   |true=>
    rw[hb] at h;simp only[Bool.and_eq_true] at hb;have b1:=Nat.eq_of_beq_eq_true hb.1;have b2:=Nat.le_of_ble_eq_true hb.2;split at h
    ·rename_i bB Oj;obtain⟨p1,rfl⟩:=NM _ _ _ _ Oj;have cT:=IW dh hv;have hl:=cT.length;have kZ:=hc.length;simp  at hl kZ;have yH:=NP (yF.refl M) hc cT (off:=off) (by simp_all);obtain⟨res,h1,h2⟩:=Oi yH hp h;exact⟨res,by rw[Oh place vals i rv aK off size zl (by omega) (by omega)];exact h1,h2⟩
    ·cases h
  ·cases h
theorem Y4 {P} w:∀(l:List Field),l.all (fun f=>(P.info? f.type).isSome)=true→
  (l.mapM fun f=>(do pure (f.offset,←sizeOf f.type):Sem (Nat×Nat))).run P w=.ok (l.map fun f=>(f.offset,P.cellsOf f.type)) w
 |[],_=>by simp
 |f::l,h=>by
  simp only[List.all_cons,Bool.and_eq_true] at h;obtain⟨i,hi⟩:=Option.isSome_iff_exists.1 h.1;rw[List.mapM_cons];simp only[Sem.run_bind,fR w hi,Result.andThen_ok,Sem.run_pure,Y4 w l h.2,List.map_cons]
theorem vHn {P M w}(ok:Ok M)(hM:M.H=w.heap){t parts aK v u}(hp:zK (uG M) parts aK)
  (h:yC (Ns P t parts) v u):qH P (Instr.build t aK.toArray) M w v u:=by
 unfold Ns at h;split at h
 ·exact h.elim
 ·rename_i zero hz;obtain⟨i,z,h1,h2,h3,h4,rfl⟩:=Yt hz;have hzero:=IS M h4;split at h
  ·rename_i fs hs;obtain⟨bb,h⟩:=eM h;split at h
   ·rename_i cells hf;obtain⟨rfl,rfl⟩:=vP h;have zl:(fun(j:Nat)=>(fs[j]?).map fun(f:Field)=>(f.offset,P.cellsOf f.type))=(fun(j:Nat)=>(fs.toList.map fun f=>(f.offset,P.cellsOf f.type)).toArray[j]?):=by
     simp
    obtain⟨res,k1,k2⟩:=Oi hzero hp hf;refine qH.pure ok hM (rv:=.agg res) ?_ ⟨res,rfl,k2⟩;have hm:=Y4 (P:=P) w fs.toList bb;simp[Instr.build,zeroValue,NJ w h1,run_underlying hs,Array.mapM_eq_mapM_toList];simp_all
   ·exact h.elim
  ·rename_i n e hs;obtain⟨bb,h⟩:=eM h;obtain⟨y,hy⟩:=Option.isSome_iff_exists.1 bb;split at h
   ·rename_i cells hf;obtain⟨rfl,rfl⟩:=vP h;obtain⟨res,k1,k2⟩:=Oi hzero hp hf;refine qH.pure ok hM (rv:=.agg res) ?_ ⟨res,rfl,k2⟩;simp[Instr.build,zeroValue,Sem.run_bind,NJ w h1,Result.andThen_ok,h2,Sem.run_pure,run_underlying hs,fR w hy];simp_all
   ·exact h.elim
  ·exact h.elim
theorem qH.after {P s M M1 w v u1 u2}(h1:M1.h=qF M.h u1)(st:yS M M1)(h:qH P s M1 w v u2):qH P s M w v (u1++u2):=by
 obtain⟨rv,w',M',a1,a2,a3,a4,a5,a6,a7,a8,a9⟩:=h;exact⟨rv,w',M',a1,a2,a3,a4,a5,by rw[a6,h1,iO],a7,st.trans a8,a9⟩
theorem wF.fresh {h0 h}(hf:wF h0 h){n}(hn:h0 n=none):h n=none:=by
 rcases hf n with e|⟨o,t,xs,e1,_⟩|⟨o,xs,e1,_⟩
 all_goals simp_all
theorem Y5 {t vs x}(h:D6 t vs=some x):vs.length=t.size∧oY t t.dflt 0 vs=some x:=by
 unfold D6 at h;cases hb:Nat.beq vs.length t.size with
 |false=>simp_all
 |true=>simp_all
theorem vH1 {M t vs us x}(h:D6 t vs=some x)(hv:zK (zQ M) vs us){rd}(hr:∀i,i<us.length→rd i=us[i]?):qB M.H M.G t x rd:=by
 obtain⟨h1,h2⟩:=Y5 h;have hl:=hv.length;refine NU t vs us t.dflt x 0 (fun j=>(fy t)[j]?) rd (Ez t _ (by simp)) h2 hv (by grind) (by grind)
theorem Y6 {h0 t n}:∀{parts aK xs out vals u M},Ok M→wF h0 M.h→xs.length=n→vals.size=n*t.size→
  (∀k h,qB M.H M.G t xs[k] (fun j=>vals[k*t.size+j]?))→(∀p∈parts,p.1<n)→zK (uG M) parts aK→nC h0 t xs parts=some (out,u)→
  ∃res M',Instr.fill (fun i=>some (i*t.size,t.size)) vals aK=some res∧M'.H=M.H∧M'.h=qF M.h u∧Ok M'∧yS M M'∧wF h0 M'.h∧out.length=n∧res.size=n*t.size∧
   (∀k h,qB M'.H M'.G t out[k] (fun j=>res[k*t.size+j]?))
 |[],[],xs,out,vals,u,M,ok,hf,hx,hs,hE,_,_,h=>by
  cases h;exact⟨vals,M,rfl,rfl,rfl,ok,yS.refl M,hf,hx,hs,hE⟩
 |(i,v)::parts,(i',rv)::aK,xs,out,vals,u,M,ok,hf,hx,hs,hE,bd,hp,h=>by
  obtain⟨⟨hi,hv⟩,hp⟩:=hp;dsimp only at hi hv;subst hi;unfold nC at h;split at h
  ·rename_i vs dh;split at h
   ·rename_i N2 u1 zb;split at h
    ·rename_i x sd;split at h
     ·rename_i xs' us bS;cases h;have cT:=IW dh hv;obtain⟨M1,a1,a2,a3,a4,a5,a6,a7⟩:=NR ok hf cT zb;have hl:=a5.length;simp  at hl;have I9:=(Y5 sd).1;have dZ:i<n:=bd (i,v) (by simp);have aU:=Nat.mul_le_mul_right t.size (show i+1≤n by omega);rw[Nat.add_mul] at aU;have aG:i*t.size+rv.cells.toList.length≤vals.size:=by simp_all
      have hE1:∀k (h:k<(xs.set i x).length),qB M1.H M1.G t (xs.set i x)[k] (fun j=>(yK vals (i*t.size) rv.cells.toList)[k*t.size+j]?):=by
       intro k hk;rw[List.length_set] at hk;by_cases e:k=i
       ·subst e;rw[List.getElem_set_self];refine vH1 sd a5 fun j hj=>?_
        rw[wO aG,if_neg (by omega),if_pos (by omega)];simp
       ·rw[List.getElem_set_ne (Ne.symm e)];refine yR a4.ext.G (by grind) t _ _ _ (fun j hj=>?_) (hE k hk);rw[wO aG,Array.length_toList];rcases YJ (Ne.symm e) hj with h|h
        all_goals grind
      obtain⟨res,M2,b1,b2,b3,b4,b5,b6,b7,b8,b9⟩:=Y6 a3 a6 (by simp_all) (by rw[fa aG];exact hs) hE1
       (fun p hp=>bd p (by grind)) (hp.mono fun p q Y7=>⟨Y7.1,by
        obtain⟨_,hq⟩:=Y7;exact zP.ext a4.ext hq⟩) bS
      exact⟨res,M2,by rw[Oh _ vals i rv aK (i*t.size) t.size rfl (by omega) (by omega)];exact b1,b2.trans a1,by rw[b3,a2,iO],b4,a4.trans b5,b6,b7,b8,b9⟩
     ·cases h
    ·cases h
   ·cases h
  ·cases h
theorem Y8 {P w t e n aK}{ty:Ty}{i z res}(hu:P.underlying t=some (.slice e))(hi:P.info? e=some i)
  (hz:i.zero=some z) (hs:i.size=ty.size) (cD:n*P.cellsOf e≤16777216) (hf:Instr.fill (fun j=>some (j*ty.size,ty.size)) (madeCells z.cells (n*ty.size)) aK=some res):
  (Instr.buildSlice t n aK.toArray).run P w=.ok (.slice (some ⟨w.heap.size,0,none⟩) n n) (w.alloc (.cells res e)):=by
 have hc:P.cellsOf e=ty.size:=by rw[NI hi];exact hs
 rw[hc] at cD;have h1:¬2^24<n*ty.size:=by omega
 by_cases h0:n*ty.size=0
 ·have hm:madeCells z.cells (n*ty.size)=#[]:=by rw[h0];simp[madeCells]
  rw[hm] at hf;simp[Instr.buildSlice,run_underlying hu,fR w hi,hc,h0];simp[Array.range_zero',hf,newRow]
 ·simp[Instr.buildSlice,run_underlying hu,Result.andThen_ok,fR w hi,hc,h1,if_false,h0,Sem.run_pure,zeroValue,NJ w hi,hz];rw[show(Array.range (n*ty.size)).map (z.cells[· %z.cells.size]!)=madeCells z.cells (n*ty.size) from rfl,hf];rfl
theorem Y9 {parts:List (Nat×zT)}{n}(h:parts.all (fun p=>Nat.blt p.1 n)=true):∀p∈parts,p.1<n:=by
 simp only[List.all_eq_true] at h;exact fun p hp=>NS (h p hp)
theorem vRx {P M w}(ok:Ok M)(hM:M.H=w.heap){nm t e n parts aK ty xs u}
  (hp:zK (uG M) parts aK) (hu:P.underlying t=some (.slice e)) (aO:M.h nm=none) (dj:gX P e=some ty) (cD:n*P.cellsOf e≤16777216) (bd:∀p∈parts,p.1<n)
  (hf:nC M.h ty (List.replicate n ty.dflt) parts=some (xs,u)):
  qH P (Instr.buildSlice t n aK.toArray) M w (.c (.osl nm none)) (u++[(nm,.arr true ty xs)]):=by
 obtain⟨i,z,h1,h2,h3,h4,h5,h6,h7⟩:=nK dj;obtain⟨res,M',b1,b2,b3,b4,b5,b6,b7,b8,b9⟩:=Y6 (n:=n) ok (wF.refl _) (by simp) (vals:=madeCells z.cells (n*ty.size)) (by rw[size_madeCells])
  (fun k hk=>by rw[Y2 hk];exact YZ h4 h7 (by simp_all)) bd hp hf
 have hr:=Y8 (P:=P) (w:=w) hu h1 h2 h3 cD b1;refine qH.after b3 b5 (Y0 b4 (by grind) (b6.fresh aO) (c:=n) (us:=res) (e:=e) (by omega) (by omega) (by grind) ?_);simp_all
structure se (M:zI) (J:List Nat) (n:Nat) (rows:List (List Int)) (vals:Array Value) (rc:List (Option Nat×Nat)):Prop where
 len:rows.length=n
 size:vals.size=n
 rlen:rc.length=n
 row:∀k (h:k<rows.length),∃rb v,rc[k]? =some (rb,rows[k].length)∧vals[k]? =some v∧kp M.H rb rows[k].length v∧
  (∀R,rb=some R→∃rv er,M.H[R]? =some (.cells rv er (0,0))∧∀j (h':j<rows[k].length),rv[j]? =some (.int .i64 rows[k][j]))
 nd:(rc.filterMap (·.1)).Nodup
 of:∀R∈rc.filterMap (·.1),∃j∈J,∃C,M.κ j=some C∧R∈C.fp
 js:∀j∈J,∃ys:List Int,M.h j=some (.arr true (.int .i64) ys)
theorem se.put {M}(ok:Ok M){J n rows vals rc}(I:se M J n rows vals rc){i}(hi:i<n){v rv r u}
  (hv:zP M v rv) (ht:uj M.h v=some (r,u)) (hJ:∀p∈u,p.1∉J):∃Ja,se M (J++u.map (·.1)) n (rows.set i r) (yK vals i rv.cells.toList) Ja∧rv.cells.size=1∧(∀p∈u,p.2=.gone):=by
 have put:∀(rb:Option Nat) (J':List Nat),rv.one1=true→kp M.H rb r.length rv→(∀R,rb=some R→∃rv er,M.H[R]? =some (.cells rv er (0,0))∧∀j (h':j<r.length),rv[j]? =some (.int .i64 r[j]))→
   (∀R,rb=some R→R∉rc.filterMap (·.1))→(∀R,rb=some R→∃j∈J',∃C,M.κ j=some C∧R∈C.fp)→(∀j∈J',∃ys:List Int,M.h j=some (.arr true (.int .i64) ys))→
   se M (J++J') n (rows.set i r) (yK vals i rv.cells.toList) (rc.set i (rb,r.length))∧rv.cells.size=1:=by
  intro rb J' h1 h2 h3 h4 h5 h6;have aA:rv.cells=#[rv]:=by cases rv<;>first|rfl|cases h1
  obtain⟨s1,s2⟩:=IZ (x:=(rb,r.length)) rc i I.nd h4;have aG:i+rv.cells.toList.length≤vals.size:=by rw[aA,I.size];show i+1≤n;omega
  refine⟨⟨by rw[List.length_set];exact I.len,by rw[fa aG];exact I.size,by rw[List.length_set];exact I.rlen,fun k hk=>?_,s1,fun R hR=>?_,fun j hj=>?_⟩,by rw[aA];rfl⟩
  ·rw[List.length_set] at hk;by_cases e:k=i
   ·subst e;rw[List.getElem_set_self];refine⟨rb,rv,?_,?_,h2,h3⟩
    ·rw[List.getElem?_set_self (by rw[I.rlen];exact hi)]
    ·rw[wO aG,if_neg (by omega),if_pos (by rw[aA];show k<k+1;omega),aA];simp
   ·rw[List.getElem_set_ne (Ne.symm e)];obtain⟨mB,v',p1,p2,p3,p4⟩:=I.row k hk;refine⟨mB,v',by rw[List.getElem?_set_ne (Ne.symm e)];exact p1,?_,p3,p4⟩;rw[wO aG,aA];grind
  ·rcases s2 R hR with h|h
   ·obtain⟨j,hj,hC⟩:=I.of R h;exact⟨j,by grind,hC⟩
   grind
  ·rcases List.mem_append.1 hj with h|h
   ·exact I.js j h
   ·exact h6 j h
 unfold uj at ht;split at ht
 ·rename_i jd;split at ht
  ·rename_i ys cM;cases ht;obtain⟨Cj,dO,kY⟩:=ok.obj jd _ cM;obtain⟨jr,jf⟩:=Em kY;obtain⟨r1,r2⟩:=NZ dO kY hv;have rW:∀j∈[jd],∃ys:List Int,M.h j=some (.arr true (.int .i64) ys):=by grind
   have:=put Cj.blk [jd] (zQ.one (c:=.osl jd none) hv) r1 r2 (fun R hR hm=>?_) (by grind) (fun j hj=>rW j hj)
   ·exact(by grind)
   ·obtain⟨j,hj,C,hC,hRC⟩:=I.of R hm;obtain⟨ys',ku⟩:=I.js j hj;have bj:j≠jd:=fun e=>hJ (jd,.gone) (by simp) (e▸hj)
    exact ok.disj j jd _ _ C Cj R bj ku cM rfl rfl hC dO hRC (jR hR)
  ·cases ht
 ·cases ht;have e:rv=.slice none 0 0:=hv;have:=put none [] (by rw[e];rfl) ⟨e,rfl⟩ (by simp) (by simp) (by simp) (by simp);exact by grind
 ·cases ht
theorem zm:∀{l},o0 l=true→l.Nodup
 |[],_=>by simp
 |a::l,h=>by
  simp only[o0,Bool.and_eq_true] at h;refine List.nodup_cons.2 ⟨fun hm=>?_,zm h.2⟩;have:l.any (Nat.beq a)=true:=List.any_eq_true.2 ⟨a,hm,by simp⟩;simp_all
theorem Za {M}(ok:Ok M){n}:∀{parts aK J rows out vals rc u},se M J n rows vals rc→
  (∀p∈parts,p.1<n)→zK (uG M) parts aK→uk M.h rows parts=some (out,u)→(J++u.map (·.1)).Nodup→
  ∃res Ja,Instr.fill (fun i=>some (i*1,1)) vals aK=some res∧se M (J++u.map (·.1)) n out res Ja∧(∀p∈u,p.2=.gone)
 |[],[],J,rows,out,vals,rc,u,I,_,_,h,_=>by
  cases h;exact⟨vals,rc,rfl,by simp_all,by simp⟩
 |(i,v)::parts,(i',rv)::aK,J,rows,out,vals,rc,u,I,bd,hp,h,di=>by
  obtain⟨⟨hi,hv⟩,hp⟩:=hp;subst hi;unfold uk at h;split at h
  ·rename_i r u1 ht;split at h
   ·rename_i Zb us bS;cases h;rw[List.map_append,←List.append_assoc] at di;have dZ:i<n:=bd (i,v) (by simp);obtain⟨Ja,I',h1,hg⟩:=I.put ok dZ hv ht (by grind);obtain⟨res,rc2,b1,b2,b3⟩:=Za ok I' (by grind) hp bS di;refine⟨res,rc2,?_,by simp_all,fun p hp=>?_⟩
    ·rw[Oh _ vals i rv aK (i*1) 1 rfl h1 (by rw[I.size];omega),Nat.mul_one];exact b1
    grind
   ·cases h
  ·cases h
theorem Ol {j}:∀{u h},(∀p∈u,p.2=.gone)→j∈u.map (·.1)→qF h u j=some .gone
 |(id,o)::u,h,hg,hj=>by
  have ho:o=.gone:=hg (id,o) (by simp);subst ho;by_cases hm:j∈u.map (·.1)
  ·exact Ol (u:=u) (by grind) hm
  ·have e:j=id:=by
    simp_all
   subst e;show qF (qX h j .gone) u j=_;rw[I2]
   ·exact yE _ _ _
   ·rw[Bool.eq_false_iff];simp_all
theorem zn {n u h}(hn:n∉u.map (·.1)):qF h u n=h n:=by
 refine I2 h ?_;rw[Bool.eq_false_iff];simp_all
theorem vMh {P:Program}{M:zI}{w}(ok:Ok M)(hM:M.H=w.heap){nm n c}{rows res rc J}{u:yV}{e s}
  (aO:M.h nm=none) (I:se M J n rows (res.extract 0 n) rc) (hJ:∀j,j∈J→j∈u.map (·.1)) (hg:∀p∈u,p.2=.gone∧∃o,M.h p.1=some o∧o.owned=true) (hc:n≤c) (hs:c≤res.size)
  w' (hw:w'.heap=w.heap.push (.cells res e)∧w'.os=w.os∧w'.tape=w.tape∧w'.output=w.output)
  (hr:s.run P w=.ok (.slice (some ⟨w.heap.size,0,none⟩) n c) w'):qH P s M w (.c (.osl nm none)) (u++[(nm,.mat 0 rows)]):=by
 let C:zZ:=⟨some M.H.size,n,1,0,rc⟩;have hnJ:nm∉u.map (·.1):=(by grind);have aU:∀R∈rc.filterMap (·.1),∃j C,(j∈u.map (·.1))∧M.κ j=some C∧R∈C.fp:=fun R hR=>by
  obtain⟨j,hj,C,hC,hm⟩:=I.of R hR;grind
 have aal:∀R∈rc.filterMap (·.1),R<M.H.size:=fun R hR=>by
  obtain⟨j,hj,C,hC,hm⟩:=I.of R hR;obtain⟨ys,hy⟩:=I.js j hj;exact(ok.own R ⟨j,_,C,hy,rfl,hC,hm⟩).2
 have hh:∀n',(qF M.h (u++[(nm,.mat 0 rows)])) n'=if n'=nm then some (.mat 0 rows) else qF M.h u n':=fun n'=>by
  rw[iO,NL];by_cases e:n'=nm
  ·rw[if_pos e,e,yE]
  ·rw[if_neg e,yJ _ _ e]
 have:=zI.move_ok (M:=M) (nm:=nm) (o':=.mat 0 rows) (C':=C) (h':=qF M.h (u++[(nm,.mat 0 rows)])) (H':=M.H.push (.cells res e)) ok (fun j=>j∈u.map (·.1)) aO
  (fun j hj=>by
   obtain⟨p,hp,e⟩:=List.mem_map.1 hj;obtain⟨_,o,ho,fW⟩:=hg p hp;refine⟨o,by rw[←e];exact ho,fW,?_⟩;have bj:j≠nm:=by grind
   rw[hh,if_neg bj];exact Ol (by grind) hj)
  (by rw[hh,if_pos rfl]) (fun n' h1 h2=>by rw[hh,if_neg h2];exact zn h1) (by simp) (fun b hb _=>mz hb) (fun b hb=>yv (mz hb))
  (fun b hb=>by
   simp only[C,zZ.fp,Option.toList_some,List.singleton_append,List.mem_cons] at hb;grind)
  (fun x=>by
   refine⟨rfl,I.len.symm,rfl,by rw[I.len];exact I.rlen,?_,res,e,uu,by rw[I.len];omega,fun k hk=>?_⟩
   ·simp only[C,zZ.fp,Option.toList_some,List.singleton_append];exact List.nodup_cons.2 ⟨by grind,I.nd⟩
   ·obtain⟨rb,v,p1,p2,p3,p4⟩:=I.row k hk;refine⟨rb,v,p1,?_,p3.ext x,fun R hR=>?_⟩
    ·grind
    ·obtain⟨rv,er,p5,p6⟩:=p4 R hR;refine⟨rv,er,?_,p6⟩;have:R<M.H.size:=by grind
     show(M.H.push _)[R]? =_;grind)
 refine⟨_,_,_,hr,hw.2.1,hw.2.2.1,hw.2.2.2,by show M.H.push _=_;rw[hw.1,hM],rfl,this.1,this.2,C,κset_same _ _ _,_,c,rfl,?_⟩;refine⟨hc,0,by rw[hM],.inr (by simp),?_⟩;have:qO (M.H.push (.cells res e)) M.H.size=res.size:=by simp[qO]
 show(0+c)*1≤qO (M.H.push (.cells res e)) M.H.size;rw[this];omega
theorem vIe {P M w}(ok:Ok M)(hM:M.H=w.heap){mat nm t n parts aK v u}
  (hp:zK (uG M) parts aK) (h:yC (yf P mat nm M.h t n parts) v u):qH P (Instr.buildSlice t n aK.toArray) M w v u:=by
 unfold yf at h;split at h
 ·rename_i e hu aO;obtain⟨cD,h⟩:=eM h;have cD:=Nat.le_of_ble_eq_true cD;cases mat with
  |true=>
   split at h
   ·rename_i rows u' dj hf;obtain⟨hb,h⟩:=eM h;simp only[Bool.and_eq_true] at hb;obtain⟨_,rfl,rfl⟩:=eZ h;obtain⟨i,z,h1,h2,h3,h4,h5,h6,h7⟩:=nK dj;have I8:z.cells.toList=[.slice none 0 0]:=h4;have Og:z.cells.size=1:=h7;have I0:se M [] n (List.replicate n []) (madeCells z.cells (n*1)) (List.replicate n (none,0)):=by
     refine⟨by simp,by rw[size_madeCells,Nat.mul_one],by simp,fun k hk=>?_,by simp,by simp,by simp⟩;have hkn:k<n:=by simp_all
     refine⟨none,.slice none 0 0,by simp[hkn],?_,⟨rfl,by simp⟩,by simp⟩;simp only[madeCells];have:z.cells.toList[0]'(by grind)=.slice none 0 0:=by grind
     grind
    obtain⟨res,rc,b1,b2,b3⟩:=Za ok I0 (Y9 hb.2) hp hf (by simpa using zm hb.1);have hr:=Y8 (P:=P) (w:=w) (ty:=.sl (.int .i64)) hu h1 h2 h3 cD b1;have Om:res.extract 0 n=res:=by
     have:=b2.size;simp_all
    refine vMh ok hM aO (by rw[Om];exact b2) (by simp) (fun p hp=>⟨b3 p hp,?_⟩) (by simp) (by rw[b2.size];omega) (w.alloc (.cells res e)) ⟨rfl,rfl,rfl,rfl⟩ hr;obtain⟨ys,hy⟩:=b2.js p.1 (by grind);exact⟨_,hy,rfl⟩
   ·exact h.elim
  |false=>
   simp  at h;split at h
   ·rename_i ty dj;split at h
    ·rename_i xs u' hf;obtain⟨hb,h⟩:=eM h;obtain⟨_,rfl,rfl⟩:=eZ h;exact vRx ok hM hp hu aO dj cD (Y9 hb) hf
    ·exact h.elim
   ·exact h.elim
 ·exact h.elim
theorem On {H F}:∀t x rd,qB H F t x rd→∀j,j<t.size→∃v,rd j=some v∧v.one1=true
 |.int k,x,rd,h,j,hj
 |.bool,x,rd,h,j,hj=>by
  simp[Ty.size] at hj;obtain rfl:j=0:=by omega
  exact⟨_,h,rfl⟩
 |.sl t,x,rd,h,j,hj=>by
  simp[Ty.size] at hj;obtain rfl:j=0:=by omega
  obtain⟨A,n,c,h1,_⟩:=h;exact⟨_,h1,rfl⟩
 |.pair a b,x,rd,h,j,hj=>by
  simp[Ty.size] at hj;by_cases bd:j<a.size
  ·exact On a _ _ h.1 j bd
  ·have:=On b _ _ h.2 (j-a.size) (by omega);simp_all
def Rd (H : Array Go.Obj) (v : Value) (n size : Nat) (news : List Value) : Prop := ∃ A c, v = .slice A n c ∧ news.length = n * size ∧ (∀ u ∈ news, u.one1 = true) ∧ (match A with
 |none=>n=0
 |some a=>n=0∨a.spot=none∧∀j u,news[j]? =some u→yH H a.block (a.off+j)=some u)
theorem Rd.first {P H v n size news}(h:Rd H v n size news) w (hw:w.heap=H):(Builtin.firstCells size n v).run P w=.ok news.toArray w:=by
 obtain⟨A,c,rfl,hl,_,h⟩:=h;cases A with
 |none=>
  have h0:n=0:=h;subst h0;have:news=[]:=by grind
  subst this;rfl
 |some a=>
  rcases h with h0|⟨hs,h⟩
  ·subst h0;have:news=[]:=by grind
   subst this;simp[Builtin.firstCells,loadCells,loadCellsFrom]
  ·obtain⟨B,o,sp⟩:=a;cases hs;exact run_firstCells_some w size n ⟨B,o,none⟩ n c news hl (fun j u hu=>by rw[Addr.add_lit,pg,hw];simp_all)
theorem Oo {H F t}{ys:List t.den}{B o c}(hc:ys.length≤c)(h:∀i hi,qB H F t ys[i] (fun j=>yH H B (o+i*t.size+j))):
  ∃news,Rd H (.slice (some ⟨B,o,none⟩) ys.length c) ys.length t.size news∧∀i hi,qB H F t ys[i] (fun j=>news[i*t.size+j]?):=by
 have tot:∀k,k<ys.length*t.size→∃v,yH H B (o+k)=some v∧v.one1=true:=by
  intro k hk;have hi:k/t.size<ys.length:=Nat.div_lt_of_lt_mul (by grind);obtain⟨v,h1,h2⟩:=On t _ _ (h _ hi) (k%t.size) (Nat.mod_lt _ t.size_pos);refine⟨v,?_,h2⟩;rw[Nat.add_assoc,Nat.mul_comm,Nat.div_add_mod] at h1;exact h1
 refine⟨(List.range (ys.length*t.size)).map fun k=>(yH H B (o+k)).getD undef,⟨_,c,rfl,by simp,fun u hu=>?_,.inr ⟨rfl,fun j u hu=>?_⟩⟩,fun i hi=>?_⟩
 ·grind
 ·grind
 ·refine yR (by simp) (by simp) t _ _ _ (fun j hj=>?_) (h i hi);have aU:=Nat.mul_le_mul_right t.size (show i+1≤ys.length by omega);grind
theorem EA {H F t A c}:∃news,Rd H (.slice A 0 c) 0 t.size news∧∀i hi,qB H F t ([]:List t.den)[i] (fun j=>news[i*t.size+j]?):=
 ⟨[],⟨A,c,rfl,by simp,by simp,by grind⟩,by simp⟩
theorem Oq {H F t}{ys:List t.den}{v}(h:qB H F (.sl t) ys (fun _=>some v)):
  ∃news,Rd H v ys.length t.size news∧∀i hi,qB H F t ys[i] (fun j=>news[i*t.size+j]?):=by
 simp[qB] at h;obtain⟨A,n,c,rfl,rfl,hc,h⟩:=h;rcases h with⟨rfl,_⟩|⟨B,o,rfl,hB,hE⟩
 ·exact EA
 ·exact Oo hc hE
theorem uH {M own t xs C id r v}(hC:M.κ id=some C)(hO:yP M (.arr own t xs) C)(hv:zQ M (.osl id r) v):
  ∃news,Rd M.H v (gC xs r).length t.size news∧∀i hi,qB M.H M.G t (gC xs r)[i] (fun j=>news[i*t.size+j]?):=by
 obtain⟨h1,h2,h3,h4⟩:=hO;obtain⟨C',aw,hv⟩:=hv;rw[hC] at aw;cases aw;have key:∀lo n,lo+n≤C.len→wE M.H C lo n v→∃news,Rd M.H v (qW xs lo n).length t.size news∧∀i (hi:i<(qW xs lo n).length),qB M.H M.G t (qW xs lo n)[i] (fun j=>news[i*t.size+j]?):=by
  intro lo n hn hS;obtain⟨A,c,rfl,hS⟩:=hS;have hl:=y8 (xs:=xs) (lo:=lo) (n:=n) (by omega);by_cases h0:n=0
  ·subst h0;have e:qW xs lo 0=[]:=by rfl
   exact EA
  ·cases hB:C.blk with
   |none=>simp_all
   |some B=>
    rw[hB] at hS h4;obtain⟨hc,a,rfl,ha,_⟩:=hS;obtain⟨vals,e,h5,h6,h7,h8⟩:=h4;have nG:a=lo*C.sz:=by omega
    have := Oo (H := M.H) (F := M.G) (ys := qW xs lo n) (B := B) (o := a) (c := c) (by omega) (fun i hi=>by
     obtain⟨bE,e1⟩:=IX hi;rw[e1];refine yR (by simp) (by simp) t _ _ _ (fun j hj=>?_) (h8 (lo+i) bE);rw[nG,h2,←Nat.add_mul];simp[yH,h5])
    simp_all
 cases r with
 |none=>
  have:=key 0 C.len (by omega) hv;rw[h1,Yy] at this;exact this
 |some p=>exact key p.1 p.2 hv.1 hv.2.1
theorem nL {P w t e i A sLen sCap n size x news} T (hu:P.underlying t=some (.slice e))(hi:P.info? e=some i)(hs:i.size=size)
  (hx : Rd w.heap x n size news) (aS : sLen + n ≤ sCap) w' (hw:match A with
   |none=>w'=w
   |some a=>(storeCells (a.add (sLen*size)) news).run P w=.ok () w'):
  (Builtin.append_ #[t,t] T #[.slice A sLen sCap,x]).run P w=.ok (.slice A (sLen+n) sCap) w':=by
 have hf:=hx.first (P:=P) w rfl
 obtain⟨X,c,rfl,_⟩:=hx;subst hs;cases A with
 |none=>
  subst hw;simp[Builtin.append_,run_underlying hu,sizeOf,typeInfo,hi,Builtin.lenOf,aS,hf]
 |some a=>simp[Builtin.append_,run_underlying hu,sizeOf,typeInfo,hi,Builtin.lenOf,aS,hf,hw]
theorem Ot {P}{w}{t e}{i}{z}{A sLen sCap n size x olds news} T (hu:P.underlying t=some (.slice e))(hi:P.info? e=some i)(hz:i.zero=some z)
  (hs:i.size=size) (hb:Rd w.heap (.slice A sLen sCap) sLen size olds) (hx:Rd w.heap x n size news) (hg:sCap<sLen+n) (h46:(sLen+n)*i.bytes≤140737488355328) (aam:sLen+n≤140737488355328):
  (Builtin.append_ #[t,t] T #[.slice A sLen sCap,x]).run P w=
   .ok (.slice (some ⟨w.heap.size,0,none⟩) (sLen+n) (grownCap w (sLen+n) sCap e)) (w.drew.alloc (.cells (olds.toArray++news.toArray++Builtin.zeroCells z.cells (grownCap w (sLen+n) sCap e-(sLen+n))) e)):=by
 have hf:=hx.first (P:=P) w.drew rfl
 have hfo:=hb.first (P:=P) w.drew rfl
 obtain⟨X,c,rfl,_⟩:=hx;subst hs;have hn:¬(sLen+n≤sCap):=by omega
 have aan:¬(9223372036854775807<((sLen:Int)+(n:Int))):=by omega
 have aao:¬(281474976710656<Builtin.nextslicecap (sLen+n) sCap*i.bytes):=by
  have h1:=Nat.mul_le_mul_right i.bytes (nextslicecap_le hg);grind
 simp[Builtin.append_,run_underlying hu,sizeOf,typeInfo,zeroValue,hi,hz,Builtin.lenOf,Question.forced,hf,hfo,newRow,grownCap];grind
theorem zo z n:(Builtin.zeroCells z n).size=n*z.size:=by simp[Builtin.zeroCells]
theorem Ou {H F t}{xs ys:List t.den}{olds news:List Value}(hl:olds.length=xs.length*t.size)(hx:∀i h,qB H F t xs[i] (fun j=>olds[i*t.size+j]?))
  (hy:∀i h,qB H F t ys[i] (fun j=>news[i*t.size+j]?)):∀i h,qB H F t (xs++ys)[i] (fun j=>(olds++news)[i*t.size+j]?):=by
 intro i hi;by_cases h:i<xs.length
 ·rw[List.getElem_append_left h];refine yR (by simp) (by simp) t _ _ _ (fun j hj=>?_) (hx i h);have:=Nat.mul_le_mul_right t.size (show i+1≤xs.length by omega);grind
 ·rw[List.getElem_append_right (by omega)];refine yR (by simp) (by simp) t _ _ _ (fun j hj=>?_) (hy (i-xs.length) (by grind));have:=Nat.mul_le_mul_right t.size (show xs.length≤i by omega);rw[List.getElem?_append_right (by omega),hl]
  congr 1
  rw[Nat.sub_mul];omega
def EB (M:zI)(w:World)(v:zT)(u:yV)(rv:Value)(w':World):Prop:=
 ∃M',w'.os=w.os∧w'.tape=w.tape∧w'.output=w.output∧M'.H=w'.heap∧M'.h=qF M.h u∧Ok M'∧yS M M'∧zP M' v rv
theorem EB.runs {P s M w w' v u rv}(h:EB M w v u rv w')(hr:s.run P w=.ok rv w'):qH P s M w v u:=by
 obtain⟨M',h⟩:=h;exact⟨_,_,M',hr,h⟩
theorem Zc {M w}(ok:Ok M)(hM:M.H=w.heap){nm t zs us e c}{u:yV}(aO:M.h nm=none)
  (hg:∀p∈u,p.2=.gone∧∃o,M.h p.1=some o∧o.owned=true) (hc:zs.length≤c) (hs:c*t.size≤us.size) (hx:∀i h,qB M.H M.G t zs[i] (fun j=>us[i*t.size+j]?))
  {w':World} (hw:w'.heap=w.heap.push (.cells us e)∧w'.os=w.os∧w'.tape=w.tape∧w'.output=w.output):
  EB M w (.c (.osl nm none)) (u++[(nm,.arr true t zs)]) (.slice (some ⟨w.heap.size,0,none⟩) zs.length c) w':=by
 let C:zZ:=⟨some M.H.size,zs.length,t.size,0,[]⟩;have hh:∀n',(qF M.h (u++[(nm,.arr true t zs)])) n'=if n'=nm then some (.arr true t zs) else qF M.h u n':=fun n'=>by
  rw[iO,NL];by_cases e:n'=nm
  ·rw[if_pos e,e,yE]
  ·rw[if_neg e,yJ _ _ e]
 have hle:=Nat.mul_le_mul_right t.size hc;have:=zI.move_ok (M:=M) (nm:=nm) (o':=.arr true t zs) (C':=C) (h':=qF M.h (u++[(nm,.arr true t zs)])) (H':=M.H.push (.cells us e)) ok (fun j=>j∈u.map (·.1)) aO
  (fun j hj=>by
   obtain⟨p,hp,e⟩:=List.mem_map.1 hj;obtain⟨_,o,ho,fW⟩:=hg p hp;refine⟨o,by simp_all,fW,?_⟩;have bj:j≠nm:=by grind
   rw[hh,if_neg bj];exact Ol (by grind) hj)
  (by simp_all) (fun n' h1 h2=>by rw[hh,if_neg h2];exact zn h1) (by simp) (by grind) (fun b hb=>yv (mz hb))
  (fun b hb=>by
   simp only[C,zZ.fp] at hb;simp_all)
  (fun x=>⟨rfl,rfl,(by grind),us,e,uu,by simp,by omega,fun i hi=>yR x.G x.sameG t _ _ _ (by simp) (hx i hi)⟩)
 refine⟨_,hw.2.1,hw.2.2.1,hw.2.2.2,by show M.H.push _=_;simp_all,rfl,this.1,this.2,C,κset_same _ _ _,_,c,rfl,?_⟩;refine⟨hc,0,by rw[hM],by simp,?_⟩;have:qO (M.H.push (.cells us e)) M.H.size=us.size:=by simp[qO]
 show(0+c)*t.size≤qO (M.H.push (.cells us e)) M.H.size;simp_all
theorem Zd {P M w}(ok:Ok M)(hM:M.H=w.heap){nm t zs us e s c}{u:yV}(aO:M.h nm=none)
  (hg:∀p∈u,p.2=.gone∧∃o,M.h p.1=some o∧o.owned=true) (hc:zs.length≤c) (hs:c*t.size≤us.size) (hx:∀i h,qB M.H M.G t zs[i] (fun j=>us[i*t.size+j]?))
  {w'} (hr:s.run P w=.ok (.slice (some ⟨w.heap.size,0,none⟩) zs.length c) w') (hw:w'.heap=w.heap.push (.cells us e)∧w'.os=w.os∧w'.tape=w.tape∧w'.output=w.output):
  qH P s M w (.c (.osl nm none)) (u++[(nm,.arr true t zs)]):=
 (Zc ok hM aO hg hc hs hx hw).runs hr
theorem Ze {M:zI}{w:World}(ok:Ok M)(hM:M.H=w.heap){id nm:Nat}{t:Ty}{fB zs:List t.den}{C:zZ}{H':Array Go.Obj}{c:Nat}{A:Option Addr}{w':World}
  (ah:M.h id=some (.arr true t fB)) (hC:M.κ id=some C) (aO:M.h nm=none) (df:H'.size=M.H.size) (hH:∀b,b∉C.fp→H'[b]? =M.H[b]?) (cC:∀b,qO H' b=qO M.H b)
  (hx:∀M',yF M M'→M'.H=H'→M'.G=M.G→match C.blk with
   |none=>zs=[]
   |some B=>∃vals e,H'[B]? =some (.cells vals e (0,0))∧zs.length*t.size≤vals.size∧∀i (h:i<zs.length),qB M'.H M'.G t zs[i] (fun j=>vals[i*t.size+j]?))
  (hA:match C.blk with
   |none=>A=none∧zs.length=0∧c=0
   |some B=>zs.length≤c∧∃a,A=some ⟨B,a,none⟩∧(c=0∨a=0)∧c*t.size≤qO M.H B)
  (hw:w'.heap=H'∧w'.os=w.os∧w'.tape=w.tape∧w'.output=w.output):
  EB M w (.c (.osl nm none)) [(id,.gone),(nm,.arr true t zs)] (.slice A zs.length c) w':=by
 obtain⟨C0,nM,hO⟩:=ok.obj id _ ah;rw[hC] at nM;cases nM;obtain⟨fr,ff⟩:=Em hO;have bj:id≠nm:=by grind
 let C':zZ:=⟨C.blk,zs.length,t.size,0,[]⟩;have hh:∀n',(qF M.h [(id,.gone),(nm,.arr true t zs)]) n'=if n'=nm then some (.arr true t zs) else if n'=id then some .gone else M.h n':=fun n'=>by
  show(qX (qX M.h id .gone) nm _) n'=_;by_cases e:n'=nm
  ·rw[if_pos e,e,yE]
  ·rw[if_neg e,yJ _ _ e];by_cases e2:n'=id
   ·rw[if_pos e2,e2,yE]
   ·rw[if_neg e2,yJ _ _ e2]
 have:=zI.move_ok (M:=M) (nm:=nm) (o':=.arr true t zs) (C':=C') (h':=qF M.h [(id,.gone),(nm,.arr true t zs)]) (H':=H') ok (fun j=>j=id) aO
  (fun j hj=>⟨.arr true t fB,by rw[hj];exact ah,rfl,by simp_all⟩)
  (by rw[hh,if_pos rfl]) (by grind) (by omega) (by grind) (fun b _=>cC b)
  (fun b hb=>.inr ⟨id,C,rfl,hC,by
   simp only[C',zZ.fp,List.filterMap_nil,List.append_nil] at hb;rw[ff];exact hb⟩)
  (fun x=>by
   refine⟨rfl,rfl,(by grind),?_⟩;have:=hx _ x rfl rfl;show match C.blk with
    |none=>_
    |some B=>_
   cases hB:C.blk with
   |none=>simp_all
   |some B=>
    rw[hB] at this;obtain⟨vals,e,h1,h2,h3⟩:=this;exact⟨vals,e,h1,by simp,h2,h3⟩)
 refine⟨_,hw.2.1,hw.2.2.1,hw.2.2.2,by rw[hw.1];rfl,rfl,this.1,this.2,C',κset_same _ _ _,_,c,rfl,?_⟩;show match C.blk with
  |none=>_
  |some B=>_
 cases hB:C.blk with
 |none=>rw[hB] at hA;exact hA
 |some B=>
  rw[hB] at hA;obtain⟨h1,a,h2,h3,h4⟩:=hA;refine⟨h1,a,h2,by simpa using h3,?_⟩;show(0+c)*t.size≤qO H' B;simp_all
theorem Ov {P M w}(ok:Ok M)(hM:M.H=w.heap){id nm t fB zs C H' s c A w'}
  (ah:M.h id=some (.arr true t fB)) (hC:M.κ id=some C) (aO:M.h nm=none) (df:H'.size=M.H.size) (hH:∀b,b∉C.fp→H'[b]? =M.H[b]?) (cC:∀b,qO H' b=qO M.H b)
  (hx:∀M',yF M M'→M'.H=H'→M'.G=M.G→match C.blk with
   |none=>zs=[]
   |some B=>∃vals e,H'[B]? =some (.cells vals e (0,0))∧zs.length*t.size≤vals.size∧∀i h,qB M'.H M'.G t zs[i] (fun j=>vals[i*t.size+j]?))
  (hA:match C.blk with
   |none=>A=none∧zs.length=0∧c=0
   |some B=>zs.length≤c∧∃a,A=some ⟨B,a,none⟩∧(c=0∨a=0)∧c*t.size≤qO M.H B)
  (hw:w'.heap=H'∧w'.os=w.os∧w'.tape=w.tape∧w'.output=w.output) (hr:s.run P w=.ok (.slice A zs.length c) w'):
  qH P s M w (.c (.osl nm none)) [(id,.gone),(nm,.arr true t zs)]:=
 (Ze ok hM ah hC aO df hH cC hx hA hw).runs hr
theorem EC {n b}(h:(Nat.ble (n*b) 140737488355328&&Nat.ble n 140737488355328)=true):n*b≤140737488355328∧n≤140737488355328:=by
 simp_all
theorem Ow {H H' F F'}:∀t x rd,t.flat=true→qB H F t x rd→qB H' F' t x rd
 |.int k,n,rd,_,h
 |.bool,n,rd,_,h=>h
 |.pair a b,p,rd,hf,h=>by
  simp[Ty.flat] at hf;exact⟨Ow a _ _ hf.1 h.1,Ow b _ _ hf.2 h.2⟩
theorem Zf {M:zI}{sh s}{xs:List s.den}{v}(hs:(sh||s.flat)=true)(hv:qB M.H (bif sh then M.G else M.F) (.sl s) xs (fun _=>some v)):
  ∃news,Rd M.H v xs.length s.size news∧∀i hi,qB M.H M.G s xs[i] (fun j=>news[i*s.size+j]?):=by
 obtain⟨news,h1,h2⟩:=Oq hv;refine⟨news,h1,fun i hi=>?_⟩;cases sh with
 |true=>simp_all
 |false=>exact Ow _ _ _ hs (h2 i hi)
theorem Zg {M}(ok:Ok M){t x ys u v}(hv:zQ M x v)(h:o6 M.h t x=some (ys,u)):
  u=[]∧∃news,Rd M.H v ys.length t.size news∧∀i hi,qB M.H M.G t ys[i] (fun j=>news[i*t.size+j]?):=by
 unfold o6 at h;split at h
 ·cases h;have e:v=.slice none 0 0:=hv;subst e;exact⟨rfl,EA⟩
 ·rename_i sh s xs;cases hs:(sh||s.flat) with
  |false=>simp_all
  |true=>
   rw[hs] at h;simp  at h;obtain⟨zs,hz,rfl,rfl⟩:=h;obtain⟨e,hz⟩:=iP hz;subst e;subst hz;exact⟨rfl,Zf hs hv⟩
 ·rename_i sh s xs;cases hs:(sh||s.flat) with
  |false=>rw[hs] at h;cases h
  |true=>
   rw[hs] at h;simp  at h;obtain⟨zs,hz,rfl,rfl⟩:=h;obtain⟨e,hz⟩:=iP hz;subst e;subst hz;exact⟨rfl,Zf hs hv.2⟩
 ·split at h
  ·rename_i own s xs ah;simp  at h;obtain⟨zs,hz,rfl,rfl⟩:=h;obtain⟨e,hz⟩:=iP hz;subst e;subst hz;obtain⟨C,hC,hO⟩:=ok.obj _ _ ah;exact⟨rfl,uH hC hO hv⟩
  ·cases h
 ·cases h
theorem vG7 {P M w}(ok:Ok M)(hM:M.H=w.heap){nm t e T ty x ys news}(hu:P.underlying t=some (.slice e))(dj:gX P e=some ty)(aO:M.h nm=none)
  (hx:Rd M.H x ys.length ty.size news) (hE:∀i hi,qB M.H M.G ty ys[i] (fun j=>news[i*ty.size+j]?)) (aS:ys.length*P.bytesOf e≤140737488355328∧ys.length≤140737488355328):
  qH P (Builtin.append_ #[t,t] T #[.slice none 0 0,x]) M w (.c (.osl nm none)) [(nm,.arr true ty ys)]:=by
 obtain⟨i,z,h1,h2,h3,h4,h5,h6,h7⟩:=nK dj;by_cases h0:ys.length=0
 ·have hy:ys=[]:=by grind
  subst hy;have hr:=nL (P:=P) (w:=w) (A:=none) (sLen:=0) (sCap:=0) T hu h1 h3 (by rw[←hM];exact hx) (by simp) w rfl;let C:zZ:=⟨none,0,ty.size,0,[]⟩;have:=zI.move_ok (M:=M) (nm:=nm) (o':=.arr true ty []) (C':=C) (h':=qX M.h nm (.arr true ty [])) (H':=M.H) ok (fun _=>False) aO (by simp) (yE _ _ _)
   (fun n' _ h2=>yJ _ _ h2) (by simp) (by simp) (by simp) (nofun) (fun x=>⟨rfl,rfl,by grind,rfl⟩)
  exact⟨_,_,M.move nm C (qX M.h nm (.arr true ty [])) M.H,hr,rfl,rfl,rfl,hM,rfl,this.1,this.2,C,κset_same _ _ _,_,_,rfl,rfl,rfl,rfl⟩
 ·have hb:Rd w.heap (.slice none 0 0) 0 ty.size []:=⟨none,0,rfl,by simp,by simp,rfl⟩;have hr:=Ot (P:=P) (w:=w) T hu h1 h2 h3 hb (by rw[←hM];exact hx) (by omega) (by simp_all) (by omega);simp  at hr;have hlen:news.length=ys.length*ty.size:=hx.choose_spec.choose_spec.2.1;have lO:=grownCap_ge w ys.length 0 e;refine Zd (u:=[]) ok hM aO (by simp) lO ?_ (fun i hi=>?_) hr ⟨rfl,rfl,rfl,rfl⟩
  ·simp[zo,h7,hlen,←Nat.add_mul];simp_all
  ·refine yR (by simp) (by simp) ty _ _ _ (fun j hj=>?_) (hE i hi);have:=Nat.mul_le_mul_right ty.size (show i+1≤ys.length by omega);grind
theorem Ox {P}{M w}(ok:Ok M)(hM:M.H=w.heap){id nm t e T ty x b fB ys r news}(hu:P.underlying t=some (.slice e))(dj:gX P e=some ty)
  (aO:M.h nm=none) (ah:M.h id=some (.arr true ty fB)) (hb:zQ M (.osl id r) b) (pv:match r with|none=>True|some (lo,_)=>lo=0)
  (hx:Rd M.H x ys.length ty.size news) (hE:∀i hi,qB M.H M.G ty ys[i] (fun j=>news[i*ty.size+j]?))
  (aS:((gC fB r).length+ys.length)*P.bytesOf e≤140737488355328∧(gC fB r).length+ys.length≤140737488355328):
  qH P (Builtin.append_ #[t,t] T #[b,x]) M w (.c (.osl nm none)) [(id,.gone),(nm,.arr true ty (gC fB r++ys))]:=by
 obtain⟨i,z,h1,h2,h3,h4,h5,h6,h7⟩:=nK dj;obtain⟨C,hC,hO⟩:=ok.obj id _ ah;obtain⟨olds,ho,hEo⟩:=uH hC hO hb;have hlen:news.length=ys.length*ty.size:=hx.choose_spec.choose_spec.2.1;have kz:olds.length=(gC fB r).length*ty.size:=ho.choose_spec.choose_spec.2.1;obtain⟨C',aw,hS⟩:=hb;rw[hC] at aw;cases aw;have lT:∃n,(gC fB r).length=n∧wE M.H C 0 n b:=by
  cases r with
  |none=>exact⟨C.len,by rw[hO.1];rfl,hS⟩
  |some p=>
   obtain⟨lo,n⟩:=p;have:lo=0:=pv;subst this;exact⟨n,y8 (by have:=hO.1;have:=hS.1;omega),hS.2.1⟩
 obtain⟨n,hn,A,sCap,rfl,lT⟩:=lT;rw[hn] at kz ho aS;have bb:=Ou (H:=M.H) (F:=M.G) (t:=ty) (xs:=gC fB r) (ys:=ys) (olds:=olds) (news:=news) (by rw[hn];exact kz) hEo hE;have nN:(gC fB r++ys).length=n+ys.length:=by rw[List.length_append,hn]
 by_cases cE:n+ys.length≤sCap
 ·
  cases hB:C.blk with
  |none=>
   rw[hB] at lT;obtain⟨rfl,rfl,rfl⟩:=lT;have hr:=nL (P:=P) (w:=w) (A:=none) (sLen:=0) (sCap:=0) T hu h1 h3 (by rw[←hM];exact hx) cE w rfl;rw[←nN] at hr;refine Ov (s:=Builtin.append_ #[t,t] T #[.slice none 0 0,x]) (H':=M.H) ok hM ah hC aO rfl (fun _ _=>rfl) (fun _=>rfl) (fun M' _ _ _=>?_) ?_ ⟨hM.symm,rfl,rfl,rfl⟩ hr
   ·rw[hB];exact List.eq_nil_of_length_eq_zero (by omega)
   ·rw[hB];exact⟨rfl,by omega,rfl⟩
  |some B=>
   rw[hB] at lT;obtain⟨hc,a,rfl,ha,hs⟩:=lT;obtain⟨k1,k2,k3,k4⟩:=hO;rw[hB] at k4;obtain⟨vals,ev,k5,k6,k7,k8⟩:=k4;rw[Nat.zero_mul] at ha;rw[Nat.zero_add,k2] at hs;have cC:qO M.H B=vals.size:=by simp only[qO,k5]
   rw[cC] at hs;have gG:w.heap[B]? =some (.cells vals ev (0,0)):=by rw[←hM];exact k5
   by_cases h0:sCap=0
   ·
    have ED:n=0:=by omega
    have Oy:ys.length=0:=by omega
    have hr := nL (P := P) (w := w) (A := some ⟨B, a, none⟩) (sLen := n) (sCap := sCap) T hu h1 h3 (by rw [← hM]; exact hx) cE w (by
     have:news=[]:=List.eq_nil_of_length_eq_zero (by rw[hlen,Oy,Nat.zero_mul]);rw[this];rfl)
    rw[←nN] at hr;have I8:gC fB r++ys=[]:=List.eq_nil_of_length_eq_zero (by omega);refine Ov (s:=Builtin.append_ #[t,t] T #[.slice (some ⟨B,a,none⟩) n sCap,x]) (H':=M.H) ok hM ah hC aO rfl (fun _ _=>rfl) (fun _=>rfl) (fun M' _ _ _=>?_) ?_ ⟨hM.symm,rfl,rfl,rfl⟩ hr
    ·rw[hB];refine⟨vals,ev,k5,by rw[I8];simp,fun i hi=>?_⟩;rw[I8] at hi;simp at hi
    ·rw[hB];exact⟨by omega,a,rfl,.inl h0,by rw[h0];simp⟩
   ·have kX:a=0:=by rcases ha with ha|ha<;>omega
    subst kX;have hle:=Nat.mul_le_mul_right ty.size cE;rw[Nat.add_mul] at hle;have aG:n*ty.size+news.length≤vals.size:=by omega
    have gD:=run_storeCells_at (P:=P) B (n*ty.size) ev news 0 vals w gG (by simpa using aG) (fun v hv=>uv (hx.choose_spec.choose_spec.2.2.1 v hv));simp only[Nat.add_zero] at gD;have hr:=nL (P:=P) (w:=w) (A:=some ⟨B,0,none⟩) (sLen:=n) (sCap:=sCap) T hu h1 h3 (by rw[←hM];exact hx) cE (w.setRow B (yK vals (n*ty.size) news)) (by show(storeCells (Addr.add ⟨B,0,none⟩ (n*ty.size)) news).run P w=_;rw[Addr.add_lit,Nat.zero_add];exact gD);rw[←nN] at hr;obtain⟨f1,f2,f3,f4⟩:=lQ gG (new:=yK vals (n*ty.size) news) (fa aG);refine Ov (s:=Builtin.append_ #[t,t] T #[.slice (some ⟨B,0,none⟩) n sCap,x]) (H':=(w.setRow B (yK vals (n*ty.size) news)).heap) ok hM ah hC aO (by rw[hM];exact f1)
     (fun b hb=>by rw[hM];exact f3 b fun e=>hb (e▸jR hB)) (fun b=>by rw[hM];exact f4 b) (fun M' xt hH hG=>?_) ?_ ⟨rfl,rfl,rfl,rfl⟩ hr
    ·rw[hB];refine⟨_,ev,f2,by rw[nN,fa aG,Nat.add_mul];omega,fun i hi=>?_⟩;refine yR xt.G xt.sameG ty _ _ _ (fun j hj=>?_) (bb i hi);have aU:=Nat.mul_le_mul_right ty.size (show i+1≤n+ys.length by omega);rw[Nat.add_mul,Nat.add_mul] at aU;rw[wO aG];by_cases bd:i*ty.size+j<n*ty.size
     ·rw[if_pos bd,List.getElem?_append_left (by omega)];obtain⟨A',c',e1,_,_,hold⟩:=ho;simp only[Value.slice.injEq] at e1;obtain⟨rfl,_,rfl⟩:=e1;rcases hold with ED|⟨_,hold⟩
      ·rw[ED] at bd;omega
      ·have uI:i*ty.size+j<olds.length:=by omega
       have:=hold (i*ty.size+j) olds[i*ty.size+j] (List.getElem?_eq_getElem uI);rw[List.getElem?_eq_getElem uI,←this];simp only[yH,k5,Nat.zero_add]
     ·rw[if_neg bd,if_pos (by omega),List.getElem?_append_right (by omega),kz]
    ·rw[hB];exact by grind
 ·
  have hr:=Ot (P:=P) (w:=w) T hu h1 h2 h3 (by rw[←hM];exact ho) (by rw[←hM];exact hx) (by omega) (by rw[h6] at aS;exact aS.1) aS.2;have lO:=grownCap_ge w (n+ys.length) sCap e;rw[←nN] at hr lO;refine Zd (s:=Builtin.append_ #[t,t] T #[.slice A n sCap,x]) (u:=[(id,.gone)]) ok hM aO (fun p hp=>?_) lO ?_ (fun i hi=>?_) hr ⟨rfl,rfl,rfl,rfl⟩
  ·simp only[List.mem_singleton] at hp;subst hp;exact⟨rfl,_,ah,rfl⟩
  ·simp only[Array.size_append,List.size_toArray,zo,h7,hlen,kz,←Nat.add_mul];exact Nat.le_of_eq (by congr 1;omega)
  ·refine yR (fun _ h=>h) (fun _ _=>rfl) ty _ _ _ (fun j hj=>?_) (bb i hi);have:=Nat.mul_le_mul_right ty.size (show i+1≤n+ys.length by omega);rw[Nat.add_mul,Nat.add_mul] at this;rw[Array.getElem?_append_left (by simp;omega)];simp
def zp (H:Array Go.Obj)(row:List Int)(m:Option (Option Nat×Nat))(c:Option Value):Prop:=∃rb v,m=some (rb,row.length)∧c=some v∧kp H rb row.length v∧
 (∀R,rb=some R→∃rv er,H[R]? =some (.cells rv er (0,0))∧∀j (h':j<row.length),rv[j]? =some (.int .i64 row[j]))
theorem Zh {M ver xs C}(h:yP M (.mat ver xs) C):C.len=xs.length∧C.sz=1∧C.rows.length=xs.length∧C.fp.Nodup∧
  ∃cw:List Value,cw.length=xs.length∧(∀k (h:k<xs.length),zp M.H xs[k] C.rows[k]? cw[k]?)∧
   (match C.blk with
    |none=>xs=[]
    |some B=>∃vals e,M.H[B]? =some (.cells vals e (0,0))∧xs.length≤vals.size∧∀k,k<xs.length→vals[k]? =cw[k]?):=by
 obtain⟨h1,h2,h3,h4,h5,h6⟩:=h;refine⟨h2,h3,h4,h5,?_⟩;cases hB:C.blk with
 |none=>
  simp_all
 |some B=>
  rw[hB] at h6;obtain⟨vals,e,h7,h8,h9⟩:=h6;refine⟨vals.toList.take xs.length,by simp;omega,fun k hk=>?_,vals,e,h7,h8,by grind⟩;obtain⟨rb,v,k1,k2,k3,k4⟩:=h9 k hk;exact⟨rb,v,k1,by grind,k3,k4⟩
theorem zp.one {H row m v}(h:zp H row m (some v)):v.one1=true:=by
 obtain⟨rb,v',_,e,h,_⟩:=h;cases e;exact h.one
theorem Zi {M}{xs:List (List Int)}{C id v}(hC:M.κ id=some C)(hv:zQ M (.osl id none) v){cw}(hl:cw.length=xs.length)(hlen:C.len=xs.length)(df:C.sz=1)
  (cc : ∀ u ∈ cw, u.one1 = true) (hb:match C.blk with
    |none=>xs=[]
    |some B=>∃vals e,M.H[B]? =some (.cells vals e (0,0))∧xs.length≤vals.size∧∀k,k<xs.length→vals[k]? =cw[k]?):Rd M.H v xs.length 1 cw:=by
 obtain⟨C',aw,A,c,rfl,hS⟩:=hv;rw[hC] at aw;cases aw;rw[hlen];refine⟨A,c,rfl,by omega,cc,?_⟩;cases hB:C.blk with
 |none=>
  simp_all
 |some B=>
  rw[hB] at hS hb;obtain⟨hc,a,rfl,ha,_⟩:=hS;obtain⟨vals,e,h1,h2,h3⟩:=hb;by_cases h0:xs.length=0
  ·omega
  ·refine .inr ⟨rfl,fun j u hu=>?_⟩;have kX:a=0:=by omega
   have hj:j<xs.length:=by
    grind
   simp[yH];simp_all
theorem Zj {C D:zZ}(hC:C.fp.Nodup)(hD:D.fp.Nodup)(dE:∀b,b∈C.fp→b∉D.fp):((C.rows++D.rows).filterMap (·.1)).Nodup:=by
 rw[List.filterMap_append];refine List.nodup_append.2 ⟨(List.nodup_append.1 hC).2.1,(List.nodup_append.1 hD).2.1,fun a ha b hb e=>?_⟩;exact dE a (by simp[zZ.fp];simp_all) (by simp[zZ.fp];simp_all)
theorem Jb {P M w w'}(ok:Ok M)(hM:M.H=w.heap){id jd nm v1 v2 xs ys C Cj C' s A c H'}
  (ah:M.h id=some (.mat v1 xs)) (cM:M.h jd=some (.mat v2 ys)) (bj:id≠jd) (hC:M.κ id=some C) (dO:M.κ jd=some Cj) (aO:M.h nm=none) (df:M.H.size≤H'.size)
  (hH:∀b,b<M.H.size→C.blk≠some b→H'[b]? =M.H[b]?) (cC:∀b,b<M.H.size→qO H' b=qO M.H b)
  (hl:C'.len=(xs++ys).length) (zq:C'.sz=1) (uJ:C'.ver=0) (kA:C'.rows=C.rows++Cj.rows) (Oz:∀B,C'.blk=some B→(M.H.size≤B∧B<H'.size)∨C.blk=some B)
  (hx:match C'.blk with
   |none=>xs++ys=[]
   |some B=>∃vals e,H'[B]? =some (.cells vals e (0,0))∧(xs++ys).length≤vals.size∧∀k (h:k<(xs++ys).length),zp M.H (xs++ys)[k] (C.rows++Cj.rows)[k]? vals[k]?)
  (hA:wE H' C' 0 C'.len (.slice A (xs++ys).length c))
  (hw:w'.heap=H'∧w'.os=w.os∧w'.tape=w.tape∧w'.output=w.output) (hr:s.run P w=.ok (.slice A (xs++ys).length c) w'):
  qH P s M w (.c (.osl nm none)) [(id,.gone),(jd,.gone),(nm,.mat 0 (xs++ys))]:=by
 obtain⟨C0,nM,hO⟩:=ok.obj id _ ah;rw[hC] at nM;cases nM;obtain⟨C1,fV,kY⟩:=ok.obj jd _ cM;rw[dO] at fV;cases fV;have OA:=hO.2.2.2.2.1;have Zk:=kY.2.2.2.2.1;have dE:∀b,b∈C.fp→b∉Cj.fp:=fun b h1 h2=>ok.disj id jd _ _ C Cj b bj ah cM rfl rfl hC dO h1 h2
 have Jc:id≠nm:=by grind
 have hnj:jd≠nm:=by grind
 have hh:∀n',(qF M.h [(id,.gone),(jd,.gone),(nm,.mat 0 (xs++ys))]) n'=if n'=nm then some (.mat 0 (xs++ys)) else if n'=jd then some .gone else if n'=id then some .gone else M.h n':=fun n'=>by
  show(qX (qX (qX M.h id .gone) jd .gone) nm _) n'=_;by_cases e:n'=nm
  ·rw[if_pos e,e,yE]
  ·rw[if_neg e,yJ _ _ e];by_cases e2:n'=jd
   ·rw[if_pos e2,e2,yE]
   ·rw[if_neg e2,yJ _ _ e2];by_cases e3:n'=id
    ·rw[if_pos e3,e3,yE]
    ·rw[if_neg e3,yJ _ _ e3]
 have EE:∀b∈C.fp,b<M.H.size:=fun b hb=>(ok.own b ⟨id,_,C,ah,rfl,hC,hb⟩).2
 have EF:∀b∈Cj.fp,b<M.H.size:=fun b hb=>(ok.own b ⟨jd,_,Cj,cM,rfl,dO,hb⟩).2
 have dD:∀R∈(C.rows++Cj.rows).filterMap (·.1),R∈C.fp∧C.blk≠some R∨R∈Cj.fp:=fun R hR=>by
  rw[List.filterMap_append] at hR;rcases List.mem_append.1 hR with h|h
  ·refine .inl ⟨by simp only[zZ.fp,List.mem_append];exact .inr h,fun e=>?_⟩;exact(List.nodup_append.1 OA).2.2 R (by simp[e]) R h rfl
  ·exact .inr (by simp only[zZ.fp,List.mem_append];exact .inr h)
 have EG:∀R∈(C.rows++Cj.rows).filterMap (·.1),R<M.H.size∧C.blk≠some R:=fun R hR=>by
  rcases dD R hR with⟨h1,h2⟩|h
  ·exact⟨EE R h1,h2⟩
  ·exact⟨EF R h,fun e=>dE R (jR e) h⟩
 have nd':C'.fp.Nodup:=by
  simp only[zZ.fp,kA];cases hB:C'.blk with
  |none=>simpa using Zj OA Zk dE
  |some B=>
   simp only[Option.toList_some,List.singleton_append];refine List.nodup_cons.2 ⟨fun hm=>?_,Zj OA Zk dE⟩;grind
 have:=zI.move_ok (M:=M) (nm:=nm) (o':=.mat 0 (xs++ys)) (C':=C') (h':=qF M.h [(id,.gone),(jd,.gone),(nm,.mat 0 (xs++ys))]) (H':=H') ok (fun j=>j=id∨j=jd) aO
  (fun j hj=>by
   rcases hj with rfl|rfl
   ·exact⟨_,ah,rfl,by rw[hh,if_neg Jc,if_neg bj,if_pos rfl]⟩
   ·exact⟨_,cM,rfl,by rw[hh,if_neg hnj,if_pos rfl]⟩)
  (by rw[hh,if_pos rfl]) (fun n' h1 h2=>by rw[hh,if_neg h2,if_neg (fun e=>h1 (.inr e)),if_neg (fun e=>h1 (.inl e))]) df
  (fun b hb hn=>hH b hb fun e=>hn id C (.inl rfl) hC (jR e)) cC
  (fun b hb=>by
   simp only[zZ.fp,kA,List.mem_append] at hb;rcases hb with hb|hb
   ·cases hB:C'.blk with
    |none=>rw[hB] at hb;simp at hb
    |some B=>
     rw[hB] at hb;simp at hb;subst hb;rcases Oz b hB with h|h
     ·exact .inl h
     ·exact .inr ⟨id,C,.inl rfl,hC,jR h⟩
   simp_all)
  (fun x=>by
   refine⟨uJ,hl,zq,?_,nd',?_⟩
   ·rw[kA,List.length_append,hO.2.2.2.1,kY.2.2.2.1,List.length_append]
   ·cases hB:C'.blk with
    |none=>rw[hB] at hx;exact hx
    |some B=>
     rw[hB] at hx;obtain⟨vals,e,k1,k2,k3⟩:=hx;refine⟨vals,e,k1,k2,fun k hk=>?_⟩;obtain⟨rb,v,q1,q2,q3,q4⟩:=k3 k hk;refine⟨rb,v,by rw[kA];exact q1,q2,q3.ext x,fun R hR=>?_⟩;obtain⟨rv,er,q5,q6⟩:=q4 R hR;have Zl:=EG R (List.mem_filterMap.2 ⟨_,List.mem_of_getElem? q1,hR⟩);exact⟨rv,er,by show H'[R]? =_;rw[hH R Zl.1 Zl.2];exact q5,q6⟩)
 exact⟨_,_,M.move nm C' (qF M.h [(id,.gone),(jd,.gone),(nm,.mat 0 (xs++ys))]) H',hr,hw.2.1,hw.2.2.1,hw.2.2.2,hw.1.symm,rfl,this.1,this.2,C',κset_same _ _ _,by rw[hl] at hA⊢;exact hA⟩
theorem OB {H}{xs:List (List Int)}{rc:List (Option Nat×Nat)}{cw:List Value}(hl:cw.length=xs.length)(h:∀k (h:k<xs.length),zp H xs[k] rc[k]? cw[k]?):∀u∈cw,u.one1=true:=by
 intro u hu;obtain⟨k,hk,rfl⟩:=List.getElem_of_mem hu;have:=h k (by omega);rw[List.getElem?_eq_getElem hk] at this;exact this.one
theorem vJu {P M w}(ok:Ok M)(hM:M.H=w.heap){id jd nm v1 v2 t e T x b xs ys}(hu:P.underlying t=some (.slice e))(dj:gX P e=some (.sl (.int .i64)))
  (aO:M.h nm=none) (ah:M.h id=some (.mat v1 xs)) (cM:M.h jd=some (.mat v2 ys)) (bj:id≠jd) (hb:zQ M (.osl id none) b) (hx:zQ M (.osl jd none) x)
  (aS:(xs.length+ys.length)*P.bytesOf e≤140737488355328∧xs.length+ys.length≤140737488355328):
  qH P (Builtin.append_ #[t,t] T #[b,x]) M w (.c (.osl nm none)) [(id,.gone),(jd,.gone),(nm,.mat 0 (xs++ys))]:=by
 obtain⟨i,z,h1,h2,h3,h4,h5,h6,h7⟩:=nK dj;obtain⟨C,hC,hO⟩:=ok.obj id _ ah;obtain⟨Cj,dO,kY⟩:=ok.obj jd _ cM;obtain⟨a1,a2,a3,a4,olds,a5,a6,a7⟩:=Zh hO;obtain⟨b1,b2,b3,b4,news,b5,b6,b7⟩:=Zh kY;have ho:=Zi hC hb a5 a1 a2 (OB a5 a6) a7;have hn:=Zi dO hx b5 b1 b2 (OB b5 b6) b7;have nN:(xs++ys).length=xs.length+ys.length:=List.length_append;have cc:=OB b5 b6;have bb:∀k (h:k<(xs++ys).length),zp M.H (xs++ys)[k] (C.rows++Cj.rows)[k]? (olds++news)[k]? :=by
  intro k hk;by_cases bd:k<xs.length
  ·rw[List.getElem_append_left bd,List.getElem?_append_left (by omega),List.getElem?_append_left (by omega)];exact a6 k bd
  ·rw[List.getElem_append_right (by omega),List.getElem?_append_right (by omega),List.getElem?_append_right (by omega),a3,a5];exact b6 _ (by omega)
 obtain⟨C',aw,A,sCap,rfl,lT⟩:=hb;rw[hC] at aw;cases aw;rw[a1] at ho lT;have px:i.size=1:=h3;have Og:z.cells.size=1:=h7;by_cases cE:xs.length+ys.length≤sCap
 ·cases hB:C.blk with
  |none=>
   rw[hB] at lT;obtain⟨rfl,h0,rfl⟩:=lT;have hr:=nL (P:=P) (w:=w) (A:=none) (sLen:=xs.length) (sCap:=0) T hu h1 px (by rw[←hM];exact hn) cE w rfl;rw[←nN] at hr;have cA:xs++ys=[]:=List.eq_nil_of_length_eq_zero (by omega);rw[a1];refine Jb (C':=⟨none,(xs++ys).length,1,0,C.rows++Cj.rows⟩) (H':=M.H) ok hM ah cM bj hC dO aO (Nat.le_refl _) (fun _ _ _=>rfl) (fun _ _=>rfl) rfl rfl rfl rfl (fun B hB=>by cases hB) cA ⟨none,0,rfl,rfl,(by show(xs++ys).length=0;omega),rfl⟩ ⟨hM.symm,rfl,rfl,rfl⟩ hr
  |some B=>
   rw[hB] at lT a7;obtain⟨hc,a,rfl,ha,hs⟩:=lT;obtain⟨vals,ev,k5,k6,k7⟩:=a7;rw[Nat.zero_mul] at ha;rw[Nat.zero_add,a2,Nat.mul_one] at hs;have cC:qO M.H B=vals.size:=by simp only[qO,k5]
   rw[cC] at hs;have gG:w.heap[B]? =some (.cells vals ev (0,0)):=by rw[←hM];exact k5
   by_cases h0:sCap=0
   ·have hr := nL (P := P) (w := w) (A := some ⟨B, a, none⟩) (sLen := xs.length) (sCap := sCap) T hu h1 px (by rw [← hM]; exact hn) cE w (by
     have:news=[]:=List.eq_nil_of_length_eq_zero (by omega);rw[this];rfl)
    rw[←nN] at hr;have cA:xs++ys=[]:=List.eq_nil_of_length_eq_zero (by omega);rw[a1];refine Jb (C':=⟨some B,(xs++ys).length,1,0,C.rows++Cj.rows⟩) (H':=M.H) ok hM ah cM bj hC dO aO (Nat.le_refl _) (fun _ _ _=>rfl) (fun _ _=>rfl) rfl rfl rfl rfl (fun B' ic=>.inr (by cases ic;exact hB))
     ⟨vals,ev,k5,by rw[cA];simp,fun k hk=>by rw[cA] at hk;simp at hk⟩ ⟨_,sCap,rfl,(by show(xs++ys).length≤sCap;omega),a,rfl,.inl h0,by rw[h0];simp⟩ ⟨hM.symm,rfl,rfl,rfl⟩ hr
   ·have kX:a=0:=by rcases ha with ha|ha<;>omega
    subst kX;have aG:xs.length+news.length≤vals.size:=by omega
    have gD:=run_storeCells_at (P:=P) B xs.length ev news 0 vals w gG (by simpa using aG) (fun v hv=>uv (cc v hv));simp only[Nat.add_zero] at gD;have hr:=nL (P:=P) (w:=w) (A:=some ⟨B,0,none⟩) (sLen:=xs.length) (sCap:=sCap) T hu h1 px (by rw[←hM];exact hn) cE (w.setRow B (yK vals xs.length news))
     (by show(storeCells (Addr.add ⟨B,0,none⟩ (xs.length*1)) news).run P w=_;rw[Addr.add_lit,Nat.zero_add,Nat.mul_one];exact gD)
    rw[←nN] at hr;obtain⟨f1,f2,f3,f4⟩:=lQ gG (new:=yK vals xs.length news) (fa aG);rw[a1];refine Jb (C':=⟨some B,(xs++ys).length,1,0,C.rows++Cj.rows⟩) (H':=(w.setRow B (yK vals xs.length news)).heap) ok hM ah cM bj hC dO aO (by rw[hM,f1];exact Nat.le_refl _) (fun b hb hn=>by rw[hM];exact f3 b fun e=>hn (e▸hB))
     (fun b _=>by rw[hM];exact f4 b) rfl rfl rfl rfl (fun B' ic=>.inr (by cases ic;exact hB)) ⟨_,ev,f2,by rw[fa aG];omega,fun k hk=>?_⟩ ⟨_,sCap,rfl,(by show(xs++ys).length≤sCap;omega),0,rfl,.inr (by simp),by show(0+sCap)*1≤qO _ B;rw[f4,←hM,cC];omega⟩ ⟨rfl,rfl,rfl,rfl⟩ hr
    have:=bb k hk;rw[wO aG];by_cases bd:k<xs.length
    ·rw[if_pos bd,k7 k bd];rw[List.getElem?_append_left (l₁:=olds) (by omega)] at this;exact this
    ·rw[if_neg bd,if_pos (by omega)];rw[List.getElem?_append_right (l₁:=olds) (by omega),a5] at this;exact this
 ·have hr:=Ot (P:=P) (w:=w) T hu h1 h2 px (by rw[←hM];exact ho) (by rw[←hM];exact hn) (by omega) (by rw[h6] at aS;exact aS.1) aS.2;have lO:=grownCap_ge w (xs.length+ys.length) sCap e;rw[←nN] at hr lO;generalize lP:olds.toArray++news.toArray++Builtin.zeroCells z.cells (grownCap w (xs++ys).length sCap e-(xs++ys).length)=us at hr;have OC:us.size=grownCap w (xs++ys).length sCap e:=by
   rw[←lP];simp only[Array.size_append,List.size_toArray,zo,Og];omega
  have OD:∀k,k<(xs++ys).length→us[k]? =(olds++news)[k]? :=fun k hk=>by
   rw[←lP,Array.getElem?_append_left (by simp;omega)];simp
  have hbz:∀us:Array Value,qO (M.H.push (.cells us e)) M.H.size=us.size:=fun us=>by simp[qO]
  rw[a1];refine Jb (C':=⟨some M.H.size,(xs++ys).length,1,0,C.rows++Cj.rows⟩) (H':=M.H.push (.cells us e)) (w':=w.drew.alloc (.cells us e)) ok hM ah cM bj hC dO aO (by simp) (fun b hb _=>mz hb) (fun b hb=>yv (mz hb)) rfl rfl rfl rfl
   (fun B' ic=>.inl (by cases ic;exact⟨Nat.le_refl _,by simp⟩)) ⟨us,e,uu,by omega,fun k hk=>?_⟩ ⟨_,_,rfl,lO,0,by rw[hM],.inr (by simp),(by rw[hbz,OC];show(0+_)*1≤_;omega)⟩ ⟨(by rw[hM];rfl),rfl,rfl,rfl⟩ hr
  rw[OD k hk];exact bb k hk
theorem uK {c s v u}(h:yC (bif c then s else .stuck) v u):c=true∧yC s v u:=by
 cases c with
 |true=>simp_all
 |false=>exact h.elim
theorem Zm {c a b v u}(h:yC (bif c then a else b) v u):(c=true∧yC a v u)∨(c=false∧yC b v u):=by
 grind
theorem Zn {z:Value}{t}(h:z.cells.toList=fy t)(hs:z.cells.size=t.size){n i j}(hj:j<t.size)(hi:i<n):(Builtin.zeroCells z.cells n).toList[i*t.size+j]? =(fy t)[j]? :=by
 have aU:=Nat.mul_le_mul_right t.size (show i+1≤n by omega);rw[List.getElem?_eq_getElem (l:=fy t) (by grind),←YY h hs (i:=i) hj];simp[Builtin.zeroCells];grind
theorem yW0 {z:Value}{t}(h:z.cells.toList=fy t)(hs:z.cells.size=t.size){n}:∀v∈(Builtin.zeroCells z.cells n).toList,v.one1=true:=by
 intro v hv;have hz:∀u∈fy t,u.one1=true:=by
  clear h hs hv
  induction t with
  |pair a b zj zk=>
   intro u hu;rcases List.mem_append.1 hu with hu|hu
   all_goals simp_all
  |_=>
   intro u hu;rw[List.mem_singleton.1 hu];rfl
 obtain⟨k,hk,rfl⟩:=List.getElem_of_mem hv;have I1:k<n*t.size:=by rw[Array.length_toList,zo,hs] at hk;exact hk
 have h0:=t.size_pos;have := Zn h hs (n := n) (i := k / t.size) (j := k % t.size) (Nat.mod_lt _ h0) (by
  rw[Nat.div_lt_iff_lt_mul h0];omega)
 rw[Nat.div_add_mod' k t.size,List.getElem?_eq_getElem hk,List.getElem?_eq_getElem (by grind),Option.some.injEq] at this;simp_all
theorem OE {P}{M:zI}{w:World}(ok:Ok M)(hM:M.H=w.heap){id nm n':Nat}{t:Ty}{fB zs}{C:zZ}{H'}{s:Sem Value}{c:Nat}{A:Option Addr}{w':World}
  (ah:M.h id=some (.arr true t fB)) (hC:M.κ id=some C) (aO:M.h nm=none) (df:H'.size=M.H.size) (hH:∀b,b∉C.fp→H'[b]? =M.H[b]?) (cC:∀b,qO H' b=qO M.H b)
  (hx:∀M',yF M M'→M'.H=H'→M'.G=M.G→match C.blk with
   |none=>zs=[]
   |some B=>∃vals e,H'[B]? =some (.cells vals e (0,0))∧zs.length*t.size≤vals.size∧∀i (h:i<zs.length),qB M'.H M'.G t zs[i] (fun j=>vals[i*t.size+j]?))
  (hn : n' ≤ zs.length) (hc : zs.length ≤ c) (hA:match C.blk with
   |none=>A=none∧n'=0∧c=0
   |some B=>∃a,A=some ⟨B,a,none⟩∧(c=0∨a=0)∧c*t.size≤qO M.H B)
  (hw:w'.heap=H'∧w'.os=w.os∧w'.tape=w.tape∧w'.output=w.output) (hr:s.run P w=.ok (.slice A n' c) w'):
  qH P s M w (.c (.osl nm (some (0,n')))) [(id,.gone),(nm,.arr true t zs)]:=by
 obtain⟨C0,nM,hO⟩:=ok.obj id _ ah;rw[hC] at nM;cases nM;obtain⟨fr,ff⟩:=Em hO;have bj:id≠nm:=fun e=>by simp_all
 let C':zZ:=⟨C.blk,zs.length,t.size,0,[]⟩;have hh:∀n',(qF M.h [(id,.gone),(nm,.arr true t zs)]) n'=if n'=nm then some (.arr true t zs) else if n'=id then some .gone else M.h n':=fun n'=>by
  show(qX (qX M.h id .gone) nm _) n'=_;by_cases e:n'=nm
  ·rw[if_pos e,e,yE]
  ·rw[if_neg e,yJ _ _ e];by_cases e2:n'=id
   ·rw[if_pos e2,e2,yE]
   ·rw[if_neg e2,yJ _ _ e2]
 have:=zI.move_ok (M:=M) (nm:=nm) (o':=.arr true t zs) (C':=C') (h':=qF M.h [(id,.gone),(nm,.arr true t zs)]) (H':=H') ok (fun j=>j=id) aO
  (fun j hj=>⟨.arr true t fB,by rw[hj];exact ah,rfl,by simp_all⟩)
  (by rw[hh,if_pos rfl]) (by grind) (by omega) (fun b hb hn=>hH b (hn id C rfl hC)) (fun b _=>cC b)
  (fun b hb=>.inr ⟨id,C,rfl,hC,by
   simp only[C',zZ.fp,List.filterMap_nil,List.append_nil] at hb;rw[ff];exact hb⟩)
  (fun x=>by
   refine⟨rfl,rfl,fun _=>rfl,?_⟩;have:=hx _ x rfl rfl;cases hB:C.blk with
   |none=>simp_all
   |some B=>
    rw[hB] at this;obtain⟨vals,e,h1,h2,h3⟩:=this;exact⟨vals,e,h1,by simp,h2,h3⟩)
 refine⟨_,_,_,hr,hw.2.1,hw.2.2.1,hw.2.2.2,by rw[hw.1];rfl,rfl,this.1,this.2,C',κset_same _ _ _,by grind,⟨_,c,rfl,?_⟩,_,_,_,rfl,by grind⟩;show match C.blk with
  |none=>_
  |some B=>_
 cases hB:C.blk with
 |none=>rw[hB] at hA;exact hA
 |some B=>
  rw[hB] at hA;obtain⟨a,h2,h3,h4⟩:=hA;refine⟨by omega,a,h2,by simpa using h3,?_⟩;show(0+c)*t.size≤qO H' B;simp_all
theorem vAs {P}{M w}(ok:Ok M)(hM:M.H=w.heap){id nm i j m t e T ty x b xs}(hu:P.underlying t=some (.slice e))(dj:gX P e=some ty)
  (aO:M.h nm=none) (ah:M.h id=some (.arr true ty xs)) (hb:zQ M (.osl id (some (0,i))) b) (hx:zQ M (.osl id (some (j,m))) x) (jb:i≤j):
  qH P (Builtin.append_ #[t,t] T #[b,x]) M w (.c (.osl nm (some (0,i+m)))) [(id,.gone),(nm,.arr true ty (xs.take i++qW xs j m++xs.drop (i+m)))]:=by
 obtain⟨inf,z,h1,h2,h3,h4,h5,h6,h7⟩:=nK dj;obtain⟨C,hC,hO⟩:=ok.obj id _ ah;obtain⟨news,hR,hE⟩:=uH hC hO hx;obtain⟨C1,fV,cS,_⟩:=hx;rw[hC] at fV;cases fV;obtain⟨C1,fV,gE,⟨A,c,rfl,hS⟩,fU⟩:=hb;rw[hC] at fV;cases fV;obtain⟨_,_,_,fU,Ev⟩:=fU;cases fU;have hlen:=hO.1;have lU:(gC xs (some (j,m))).length=m:=y8 (by omega);rw[lU] at hR;have Jd:news.length=m*ty.size:=hR.choose_spec.choose_spec.2.1;have py:(qW xs j m).length=m:=lU;have pz:(xs.take i).length=i:=by rw[List.length_take];omega
 have EH:(xs.take i++qW xs j m++xs.drop (i+m)).length=xs.length:=by
  rw[List.length_append,List.length_append,py,pz,List.length_drop];omega
 have aS:i+m≤c:=by omega
 cases hB:C.blk with
 |none=>
  rw[hB] at hS;obtain⟨rfl,rfl,rfl⟩:=hS;have hr:=nL (P:=P) (w:=w) (A:=none) (sLen:=0) (sCap:=0) T hu h1 h3 (by rw[←hM];exact hR) aS w rfl;refine OE (s:=Builtin.append_ #[t,t] T #[.slice none 0 0,x]) (H':=M.H) ok hM ah hC aO rfl (fun _ _=>rfl) (fun _=>rfl) (fun M' _ _ _=>?_) (by omega) (by omega) ?_ ⟨hM.symm,rfl,rfl,rfl⟩ hr
  ·rw[hB];exact List.eq_nil_of_length_eq_zero (by omega)
  ·rw[hB];exact⟨rfl,by omega,rfl⟩
 |some B=>
  rw[hB] at hS;obtain⟨hc,a,rfl,ha,hs⟩:=hS;obtain⟨k1,k2,k3,k4⟩:=hO;rw[hB] at k4;obtain⟨vals,ev,k5,k6,k7,k8⟩:=k4;rw[Nat.zero_mul] at ha;rw[Nat.zero_add,k2] at hs;have cC:qO M.H B=vals.size:=by simp only[qO,k5]
  have gG:w.heap[B]? =some (.cells vals ev (0,0)):=by rw[←hM];exact k5
  by_cases h0:c=0
  ·have hm0:m=0:=by omega
   have hr := nL (P := P) (w := w) (A := some ⟨B, a, none⟩) (sLen := i) (sCap := c) T hu h1 h3 (by rw [← hM]; exact hR) aS w (by
    have:news=[]:=List.eq_nil_of_length_eq_zero (by rw[Jd,hm0,Nat.zero_mul]);rw[this];rfl)
   refine OE (s:=Builtin.append_ #[t,t] T #[.slice (some ⟨B,a,none⟩) i c,x]) (H':=M.H) ok hM ah hC aO rfl (fun _ _=>rfl) (fun _=>rfl) (fun M' _ _ _=>?_) (by omega) (by omega) ?_ ⟨hM.symm,rfl,rfl,rfl⟩ hr
   ·rw[hB];refine⟨vals,ev,k5,by rw[EH];exact k7,fun p hp=>?_⟩;rw[EH] at hp;omega
   ·rw[hB];exact⟨a,rfl,.inl h0,by rw[h0];simp⟩
  ·have kX:a=0:=by rcases ha with ha|ha<;>omega
   subst kX;have hle:=Nat.mul_le_mul_right ty.size (show i+m≤xs.length by omega);rw[Nat.add_mul] at hle;have aG:i*ty.size+news.length≤vals.size:=by omega
   have gD:=run_storeCells_at (P:=P) B (i*ty.size) ev news 0 vals w gG (by simpa using aG) (fun v hv=>uv (hR.choose_spec.choose_spec.2.2.1 v hv));simp only[Nat.add_zero] at gD;have hr:=nL (P:=P) (w:=w) (A:=some ⟨B,0,none⟩) (sLen:=i) (sCap:=c) T hu h1 h3 (by rw[←hM];exact hR) aS (w.setRow B (yK vals (i*ty.size) news)) (by show(storeCells (Addr.add ⟨B,0,none⟩ (i*ty.size)) news).run P w=_;rw[Addr.add_lit,Nat.zero_add];exact gD);obtain⟨f1,f2,f3,f4⟩:=lQ gG (new:=yK vals (i*ty.size) news) (fa aG);refine OE (s:=Builtin.append_ #[t,t] T #[.slice (some ⟨B,0,none⟩) i c,x]) (H':=(w.setRow B (yK vals (i*ty.size) news)).heap) ok hM ah hC aO (by rw[hM];exact f1)
    (fun b hb=>by rw[hM];exact f3 b fun e=>hb (e▸jR hB)) (fun b=>by rw[hM];exact f4 b) (fun M' xt hH hG=>?_) (by omega) (by omega) ?_ ⟨rfl,rfl,rfl,rfl⟩ hr
   ·rw[hB];refine⟨_,ev,f2,by rw[EH,fa aG];exact k7,fun p hp=>?_⟩;rw[EH] at hp;have aU:=Nat.mul_le_mul_right ty.size (show p+1≤xs.length by omega);rw[Nat.add_mul] at aU;have uL:(xs.take i++qW xs j m++xs.drop (i+m))[p]? =xs[p]? →(∀q,q<ty.size→(yK vals (i*ty.size) news)[p*ty.size+q]? =vals[p*ty.size+q]?)→qB M'.H M'.G ty ((xs.take i++qW xs j m++xs.drop (i+m))[p]'(by omega)) (fun q=>(yK vals (i*ty.size) news)[p*ty.size+q]?):=fun e1 e2=>by
     have e3:(xs.take i++qW xs j m++xs.drop (i+m))[p]'(by omega)=xs[p]:=by
      rw[List.getElem?_eq_getElem (by omega),List.getElem?_eq_getElem hp,Option.some.injEq] at e1;exact e1
     rw[e3];exact yR xt.G xt.sameG ty _ _ _ e2 (k8 p hp)
    by_cases Je:p<i
    ·refine uL ?_ fun q hq=>?_
     ·rw[List.append_assoc,List.getElem?_append_left (by omega),List.getElem?_take,if_pos Je]
     ·have:=Nat.mul_le_mul_right ty.size (show p+1≤i by omega);rw[Nat.add_mul] at this;rw[wO aG,if_pos (by omega)]
    ·by_cases EI:p<i+m
     ·have e3:(xs.take i++qW xs j m++xs.drop (i+m))[p]'(by omega)=(gC xs (some (j,m)))[p-i]'(by omega):=by
       rw[List.getElem_append_left (by rw[List.length_append,pz,py];exact EI),List.getElem_append_right (by omega)];simp only[pz];rfl
      rw[e3];refine yR xt.G xt.sameG ty _ _ _ (fun q hq=>?_) (hE (p-i) (by omega));have q1:=Nat.mul_le_mul_right ty.size (show i≤p by omega);have q2:=Nat.mul_le_mul_right ty.size (show p-i+1≤m by omega);rw[Nat.add_mul] at q2;have q3:(p-i)*ty.size=p*ty.size-i*ty.size:=Nat.sub_mul ..
      rw[wO aG,if_neg (by omega),if_pos (by omega)]
      congr 1;omega
     ·refine uL ?_ fun q hq=>?_
      ·rw[List.getElem?_append_right (by rw[List.length_append,pz,py];omega),List.getElem?_drop]
       congr 1
       rw[List.length_append,pz,py];omega
      ·have:=Nat.mul_le_mul_right ty.size (show i+m≤p by omega);rw[Nat.add_mul] at this;rw[wO aG,if_neg (by omega),if_neg (by omega)]
   ·rw[hB];exact⟨0,rfl,.inr rfl,by rw[←k2] at hs⊢;exact hs⟩
theorem vIm {P M w}(ok:Ok M)(hM:M.H=w.heap){t T id lo n rx v u}(hx:zQ M (.osl id (some (lo,n))) rx)
  (h:yC (Iw P M.h t id lo n) v u):qH P (Builtin.clear_ #[t] T #[rx]) M w v u:=by
 unfold Iw at h;split at h
 case h_2=>exact h.elim
 rename_i e s xs hu ah;split at h
 case h_2=>exact h.elim
 rename_i ty dj;obtain⟨heq,h⟩:=uK h;have:=D5 heq;subst this;obtain⟨_,rfl,rfl⟩:=eZ h;obtain⟨inf,z,h1,h2,h3,h4,h5,h6,h7⟩:=nK dj;obtain⟨C,hC,cS,⟨A,c,rfl,hS⟩,_⟩:=hx;obtain⟨C1,fV,hO⟩:=ok.obj id _ ah;rw[hC] at fV;cases fV;by_cases ED:n=0
 ·subst ED;have e0:xs.take lo++List.replicate 0 ty.dflt++xs.drop (lo+0)=xs:=by simp
  rw[e0];refine⟨.tuple #[],w,M,?_,rfl,rfl,rfl,hM,?_,ok,yS.refl M,trivial⟩
  ·cases A with
   |none=>simp[Builtin.clear_,run_underlying hu]
   |some a=>simp[Builtin.clear_,run_underlying hu]
  ·rw[NL,yz ah]
 ·obtain⟨k1,k2,k3,k4⟩:=hO;cases hB:C.blk with
  |none=>rw[hB] at hS;omega
  |some B=>
   rw[hB] at hS k4;obtain⟨hc,a,rfl,ha,hs⟩:=hS;obtain⟨vals,ev,k5,k6,k7,k8⟩:=k4;have nG:a=lo*ty.size:=by rw[←k2];rcases ha with ha|ha<;>omega
   subst nG;have gG:w.heap[B]? =some (.cells vals ev (0,0)):=by rw[←hM];exact k5
   have EH:(Builtin.zeroCells z.cells n).toList.length=n*ty.size:=by rw[Array.length_toList,zo,h7]
   have hle:=Nat.mul_le_mul_right ty.size (show lo+n≤xs.length by omega);rw[Nat.add_mul] at hle;have aG:lo*ty.size+(Builtin.zeroCells z.cells n).toList.length≤vals.size:=by omega
   have cc:∀v∈(Builtin.zeroCells z.cells n).toList,v.one1=true:=yW0 h4 h7;have gD:=run_storeCells_at (P:=P) B (lo*ty.size) ev (Builtin.zeroCells z.cells n).toList 0 vals w gG (by simpa using aG) (fun v hv=>uv (cc v hv));simp only[Nat.add_zero] at gD;obtain⟨f1,f2,f3,f4⟩:=lQ gG (new:=yK vals (lo*ty.size) (Builtin.zeroCells z.cells n).toList) (fa aG);have ld:(Builtin.clear_ #[t] T #[.slice (some ⟨B,lo*ty.size,none⟩) n c]).run P w=.ok (.tuple #[]) (w.setRow B (yK vals (lo*ty.size) (Builtin.zeroCells z.cells n).toList)):=by
    obtain⟨n',rfl⟩:∃n',n=n'+1:=⟨n-1,by omega⟩;have e:(storeCells ⟨B,lo*ty.size,none⟩ (Builtin.zeroCells z.cells (n'+1)).toList).run P w=.ok () (w.setRow B (yK vals (lo*ty.size) (Builtin.zeroCells z.cells (n'+1)).toList)):=gD;simp[Builtin.clear_,run_underlying hu,zeroValue,typeInfo,h1,h2,e]
   have hH:∀b,b∉C.fp→(w.setRow B (yK vals (lo*ty.size) (Builtin.zeroCells z.cells n).toList)).heap[b]? =M.H[b]? :=fun b po=>by
    rw[hM];exact f3 b fun e=>po (e▸jR hB)
   have cC:∀b,b<M.H.size→qO (w.setRow B (yK vals (lo*ty.size) (Builtin.zeroCells z.cells n).toList)).heap b=qO M.H b:=fun b _=>by rw[hM];exact f4 b
   have hol:(xs.take lo++List.replicate n ty.dflt++xs.drop (lo+n)).length=xs.length:=by
    simp only[List.length_append,List.length_take,List.length_replicate,List.length_drop];omega
   have x:=zI.write_ext ok ah rfl hC C.le_refl hH cC (.arr true ty (xs.take lo++List.replicate n ty.dflt++xs.drop (lo+n)));have := zI.write_ok ok ah rfl hC C.le_refl (fun _ h => h) (by rw [hM]; exact f1) hH cC (o' := .arr true ty (xs.take lo ++ List.replicate n ty.dflt ++ xs.drop (lo + n))) (by
    refine⟨by rw[hol];exact k1,k2,k3,?_⟩;rw[hB];refine⟨_,ev,f2,fun h=>(by cases h),by rw[hol,fa aG];exact k7,fun p hp=>?_⟩;rw[hol] at hp;have aU:=Nat.mul_le_mul_right ty.size (show p+1≤xs.length by omega);rw[Nat.add_mul] at aU;have zr:(xs.take lo).length=lo:=by rw[List.length_take];omega
    have uL:(xs.take lo++List.replicate n ty.dflt++xs.drop (lo+n))[p]? =xs[p]? →(∀q,q<ty.size→(yK vals (lo*ty.size) (Builtin.zeroCells z.cells n).toList)[p*ty.size+q]? =vals[p*ty.size+q]?)→
      qB (M.write id (.arr true ty (xs.take lo++List.replicate n ty.dflt++xs.drop (lo+n))) C (w.setRow B (yK vals (lo*ty.size) (Builtin.zeroCells z.cells n).toList)).heap).H (M.write id (.arr true ty (xs.take lo++List.replicate n ty.dflt++xs.drop (lo+n))) C (w.setRow B (yK vals (lo*ty.size) (Builtin.zeroCells z.cells n).toList)).heap).G ty ((xs.take lo++List.replicate n ty.dflt++xs.drop (lo+n))[p]'(by omega)) (fun q=>(yK vals (lo*ty.size) (Builtin.zeroCells z.cells n).toList)[p*ty.size+q]?):=fun e1 e2=>by
     have e3:(xs.take lo++List.replicate n ty.dflt++xs.drop (lo+n))[p]'(by omega)=xs[p]:=by
      rw[List.getElem?_eq_getElem (by omega),List.getElem?_eq_getElem hp,Option.some.injEq] at e1;exact e1
     rw[e3];exact yR x.G x.sameG ty _ _ _ e2 (k8 p hp)
    by_cases Je:p<lo
    ·refine uL ?_ fun q hq=>?_
     ·rw[List.append_assoc,List.getElem?_append_left (by omega),List.getElem?_take,if_pos Je]
     ·have:=Nat.mul_le_mul_right ty.size (show p+1≤lo by omega);rw[Nat.add_mul] at this;rw[wO aG,if_pos (by omega)]
    ·by_cases EI:p<lo+n
     ·have e3:(xs.take lo++List.replicate n ty.dflt++xs.drop (lo+n))[p]'(by omega)=ty.dflt:=by
       rw[List.getElem_append_left (by rw[List.length_append,zr,List.length_replicate];exact EI),List.getElem_append_right (by omega)];simp
      rw[e3];refine Ez ty _ fun q hq=>?_
      have q1:=Nat.mul_le_mul_right ty.size (show lo≤p by omega);have q2:=Nat.mul_le_mul_right ty.size (show p-lo+1≤n by omega);rw[Nat.add_mul] at q2;have q3:(p-lo)*ty.size=p*ty.size-lo*ty.size:=Nat.sub_mul ..
      rw[wO aG,if_neg (by omega),if_pos (by omega),show p*ty.size+q-lo*ty.size=(p-lo)*ty.size+q by omega,Zn h4 h7 hq (by omega)]
     ·refine uL ?_ fun q hq=>?_
      ·rw[List.getElem?_append_right (by rw[List.length_append,zr,List.length_replicate];omega),List.getElem?_drop]
       congr 1
       rw[List.length_append,zr,List.length_replicate];omega
      ·have:=Nat.mul_le_mul_right ty.size (show lo+n≤p by omega);rw[Nat.add_mul] at this;rw[wO aG,if_neg (by omega),if_neg (by omega)])
   exact⟨_,_,_,ld,rfl,rfl,rfl,rfl,rfl,this.1,this.2,trivial⟩
theorem vIz {P M w}(ok:Ok M)(hM:M.H=w.heap){mat nm t T b x v u rb rx}
  (hb:zP M b rb) (hx:zP M x rx) (h:yC (yl P mat nm M.h t b x) v u):qH P (Builtin.append_ #[t,t] T #[rb,rx]) M w v u:=by
 unfold yl at h;split at h
 case h_2=>exact h.elim
 rename_i e b x hu aO;split at h
 ·exact h.elim
 rename_i ty dj;cases mat with
 |true=>
  split at h
  ·rename_i id jd;split at h
   ·rename_i v1 xs v2 ys ah cM;cases bj:Nat.beq id jd with
    |true=>rw[bj] at h;exact h.elim
    |false=>
     rw[bj] at h;obtain⟨hr,rfl,rfl⟩:=eZ h;exact vJu ok hM hu dj aO ah cM (fun e=>by subst e;simp at bj) hb hx (EC hr)
   ·exact h.elim
  ·exact h.elim
 |false=>
  simp only[cond_false] at h;split at h
  ·split at h
   ·rename_i ys u1 ht;obtain⟨hr,rfl,rfl⟩:=eZ h;obtain⟨rfl,news,h1,h2⟩:=Zg ok hx ht;rw[show rb=.slice none 0 0 from hb];exact vG7 ok hM hu dj aO h1 h2 (EC hr)
   ·exact h.elim
  ·split at h
   ·rename_i s xs ah;split at h
    ·rename_i zs ys u1 hz ht;obtain⟨e1,hz⟩:=iP hz;subst e1;subst hz;obtain⟨rfl,news,h1,h2⟩:=Zg ok hx ht;split at h
     ·rcases Zm h with⟨hc,h⟩|⟨_,h⟩
      ·split at h
       ·rename_i i' jd j m zs e1 e2 _;cases e1;have:=Nat.eq_of_beq_eq_true hc;subst this;obtain⟨_,hz⟩:=iP e2;subst hz;obtain⟨hr,rfl,rfl⟩:=eZ h;exact vAs ok hM hu dj aO ah hb hx (Nat.le_of_ble_eq_true hr)
       ·exact h.elim
      ·obtain⟨hr,rfl,rfl⟩:=eZ h;exact Ox ok hM hu dj aO ah hb rfl h1 h2 (EC hr)
     ·rcases Zm h with⟨hc,h⟩|⟨_,h⟩
      ·exact h.elim
      ·obtain⟨hr,rfl,rfl⟩:=eZ h;exact Ox ok hM hu dj aO ah hb trivial h1 h2 (EC hr)
     ·exact h.elim
    ·exact h.elim
   ·exact h.elim
  ·exact h.elim
theorem OF {M}(ok:Ok M){c v t ys}(hv:zQ M c v)(h:gZ M.h c=some ⟨t,ys⟩){kd}(ht:t=.int kd):
  ∃news,Rd M.H v ys.length t.size news∧∃F,∀i hi,qB M.H F t ys[i] (fun j=>news[i*t.size+j]?):=by
 unfold gZ at h;split at h
 ·cases h;obtain⟨news,h1,h2⟩:=Oq hv;exact⟨news,h1,_,h2⟩
 ·split at h
  ·rename_i own s xs ah;cases h;obtain⟨C,hC,hO⟩:=ok.obj _ _ ah;obtain⟨news,h1,h2⟩:=uH hC hO hv;exact⟨news,h1,_,h2⟩
  all_goals grind
 ·rename_i id i ver;split at h
  ·rename_i v' xs ah;cases eu:Nat.beq v' ver with
   |false=>simp_all
   |true=>
    rw[eu] at h;cases h;have e:v'=ver:=by simp_all
    subst e;obtain⟨C,hC,hO⟩:=ok.obj _ _ ah;obtain⟨C',aw,cc,_,aU⟩:=hv;rw[hC] at aw;cases aw;obtain⟨rb,rl,sf,nO⟩:=aU hO.1;by_cases hi:i<xs.length
    ·obtain⟨B,mB,v2,k1,k2,k3,k4,k5,k6⟩:=yy hO hi;rw[sf] at k3;cases k3;rw[show xs.getD i []=xs[i] by simp_all];cases rb with
     |none=>
      obtain⟨rfl,h0⟩:=nO;have cA:xs[i]=[]:=by grind
      rw[cA];obtain⟨news,q1,q2⟩:=EA (H:=M.H) (F:=M.G) (t:=.int .i64) (A:=none) (c:=0);exact⟨news,q1,_,q2⟩
     |some R=>
      obtain⟨a,c,rfl,h1,h2,h3⟩:=nO;by_cases h0:xs[i].length=0
      ·have cA:xs[i]=[]:=by grind
       rw[cA];obtain⟨news,q1,q2⟩:=EA (H:=M.H) (F:=M.G) (t:=.int .i64) (A:=some ⟨R,a,none⟩) (c:=c);exact⟨news,q1,_,q2⟩
      ·have ha:a=0:=by omega
       subst ha;obtain ⟨news, q1, q2⟩ := Oo (H := M.H) (F := fun _ => True) (t := .int .i64) (ys := xs[i]) (B := R) (o := 0) (c := c) h1 (fun j hj=>by
        simp[qB,Ty.size];simp_all)
       exact⟨news,q1,_,q2⟩
    ·have:C.rows[i]? =none:=List.getElem?_eq_none (by have:=hO.2.2.2.1;omega);simp_all
  ·cases h
 ·cases h
theorem yVg {M}(ok:Ok M){c v t ys}(hv:zQ M c v)(h:gZ M.h c=some ⟨t,ys⟩):∃A k,v=.slice A ys.length k:=by
 by_cases ht:t=.int .i64
 ·obtain⟨news,⟨A,k,e,_⟩,_⟩:=OF ok hv h ht;simp_all
 unfold gZ at h;split at h
 ·cases h;obtain⟨news,⟨A,k,e,_⟩,_⟩:=Oq hv;simp_all
 ·rename_i id r;split at h
  ·rename_i own s xs ah;cases h;obtain⟨C,hC,hO⟩:=ok.obj _ _ ah;obtain⟨news,⟨A,k,e,_⟩,_⟩:=uH hC hO hv;simp_all
  ·rename_i ver xs ah;cases r with
   |none=>
    cases h;obtain⟨C,hC,hO⟩:=ok.obj _ _ ah;obtain⟨C',aw,A,k,e,_⟩:=hv;rw[hC] at aw;cases aw;exact⟨A,k,by rw[e,hO.2.1]⟩
   |some p=>cases h
  ·cases h
 all_goals grind
theorem vRl {M}(ok:Ok M){c v n}(hv:zQ M c v)(h:xY M.h c=some n):∃A k,v=.slice A n k:=by
 unfold xY at h;split at h
 ·cases h;exact⟨none,0,hv⟩
 ·obtain⟨C,B,_,_,e⟩:=hv;simp_all
 ·split at h
  ·rename_i t xs hr;cases h;exact yVg ok hv hr
  ·cases h
theorem yZn {P w t e A n k T ts}(h0:ts[0]? =some t)(hu:P.underlying t=some (.slice e)):
  (Builtin.len_ ts T #[.slice A n k]).run P w=.ok (.int .i64 n) w:=by
 have hr:(underlying t).run P w=.ok (.slice e) w:=by simp[underlying,hu]
 simp[Builtin.len_,h0,hr,goInt]
theorem Zo {P M w}(ok:Ok M)(hM:M.H=w.heap){lt l rl v u ts T}(hl:zK (zP M) l rl.toList)
  (h:yC (Ix lt l) v u):qH P (bif lt then Builtin.min_ ts T rl else Builtin.max_ ts T rl) M w v u:=by
 unfold Ix at h;split at h
 ·rename_i k x j y;obtain⟨rfl,rfl⟩:=vP h;obtain⟨rl⟩:=rl
  match rl,hl with
  |[a,b],⟨h1,h2,_⟩=>
   rw[show a=.int k x from h1,show b=.int j y from h2];refine .pure (rv:=.int k (bif lt then(bif decide (y<x) then y else x) else(bif decide (y>x) then y else x))) ok hM ?_ rfl;cases lt<;>simp[Builtin.min_,Builtin.max_,Builtin.min2,Builtin.max2,Bool.cond_decide]
 ·rename_i k x j y i z;obtain⟨rfl,rfl⟩:=vP h;obtain⟨rl⟩:=rl
  match rl,hl with
  |[a,b,c],⟨h1,h2,h3,_⟩=>
   rw[show a=.int k x from h1,show b=.int j y from h2,show c=.int i z from h3];refine .pure (rv:=_) ok hM ?_ rfl;cases lt<;>simp[Builtin.min_,Builtin.max_,Builtin.min2,Builtin.max2,Bool.cond_decide]
 ·exact h.elim
theorem Zp {M:zI}:∀{cs ns},um cs=some ns→cs=ns.map (.int .i64)
 |[],ns,h=>by cases h;rfl
 |.int .i64 n::l,ns,h=>by
  unfold um at h;split at h
  ·rename_i r hr;cases h;rw[Zp (M:=M) hr];rfl
  ·cases h
theorem Zq xs:∀(ns:List Int) i,uo xs i (ns.map (.int .i64))=(((xs.drop i).take ns.length)++ns.drop ((xs.drop i).take ns.length).length).map (.int .i64)
 |[],i=>by rfl
 |n::ns,i=>by
  simp only[List.map_cons,uo,Zq xs ns (i+1)];by_cases hi:i<xs.length
  ·have hb:Nat.blt i xs.length=true:=by simp_all
   rw[hb,List.drop_eq_getElem_cons hi];grind
  ·have hb:Nat.blt i xs.length=false:=by
    cases h:Nat.blt i xs.length with
    |false=>rfl
    |true=>exact absurd (by simp_all) hi
   have e1:xs.drop i=[]:=List.drop_eq_nil_of_le (by omega);grind
theorem yVz {P M w}(ok:Ok M)(hM:M.H=w.heap){t e ts T d s v u rd rs}(h0:ts[0]? =some t)(hu:P.underlying t=some (.slice e))(he:P.cellsOf e=1)
  (hd:zP M d rd) (hs:zP M s rs) (h:yC (ym M.h d s) v u):qH P (Builtin.copy_ ts T #[rd,rs]) M w v u:=by
 unfold ym at h;split at h
 case h_2=>exact h.elim
 rename_i id off n s;split at h
 case h_2=>exact h.elim
 rename_i cells ys ah mF;split at h
 case h_2=>exact h.elim
 rename_i vs dU;split at h
 case h_2=>exact h.elim
 rename_i ns Oe;obtain⟨_,rfl,rfl⟩:=eZ h;clear h;obtain⟨C,B,hC,hB,rfl⟩:=hd;obtain⟨C',aw,B',vals,ev,k1,k2,k3,k4,k5⟩:=ok.obj id _ ah;rw[hC] at aw;cases aw;rw[hB] at k1;cases k1;obtain⟨c1,c2,c3⟩:=Ei dU;obtain⟨i,hi⟩:=lN (P:=P) (t:=e) (by omega);obtain⟨A,k,rfl,jg⟩:∃A k,rs=.slice A ys.length k∧∃news,Rd M.H (.slice A ys.length k) ys.length 1 news∧news=ys.map (.int .i64):=by
  split at mF
  ·cases mF;exact⟨none,0,hs,[],⟨none,0,rfl,rfl,by simp,rfl⟩,rfl⟩
  ·obtain⟨news,hR,F,hE⟩:=OF ok hs mF rfl;obtain⟨A,k,e,hl,r⟩:=hR;refine⟨A,k,e,news,⟨A,k,rfl,hl,r⟩,?_⟩;refine List.ext_getElem (by simpa[Ty.size] using hl) fun j h1 h2=>?_
   have:=hE j (by simpa using h2);simp only[qB,Ty.size,Nat.mul_one,Nat.add_zero] at this;rw[List.getElem?_eq_getElem h1,Option.some.injEq] at this;rw[this];simp
 obtain⟨news,⟨A',k',e',hl,cc,jg⟩,EJ⟩:=jg;cases e';let m:=min ys.length n;have hm:Nat.min ys.length n=m:=rfl;have uM:(Builtin.firstCells 1 m (.slice A ys.length k)).run P w=.ok (news.take m).toArray w:=by
  have:Rd M.H (.slice A m k) m 1 (news.take m):=by
   refine⟨A,k,rfl,?_,fun u hu=>cc u (List.mem_of_mem_take hu),?_⟩;all_goals grind
  have:=this.first (P:=P) w hM.symm
  cases A<;>exact this
 have Zr:w.heap[B]? =some (.cells vals ev (0,0)):=by rw[←hM];exact k3
 have bI:=k4.length;have Jd:(news.take m).length=m:=by rw[List.length_take,hl];omega
 have aG:off+(news.take m).length≤vals.size:=by
  rw[Jd];simp at bI;omega
 have gD:=run_storeCells_at (P:=P) B off ev (news.take m) 0 vals w Zr (by simpa using aG) (fun v hv=>uv (cc v (List.mem_of_mem_take hv)));simp only[Nat.add_zero] at gD;have ld:(Builtin.copy_ ts T #[.slice (some ⟨B,off,none⟩) n n,.slice A ys.length k]).run P w=.ok (.int .i64 (m:Nat)) (w.setRow B (yK vals off (news.take m))):=by
  simp[Builtin.copy_,h0,run_underlying hu,Builtin.lenOf,fR w hi,he,hm,uM,goInt];have e:(storeCells ⟨B,off,none⟩ (news.take m)).run P w=.ok () (w.setRow B (yK vals off (news.take m))):=gD;rw[e];rfl
 obtain⟨f1,f2,f3,f4⟩:=lQ Zr (new:=yK vals off (news.take m)) (fa aG);have hH:∀b,b∉C.fp→(w.setRow B (yK vals off (news.take m))).heap[b]? =M.H[b]? :=fun b po=>by
  rw[hM];exact f3 b fun e=>po (e▸jR hB)
 have cC:∀b,b<M.H.size→qO (w.setRow B (yK vals off (news.take m))).heap b=qO M.H b:=fun b _=>by rw[hM];exact f4 b
 let o':Obj:=.box true (cells.take off++uo ys 0 vs++cells.drop (off+n));have x:=zI.write_ext ok ah rfl hC C.le_refl hH cC o';have aA:cells.take off++uo ys 0 vs++cells.drop (off+n)=cells.take off++(ys.take m).map (.int .i64)++cells.drop (off+((ys.take m).map (zV.int .i64)).length):=by
  have hv:=Zp (M:=M) Oe;have hnn:ns.length=n:=by rw[←c3,hv];simp
  have EK:(ys.drop 0).take ns.length=ys.take m:=by
   grind
  rw[hv,Zq,EK,List.map_append,List.map_drop,←hv,List.append_assoc,List.append_assoc,List.append_assoc]
  congr 2
  have Jf:(ys.take m).length=m:=by rw[List.length_take];omega
  have e1:cells.drop (off+n)=(cells.drop (off+m)).drop (n-m):=by
   rw[List.drop_drop];congr 1;omega
  rw[List.length_map,Jf,c2,List.drop_take,List.drop_drop,e1,List.take_append_drop]
 have := zI.write_ok ok ah rfl hC C.le_refl (fun _ h => h) (by rw [hM]; exact f1) hH cC (o' := o') (by
  refine⟨B,_,ev,hB,k2,f2,?_,fun h=>(by cases h)⟩;rw[aA];refine NP x k4 (us:=news.take m) ?_ (by simpa using aG);rw[EJ];refine zK.of_get (by simp) fun j h1 h2=>?_
  simp[zQ])
 exact⟨_,_,_,ld,rfl,rfl,rfl,rfl,rfl,this.1,this.2,rfl⟩
theorem Zs {P t}(h:Eb P t=true):∃k e i,P.underlying t=some (.map k e)∧P.underlying k=some (.int .i64)∧P.info? e=some i∧i.zero=some (.bool false):=by
 unfold Eb at h;split at h
 ·split at h
  ·rename_i hk hz;obtain⟨i,h1,h2⟩:=Option.bind_eq_some_iff.1 hz;grind
  ·cases h
 ·cases h
theorem vAg {P M w}(ok:Ok M)(hM:M.H=w.heap){nm t v u}(h:yC (yh P nm M.h t) v u):qH P (Instr.makeMap t none) M w v u:=by
 unfold yh at h;split at h
 case h_2=>exact h.elim
 rename_i aO;obtain⟨_,h⟩:=uK h;obtain⟨_,rfl,rfl⟩:=eZ h;let C:zZ:=⟨some M.H.size,0,0,0,[]⟩;have := zI.new_ok ok aO (.imap []) C (.map #[] 0) (by simp [C, zZ.fp]) (by
  refine⟨M.H.size,#[],0,rfl,rfl,uu,by simp,fun n=>rfl⟩)
 refine⟨.map (some w.heap.size),w.alloc (.map #[] 0),_,?_,rfl,rfl,rfl,?_,rfl,this.1,this.2,C,M.H.size,κset_same _ _ _,rfl,by rw[hM]⟩
 ·rfl
 ·show M.H.push _=w.heap.push _;rw[hM]
theorem OG {n}:∀{es i},(∀e∈es,∃m b,e.key=.int .i64 m∧e.val=.bool b)→
  (jI n es=none∧Instr.findNow (.int .i64) (.int .i64 n) es i=some none)∨
  (∃j b e,jI n es=some (.bool b)∧Instr.findNow (.int .i64) (.int .i64 n) es i=some (some (i+j,.bool b))∧es[j]? =some e∧e.key=.int .i64 n∧
   ∀f:MapEntry→MapEntry,(∀e,(f e).key=.int .i64 n)→jI n (es.modify j f)=some (f e).val∧(∀m,m≠n→jI m (es.modify j f)=jI m es)∧∀e'∈es.modify j f,e'∈es∨e'=f e)
 |[],i,_=>.inl ⟨rfl,rfl⟩
 |e::es,i,h=>by
  obtain⟨m,b,h1,h2⟩:=h e (by simp);by_cases hm:n=m
  ·subst hm;refine .inr ⟨0,b,e,?_,?_,rfl,h1,fun f hf=>⟨?_,fun m bj=>?_,fun e' he=>?_⟩⟩
   ·simp[jI,h1,h2]
   ·simp[Instr.findNow,Instr.sameNow,h1,h2]
   ·simp[jI,hf]
   ·simp[jI,hf,h1,bj]
   grind
  ·have hs:Instr.findNow (.int .i64) (.int .i64 n) (e::es) i=Instr.findNow (.int .i64) (.int .i64 n) es (i+1):=by
    have hb:(n==m)=false:=by simp[hm]
    simp[Instr.findNow,Instr.sameNow,h1,hb]
   have hf:jI n (e::es)=jI n es:=by simp[jI,h1,hm]
   rcases OG (es:=es) (i:=i+1) (by grind) with⟨k1,k2⟩|⟨j,b',e',k1,k2,k3,k4,k5⟩
   ·exact .inl ⟨hf.trans k1,hs.trans k2⟩
   ·refine .inr ⟨j+1,b',e',hf.trans k1,by grind,by simp_all,k4,fun f hfk=>?_⟩;obtain⟨q1,q2,q3⟩:=k5 f hfk;refine⟨by simp[jI,h1,hm,q1],fun m' bj=>?_,fun e'' he=>?_⟩
    ·rw[List.modify_succ_cons];simp[jI,q2 m' bj]
    grind
theorem Jg {P w r es ck}(h:w.heap[r]? =some (.map es ck)):(getObj r).run P w=.ok (.map es ck) w:=by
 simp[getObj,Sem.run,h]
theorem Zt {P w r es ck} o (h:w.heap[r]? =some (.map es ck)):(setObj r o).run P w=.ok () {w with heap:=w.heap.setIfInBounds r o}:=by
 simp[setObj,Sem.run,h]
theorem Jh {P w k b n}(h:P.underlying k=some (.int .i64)):(Instr.checkKey b 10000 k (.int .i64 n)).run P w=.ok () w:=by
 unfold Instr.checkKey;simp[run_underlying h]
theorem Ji {P w k n es r}(h:P.underlying k=some (.int .i64))(hf:Instr.findNow (.int .i64) (.int .i64 n) es 0=some r):(Instr.findKey k (.int .i64 n) es).run P w=.ok r w:=by
 unfold Instr.findKey;simp[run_underlying h,hf]
theorem vQp {P M w}(ok:Ok M)(hM:M.H=w.heap){t x i v u rx ri}(hx:zP M x rx)(hi:zP M i ri)(h:yC (yi P M.h t x i) v u):qH P (Instr.lookup t rx ri false) M w v u:=by
 unfold yi at h;split at h
 case h_2=>exact h.elim
 rename_i id n;split at h
 case h_2=>exact h.elim
 rename_i cL ah;obtain⟨hb,h⟩:=uK h;obtain⟨rfl,rfl⟩:=vP h;obtain⟨k,e,inf,h1,h2,h3,h4⟩:=Zs hb;obtain⟨C,B,hC,hB,rfl⟩:=hx;obtain⟨C',aw,B',es,ck,k1,k2,k3,k4,k5⟩:=ok.obj id _ ah;rw[hC] at aw;cases aw;rw[hB] at k1;cases k1;have jl:ri=.int .i64 n:=hi;subst jl;rw[hM] at k3;refine .pure (rv:=.bool ((cL.lookup n).getD false)) ok hM ?_ rfl;have h5:=k5 n;unfold Instr.lookup;rcases OG (n:=n) (i:=0) k4 with⟨q1,q2⟩|⟨j,b,e',q1,q2,q3,q4,q5⟩
 ·have:cL.lookup n=none:=by cases hl:cL.lookup n with|none=>rfl|some b=>simp_all
  simp[run_underlying h1,Jg k3,Jh h2,Ji h2 q2,zeroValue,typeInfo,h3,h4,this]
 ·have:cL.lookup n=some b:=by cases hl:cL.lookup n with|none=>simp_all|some b=>simp_all
  simp[run_underlying h1,Jg k3,Jh h2,Ji h2 q2,this]
theorem OH {n b c}:∀{es},jI n es=none→∀m,jI m (es++[⟨.int .i64 n,.bool b,c⟩])=if m=n then some (.bool b) else jI m es
 |[],_,m=>by rfl
 |e::es,h,m=>by
  rw[List.cons_append];have aH:∀(m:Int) (l:List MapEntry),jI m (e::l)=match e.key with|.int .i64 k=>if m=k then some e.val else jI m l|_=>jI m l:=fun m l=>rfl
  rw[aH] at h;rw[aH,aH];split at h
  ·rename_i k hk;split at h
   ·cases h
   ·by_cases hm:m=k
    ·grind
    ·rw[if_neg hm,OH h m,if_neg hm]
  ·exact OH h m
theorem yYo {P M w}(ok:Ok M)(hM:M.H=w.heap){t x i y v u rx ri ry}(hx:zP M x rx)(hi:zP M i ri)(hy:zP M y ry)(h:yC (yj P M.h t x i y) v u):
  v=.undef∧kx P (Instr.mapUpdate t rx ri ry) M w u:=by
 unfold yj at h;split at h
 case h_2=>exact h.elim
 rename_i id n b;split at h
 case h_2=>exact h.elim
 rename_i cL ah;obtain⟨hb,h⟩:=uK h;obtain⟨_,rfl,rfl⟩:=eZ h;obtain⟨k,e,inf,h1,h2,h3,h4⟩:=Zs hb;obtain⟨C,B,hC,hB,rfl⟩:=hx;obtain⟨C',aw,B',es,ck,k1,k2,k3,k4,k5⟩:=ok.obj id _ ah;rw[hC] at aw;cases aw;rw[hB] at k1;cases k1;have jl:ri=.int .i64 n:=hi;subst jl;have hry:ry=.bool b:=hy;subst hry;have k3':=k3;rw[hM] at k3;have write:∀(nP:Array MapEntry) (sg:Nat),(Instr.mapUpdate t (.map (some B)) (.int .i64 n) (.bool b)).run P w=.ok () {w with heap:=w.heap.setIfInBounds B (.map nP sg)}→
   (∀e∈nP.toList,∃m b,e.key=.int .i64 m∧e.val=.bool b)→(∀m,jI m nP.toList=if m=n then some (.bool b) else jI m es.toList)→kx P (Instr.mapUpdate t (.map (some B)) (.int .i64 n) (.bool b)) M w [(id,.imap ((n,b)::cL))]:=by
  intro nP sg hr he hf;have uN:∀c,(w.heap.setIfInBounds B (.map nP sg))[c]? =if c=B then some (.map nP sg) else w.heap[c]? :=by grind
  have hH:∀c,c∉C.fp→(w.heap.setIfInBounds B (.map nP sg))[c]? =M.H[c]? :=fun c hc=>by
   rw[uN,if_neg (fun(e:c=B)=>hc (by rw[e];exact jR hB)),hM]
  have cC:∀c,c<M.H.size→qO (w.heap.setIfInBounds B (.map nP sg)) c=qO M.H c:=fun c _=>by
   unfold qO;grind
  have := zI.write_ok ok ah rfl hC C.le_refl (by simp) (by rw [hM]; simp) hH cC (o' := .imap ((n, b) :: cL)) (by
   refine⟨B,nP,sg,hB,k2,?_,he,fun m=>?_⟩
   ·show(w.heap.setIfInBounds B (.map nP sg))[B]? =_;rw[uN,if_pos rfl]
   grind)
  exact⟨_,_,hr,rfl,rfl,rfl,rfl,rfl,this.1,this.2⟩
 refine⟨rfl,?_⟩;rcases OG (n:=n) (i:=0) k4 with⟨q1,q2⟩|⟨j,b',e',q1,q2,q3,q4,q5⟩
 ·refine write (es.push ⟨.int .i64 n,.bool b,ck⟩) (ck+1) ?_ (fun e he=>?_) fun m=>?_
  ·unfold Instr.mapUpdate;simp[run_underlying h1,Jg k3,Jh h2,Ji h2 q2,Zt _ k3]
  ·grind
  ·rw[Array.toList_push];exact OH q1 m
 ·refine write (es.modify j fun e=>{e with key:=.int .i64 n,val:=.bool b}) ck ?_ (by grind) fun m=>?_
  ·unfold Instr.mapUpdate;rw[Nat.zero_add] at q2;simp only[Array.getElem?_toList] at q3;simp[run_underlying h1,Jg k3,Jh h2,Ji h2 q2,Zt _ k3,q3,q4,Instr.keyThatStays,Instr.sameBits]
  all_goals grind
theorem Zu:∀(ns:List Int) (b:ByteArray),ns.foldl (fun r n=>r.push (UInt8.ofNat n.toNat)) b=⟨(b.data.toList++lL ns).toArray⟩
 |[],b=>by simp[lL]
 |n::ns,b=>by
  rw[List.foldl_cons,Zu ns];simp[lL]
theorem yT3 {P M}(ok:Ok M){c v xs}(hv:zQ M c v)(h:xX M.h c=some xs){w}(hM:M.H=w.heap):
  ∃A n k,v=.slice A n k∧(Conv.bytesToString v).run P w=.ok (.string ⟨(lL xs).toArray⟩) w:=by
 unfold xX at h;split at h
 ·cases h;refine⟨none,0,0,hv,?_⟩;rw[show v=.slice none 0 0 from hv];rfl
 ·split at h
  ·rename_i ys hr;obtain rfl:ys=xs:=by simp_all
   obtain⟨news,⟨A,k,e,hl,cc,jg⟩,F,hE⟩:=OF ok hv hr rfl;refine⟨A,_,k,e,?_⟩;have hn:news=ys.map (Value.int .u8):=by
    refine List.ext_getElem (by simpa[Ty.size] using hl) fun j h1 h2=>?_
    have:=hE j (by simp_all);simp[qB,Ty.size] at this;grind
   subst e;cases A with
   |none=>
    have h1:ys=[]:=by grind
    subst h1;rfl
   |some a=>
    have kt:(loadCells a ys.length).run P w=.ok (ys.map (Value.int .u8)).toArray w:=by
     rcases jg with h0|⟨h1,h2⟩
     ·have h1:ys=[]:=by grind
      subst h1;rfl
     ·have:=Rd.first (P:=P) (H:=M.H) (v:=.slice (some a) ys.length k) (n:=ys.length) (size:=1) (news:=news) ⟨_,k,rfl,by grind,cc,by grind⟩ w hM.symm
      rw[hn] at this
      simpa[Builtin.firstCells] using this
    rw[run_bytesToString w a _ k ys kt,Zu];rfl
  ·cases h
structure pA (M:zI) (w:World) (u:yV) (M':zI) (w':World):Prop where
 os:w'.os=w.os
 tape:w'.tape=w.tape
 output:w'.output=w.output
 H:M'.H=w'.heap
 h:M'.h=qF M.h u
 ok:Ok M'
 step:yS M M'
def uO (P:Program)(f:Nat)(args:List zT)(h:Hp)(v:zT)(u:yV):Prop:=
 ∀(M:zI) (w:World) (vs:Array Value),M.h=h→M.H=w.heap→Ok M→zK (zP M) args vs.toList→
  ((callFunc f vs).run P w=.ok (.enter f vs) w∧Calls P f vs w fun
   |.returned rv,w'=>∃M',pA M w u M' w'∧zP M' v rv
   |_,_=>False)∨∃rv w' M',(callFunc f vs).run P w=.ok (.value rv) w'∧pA M w u M' w'∧zP M' v rv
def Zv (P:Program)(S:Iy):Prop:=∀k nm f args h v u,yC (S k nm f args h) v u→uO P f args h v u
structure fb (E:Env):Prop where
 eq:Ep E.P E.eqT
 sums:Zv E.P E.sums
section
variable {P:Program} {Q:Exit→Act→World→Prop} {o:Oper} {a:Act} {w:World} {M:zI} {next:Act→World→Prop} {v:zT} {u:yV}
theorem eN {s}(hr:qH P s M w v u)(he:execOp a.eval o=(do pure (.value (←s)):Sem Next))(hn:∀M' w' rv,pA M w u M' w'→zP M' v rv→next (a.put o.dst rv) w'):
  o.wp P a w next Q:=by
 obtain⟨rv,w',M',h1,h2,h3,h4,h5,h6,h7,h8,h9⟩:=hr;unfold Oper.wp;rw[he];simp[h1];exact hn M' w' rv ⟨h2,h3,h4,h5,h6,h7,h8⟩ h9
theorem Zw {s}(hr:kx P s M w u)(he:execOp a.eval o=(do s;pure .skip:Sem Next))(hn:∀M' w' rv,pA M w u M' w'→zP M' .undef rv→next (a.put o.dst rv) w'):
  o.wp P a w next Q:=by
 obtain⟨w',M',h1,h2,h3,h4,h5,h6,h7,h8⟩:=hr;unfold Oper.wp;rw[he];simp[h1];exact hn M' w' undef ⟨h2,h3,h4,h5,h6,h7,h8⟩ trivial
theorem mG (ok:Ok M)(hM:M.H=w.heap){rv}(hu:u=[])(hv:zP M v rv)(he:(execOp a.eval o).run P w=.ok (.value rv) w)(hn:∀M' w' rv,pA M w u M' w'→zP M' v rv→next (a.put o.dst rv) w'):
  o.wp P a w next Q:=by
 unfold Oper.wp;rw[he];subst hu;exact hn M w rv ⟨rfl,rfl,rfl,hM,rfl,ok,.refl M⟩ hv
end
theorem EL {α β} f:∀(l:List α) (r:List β),l.mapM f=some r→zK (fun a b=>f a=some b) l r
 |[],r,h=>by simp at h;subst h;trivial
 |a::l,r,h=>by
  simp[Option.bind_eq_some_iff] at h;obtain⟨b,h1,bs,h2,h3⟩:=h;cases h3;exact⟨h1,EL f l bs h2⟩
theorem zK.map_left {α β γ R}{f:α→γ}:∀{l} {m:List β},zK (fun a b=>R (f a) b) l m→zK R (l.map f) m
 |[],[],_=>trivial
 |_::_,_::_,h=>⟨h.1,zK.map_left h.2⟩
def _root_.Go.Operand.lit:Operand→Value
 |.const c=>c
 |_=>undef
theorem vPk {P:Program}{M:zI}{w:World}{t:TypeId}{d}{y:Operand}{x:zV}{rx ry:Value}{b:Bool}(hu:P.underlying t=some d)(hx:zQ M x rx)(hy:ry=y.lit)
  (h:Nj d y x=some b) op (nQ:op=.eql∨op=.neq) ox oy:
  (eqGuard op t ox oy rx ry).run P w=.ok () w∧(binOp op t rx ry).run P w=.ok (.bool (nB op b)) w:=by
 have key:∀n,(Op.equalIn (n+1) t rx ry).run P w=.ok b w→(eqGuard op t ox oy rx ry).run P w=.ok () w→(binOp op t rx ry=match op with|.eql=>(do pure (.bool (←Op.equal t rx ry)))|_=>(do pure (.bool (!(←Op.equal t rx ry)))))→
   n=9999→(eqGuard op t ox oy rx ry).run P w=.ok () w∧(binOp op t rx ry).run P w=.ok (.bool (nB op b)) w:=by
  intro n h1 h2 h3 hn;have eL:(Op.equal t rx ry).run P w=.ok b w:=by subst hn;exact h1
  refine⟨h2,?_⟩;rw[h3];rcases nQ with rfl|rfl<;>simp[eL,nB]
 unfold Nj at h;split at h<;>cases h<;>simp only[Operand.lit] at hy<;>subst hy;all_goals (try obtain rfl:rx=_:=hx)
 all_goals (try obtain⟨C,B,_,_,_,rfl⟩:=hx)
 all_goals (try obtain⟨B,o,rfl,_⟩:=hx)
 all_goals (try obtain⟨cv,rfl,_⟩:=hx)
 all_goals (try obtain⟨⟨_,_,_,rfl⟩,_⟩:=hx)
 all_goals
  refine key 9999 ?_ ?_ ?_ rfl
  ·generalize 9999=n;unfold Op.equalIn;simp[run_underlying hu]
  ·rcases nQ with rfl|rfl<;>simp[eqGuard]
  ·rcases nQ with rfl|rfl<;>rfl
theorem yU7 {M}(ok:Ok M){c v n}(hv:zQ M c v)(h:xZ M.h c=some n)(hn:0<n):∃a k,v=.slice (some a) n k:=by
 unfold xZ at h;split at h
 ·rename_i sh t xs;cases h;have hv:qB M.H (bif sh then M.G else M.F) (.sl t) xs (fun _=>some v):=hv;simp[qB] at hv;obtain⟨A,m,c,rfl,rfl,hc,h⟩:=hv;rcases h with⟨rfl,_⟩|⟨B,o,rfl,_⟩
  ·simp at hn
  ·exact⟨_,_,rfl⟩
 ·rename_i id;split at h
  ·rename_i own t xs ah;cases h;obtain⟨C,hC,hO⟩:=ok.obj _ _ ah;obtain⟨C',aw,A,k,e,hS⟩:=hv;rw[hC] at aw;cases aw;have hl:C.len=xs.length:=hO.1;rw[e,hl];cases hB:C.blk with
   |none=>rw[hB] at hS;omega
   |some B=>
    rw[hB] at hS;obtain⟨_,a,rfl,_⟩:=hS;exact⟨_,_,rfl⟩
  ·cases h
 ·cases h
theorem yZv {P:Program}{w:World}{t e}{a n k}(hu:P.underlying t=some (.slice e)) op (nQ:op=.eql∨op=.neq) ox oy:
  (eqGuard op t ox oy (.slice (some a) n k) (.slice none 0 0)).run P w=.ok () w∧(binOp op t (.slice (some a) n k) (.slice none 0 0)).run P w=.ok (.bool (nB op false)) w:=by
 have key:∀m,(Op.equalIn (m+1) t (.slice (some a) n k) (.slice none 0 0)).run P w=.ok false w:=fun m=>by
  unfold Op.equalIn;simp[run_underlying hu]
 have h1:(Op.equal t (.slice (some a) n k) (.slice none 0 0)).run P w=.ok false w:=key 9999;rcases nQ with rfl|rfl
 ·refine⟨by simp[eqGuard],?_⟩;rw[show binOp .eql t (.slice (some a) n k) (.slice none 0 0)=(do pure (.bool (←Op.equal t (.slice (some a) n k) (.slice none 0 0)))) from rfl];simp[h1,nB]
 ·refine⟨by simp[eqGuard],?_⟩;rw[show binOp .neq t (.slice (some a) n k) (.slice none 0 0)=(do pure (.bool (!(←Op.equal t (.slice (some a) n k) (.slice none 0 0))))) from rfl];simp[h1,nB]
theorem OI {M}{ev:Operand→zT}{ρ:Operand→Value}(aW:∀x,zP M (ev x) (ρ x)):∀(l:List (Nat×Operand)),zK (uG M) (l.map fun p=>(p.1,ev p.2)) (l.map fun p=>(p.1,ρ p.2))
 |[]=>trivial
 |p::l=>⟨⟨rfl,aW p.2⟩,OI aW l⟩
theorem Zx {f:Operand→Value}(parts:Array (Nat×Operand)):(parts.map fun(i,x)=>(i,f x))=(parts.toList.map fun p=>(p.1,f p.2)).toArray:=by
 grind
theorem Zy {M}{ev:Operand→zT}{ρ}(aW:∀x,zP M (ev x) (ρ x)):∀{l ids},zK (fun x id=>rO (ev x)=some id) l ids→
  zK (fun id u=>∃C B,M.κ id=some C∧C.blk=some B∧u=.pointer (some ⟨B,0,none⟩)) ids (l.map ρ)
 |[],[],_=>trivial
 |x::l,id::ids,h=>by
  refine⟨?_,Zy aW h.2⟩;have h1:rO (ev x)=some id:=h.1;have hx:=aW x;unfold rO at h1;split at h1
  ·rename_i zt hc;cases h1;rw[hc] at hx;exact hx
  ·cases h1
theorem Zz {M ev ρ}(aW:∀x,zP M (ev x) (ρ x)):∀(l:List Operand),zK (zP M) (l.map ev) (l.map ρ)
 |[]=>trivial
 |x::l=>⟨aW x,Zz aW l⟩
theorem vPi {E}(hE:fb E){A}{k pre}{Q}{o}{a}{w}{M}{next}{v}{u ev}(ok:Ok M)(hM:M.H=w.heap)
  (aW:∀x,zP M (ev x) (a.eval x)) (h:yC (iN E A k pre o ev M.h) v u) (hn:∀M' w' rv,pA M w u M' w'→zP M' v rv→next (a.put o.dst rv) w'):o.wp E.P a w next Q:=by
 unfold iN at h;dsimp only at h;split at h
 ·rename_i x ho;obtain⟨rfl,rfl⟩:=vP h;exact mG ok hM rfl (aW x) (by cases o;cases ho;rfl) hn
 ·rename_i x ho;obtain⟨rfl,rfl⟩:=vP h;exact mG ok hM rfl (aW x) (by cases o;cases ho;rfl) hn
 ·rename_i c x y ho;split at h
  ·rename_i cb hc;have iR:=aW c;rw[hc] at iR;have iR:a.eval c=.bool cb:=iR;split at h
   ·rename_i xb yb hx hy;obtain⟨rfl,rfl⟩:=vP h;have h1:=aW x;have h2:=aW y;rw[hx] at h1;rw[hy] at h2;refine mG (rv:=.bool (bif cb then xb else yb)) ok hM rfl (show zP M (.c (.bool _)) (.bool _) from rfl) ?_ hn;have h1:a.eval x=.bool xb:=h1;have h2:a.eval y=.bool yb:=h2;cases o;cases ho;show(do pure (.value (if←asBool (a.eval c) then a.eval x else a.eval y)):Sem Next).run E.P w=_;cases cb<;>simp[iR,asBool,h1,h2]
   ·refine mG (rv:=if cb then a.eval x else a.eval y) ok hM ?_ ?_ ?_ hn
    ·rcases h with⟨_,_,rfl⟩|⟨_,⟨_,_,rfl⟩|⟨_,h⟩⟩
     ·rfl
     ·rfl
     ·exact h.elim
    ·rcases h with⟨rfl,rfl,_⟩|⟨rfl,⟨_,rfl,_⟩|⟨_,h⟩⟩
     ·exact aW x
     ·exact aW y
     ·exact h.elim
    ·cases o;cases ho;show(do pure (.value (if←asBool (a.eval c) then a.eval x else a.eval y)):Sem Next).run E.P w=_;cases cb<;>simp[iR,asBool]
  ·exact h.elim
 ·rename_i t ho;split at h
  ·rename_i zs aO hz;obtain⟨_,rfl,rfl⟩:=eZ h;exact eN (vBn ok hM aO hz) (by cases o;cases ho;rfl) hn
  ·exact h.elim
 ·rename_i t x ho;split at h
  ·rename_i vs aO hv;obtain⟨_,rfl,rfl⟩:=eZ h;exact eN (vH2 ok hM aO (aW x) hv _) (by cases o;cases ho;rfl) hn
  ·exact h.elim
 ·rename_i t parts ho;have hp:=OI aW parts.toList;have:=vHn ok hM hp h;exact eN this (by cases o;cases ho;rw[←Zx];rfl) hn
 ·rename_i t n parts ho;have hp:=OI aW parts.toList;exact eN (vIe ok hM hp h) (by cases o;cases ho;rw[←Zx];rfl) hn
 ·rename_i t x ho;exact eN (vH0 ok hM (aW x) h) (by cases o;cases ho;rfl) hn
 ·rename_i t x y ho;obtain⟨rfl,hr⟩:=vFx ok hM (aW x) (aW y) h;exact Zw hr (by cases o;cases ho;rfl) hn
 ·rename_i x ho;have hx:=aW x;have key:∀c,ev x=.c c→v=.c c→u=[]→(match a.eval x with|.pointer none|.nilIface|.nilFunc=>False|.func (.method _) _ _=>False|_=>True)→o.wp E.P a w next Q:=by
   intro c hc hv hu hm;rw[hc] at hx;refine mG (rv:=a.eval x) ok hM hu (by rw[hv];exact hx) ?_ hn;cases o;cases ho;simp only[execOp];generalize a.eval x=r at*
   split<;>first|rfl|exact hm.elim
  split at h
  ·rename_i i j hc;obtain⟨rfl,rfl⟩:=vP h;refine key _ hc rfl rfl ?_;rw[hc] at hx;obtain⟨C,B,_,_,e⟩:=hx;rw[e];trivial
  ·rename_i i j k hc;obtain⟨rfl,rfl⟩:=vP h;refine key _ hc rfl rfl ?_;rw[hc] at hx;obtain⟨C,B,_,_,_,e⟩:=hx;rw[e];trivial
  ·rename_i i j k l hc;obtain⟨rfl,rfl⟩:=vP h;refine key _ hc rfl rfl ?_;rw[hc] at hx;obtain⟨B,o,e,_⟩:=hx;rw[e];trivial
  ·rename_i i j hc;obtain⟨rfl,rfl⟩:=vP h;refine key _ hc rfl rfl ?_;rw[hc] at hx;obtain⟨cv,e,_⟩:=hx;rw[e];trivial
  ·exact h.elim
 ·rename_i op t x y _ ho;cases hc:(Nl y&&Nk op) with
  |false=>
   rw[hc] at h;exact eN (vQ5 hE.eq ok hM (aW x) (aW y) h) (by cases o;cases ho;rfl) hn
  |true=>
   rw[hc] at h;rw[Bool.and_eq_true] at hc;have nQ:op=.eql∨op=.neq:=by cases op<;>first|(left;rfl)|(right;rfl)|(cases hc.2)
   split at h
   ·rename_i d cv hu iR;split at h
    ·rename_i b hb;obtain⟨rfl,rfl⟩:=vP h;have hx:=aW x;rw[iR] at hx;have hy:a.eval y=y.lit:=by
      cases y<;>first|rfl|(cases hc.1)
     obtain⟨h1,h2⟩:=vPk (w:=w) hu hx hy hb op nQ x y;refine mG (rv:=.bool (nB op b)) ok hM rfl (show zP M (.c (.bool _)) (.bool _) from rfl) ?_ hn;cases o;cases ho;show(do pure (.value (←(do eqGuard op t x y (a.eval x) (a.eval y);binOp op t (a.eval x) (a.eval y)))):Sem Next).run E.P w=_;simp only[Sem.run_bind,h1,Result.andThen_ok,h2,Sem.run_pure]
    ·split at h
     ·rename_i n hln ZA;obtain⟨jn,rfl,rfl⟩:=je h;have hx:=aW x;rw[iR] at hx;obtain⟨a',k',hx⟩:=yU7 ok hx hln (by simpa using jn);obtain⟨h1,h2⟩:=yZv (P:=E.P) (w:=w) (a:=a') (n:=n) (k:=k') hu op nQ x (.const (.slice none 0 0));have hy:a.eval (.const (.slice none 0 0))=.slice none 0 0:=rfl;refine mG (rv:=.bool (nB op false)) ok hM rfl (show zP M (.c (.bool _)) (.bool _) from rfl) ?_ hn;cases o;cases ho;show(do pure (.value (←(do eqGuard op t x (.const (.slice none 0 0)) (a.eval x) (a.eval (.const (.slice none 0 0)));binOp op t (a.eval x) (a.eval (.const (.slice none 0 0)))))):Sem Next).run E.P w=_;rw[hx,hy];simp only[Sem.run_bind,h1,Result.andThen_ok,h2,Sem.run_pure]
     ·exact h.elim
   ·exact h.elim
 ·rename_i op t x ho;exact eN (yWe ok hM (aW x) h) (by cases o;cases ho;rfl) hn
 ·rename_i s d x ho;split at h
  ·rename_i k1 k k2 n hs hd hx;obtain⟨rfl,rfl⟩:=vP h;have jo:=aW x;rw[hx] at jo;have jo:a.eval x=.int k2 n:=jo;refine mG (rv:=.int k (k.wrap n)) ok hM rfl (show zP M (.c (.int _ _)) (.int _ _) from rfl) ?_ hn;cases o;cases ho;show(do pure (.value (←convert s d (a.eval x))):Sem Next).run E.P w=_;simp[convert,run_underlying hs,run_underlying hd,jo,Conv.intToInt]
  ·rename_i e c hs hd hx;split at h
   ·rename_i xs he EM;obtain⟨rfl,rfl⟩:=vP h;have jo:=aW x;rw[hx] at jo;obtain⟨A,n,k,e1,e2⟩:=yT3 (P:=E.P) (w:=w) ok jo EM hM;refine mG (rv:=.string ⟨(lL xs).toArray⟩) ok hM rfl (show zP M (.c (.str xs)) _ from rfl) ?_ hn;cases o;cases ho;show(do pure (.value (←convert s d (a.eval x))):Sem Next).run E.P w=_;rw[e1] at e2⊢;simp only[Sem.run_bind,run_convert_bytes_string w s d e A n k hs he hd,e2,Result.andThen_ok,Sem.run_pure]
   ·exact h.elim
  ·exact h.elim
 ·rename_i f first captured ho
  cases hf:Nat.beq first.size 0 with
  |false=>rw[hf] at h;exact h.elim
  |true=>
   rw[hf] at h;simp only[cond_true] at h;split at h
   ·rename_i ids jq;obtain⟨rfl,rfl⟩:=vP h;have h0:first=#[]:=Array.eq_empty_of_size_eq_zero (by simpa using hf)
    refine mG (rv:=.func (.func f) #[] (captured.map a.eval)) ok hM rfl ?_ ?_ hn
    case refine_2=>
     cases o;cases ho;show(do pure (.value (←Instr.makeFunc (.func f) (first.map a.eval) (captured.map a.eval))):Sem Next).run E.P w=_;subst h0;simp[Instr.makeFunc]
    refine⟨_,rfl,?_⟩;rw[Array.toList_map];exact Zy aW (EL _ _ _ jq)
   ·exact h.elim
 ·rename_i t l c ho;exact eN (vFv ok hM (aW l) (aW c) h) (by cases o;cases ho;rfl) hn
 ·rename_i t ho;exact eN (vAg ok hM h) (by cases o;cases ho;rfl) hn
 ·rename_i t x i ho;exact eN (vQp ok hM (aW x) (aW i) h) (by cases o;cases ho;rfl) hn
 ·rename_i t x i y ho;obtain⟨rfl,hr⟩:=yYo ok hM (aW x) (aW i) (aW y) h;exact Zw hr (by cases o;cases ho;rfl) hn
 ·rename_i t x lo hi mx ho;have hO:∀y:Option Operand,zg M (y.map ev) (y.map a.eval):=fun y=>by
   cases y with
   |none=>trivial
   |some y=>exact aW y
  exact eN (vGw ok hM (aW x) (hO lo) (hO hi) (hO mx) h) (by cases o;cases ho;rfl) hn
 ·rename_i t x f ho;exact eN (vPv ok hM (aW x) h) (by cases o;cases ho;rfl) hn
 ·rename_i t x f ho;exact eN (vLd ok hM (aW x) h) (by cases o;cases ho;rfl) hn
 ·rename_i t x i ho;exact eN (vR4 ok hM (aW x) (aW i) h) (by cases o;cases ho;rfl) hn
 ·rename_i t x i ho;split at h
  ·rename_i s;exact eN (vOz ok hM (aW i) h) (by cases o;cases ho;rfl) hn
  ·exact eN (yWj ok hM (aW x) (aW i) h) (by cases o;cases ho;rfl) hn
 ·rename_i t i ho;have ht:=aW t;split at h
  ·rename_i xs EM;rw[EM] at ht;obtain⟨vs,dh,bb⟩:=ht;split at h
   ·rename_i g cs hi;obtain⟨hp,rfl⟩:=NH h;have hl:=bb.length;have bd:i<xs.length:=by
     rcases Nat.lt_or_ge i xs.length with h|h
     ·exact h
     ·rw[List.getElem?_eq_none h] at hi;cases hi
    have hY:i<vs.size:=by simp at hl;omega
    have hc:=bb.get i bd (by simpa using hY);rw[List.getElem?_eq_getElem bd,Option.some.injEq] at hi;rw[hi] at hc;refine mG (rv:=vs[i]) ok hM rfl ?_ ?_ hn
    ·rcases NK hp with⟨e1,rfl⟩|⟨e1,c,rfl,rfl⟩
     ·cases e1;exact hc
     ·cases e1;exact hc
    ·cases o;cases ho;show(do pure (.value (←Instr.extract (a.eval t) i)):Sem Next).run E.P w=_;rw[dh];simp[Instr.extract,hY]
   ·exact h.elim
  ·exact h.elim
 ·rename_i c ho;have cy:=Zz aW c.args.toList;have exec:∀b,c.callee=.builtin b→∀s:Sem Value,(∀C,Go.builtin b c.argTypes o.type C (c.args.map a.eval)=(do pure (.value (←s)):Sem Next))→execOp a.eval o=(do pure (.value (←s)):Sem Next):=fun b hb s hs=>by
   cases o;cases ho;show(do let d←resolve a.eval c _;invoke d.target d.args:Sem Next)=_;unfold resolve;rw[hb];exact hs _
  have ij:c.args.map a.eval=(c.args.toList.map a.eval).toArray:=by cases c.args;simp
  split at h
  ·rename_i b ik;unfold Ny at h;split at h
   ·split at h
    case h_2=>exact h.elim
    rename_i x hx;have h1:∃rx,(c.args.toList.map a.eval).toArray=#[rx]∧zQ M x rx:=by
     rw[hx] at cy
     match hl:c.args.toList.map a.eval,cy with
     |[rx],hh=>exact⟨rx,rfl,hh.1⟩
    obtain⟨rx,uP,jo⟩:=h1;split at h
    ·rename_i e hu;split at h
     ·rename_i n hlen;obtain⟨rfl,rfl⟩:=vP h;obtain⟨t,ht,hu⟩:=Option.bind_eq_some_iff.1 hu;obtain⟨A,k,rfl⟩:=vRl ok jo hlen;refine eN (s:=Builtin.len_ c.argTypes o.type (c.args.map a.eval)) ?_ (exec _ ik _ fun _=>rfl) hn;rw[ij,uP];exact .pure ok hM (yZn ht hu) rfl
     ·exact h.elim
    ·exact h.elim
   ·split at h
    case h_2=>exact h.elim
    rename_i b x hx;have h1:∃rb rx,(c.args.toList.map a.eval).toArray=#[rb,rx]∧zP M b rb∧zP M x rx:=by
     rw[hx] at cy
     match hl:c.args.toList.map a.eval,cy with
     |[rb,rx],hh=>exact⟨rb,rx,rfl,hh.1,hh.2.1⟩
    obtain⟨rb,rx,uP,OJ,jo⟩:=h1;split at h
    ·rename_i t t' hts;obtain⟨htt,h'⟩:=uK h;have:t=t':=by simpa using htt
     subst this;refine eN (s:=Builtin.append_ c.argTypes o.type (c.args.map a.eval)) ?_ (exec _ ik _ fun _=>rfl) hn;have ht:c.argTypes=#[t,t]:=by
      have:=congrArg List.toArray hts
      simpa using this
     rw[ij,uP,ht];exact vIz ok hM OJ jo h'
    ·exact h.elim
   ·split at h
    case h_2=>exact h.elim
    rename_i d s hx;have h1:∃rb rx,(c.args.toList.map a.eval).toArray=#[rb,rx]∧zP M d rb∧zP M s rx:=by
     rw[hx] at cy
     match hl:c.args.toList.map a.eval,cy with
     |[rb,rx],hh=>exact⟨rb,rx,rfl,hh.1,hh.2.1⟩
    obtain⟨rb,rx,uP,OJ,jo⟩:=h1;split at h
    ·rename_i e hu;obtain⟨OK,h⟩:=uK h;obtain⟨t,ht,hu⟩:=Option.bind_eq_some_iff.1 hu;refine eN (s:=Builtin.copy_ c.argTypes o.type (c.args.map a.eval)) ?_ (exec _ ik _ fun _=>rfl) hn;rw[ij,uP];exact yVz ok hM ht hu (by simpa using OK) OJ jo h
    ·exact h.elim
   ·split at h
    case h_2=>exact h.elim
    rename_i id lo n hx;have h1:∃rx,(c.args.toList.map a.eval).toArray=#[rx]∧zQ M (.osl id (some (lo,n))) rx:=by
     rw[hx] at cy
     match hl:c.args.toList.map a.eval,cy with
     |[rx],hh=>exact⟨rx,rfl,hh.1⟩
    obtain⟨rx,uP,jo⟩:=h1;split at h
    ·rename_i t ht;refine eN (s:=Builtin.clear_ c.argTypes o.type (c.args.map a.eval)) ?_ (exec _ ik _ fun _=>rfl) hn;rw[ij,uP];obtain⟨rv,w',M',q1,q2⟩:=vIm (T:=o.type) ok hM jo h;refine⟨rv,w',M',?_,q2⟩;have e:(Builtin.clear_ c.argTypes o.type #[rx]).run E.P w=(Builtin.clear_ #[t] o.type #[rx]).run E.P w:=by
      simp only[Builtin.clear_,ht];rfl
     rw[e];exact q1
    ·exact h.elim
   ·refine eN (s:=Builtin.max_ c.argTypes o.type (c.args.map a.eval)) ?_ (exec _ ik _ fun _=>rfl) hn;rw[ij];exact Zo (lt:=false) (ts:=c.argTypes) (T:=o.type) ok hM cy h
   ·refine eN (s:=Builtin.min_ c.argTypes o.type (c.args.map a.eval)) ?_ (exec _ ik _ fun _=>rfl) hn;rw[ij];exact Zo (lt:=true) (ts:=c.argTypes) (T:=o.type) ok hM cy h
   ·exact h.elim
  ·rename_i f ik;split at h
   ·rename_i OM cap hf;have ZB:=aW f;rw[hf] at ZB;obtain⟨cv,iR,EN⟩:=ZB;have bb:zK (zP M) (c.args.toList.map ev++cap.map fun id=>.c (.ptr id 0)) (c.args.map a.eval++cv).toList:=by
     rw[Array.toList_append,Array.toList_map];exact cy.append (zK.map_left EN)
    have pv:(execOp a.eval o).run E.P w=(callFunc OM (c.args.map a.eval++cv)).run E.P w:=by
     cases o;cases ho;show(do let d←resolve a.eval c _;invoke d.target d.args:Sem Next).run E.P w=_;unfold resolve;rw[ik];simp only[iR,Deferred.ofValue,Sem.run_bind,Sem.run_pure,Result.andThen_ok,invoke,Array.empty_append]
    rcases hE.sums k _ OM _ M.h v u h M w _ rfl hM ok bb with⟨h1,h2⟩|⟨rv,w',M',h1,hB,hv⟩
    case inr=>
     unfold Oper.wp;rw[pv,h1];exact hn M' w' rv hB hv
    unfold Oper.wp;rw[pv,h1,Oper.upon_enter];refine Calls.mono h2 fun e w' he=>?_
    cases e with
    |returned rv=>
     obtain⟨M',hB,hv⟩:=he;exact hn M' w' rv hB hv
    |panicked _=>exact he.elim
    |outgrown=>exact he.elim
   ·exact h.elim
  ·exact h.elim
 ·exact h.elim
section
variable {P:Program} {h h':Hp}
theorem vIr {t a}(hh:∀id∈yG a,h id=h' id):yc P h t a=yc P h' t a:=by
 unfold yc;cases a with
 |c v=>cases v<;>first|rfl|(have:=hh _ (List.mem_singleton.2 rfl);simp_all)
 |_=>rfl
theorem ZC {v}(hh:∀id∈yY v,h id=h' id):lM h v=lM h' v:=by
 unfold lM;cases v<;>first|rfl|(have:=hh _ (List.mem_singleton.2 rfl);simp_all)
theorem ON:∀{vs},(∀id∈vs.flatMap yY,h id=h' id)→kT h vs=kT h' vs
 |[],_=>rfl
 |v::vs,hh=>by
  simp  at hh;unfold kT;rw[ZC fun id hi=>hh id (.inl hi),ON (by grind)]
theorem ZD {v vs}(e:lK v=some vs):vs.flatMap yY=yG v:=by
 unfold lK at e;split at e
 ·cases e;simp[yG]
 ·cases e;rfl
 ·cases e
theorem vG9 {t a v}(ha:∀id∈yG a,h id=h' id)(hv:∀id∈yG v,h id=h' id):yd P h t a v=yd P h' t a v:=by
 unfold yd;cases e:lK v with
 |none=>rfl
 |some vs=>
  have hf:kT h vs=kT h' vs:=ON (by rw[ZD e];exact hv);cases a with
  |c x=>
   cases x with
   |mptr id i=>
    have h1:=ha _ (List.mem_singleton.2 rfl);simp only[h1];generalize h' id=ob;rcases ob with _|(_|_|_|_|_|_|_)<;>first|rfl|skip
    all_goals cases v with
    |c y=>cases y with
     |osl jd r=>cases r with
      |none=>
       have h2:=hv _ (List.mem_singleton.2 rfl);simp_all
      |some _=>rfl
     |_=>rfl
    |_=>rfl
   |ptr id off=>
    have h1:=ha _ (List.mem_singleton.2 rfl);simp_all
   |eptr id i off=>
    have h1:=ha _ (List.mem_singleton.2 rfl);simp_all
   |meptr id i j ver=>
    have h1:=ha _ (List.mem_singleton.2 rfl);simp[h1]
   |_=>rfl
  |_=>rfl
theorem Jj {v}(hh:∀id∈yY v,h id=h' id):gZ h v=gZ h' v:=by
 unfold gZ;cases v<;>first|rfl|(have:=hh _ (List.mem_singleton.2 rfl);simp_all)
theorem vOg {v}(hh:∀id∈yY v,h id=h' id):xY h v=xY h' v:=by
 have e:=Jj hh;unfold xY;grind
theorem vKk {t x i}(hh:∀id∈yG x,h id=h' id):ye P h t x i=ye P h' t x i:=by
 unfold ye;generalize P.underlying t=d;rcases d with _|d
 ·rfl
 ·cases d with
  |slice e=>
   cases x with
   |c v=>
    cases i with
    |c iv=>
     cases iv with
     |int k n=>cases v<;>first|rfl|(have:=hh _ (List.mem_singleton.2 rfl);simp_all)
     |_=>cases v<;>rfl
    |_=>rfl
   |_=>rfl
  |array n e=>
   grind
  |_=>rfl
theorem yZj {nm t}(h0:h nm=h' nm):yh P nm h t=yh P nm h' t:=by
 unfold yh;rw[h0]
theorem yU3 {t x i}(hh:∀id∈yG x,h id=h' id):yi P h t x i=yi P h' t x i:=by
 unfold yi;split
 ·rename_i id n;rw[hh id (by simp[yG,yY])]
 ·rfl
theorem yVv {t x i y}(hh:∀id∈yG x,h id=h' id):yj P h t x i y=yj P h' t x i y:=by
 unfold yj;split
 ·rename_i id n b;rw[hh id (by simp[yG,yY])]
 ·rfl
theorem yY6 {t x lo hi mx}(hh:∀id∈yG x,h id=h' id):yk P h t x lo hi mx=yk P h' t x lo hi mx:=by
 unfold yk;split
 ·rfl
 ·rename_i id r _;rw[hh id (by simp[yG,yY])]
 ·rename_i id _;rw[hh id (by simp[yG,yY])]
 ·rename_i id off _;rw[hh id (by simp[yG,yY])]
 ·rfl
theorem yTr {v}(hh:∀id∈yG v,h id=h' id):uj h v=uj h' v:=by
 unfold uj;cases v with
 |c v=>cases v with
  |osl jd r=>cases r with
   |none=>
    have h2:=hh _ (List.mem_singleton.2 rfl);simp_all
   |some _=>rfl
  |_=>rfl
 |_=>rfl
theorem ZE:∀{parts rows},(∀id∈(parts.map (·.2)).flatMap yG,h id=h' id)→uk h rows parts=uk h' rows parts
 |[],_,_=>rfl
 |(i,v)::rest,rows,hh=>by
  simp only[List.map_cons,List.flatMap_cons,List.mem_append] at hh;unfold uk;rw[yTr fun id hi=>hh id (.inl hi)];cases uj h' v with
  |none=>rfl
  |some p=>simp[ZE fun id hi=>hh id (.inr hi)]
theorem ZF {t}:∀{parts xs},(∀id∈(parts.map (·.2)).flatMap yG,h id=h' id)→nC h t xs parts=nC h' t xs parts
 |[],_,_=>rfl
 |(i,v)::rest,xs,hh=>by
  simp only[List.map_cons,List.flatMap_cons,List.mem_append] at hh;unfold nC;cases e:lK v with
  |none=>rfl
  |some vs=>
   have hf:kT h vs=kT h' vs:=ON (by rw[ZD e];simp_all);simp[hf];cases kT h' vs with
   |none=>rfl
   |some p=>
    dsimp only;cases D6 t p.1 with
    |none=>rfl
    |some x=>simp[ZF fun id hi=>hh id (.inr hi)]
theorem yVq {mat nm t n parts}(h0:h nm=h' nm)(hh:∀id∈(parts.map (·.2)).flatMap yG,h id=h' id):
  yf P mat nm h t n parts=yf P mat nm h' t n parts:=by
 have e':∀ty:Ty,nC h ty (List.replicate n ty.dflt) parts=nC h' ty (List.replicate n ty.dflt) parts:=fun ty=>ZF hh
 unfold yf;rw[h0,ZE hh];simp_all
theorem vBk {mat nm t l c}(h0:h nm=h' nm):yg P mat nm h t l c=yg P mat nm h' t l c:=by
 unfold yg;rw[h0]
theorem vIy {t v}(hh:∀id∈yY v,h id=h' id):o6 h t v=o6 h' t v:=by
 unfold o6;cases v with
 |osl id r=>
  have:=hh _ (List.mem_singleton.2 rfl);simp_all
 |_=>rfl
theorem vBo {mat:Bool}{nm:Nat}{t:TypeId}{b x:zT}(h0:h nm=h' nm)(hb:∀id∈yG b,h id=h' id)(hx:∀id∈yG x,h id=h' id):yl P mat nm h t b x=yl P mat nm h' t b x:=by
 unfold yl;rw[h0];generalize P.underlying t=d;rcases d with _|d
 ·rfl
 cases d with
 |slice e=>
  generalize h' nm=on;cases on with
  |some _=>rfl
  |none=>
   cases b with
   |c b=>
    cases x with
    |c x=>
     have ht:∀ty,o6 h ty x=o6 h' ty x:=fun ty=>vIy hx
     simp only[ht];cases b with
     |osl id r=>
      have h1:=hb _ (List.mem_singleton.2 rfl);simp only[h1];cases x with
      |osl jd r2=>
       have h2:=hx _ (List.mem_singleton.2 rfl);grind
      |_=>cases mat with
       |false=>rfl
       |true=>
        generalize gX P e=et;rcases et with _|(_|_|_|_)<;>first|rfl|skip
        rename_i t2;cases t2<;>first|rfl|skip
        rename_i k;cases k<;>cases r<;>rfl
     |_=>cases mat with
      |false=>rfl
      |true=>
       generalize gX P e=et;rcases et with _|(_|_|_|_)<;>first|rfl|skip
       rename_i t2;cases t2<;>first|rfl|skip
       rename_i k;cases k<;>rfl
    |_=>rfl
   |_=>rfl
 |_=>rfl
theorem vIj {d s}(hd:∀id∈yG d,h id=h' id)(hs:∀id∈yG s,h id=h' id):ym h d s=ym h' d s:=by
 unfold ym;cases d with
 |c d=>
  cases s with
  |c s=>
   cases d with
   |bsl id off n=>
    have h1:=hd _ (List.mem_singleton.2 rfl);have h2:gZ h s=gZ h' s:=Jj hs;grind
   |_=>rfl
  |_=>simp
 |_=>rfl
end
theorem yVd {E}{A}{k pre}{o}{ev pB}{h}(he:∀x∈o.op.operands,ev x=pB x):iN E A k pre o ev h=iN E A k pre o pB h:=by
 obtain⟨dst,op,type,pos,after,guard⟩:=o;have jN:∀ps:Array (Nat×Operand),(∀x∈ps.map (·.2),ev x=pB x)→(ps.toList.map fun p=>(p.1,ev p.2))=(ps.toList.map fun p=>(p.1,pB p.2)):=fun ps hp=>
  List.map_congr_left (by grind)
 have maps:∀xs:Array Operand,(∀x∈xs,ev x=pB x)→xs.toList.map ev=xs.toList.map pB:=by simp
 cases op<;>simp only[Op.operands] at he<;>simp only[iN]
 case build t ps=>rw[jN ps fun x hx=>he x (by simpa using hx)]
 case buildSlice t n ps=>rw[jN ps fun x hx=>he x (by simpa using hx)]
 case makeFunc fn first captured=>
  cases fn<;>first|rfl|skip
  have:captured.toList.mapM (fun x=>rO (ev x))=captured.toList.mapM (fun x=>rO (pB x)):=by
   have h2:∀l:List Operand,(∀x∈l,ev x=pB x)→l.mapM (fun x=>rO (ev x))=l.mapM (fun x=>rO (pB x)):=fun l=>by
    induction l with
    |nil=>exact fun _=>rfl
    |cons y l ih=>simp_all
   exact by grind
  simp only[this]
 case call c=>
  obtain⟨callee,args,ZG⟩:=c;have ha:=maps args fun x hx=>he x (by simp[Call.operands,hx])
  cases callee with
  |value f=>
   have hf:=he f (by simp[Call.operands]);simp only[hf,ha]
  |builtin b=>simp only[ha]
  |invoke _ _=>rfl
 case makeMap t r=>cases r<;>rfl
 case lookup t x i ok=>cases ok<;>simp_all
 case slice t x lo hi mx=>
  have h1:=he x (by simp);cases lo<;>cases hi<;>cases mx<;>simp_all
 all_goals (first|rfl|(simp only[he _ (by simp:_∈#[_])];done)|(simp_all;done))
def il (S:Iy):Prop:=∀k nm f (args:List zT) h h',(args.any vR=false→∀id,(id∈args.flatMap yG∨kV nm id=true)→h id=h' id)→(args.any vR=true→h=h')→S k nm f args h=S k nm f args h'
theorem yY1 nm:kV nm nm=true:=by
 simp[kV]
theorem yUr {E}(hS:il E.sums){A k pre o ev h h'}
  (hh:match nE ev o with|none=>h=h'|some l=>∀id,(id∈l∨kV (nD pre o.dst) id=true)→h id=h' id):iN E A k pre o ev h=iN E A k pre o ev h':=by
 have full:h=h'→iN E A k pre o ev h=iN E A k pre o ev h':=fun e=>by rw[e]
 unfold nE at hh;dsimp only at hh;cases hq:Yj o.op with
 |true=>
  obtain⟨dst,op,type,pos,after,guard⟩:=o;cases op<;>first|rfl|cases hq
 |false=>
 rw[hq] at hh;simp only[cond_false] at hh;cases hc:(Nz o.op&&(o.op.operands.toList.map ev).any vR) with
 |true=>rw[hc] at hh;exact full hh
 |false=>
  rw[hc] at hh;replace hh:∀id,(id∈(o.op.operands.toList.map ev).flatMap yG∨kV (nD pre o.dst) id=true)→h id=h' id:=hh;have h0:h (nD pre o.dst)=h' (nD pre o.dst):=hh _ (.inr (yY1 _));have hx:∀x∈o.op.operands,∀id∈yG (ev x),h id=h' id:=by grind
  obtain⟨dst,op,type,pos,after,guard⟩:=o;dsimp only at h0 hx hc;cases op<;>simp only[Op.operands] at hx<;>simp only[iN]
  case alloc t=>rw[h0]
  case box t x=>rw[h0]
  case buildSlice t n ps=>
   exact yVq h0 (by grind)
  case load t x=>exact vIr (hx x (by simp))
  case store t x y=>exact vG9 (hx x (by simp)) (hx y (by simp))
  case makeSlice t l c=>exact vBk h0
  case slice t x lo hi mx=>exact yY6 (hx x (by simp))
  case makeMap t r=>cases r<;>first|rfl|exact yZj h0
  case lookup t x i ok=>cases ok<;>first|rfl|exact yU3 (hx x (by simp))
  case mapUpdate t x i y=>exact yVv (hx x (by simp))
  case indexAddr t x i=>exact vKk (hx x (by simp))
  case binOp op t x y p=>
   have hx:=hx x (by simp);have hl:∀v,ev x=.c v→xZ h v=xZ h' v:=fun v e=>by
    cases v with
    |osl id r=>cases r with
     |none=>simp only[xZ,hx id (by rw[e];simp[yG,yY])]
     |some p=>rfl
    |_=>rfl
   split
   ·cases Nl y&&Nk op with
    |false=>rfl
    |true=>
     rename_i d v hu hv;simp only[hl v hv]
   ·rfl
  case convert s d x=>
   have hx:=hx x (by simp);have hs:∀v,ev x=.c v→xX h v=xX h' v:=fun v e=>by
    have:=Jj (h:=h) (h':=h') (v:=v) fun id ah=>hx id (by rw[e];exact ah)
    unfold xX;cases v<;>first|rfl|simp only[this]
   split
   ·rfl
   ·rename_i e c _ _ hc;rw[hs c hc]
   ·rfl
  case call c=>
   obtain⟨callee,args,ZG⟩:=c;have ha:∀v∈args.toList.map ev,∀id∈yG v,h id=h' id:=fun v hv=>by
    obtain⟨x,uQ,rfl⟩:=List.mem_map.1 hv;exact hx x (by simp at uQ;simp[Call.operands,uQ])
   cases callee with
   |value f=>
    dsimp only;cases hf:ev f with
    |c fv=>cases fv with
     |fn OM cap=>
      dsimp only;simp only[Nz,Bool.true_and] at hc;have fU:cap=[]:=by
       have hm:ev f∈(Op.call ⟨.value f,args,ZG⟩).operands.toList.map ev:=List.mem_map_of_mem (by simp[Op.operands,Call.operands]);have:=List.any_eq_false.1 hc _ hm;rw[hf] at this
       simpa[vR] using this
      subst fU;simp only[List.map_nil,List.append_nil];have hb:(args.toList.map ev).any vR=false:=by
       refine List.any_eq_false.2 fun v hv=>?_
       obtain⟨x,uQ,rfl⟩:=List.mem_map.1 hv;exact List.any_eq_false.1 hc _ (List.mem_map_of_mem (by simp at uQ;simp[Op.operands,Call.operands,uQ]))
      refine hS _ _ _ _ _ _ (fun _ id ah=>?_) fun ht=>?_
      ·rcases ah with ah|ah
       ·obtain⟨v,hv,ah⟩:=List.mem_flatMap.1 ah;exact ha v hv id ah
       ·exact hh id (.inr ah)
      ·rw[hb] at ht;cases ht
     |_=>rfl
    |_=>rfl
   |invoke _ _=>rfl
   |builtin b=>
    generalize hl:args.toList.map ev=l at ha;unfold Ny;cases b<;>first|rfl|skip
    case len=>
     match l,ha with
     |[],_=>rfl
     |[v],ha=>cases v with
      |c v=>
       have:=vOg (ha (.c v) (by simp));simp only[this]
      |_=>rfl
     |v::_::_,_=>cases v<;>rfl
    case append=>
     match l,ha with
     |[],_|[_],_|_::_::_::_,_=>rfl
     |[b,x],ha=>
      have:=fun mat t=>vBo (P:=E.P) (mat:=mat) (t:=t) h0 (ha b (by simp)) (ha x (by simp))
      simp only[this]
    case clear=>
     match l,ha with
     |[],_=>rfl
     |[v],ha=>cases v with
      |c v=>cases v with
       |osl id r=>cases r with
        |none=>rfl
        |some p=>
         have e:=ha (.c (.osl id (some p))) (by simp) id (by simp[yG,yY]);dsimp only;split
         ·unfold Iw;rw[e]
         ·rfl
       |_=>rfl
      |_=>rfl
     |v::_::_,_=>cases v with
      |c v=>cases v with
       |osl id r=>cases r<;>rfl
       |_=>rfl
      |_=>rfl
    case copy=>
     match l,ha with
     |[],_|[_],_|_::_::_::_,_=>rfl
     |[b,x],ha=>
      have:=vIj (ha b (by simp)) (ha x (by simp));simp only[this]
  case makeFunc fn first captured=>cases fn<;>rfl
  all_goals rfl
end Go.Ab
set_option linter.unusedSectionVars false
namespace Go.Ab
structure gH (M M':zI):Prop where
 F:∀b,M.F b→M'.F b
 G:∀b,M.G b→M'.G b
 same:∀b,M.F b→M'.H[b]? =M.H[b]?
 sameG:∀b,M.G b→M'.H[b]? =M.H[b]?
 bsz:∀b,b<M.H.size→qO M'.H b=qO M.H b
 size:M.H.size≤M'.H.size
 frame:∀b,b<M.H.size→¬qJ M b→M'.H[b]? =M.H[b]?
 own:∀b,qJ M' b→b<M.H.size→qJ M b
 Gb:∀b,M'.G b→b<M.H.size→M.G b∨qJ M b
 Fb:∀b,M'.F b→b<M.H.size→M.F b∨qJ M b
theorem yS.grow {M M'}(s:yS M M'):gH M M':=⟨s.ext.F,s.ext.G,s.ext.same,s.ext.sameG,s.ext.bsz,s.size,s.frame,s.own,s.Gb,s.Fb⟩
theorem gH.trans {M M' kq}(x:gH M M')(y:gH M' kq):gH M kq where
 F b h:=y.F b (x.F b h)
 G b h:=y.G b (x.G b h)
 same b h:=(y.same b (x.F b h)).trans (x.same b h)
 sameG b h:=(y.sameG b (x.G b h)).trans (x.sameG b h)
 bsz b h:=(y.bsz b (by have:=x.size;omega)).trans (x.bsz b h)
 size:=Nat.le_trans x.size y.size
 frame b h hn:=by
  have:=x.size;rw[y.frame b (by omega) fun ho=>hn (x.own b ho h),x.frame b h hn]
 own b ho h:=x.own b (y.own b ho (by have:=x.size;omega)) h
 Gb b hg h:=by
  rcases y.Gb b hg (by have:=x.size;omega) with k|k
  ·exact x.Gb b k h
  ·exact .inr (x.own b k h)
 Fb b hg h:=by
  rcases y.Fb b hg (by have:=x.size;omega) with k|k
  ·exact x.Fb b k h
  ·exact .inr (x.own b k h)
def Jk (M M':zI):Prop:=∀id C,M.κ id=some C→∃C',M'.κ id=some C'∧C'.blk=C.blk
structure pC (nl:Bool) (M M':zI):Prop where
 g:gH M M'
 k:nl=true→Jk M M'
theorem pC.step {nl M M' kq}(x:pC nl M M')(s:yS M' kq):pC nl M kq:=
 ⟨x.g.trans s.grow,fun h id C hC=>by
  obtain⟨C1,h1,e1⟩:=x.k h id C hC;obtain⟨C2,h2,le⟩:=s.ext.κ id C1 h1;exact⟨C2,h2,le.blk.trans e1⟩⟩
theorem pC.trans {M M' kq}(x:pC false M M')(y:gH M' kq):pC false M kq:=⟨x.g.trans y,by simp⟩
structure vF (nl:Bool) (na nt:Nat) (a0:Nat→Value) (M0:zI) (w0:World) (st:St) (a:Act) (w:World):Prop where
 ex:∃M:zI,M.h=st.h∧M.H=w.heap∧Ok M∧pC nl M0 M∧∀t,zP M (st.t t) (a.tmps.getD t undef)
 defers:a.defers=[]
 size:a.tmps.size=nt
 os:w.os=w0.os
 tape:w.tape=w0.tape
 output:w.output=w0.output
 keep:∀t,t<na→a.tmps.getD t undef=a0 t
theorem ZH {M}{st:St}{a:Act}(h:∀t,zP M (st.t t) (a.tmps.getD t undef)) x:zP M (st.ev x) (a.eval x):=by
 cases x with
 |tmp t=>exact h t
 |const v=>exact yXo M v
 |global g=>trivial
 |func f=>exact⟨#[],rfl,trivial⟩
theorem OO {t s v}(h:t s=v):wP t s v=t:=by
 funext n;unfold wP;cases e:Nat.beq n s with
 |false=>rfl
 |true=>
  simp_all
def zu (ops:Array Oper)(o:Oper)(st:St):Option Bool:=match o.guard with
 |none=>some true
 |some (j,want)=>match IE ops j with
  |none=>none
  |some s=>match st.t s with
   |.c (.bool b)=>some (b==want)
   |.skp=>some false
   |_=>none
theorem ZI {R ops o st yes no}{out:R}(h:IF ops o st yes no=some out):
  ∃b,zu ops o st=some b∧(if b=true then yes st else no st)=some out:=by
 unfold IF at h;unfold zu;cases hg:o.guard with
 |none=>simp_all
 |some p=>
  obtain⟨j,want⟩:=p;rw[hg] at h;dsimp only at h⊢;cases hs:IE ops j with
  |none=>simp_all
  |some s=>
   rw[hs] at h;dsimp only at h⊢;split at h
   ·rename_i b hb;rw[hb];refine⟨b==want,rfl,?_⟩;cases b with
    |true=>
     simp[OO hb] at h;cases want<;>exact h
    |false=>
     simp[OO hb] at h;cases want<;>exact h
   all_goals simp_all
theorem getD_some {a:Array Value}{s v}(h:a.getD s undef=v)(hv:v≠undef):a[s]? =some v:=by
 by_cases hs:s<a.size
 all_goals simp_all
theorem ZJ {ops o st b nl na nt a0 M0 w0 w a}(h:zu ops o st=some b)(R:vF nl na nt a0 M0 w0 st a w):Region.wanted o (yielded ops a.tmps)=b:=by
 obtain⟨M,_,_,_,_,ht⟩:=R.ex;unfold zu at h;unfold Region.wanted;split at h
 ·simp_all
 ·rename_i j want hg;rw[hg];split at h
  ·cases h
  ·rename_i s hs;have hv:=ht s;have uR:(ops[j]?).bind (·.dst)=some s:=hs;split at h
   ·rename_i b' hb;cases h;rw[hb] at hv;have:=getD_some hv (by nofun);simp only[yielded,uR,Option.bind_some,this];rfl
   ·rename_i hb;cases h;rw[hb] at hv;have hv:a.tmps.getD s undef=undef:=hv;have:∀x:Option Value,(x=none∨x=some undef)→((match x with|some (.bool b)=>some b|_=>none:Option Bool)==some want)=false:=fun x hx=>by
     rcases hx with rfl|rfl<;>cases want<;>rfl
    refine this _ ?_;by_cases bd:s<a.tmps.size
    all_goals simp_all
   ·cases h
theorem pA.rel {nl na nt a0 M0 M M' w0 w w' st a dst v u rv}(R:vF nl na nt a0 M0 w0 st a w)(hh:M.h=st.h)(hs:pC nl M0 M)(ht:∀t,zP M (st.t t) (a.tmps.getD t undef))
  (hd:∀d,dst=some d→na≤d∧d<nt) (hB:pA M w u M' w') (hv:zP M' v rv):vF nl na nt a0 M0 w0 {t:=gA st.t dst v,h:=qF st.h u} (a.put dst rv) w' where
 ex:=by
  refine⟨M',by rw[hB.h,hh],hB.H,hB.ok,hs.step hB.step,fun t=>?_⟩;cases dst with
  |none=>exact(ht t).ext hB.step.ext
  |some d=>
   show zP M' (wP st.t d v t) ((a.tmps.setIfInBounds d rv).getD t undef);have bd:d<a.tmps.size:=by rw[R.size];simp_all
   unfold wP;cases e:Nat.beq t d with
   |true=>
    simp_all
   |false=>
    have e:t≠d:=fun e'=>by simp_all
    have:=(ht t).ext hB.step.ext;simp[Array.getElem?_setIfInBounds_ne (Ne.symm e)] at this⊢;exact this
 defers:=by cases dst<;>exact R.defers
 size:=by cases dst<;>simp[Act.put,R.size]
 os:=hB.os.trans R.os
 tape:=hB.tape.trans R.tape
 output:=hB.output.trans R.output
 keep t h:=by
  cases dst with
  |none=>exact R.keep t h
  |some d=>
   have bj:d≠t:=by grind
   rw[←R.keep t h];simp[Act.put,Array.getElem?_setIfInBounds_ne bj]
theorem vF.skip {nl na nt a0 M0 w0 w st a dst}(hd:∀d,dst=some d→na≤d)(R:vF nl na nt a0 M0 w0 st a w):vF nl na nt a0 M0 w0 {st with t:=gA st.t dst .skp} (a.put dst undef) w where
 ex:=by
  obtain⟨M,h1,h2,h3,h4,ht⟩:=R.ex;refine⟨M,h1,h2,h3,h4,fun t=>?_⟩;cases dst with
  |none=>exact ht t
  |some d=>
   show zP M (wP st.t d .skp t) ((a.tmps.setIfInBounds d undef).getD t undef);unfold wP;cases e:Nat.beq t d with
   |true=>
    have e:t=d:=by simp_all
    subst e;show(a.tmps.setIfInBounds t undef).getD t undef=undef;simp
   |false=>
    have e:t≠d:=fun e'=>by simp_all
    have:=ht t;simp[Array.getElem?_setIfInBounds_ne (Ne.symm e)] at this⊢;exact this
 defers:=by cases dst<;>exact R.defers
 size:=by cases dst<;>simp[Act.put,R.size]
 os:=R.os
 tape:=R.tape
 output:=R.output
 keep t h:=by
  cases dst with
  |none=>exact R.keep t h
  |some d=>
   have bj:d≠t:=by grind
   rw[←R.keep t h];simp[Act.put,Array.getElem?_setIfInBounds_ne bj]
section
variable {E:Env} {A:zY} {nl:Bool} {k pre na nt:Nat} {a0:Nat→Value} {R:Type} {M0:zI} {w0:World} {Q:Exit→Act→World→Prop}
theorem vF.op (hE:fb E){st a w}{o:Oper}{v u next}(r:vF nl na nt a0 M0 w0 st a w)(hd:∀d,o.dst=some d→na≤d∧d<nt)(hy:yC (iN E A k pre o st.ev st.h) v u)
  (hn:∀a' w',vF nl na nt a0 M0 w0 {t:=gA st.t o.dst v,h:=qF st.h u} a' w'→next a' w'):o.wp E.P a w next Q:=by
 obtain⟨M,h1,h2,h3,h4,ht⟩:=r.ex;rw[←h1] at hy;exact vPi hE h3 h2 (ZH ht) hy fun M' w' rv hB hv=>hn _ _ (hB.rel r h1 h4 ht hd hv)
theorem OP (hE:fb E){dst}(h:rP na nt dst=true):∀d,dst=some d→na≤d∧d<nt:=fun d hd=>by
 simp[rP] at h;simp_all
theorem ZK (hE:fb E){o st K}{out:R}(h:ID E A k pre na nt o st K=some out):
  (∀d,o.dst=some d→na≤d∧d<nt)∧∃v u,yC (iN E A k pre o st.ev st.h) v u∧K v u {t:=gA st.t o.dst v,h:=qF st.h u}=some out:=by
 unfold ID at h;cases hc:rP na nt o.dst with
 |false=>simp_all
 |true=>
  rw[hc] at h;exact⟨OP hE hc,yL.elim_some h⟩
theorem ZL (hE:fb E){ops}:∀l st K (out:R) a w,(∀p∈l,ops[p.1]? =some p.2)→IG E A k pre na nt ops l st K=some out→vF nl na nt a0 M0 w0 st a w→
  (∀bF a' w',vF nl na nt a0 M0 w0 bF a' w'→K bF=some out→Q .normal a' w')→wpOps E.P ops Q (l.map (·.1)) a w
 |[],st,K,out,a,w,_,h,r,hK=>hK st a w r h
 |(i,o)::rest,st,K,out,a,w,hl,h,r,hK=>by
  have ho:ops[i]? =some o:=hl (i,o) (by simp);have ih:=fun st K out a w=>ZL hE rest st K out a w fun p hp=>hl p (by grind)
  obtain⟨b,hb,h⟩:=ZI h;have hw:=ZJ hb r;simp[wpOps,ho];cases b with
  |true=>
   rw[if_pos rfl] at h;rw[if_pos hw];obtain⟨hd,v,u,hy,h⟩:=ZK hE h;exact .inl (vF.op hE r hd hy (by grind))
  |false=>
   rw[if_neg (by simp[hw])];cases hc:rP na nt o.dst with
   |false=>simp_all
   |true=>
    rw[hc] at h;exact ih _ _ _ _ _ h (r.skip fun d hd=>(OP hE hc d hd).1) hK
end
def zv (o:Oper)(acc:Array Nat):Nat:=o.after.foldl (fun s e=>if Region.binds .any e then s|||2^e.on|||acc.getD e.on 0 else s) 0
theorem ZM (acc:Array Nat) i:∀(l:List Edge) s,(l.foldl (fun s e=>if Region.binds .any e then s|||2^e.on|||acc.getD e.on 0 else s) s).testBit i=true→
  s.testBit i=true∨∃e∈l,Region.binds .any e=true∧(e.on=i∨(acc.getD e.on 0).testBit i=true)
 |[],s,h=>.inl h
 |e::l,s,h=>by
  rcases ZM acc i l _ h with h|⟨e',he,h⟩
  all_goals grind
def EO (ops:Array Oper)(acc:Array Nat):Prop:=∀j,j<acc.size→∀i,(acc.getD j 0).testBit i=true→∃o,ops[j]? =some o∧∃e∈o.after.toList,Region.binds .any e=true∧(e.on=i∨(e.on<j∧(acc.getD e.on 0).testBit i=true))
theorem vPx {ops acc o}(h:EO ops acc)(ho:ops[acc.size]? =some o):EO ops (acc.push (zv o acc)):=by
 have uL:∀j,j<acc.size→(acc.push (zv o acc)).getD j 0=acc.getD j 0:=fun j hj=>by
  simp[Array.getElem?_push,Nat.ne_of_lt hj]
 intro j hj i hb;simp  at hj;by_cases bd:j<acc.size
 ·rw[uL j bd] at hb;obtain⟨o',h1,e,h2,h3,h4⟩:=h j bd i hb;grind
 ·have e:j=acc.size:=by omega
  subst e;rw[show(acc.push (zv o acc)).getD acc.size 0=zv o acc by simp] at hb;unfold zv at hb;rw[←Array.foldl_toList] at hb;rcases ZM acc i _ _ hb with hb|⟨e,h2,h3,h4⟩
  all_goals grind
theorem vIs ops:EO ops (Region.before ops):=by
 have key:∀(l:List Oper) (acc:Array Nat),EO ops acc→(∀m (hm:m<l.length),ops[acc.size+m]? =some l[m])→
   EO ops (l.foldl (fun acc o=>acc.push (zv o acc)) acc):=by
  intro l
  induction l with
  |nil=>simp
  |cons o l ih=>
   intro acc h ho;refine ih _ (vPx h (ho 0 (by simp))) fun m hm=>?_
   have:=ho (m+1) (by simp;omega);grind
 have:=key ops.toList #[] (nofun) (by simp);unfold Region.before;rw[←Array.foldl_toList];exact this
theorem ZN {ops i j}(h:kW (Region.before ops) i j=true):∃o,ops[j]? =some o∧∃e∈o.after.toList,Region.binds .any e=true∧(e.on=i∨(e.on<j∧kW (Region.before ops) i e.on=true)):=by
 unfold kW at h;by_cases hj:j<(Region.before ops).size
 ·exact vIs ops j hj i h
 simp_all
def EP (ops:Array Oper)(S:Nat→Bool):Prop:=∀j o,S j=true→ops[j]? =some o→∀e∈o.after.toList,Region.binds .any e=true→S e.on=true
theorem ZO {ops S}(hS:EP ops S){i}:∀n j,j=n→kW (Region.before ops) i j=true→S j=true→S i=true:=by
 intro n
 induction n using Nat.strongRecOn with
 |_ n ih=>
  intro j hj h hs;obtain⟨o,ho,e,he,hb,h⟩:=ZN h;have ZP:=hS j o hs ho e he hb;grind
theorem vDs {ops S}(hS:EP ops S){i j}(h:kW (Region.before ops) i j=true)(hr:∀o,ops[j]? =some o→∀e∈o.after.toList,Region.binds .any e=true→S e.on=true):S i=true:=by
 obtain⟨o,ho,e,he,hb,h⟩:=ZN h;have ZP:=hr o ho e he hb;rcases h with h|⟨h,hi⟩
 ·simp_all
 ·exact ZO hS _ _ rfl hi ZP
structure It where
 i:Nat
 o:Oper
 v:zT
 u:yV
 r:Option (List Nat)
 wt:Bool
def It.dn (pre:Nat)(it:It):yo:=⟨it.i,nD pre it.o.dst,jC it.u,it.r⟩
def vN (st:St)(it:It):St:={t:=gA st.t it.o.dst it.v,h:=qF st.h it.u}
section
variable (E:Env) (A:zY) (k pre na nt:Nat) (ops:Array Oper)
structure Jl (st:St) (it:It):Prop where
 w:zu ops it.o st=some it.wt
 y:it.wt=true→(∀d,it.o.dst=some d→na≤d∧d<nt)∧yC (iN E A k pre it.o st.ev st.h) it.v it.u∧it.r=nE st.ev it.o
 n:it.wt=false→it.v=.skp∧it.u=[]∧∀d,it.o.dst=some d→na≤d∧d<nt
def OQ (b:Array Nat)(x y:It):Prop:=kW b x.i y.i=true∨(pf ops x.i y.i=true∧(x.wt=true→y.wt=true→pc (x.dn pre) (y.dn pre)=false))
end
section
variable {E:Env} {A:zY} {k pre na nt:Nat} {R:Type} {ops:Array Oper} {b:Array Nat}
theorem OR (hE:fb E):∀rest done st K (out:R),yp E A k pre na nt ops b rest done st K=some out→
  ∃dq:List It,dq.map (fun it=>(it.i,it.o))=rest∧K (dq.foldl vN st)=some out∧(∀bN it post,dq=bN++it::post→Jl E A k pre na nt ops (bN.foldl vN st) it)∧
   (∀d∈done,∀it∈dq,kW b d.i it.i=true∨(pf ops d.i it.i=true∧(it.wt=true→pc d (it.dn pre)=false)))∧dq.Pairwise (OQ pre ops b)
 |[],done,st,K,out,h=>⟨[],rfl,h,by simp,by simp,.nil⟩
 |(i,o)::rest,done,st,K,out,h=>by
  unfold yp at h;generalize hc:(done.all fun d=>kW b d.i i||pf ops d.i i)=c at h;cases c with
  |false=>cases h
  |true=>
   have nR:∀d∈done,kW b d.i i=true∨pf ops d.i i=true:=by grind
   rw[cond_true] at h;obtain⟨bw,hb,h⟩:=ZI h;cases bw with
   |true=>
    rw[if_pos rfl] at h;obtain⟨hd,v,u,hy,h⟩:=ZK hE h;dsimp only at h;generalize cU:(done.all fun d=>kW b d.i i|| !pc d ⟨i,nD pre o.dst,jC u,nE st.ev o⟩)=c2 at h;cases c2 with
    |false=>simp_all
    |true=>
     rw[cond_true] at h;have Ev:∀d∈done,kW b d.i i=true∨pc d ⟨i,nD pre o.dst,jC u,nE st.ev o⟩=false:=by grind
     obtain⟨dq,h1,h2,h3,h4,h5⟩:=OR hE rest _ _ K out h;let it:It:=⟨i,o,v,u,nE st.ev o,true⟩;refine⟨it::dq,by grind,h2,fun bN ER post e=>?_,fun d si ER lV=>?_,?_⟩
     ·cases bN with
      |nil=>
       obtain⟨rfl,rfl⟩:=e;exact⟨hb,by grind,by simp⟩
      |cons p bN=>
       simp only[List.cons_append,List.cons.injEq] at e;obtain⟨rfl,e⟩:=e;exact h3 bN ER post e
     ·rcases List.mem_cons.1 lV with rfl|lV
      ·rcases nR d si with h|h
       ·grind
       ·rcases Ev d si with h'|h'
        ·grind
        ·exact .inr ⟨h,fun _=>h'⟩
      simp_all
     ·refine List.pairwise_cons.2 ⟨fun y uS=>?_,h5⟩;rcases h4 (it.dn pre) (List.mem_cons_self ..) y uS with h|⟨h,h'⟩
      ·exact .inl h
      ·exact .inr ⟨h,by grind⟩
   |false=>
    rw[if_neg (by simp)] at h;have pD:rP na nt o.dst=true:=by
     grind
    rw[pD] at h;rw[cond_true] at h;obtain⟨dq,h1,h2,h3,h4,h5⟩:=OR hE rest _ _ K out h;let it:It:=⟨i,o,.skp,[],some [],false⟩;refine⟨it::dq,by grind,h2,fun bN ER post e=>?_,fun d si ER lV=>?_,?_⟩
    ·cases bN with
     |nil=>
      obtain⟨rfl,rfl⟩:=e;exact⟨hb,by simp,fun _=>⟨rfl,rfl,OP hE pD⟩⟩
     |cons p bN=>
      simp  at e;obtain⟨rfl,e⟩:=e;exact h3 bN ER post e
    ·grind
    ·refine List.pairwise_cons.2 ⟨fun y uS=>?_,h5⟩;rcases h4 (it.dn pre) (List.mem_cons_self ..) y uS with h|⟨h,h'⟩
     ·exact .inl h
     ·exact .inr ⟨h,by simp⟩
end
theorem ZQ {t t' d v x}(h:t x=t' x):gA t d v x=gA t' d v x:=by
 cases d with
 |none=>exact h
 |some d=>
  show wP t d v x=wP t' d v x;unfold wP;simp_all
theorem Jm {t d v x}(h:d≠some x):gA t d v x=t x:=by
 cases d with
 |none=>rfl
 |some d=>
  show wP t d v x=_;unfold wP;cases e:Nat.beq x d with
  |false=>rfl
  |true=>simp_all
theorem vEr {t t' v x}:gA t (some x) v x=gA t' (some x) v x:=by
 show wP t x v x=wP t' x v x;unfold wP;simp
theorem vLw {t d e v u}(h:∀x,d=some x→e≠some x):gA (gA t d v) e u=gA (gA t e u) d v:=by
 funext x;by_cases hd:d=some x
 ·subst hd;rw[Jm (h x rfl)];exact vEr
 ·rw[Jm hd];exact ZQ (Jm hd)
theorem uT {n}:∀{u h h'},h n=h' n→qF h u n=qF h' u n
 |[],_,_,e=>e
 | (id, o) :: u, h, h', e => uT (u := u) (by
   by_cases hn:n=id
   ·subst hn;rw[yE,yE]
   ·rw[yJ _ _ hn,yJ _ _ hn];exact e)
theorem ZR {n}:∀{u h h'},n∈jC u→qF h u n=qF h' u n
 |(id,o)::u,h,h',hm=>by
  by_cases hu:n∈jC u
  ·exact ZR (u:=u) hu
  ·have e:n=id:=by
    simp[jC] at hm hu;simp_all
   subst e;exact uT (u:=u) (by rw[yE,yE])
theorem vAv {u v h}(hd:∀a∈jC u,a∉jC v):qF (qF h u) v=qF (qF h v) u:=by
 funext n;by_cases hu:n∈jC u
 ·rw[zn (hd n hu)];exact ZR hu
 ·rw[zn (u:=u) (h:=qF h v) hu];exact uT (zn hu)
theorem vNf {st x y}(hd:∀t,x.o.dst=some t→y.o.dst≠some t)(hu:∀a∈jC x.u,a∉jC y.u):vN (vN st x) y=vN (vN st y) x:=by
 unfold vN;simp;exact⟨vLw hd,vAv hu⟩
theorem ZS {x}:∀{l:List It} {st},(∀y∈l,(∀t,x.o.dst=some t→y.o.dst≠some t)∧∀a∈jC x.u,a∉jC y.u)→vN (l.foldl vN st) x=l.foldl vN (vN st x)
 |[],_,_=>rfl
 |y::l,st,h=>by
  rw[List.foldl_cons,List.foldl_cons,vNf (by grind) (by grind)];exact ZS (by grind)
theorem Jn t:∀(l:List It) st bF,st.t t=bF.t t→(l.foldl vN st).t t=((l.filter fun it=>it.o.dst==some t).foldl vN bF).t t
 |[],_,_,h=>h
 |y::l,st,bF,h=>by
  rw[List.foldl_cons,List.filter_cons];cases hy:y.o.dst==some t with
  |true=>
   exact Jn t l _ _ (ZQ h)
  |false=>
   exact Jn t l _ _ (by
    show gA st.t y.o.dst y.v t=_;rw[Jm (by simp_all)];exact h)
theorem Jo n:∀(l:List It) st bF,st.h n=bF.h n→(l.foldl vN st).h n=((l.filter fun it=>(jC it.u).contains n).foldl vN bF).h n
 |[],_,_,h=>h
 |y::l,st,bF,h=>by
  rw[List.foldl_cons,List.filter_cons];cases hy:(jC y.u).contains n with
  |true=>
   exact Jo n l _ _ (uT h)
  |false=>
   exact Jo n l _ _ (by
    show qF st.h y.u n=_;rw[zn (by simpa[jC] using hy)];exact h)
theorem ZT {S W bN post}{it:It}(lV:S it=false)(h1:∀y∈bN,W y=true→S y=true)(h2:∀y∈post,W y=true→S y=false):((bN++it::post).filter S).filter W=bN.filter W:=by
 have e1:(bN.filter S).filter W=bN.filter W:=by
  rw[List.filter_filter];refine List.filter_congr fun y hy=>?_
  simp_all
 simp_all
def zw (d:yo)(a:Nat):Prop:=match d.refs with
 |none=>True
 |some l=>a∈l∨kV d.nm a=true
theorem OT {x y}(h:pc x y=false):(∀a∈x.upd,¬zw y a)∧(∀a∈y.upd,¬zw x a)∧∀a∈x.upd,a∉y.upd:=by
 unfold pc at h;have key:∀(d e:yo),IC d.upd e.refs=false→d.upd.any (kV e.nm)=false→∀a∈d.upd,¬zw e a:=by
  intro d e hm ho a ha hl;unfold IC at hm;unfold zw at hl;cases hr:e.refs with
  |none=>
   simp_all
  |some l=>
   simp_all
 refine⟨by grind,by grind,fun a ha hb=>?_⟩;simp_all
section
variable {E:Env} {A:zY} {k pre na nt:Nat} {R:Type} {ops:Array Oper}
theorem OU {i j x y}(hi:ops[i]? =some x)(hj:ops[j]? =some y)(h:pf ops i j=true):
  (∀d,x.dst=some d→d∉y.looksAt ops)∧(∀d,x.dst=some d→y.dst≠some d)∧(∀d,y.dst=some d→d∉x.looksAt ops):=by
 unfold pf at h;rw[hi,hj] at h;exact Oper.apart_spec h
theorem vM1 (hE:fb E)(hS:il E.sums){S}(hC:EP ops S){st bN post it}(fc:∀y∈bN++it::post,ops[y.i]? =some y.o)(hg:Jl E A k pre na nt ops (bN.foldl vN st) it)
  (hu:∀y∈bN++it::post,y.wt=false→y.u=[]) (hp:(bN++it::post).Pairwise (OQ pre ops (Region.before ops))) (lV:S it.i=false)
  (hr:∀o,ops[it.i]? =some o→∀e∈o.after.toList,Region.binds .any e=true→S e.on=true):
  Jl E A k pre na nt ops (((bN++it::post).filter fun y=>S y.i).foldl vN st) it∧
   (∀y∈post,S y.i=true→(∀t,it.o.dst=some t→y.o.dst≠some t)∧∀a∈jC it.u,a∉jC y.u):=by
 have jt:ops[it.i]? =some it.o:=fc it (by simp);obtain⟨Je,EI,hp3⟩:=List.pairwise_append.1 hp;have before:∀y∈bN,S y.i=false→pf ops y.i it.i=true∧(y.wt=true→it.wt=true→pc (y.dn pre) (it.dn pre)=false):=fun y hy hs=>by
  rcases hp3 y hy it (by simp) with h|h
  ·rw[vDs hC h hr] at hs;cases hs
  ·exact h
 have behind:∀y∈post,S y.i=true→pf ops it.i y.i=true∧(it.wt=true→y.wt=true→pc (it.dn pre) (y.dn pre)=false):=fun y hy hs=>by
  rcases(List.pairwise_cons.1 EI).1 y hy with h|h
  ·rw[ZO hC _ _ rfl h hs] at lV;cases lV
  ·exact h
 have sj:∀t,t∈it.o.looksAt ops→(((bN++it::post).filter fun y=>S y.i).foldl vN st).t t=(bN.foldl vN st).t t:=fun t ht=>by
  rw[Jn t _ st st rfl,Jn t bN st st rfl,ZT lV (fun y hy hw=>?_) fun y hy hw=>?_]
  ·cases hs:S y.i with
   |true=>rfl
   |false=>
    have:=(OU (fc y (by simp[hy])) jt (before y hy hs).1).1 t (by simpa using hw);exact absurd ht this
  ·cases hs:S y.i with
   |false=>rfl
   |true=>
    have:=(OU jt (fc y (by simp[hy])) (behind y hy hs).1).2.2 t (by simpa using hw);simp_all
 have ZU:it.wt=true→∀n,zw (it.dn pre) n→(((bN++it::post).filter fun y=>S y.i).foldl vN st).h n=(bN.foldl vN st).h n:=fun hw n hn=>by
  rw[Jo n _ st st rfl,Jo n bN st st rfl,ZT lV (fun y hy uS=>?_) fun y hy uS=>?_]
  ·cases hs:S y.i with
   |true=>rfl
   |false=>
    have hm:n∈jC y.u:=by simpa using uS
    have OV:y.wt=true:=by
     cases h:y.wt with
     |true=>rfl
     |false=>rw[hu y (by simp[hy]) h] at hm;simp[jC] at hm
    exact absurd hn ((OT ((before y hy hs).2 OV hw)).1 n hm)
  ·cases hs:S y.i with
   |false=>rfl
   |true=>
    have hm:n∈jC y.u:=by simpa using uS
    have OV:y.wt=true:=by
     cases h:y.wt with
     |true=>rfl
     |false=>rw[hu y (by simp[hy]) h] at hm;simp[jC] at hm
    exact absurd hn ((OT ((behind y hy hs).2 hw OV)).2.1 n hm)
 generalize hL:((bN++it::post).filter fun y=>S y.i).foldl vN st=Jp at sj ZU⊢;refine⟨⟨?_,fun hw=>?_,hg.n⟩,fun y hy hs=>?_⟩
 ·rw[←hg.w];unfold zu;cases uU:it.o.guard with
  |none=>rfl
  |some p=>
   obtain⟨j,want⟩:=p;dsimp only;cases dP:IE ops j with
   |none=>rfl
   |some s=>
    have:s∈it.o.looksAt ops:=by
     have dP:(ops[j]?).bind (·.dst)=some s:=dP;simp only[Oper.looksAt,uU,dP];simp
    simp_all
 ·obtain⟨hd,hy,ZV⟩:=hg.y hw;have aW:∀x∈it.o.op.operands,Jp.ev x=(bN.foldl vN st).ev x:=fun x hx=>by
   cases x with
   |tmp t=>exact sj t (List.mem_append_left _ (List.mem_filterMap.2 ⟨.tmp t,by simpa using hx,rfl⟩))
   |_=>rfl
  have hrefs:nE Jp.ev it.o=nE (bN.foldl vN st).ev it.o:=by
   unfold nE;have:it.o.op.operands.toList.map Jp.ev=it.o.op.operands.toList.map (bN.foldl vN st).ev:=List.map_congr_left (by grind);simp only[this]
  refine⟨hd,?_,by rw[ZV,hrefs]⟩;rw[yVd aW];have hh : iN E A k pre it.o (bN.foldl vN st).ev Jp.h = iN E A k pre it.o (bN.foldl vN st).ev (bN.foldl vN st).h := yUr hS (by
   rw[←ZV];have:=ZU hw;unfold zw at this;have hdn:(it.dn pre).refs=it.r:=rfl;rw[hdn] at this;cases h:it.r with
   |none=>
    grind
   |some l=>
    rw[h] at this;exact this)
  rw[hh];exact hy
 ·obtain⟨h1,h2⟩:=behind y hy hs;refine⟨(OU jt (fc y (by simp[hy])) h1).2.1,fun a ha hb=>?_⟩;have hwi:it.wt=true:=by
   cases h:it.wt with
   |true=>rfl
   |false=>rw[hu it (by simp) h] at ha;simp[jC] at ha
  have hwy:y.wt=true:=by
   cases h:y.wt with
   |true=>rfl
   |false=>rw[hu y (by simp[hy]) h] at hb;simp[jC] at hb
  exact(OT (h2 hwi hwy)).2.2 a ha hb
end
theorem yV3 {ops}(h:Ed ops=true){j o}(ho:ops[j]? =some o):∀e∈o.after.toList,Region.binds .any e=true→e.on<j:=by
 intro e he hb;have hm:(o,j)∈ops.toList.zipIdx:=by
  grind
 have:=List.all_eq_true.1 (List.all_eq_true.1 h _ hm) e he;simp_all
theorem Jq {L:Array Bool}{i}(hi:i<L.size) j:(L.setIfInBounds i true).getD j false=(L.getD j false||i==j):=by
 by_cases h:i=j
 all_goals simp_all
section
variable {E:Env} {A:zY} {nl:Bool} {k pre na nt:Nat} {a0:Nat→Value} {R:Type} {ops:Array Oper} {M0:zI} {w0:World} {Q:Exit→Act→World→Prop}
theorem vK2 (hE:fb E)(hS:il E.sums)(he:Ed ops=true){dq st}(hi:dq.map (·.i)=List.range ops.size)(fc:∀y∈dq,ops[y.i]? =some y.o)(hg:∀bN it post,dq=bN++it::post→Jl E A k pre na nt ops (bN.foldl vN st) it)
  (hp:dq.Pairwise (OQ pre ops (Region.before ops))) (hQ:∀a w,vF nl na nt a0 M0 w0 (dq.foldl vN st) a w→Q .normal a w):
  ∀fuel L a w,L.size=ops.size→(∃U:List Nat,U.length≤fuel∧∀j,j<ops.size→L.getD j false=false→j∈U)→EP ops (fun j=>L.getD j false)→
   vF nl na nt a0 M0 w0 ((dq.filter fun y=>L.getD y.i false).foldl vN st) a w→wpAny E.P .any ops Q fuel L a w:=by
 have hu:∀y∈dq,y.wt=false→y.u=[]:=fun y hy hw=>by
  obtain⟨bN,post,e⟩:=List.append_of_mem hy;exact((hg bN y post e).n hw).2.1
 have OW:∀y∈dq,y.i<ops.size:=fun y hy=>(Array.getElem?_eq_some_iff.1 (fc y hy)).1
 have di:(dq.map (·.i)).Nodup:=by rw[hi];exact List.nodup_range
 have full:∀(L:Array Bool) (a:Act) (w:World),(∀j,j<ops.size→L.getD j false=true)→vF nl na nt a0 M0 w0 ((dq.filter fun y=>L.getD y.i false).foldl vN st) a w→Q .normal a w:=fun L a w hl r=>by
  rw[List.filter_eq_self.2 fun y hy=>hl y.i (OW y hy)] at r;exact hQ a w r
 have rdy:∀(L:Array Bool),L.size=ops.size→Region.ready .any ops L=[]→∀j,j<ops.size→L.getD j false=true:=fun L hL hr j=>by
  induction j using Nat.strongRecOn with
  |_ j ih=>
   intro hj;cases hb:L.getD j false with
   |true=>rfl
   |false=>
    have ho:ops[j]? =some ops[j]:=Array.getElem?_eq_getElem hj;have:j∈Region.ready .any ops L:=mem_ready.2 ⟨by
     have OX:j<L.size:=by omega
     simpa[Array.getD,OX] using hb,ops[j],ho,fun e he' bD=>by
      have bd:=yV3 he ho e (by simpa using he') bD;exact ih e.on bd (by omega)⟩
    rw[hr] at this;cases this
 intro fuel
 induction fuel with
 |zero=>
  intro L a w hL hU hC r;obtain⟨U,hUl,hU⟩:=hU;have hU0:U=[]:=List.eq_nil_of_length_eq_zero (by omega);have bb:∀j,j<ops.size→L.getD j false=true:=by grind
  refine⟨?_,full L a w bb r⟩;cases hr:Region.ready .any ops L with
  |nil=>rfl
  |cons j l=>
   have:j∈Region.ready .any ops L:=by rw[hr];exact List.mem_cons_self ..
   obtain⟨h0,o,ho,_⟩:=mem_ready.1 this;have hj:=(Array.getElem?_eq_some_iff.1 ho).1;have:=bb j hj;have OX:j<L.size:=by omega
   simp[Array.getD,OX] at this h0;rw[this] at h0;cases h0
 |succ fuel ih=>
  intro L a w hL hU hC r;refine⟨fun hr=>full L a w (rdy L hL hr) r,fun i hir=>?_⟩;obtain⟨h0,o,ho,uV⟩:=mem_ready.1 hir;have ES:=(Array.getElem?_eq_some_iff.1 ho).1;have ET:i<L.size:=by omega
  have EU:L.getD i false=false:=by simpa[Array.getD,ET] using h0
  obtain⟨it,lV,pE⟩:∃it∈dq,it.i=i:=by
   have:i∈dq.map (·.i):=by rw[hi];simpa using ES
   obtain⟨it,h1,h2⟩:=List.mem_map.1 this;exact⟨it,h1,h2⟩
  obtain⟨bN,post,e⟩:=List.append_of_mem lV;have jt:ops[it.i]? =some it.o:=fc it lV;have fW:o=it.o:=by rw[pE,ho] at jt;exact Option.some.inj jt
  subst fW;have sk:=vM1 hE hS hC (by rw[←e];exact fc) (hg bN it post e) (by rw[←e];exact hu) (by rw[←e];exact hp) (by rw[pE];exact EU) (by grind);rw[←e] at sk;obtain⟨uU,EV⟩:=sk;have hw:=ZJ uU.w r;have qX:(dq.filter fun y=>(L.setIfInBounds i true).getD y.i false).foldl vN st=vN ((dq.filter fun y=>L.getD y.i false).foldl vN st) it:=by
   have other:∀y∈bN++post,(L.setIfInBounds i true).getD y.i false=L.getD y.i false:=fun y hy=>by
    rw[Jq ET];grind
   have e1:dq.filter (fun y=>L.getD y.i false)=bN.filter (fun y=>L.getD y.i false)++post.filter (fun y=>L.getD y.i false):=by
    conv=>lhs;rw[e]
    rw[List.filter_append,List.filter_cons,if_neg (by rw[pE,EU];simp)]
   have e2:dq.filter (fun y=>(L.setIfInBounds i true).getD y.i false)=bN.filter (fun y=>L.getD y.i false)++it::post.filter (fun y=>L.getD y.i false):=by
    conv=>lhs;rw[e]
    rw[List.filter_append,List.filter_cons,if_pos (by rw[pE,Jq ET];simp),List.filter_congr fun y hy=>other y (List.mem_append_left _ hy),List.filter_congr fun y hy=>other y (List.mem_append_right _ hy)]
   rw[e1,e2,List.foldl_append,List.foldl_append,List.foldl_cons];exact (ZS fun y hy=>by
    obtain⟨OY,OZ⟩:=List.mem_filter.1 hy;exact EV y OY OZ).symm
  have aw:EP ops fun j=>(L.setIfInBounds i true).getD j false:=fun j o' hj jc ed ZW hb=>by
   dsimp only at hj⊢;rw[Jq ET] at hj;refine getD_set_true ?_;rw[Bool.or_eq_true] at hj;rcases hj with hj|hj
   ·exact hC j o' hj jc ed ZW hb
   ·have:i=j:=by simpa using hj
    subst this;rw[ho] at jc;cases jc;exact uV ed (by simpa using ZW) hb
  have ZX:∃U:List Nat,U.length≤fuel∧∀j,j<ops.size→(L.setIfInBounds i true).getD j false=false→j∈U:=by
   obtain⟨U,hl,hU⟩:=hU;refine⟨U.erase i,?_,fun j hj hb=>?_⟩
   ·rw[List.length_erase_of_mem (hU i ES EU)];omega
   ·rw[Jq ET,Bool.or_eq_false_iff] at hb;exact(List.mem_erase_of_ne (by have:=hb.2;simp at this;exact fun h=>this h.symm)).2 (hU j hj hb.1)
  unfold wpOp;rw[ho];dsimp only;cases uW:it.wt with
  |true=>
   rw[uW] at hw;rw[if_pos hw];obtain⟨hd,hy,_⟩:=uU.y uW;refine .inl (vF.op hE r hd hy fun a' w' r'=>?_);exact ih _ _ _ (by simpa using hL) ZX aw (by rw[qX];exact r')
  |false=>
   rw[uW] at hw;rw[if_neg (by simp[hw])];obtain⟨hv,nJ,pD⟩:=uU.n uW;refine ih _ _ _ (by simpa using hL) ZX aw ?_;rw[qX];have:=r.skip (dst:=it.o.dst) fun d hd=>(pD d hd).1
   unfold vN;rw[hv,nJ];exact this
theorem vDl (hE:fb E)(hS:il E.sums){id st K}{out:R}{a w}(hm:E.P.follows .mixedOrders=true)(he:Ed ops=true)
  (h:yp E A k pre na nt ops (Region.before ops) (ops.toList.zipIdx.map fun p=>(p.2,p.1)) [] st K=some out) (r:vF nl na nt a0 M0 w0 st a w)
  (hK:∀bF a' w',vF nl na nt a0 M0 w0 bF a' w'→K bF=some out→Q .normal a' w'):(Code.region id ops true).wp E.P Q a w:=by
 obtain⟨dq,h1,h2,h3,_,h5⟩:=OR hE _ _ _ _ _ h;have hi:dq.map (·.i)=List.range ops.size:=by
  have:=congrArg (List.map Prod.fst) h1;rw[List.map_map,List.map_map] at this;refine Eq.trans this ?_;have e:(Prod.fst∘fun p:Oper×Nat=>(p.2,p.1))=Prod.snd:=rfl;rw[e,List.zipIdx_map_snd,←List.range_eq_range'];simp
 have fc:∀y∈dq,ops[y.i]? =some y.o:=fun y hy=>by
  have:(y.i,y.o)∈ops.toList.zipIdx.map fun p=>(p.2,p.1):=by grind
  grind
 refine wp_region_any hm (vK2 hE hS he (nt:=nt) (na:=na) (a0:=a0) (M0:=M0) (w0:=w0) hi fc h3 h5 (fun a w r=>hK _ a w r h2) _ _ _ _ (by simp) ⟨List.range ops.size,by simp,by grind⟩ (fun j o hj=>?_) ?_)
 ·by_cases h:j<ops.size<;>simp[h] at hj
 ·rw[List.filter_eq_nil_iff.2 fun y hy=>by
   by_cases h:y.i<ops.size<;>simp[h]]
  exact⟨r.ex,r.defers,r.size,r.os,r.tape,r.output,r.keep⟩
end
end Go.Ab
