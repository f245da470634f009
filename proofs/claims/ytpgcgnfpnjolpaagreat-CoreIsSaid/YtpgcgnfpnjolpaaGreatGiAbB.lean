/- part 1 -/
import Derived.Test.YtpgcgnfpnjolpaaGreatGiAbA
import Derived.Laws.BytesString
set_option linter.unusedVariables false
set_option linter.unusedSimpArgs false
namespace Go.Ab
def zE.move (M:zE)(nm:Nat)(C:zS)(h:Hp)(H:Array Go.Obj):zE:={M with κ:=κset M.κ nm C,h:=h,H:=H}
theorem zE.move_ok {M}(ok:Ok M){nm:Nat}{o':Obj}{C':zS}{h'}{H'}(J:Nat→Prop)(aC:M.h nm=none)
    (hJ:∀j,J j→∃o,M.h j=some o∧o.owned=true∧h' j=some .gone) (ur:h' nm=some o') (cI:∀n,¬J n→n≠nm→h' n=M.h n) (bZ:M.H.size≤H'.size)
    (hH:∀b,b<M.H.size→(∀j C,J j→M.κ j=some C→b∉C.fp)→H'[b]? =M.H[b]?) (bK:∀b,b<M.H.size→qE H' b=qE M.H b)
    (iJ:∀b∈C'.fp,(M.H.size≤b∧b<H'.size)∨∃j C,J j∧M.κ j=some C∧b∈C.fp)
    (hO:qK M (M.move nm C' h' H')→qR (M.move nm C' h' H') o' C'):Ok (M.move nm C' h' H')∧qU M (M.move nm C' h' H'):=by
  have Oz:∀j C b,J j→M.κ j=some C→b∈C.fp→qC M b:=fun j C b hj hC hb=>by
    obtain⟨o,h1,h2,_⟩:=hJ j hj;exact⟨j,o,C,h1,h2,hC,hb⟩
  have lG:∀b,M.F b→∀j C,J j→M.κ j=some C→b∉C.fp:=fun b hF j C hj hC hb=>(ok.own b (Oz j C b hj hC hb)).1 hF
  have x:qK M (M.move nm C' h' H'):=
    { κ:=fun n D h=>by
        have:n≠nm:=fun e=>by rw[e,ok.non nm aC] at h;cases h
        exact⟨D,by simp only[zE.move];rw[κset_ne _ _ this];exact h,D.le_refl⟩
      F:=fun _ h=>h
      G:=fun _ h=>h
      same:=fun b h=>hH b (ok.Flt b h) (lG b h)
      sameG:=fun b h=>hH b (ok.Flt b (ok.GF b h)) (lG b (ok.GF b h))
      bsz:=bK}
  have EX:∀j,J j→j≠nm:=by grind
  have bS:∀n q,n≠nm→h' n=some q→q.owned=true→¬J n∧M.h n=some q:=by
    intro n q e h1 h2;by_cases hj:J n
    · obtain⟨o,_,_,k⟩:=hJ n hj;rw[k] at h1;cases h1;cases h2
    simp_all
  have kn:∀b,qC (M.move nm C' h' H') b→(M.H.size≤b∧b<H'.size)∨qC M b:=by
    rintro b ⟨n,q,D,h1,h2,h3,h4⟩
    by_cases e:n=nm
    · subst e;simp only[zE.move,κset_same,Option.some.injEq] at h3;grind
    · obtain⟨_,nA⟩:=bS n q e h1 h2;simp only[zE.move] at h3;rw[κset_ne _ _ e] at h3;exact .inr ⟨n,q,D,nA,h2,h3,h4⟩
  refine⟨ok.build x (fun n=>n=nm∨J n) (fun n hn=>cI n (by grind) (by grind)) (fun n hn=>κset_ne _ _ fun e=>hn (.inl e)) ?_ ?_ bZ ?_ ?_ ?_ ok.GF ?_,x,bZ,?_,?_,fun b h _=>.inl h,fun b h _=>.inl h⟩
  · intro n q D hn h1 h2 h3 b hb;refine hH b (ok.own b ⟨n,q,D,h1,h2,h3,hb⟩).2 fun j C hj hC hc=>?_
    obtain⟨o,k1,k2,_⟩:=hJ j hj;exact ok.disj n j q o D C b (by grind) h1 k1 h2 k2 h3 hC hb hc
  · intro n q D hn h1 h2 h3 b hb;exact(ok.own b ⟨n,q,D,h1,h2,h3,hb⟩).1
  · rintro n q (rfl|hj) h1
    · simp only[zE.move] at h1;rw[ur] at h1;cases h1;exact⟨C',κset_same _ _ _,hO x⟩
    · obtain⟨o,k1,_,k⟩:=hJ n hj;simp only[zE.move] at h1;rw[k] at h1;cases h1;obtain⟨C,hC,_⟩:=ok.obj n o k1;exact⟨C,by simp only[zE.move];rw[κset_ne _ _ (EX n hj)];exact hC,trivial⟩
  · rintro n (rfl|hj) h1
    · simp only[zE.move] at h1;rw[ur] at h1;cases h1
    · obtain⟨o,_,_,k⟩:=hJ n hj;simp only[zE.move] at h1;rw[k] at h1;cases h1
  · rintro n q D b (rfl|hj) h1 h2 h3 hb
    · simp only[zE.move,κset_same,Option.some.injEq] at h3;subst h3;rcases iJ b hb with uu|⟨j,C,hj,hC,bn⟩
      · refine⟨fun k qk Dk hk k1 k2 k3 k4=>?_,fun hF=>?_,uu.2⟩
        · obtain⟨_,qn⟩:=bS k qk hk k1 k2;simp only[zE.move] at k3;rw[κset_ne _ _ hk] at k3;have:=(ok.own b ⟨k,qk,Dk,qn,k2,k3,k4⟩).2;omega
        · have:=ok.Flt b hF;omega
      · have ho:=ok.own b (Oz j C b hj hC bn);refine⟨fun k qk Dk hk k1 k2 k3 k4=>?_,ho.1,by simp only[zE.move];omega⟩;obtain⟨hkJ,qn⟩:=bS k qk hk k1 k2;simp only[zE.move] at k3;rw[κset_ne _ _ hk] at k3;obtain⟨o,j1,j2,_⟩:=hJ j hj;exact ok.disj k j qk o Dk C b (by grind) qn j1 k2 j2 k3 hC k4 bn
    · obtain⟨o,_,_,k⟩:=hJ n hj;simp only[zE.move] at h1;grind
  · intro b hb;have:=ok.Flt b hb;simp only[zE.move];omega
  · intro b hb hn;exact hH b hb (by grind)
  grind
theorem OA {P M w}(ok:Ok M)(hM:M.H=w.heap){nm vs us e s}(aC:M.h nm=none)
  (ca:zG (zM M) vs us.toList) (hr:s.run P w=.ok (.pointer (some ⟨w.heap.size,0,none⟩)) (w.alloc (.cells us e))):
  zZ P s M w (.c (.ptr nm 0)) [(nm,.box true vs)]:=by
 let C:zS:=⟨some M.H.size,0,0,0,[]⟩;have := zE.new_ok ok aC (.box true vs) C (.cells us e) (by simp [C, zS.fp]) (by
  refine⟨M.H.size,us,e,rfl,rfl,nv,ca.mono fun _ _ h=>h.ext (zE.new_ext ok aC _ _ _),by simp⟩)
 exact⟨_,_,_,hr,rfl,rfl,rfl,by show M.H.push _=w.heap.push _;rw[hM],rfl,this.1,this.2,C,M.H.size,κset_same _ _ _,rfl,by rw[hM]⟩
theorem uv {H F}:∀t rd,(∀j,j<t.size→rd j=(wH t)[j]?)→zT H F t t.dflt rd
 |.int k,rd,h
 |.bool,rd,h=>by simp[zT];rw[h 0 (by simp[Ty.size])];rfl
 |.sl t,rd,h=>by
  simp[Ty.dflt];exact⟨none,0,0,by rw[h 0 (by simp[Ty.size])];rfl,rfl,by simp,by simp⟩
 |.pair a b,rd,h=>by
  have hl:∀t:Ty,(wH t).length=t.size:=by
   intro t
   induction t with
   |pair a b qy qz=>simp[wH,Ty.size,qy,qz]
   |_=>rfl
  simp[Ty.size,wH] at h;refine⟨uv a rd (by grind),uv b _ (by grind)⟩
theorem Ac:∀t:Ty,(wH t).length=t.size
 |.int _|.bool|.sl _=>rfl
 |.pair a b=>by simp[wH,Ty.size,Ac a,Ac b]
theorem yJ0 {a b}(h:DV a b=true):a=b:=by
 unfold DV at h;split at h
 ·simp  at h;rw[ka h.1,h.2]
 all_goals grind
theorem OB:∀{l m},tQ l m=true→l=m
 |[],[],_=>rfl
 |a::l,b::m,h=>by
  simp[tQ] at h;rw[yJ0 h.1,OB h.2]
theorem iN {P e t}(h:jK P e=some t):∃i z,P.info? e=some i∧i.zero=some z∧i.size=t.size∧z.cells.toList=wH t∧P.cellsOf e=t.size∧P.bytesOf e=i.bytes∧z.cells.size=t.size:=by
 unfold jK at h;split at h
 ·rename_i t' i h1 h2;split at h
  ·rename_i z hz;cases hb:(Nat.beq i.size t'.size&&tQ z.cells.toList (wH t')) with
   |false=>simp_all
   |true=>
    rw[hb] at h;cases h;simp only[Bool.and_eq_true] at hb;have e1:=Nat.eq_of_beq_eq_true hb.1;have e2:=OB hb.2;refine⟨i,z,h2,hz,e1,e2,by rw[Em h2];exact e1,yTh h2,?_⟩;have:=congrArg List.length e2;rw[Ac] at this;omega
  ·cases h
 ·cases h
theorem OC {z:Value}{t}(h:z.cells.toList=wH t)(hs:z.cells.size=t.size){i j} hj:z.cells[(i*t.size+j)%z.cells.size]! =(wH t)[j]'(by rw[Ac];exact hj):=by
 have e1:(i*t.size+j)%z.cells.size=j:=by rw[hs,Nat.mul_comm,Nat.mul_add_mod,Nat.mod_eq_of_lt hj]
 grind
theorem OD {H F}{z:Value}{t}(h:z.cells.toList=wH t)(hs:z.cells.size=t.size){n i}(hi:i<n):
  zT H F t t.dflt (fun j=>(madeCells z.cells (n*t.size))[i*t.size+j]?):=by
 refine uv t _ fun j hj=>?_
 have aO:=Nat.mul_le_mul_right t.size (show i+1≤n by omega);rw[List.getElem?_eq_getElem (by grind),←OC h hs (i:=i) hj];simp[madeCells];grind
theorem OE {P M w}(ok:Ok M)(hM:M.H=w.heap){nm t xs us e s c}(aC:M.h nm=none)
  (hc:xs.length≤c) (hs:c*t.size≤us.size) (hx:∀i h,zT M.H M.G t xs[i] (fun j=>us[i*t.size+j]?))
  (hr:s.run P w=.ok (.slice (some ⟨w.heap.size,0,none⟩) xs.length c) (w.alloc (.cells us e))):
  zZ P s M w (.c (.osl nm none)) [(nm,.arr true t xs)]:=by
 let C:zS:=⟨some M.H.size,xs.length,t.size,0,[]⟩;have x:=zE.new_ext ok aC (.arr true t xs) C (.cells us e);have hle:=Nat.mul_le_mul_right t.size hc;have := zE.new_ok ok aC (.arr true t xs) C (.cells us e) (by simp [C, zS.fp]) (by
  refine⟨rfl,rfl,by grind,us,e,nv,by simp,by omega,fun i hi=>?_⟩;exact qS x.G x.sameG t _ _ _ (by simp) (hx i hi))
 refine⟨_,_,_,hr,rfl,rfl,rfl,by show M.H.push _=w.heap.push _;rw[hM],rfl,this.1,this.2,C,κset_same _ _ _,_,c,rfl,?_⟩;refine⟨hc,0,by rw[hM],by simp,?_⟩;simp;have:qE (M.H.push (.cells us e)) M.H.size=us.size:=by simp[qE]
 show c*t.size≤qE (M.H.push (.cells us e)) M.H.size;omega
theorem yR9 {P M w}(ok:Ok M)(hM:M.H=w.heap){nm t zs}(aC:M.h nm=none)(hz:zeroCells P t=some zs):
  zZ P (Instr.alloc t true (.tuple #[])) M w (.c (.ptr nm 0)) [(nm,.box true zs)]:=by
 obtain⟨i,v,h1,h2,h3,h4,rfl⟩:=N2 hz;refine OA ok hM aC (us:=v.cells) (e:=t) (zn M h4) ?_;simp[Instr.alloc,zeroValue,typeInfo,h1,h2,newVar,newRow]
theorem OF {P M w}(ok:Ok M)(hM:M.H=w.heap){nm t x rx vs}(aC:M.h nm=none)(hx:zK M x rx)(hv:fO x=some vs):
  zZ P (Instr.box t rx) M w (.c (.ptr nm 0)) [(nm,.box true vs)]:=by
 refine OA ok hM aC (us:=rx.cells) (e:=t) (zr hv hx) ?_;rfl
theorem yDk {P M w}(ok:Ok M)(hM:M.H=w.heap){nm t x rx vs}(aC:M.h nm=none)(hx:zK M x rx)(hv:fO x=some vs) m:
  zZ P (Instr.box t rx) M w (.c (.ptr nm 0)) [(nm,.box (!m) vs)]:=by
 cases m with
 |false=>exact OF ok hM aC hx hv
 |true=>
  obtain⟨rv,w',M',a1,a2,a3,a4,a5,a6,a7,a8,a9⟩:=OF (P:=P) (t:=t) ok hM aC hx hv;have ab:M'.h nm=some (.box true vs):=by rw[a6];exact qM _ _ _
  obtain⟨M2,b1,b2,b3,b4,b5⟩:=Ox a7 ab;refine⟨rv,w',M2,a1,a2,a3,a4,b1.trans a5,?_,b3,a8.trans b4,a9.ext b4.ext⟩;rw[b2,a6];funext n;show qH (qH M.h nm _) nm _ n=qH M.h nm _ n;by_cases e:n=nm
  ·subst e;rw[qM,qM];rfl
  ·rw[qN _ _ e,qN _ _ e,qN _ _ e]
theorem OG {α:Type}{n i:Nat}{a:α} h:(List.replicate n a)[i]=a:=by simp
theorem yRy {P M w}(ok:Ok M)(hM:M.H=w.heap){nm n us e s c}(aC:M.h nm=none)
  (hc:n≤c) (hs:c≤us.size) (hx:∀i,i<n→us[i]? =some (.slice none 0 0))
  (hr:s.run P w=.ok (.slice (some ⟨w.heap.size,0,none⟩) n c) (w.alloc (.cells us e))):
  zZ P s M w (.c (.osl nm none)) [(nm,.mat 0 (List.replicate n []))]:=by
 let C:zS:=⟨some M.H.size,n,1,0,List.replicate n (none,0)⟩;have hfm:(List.replicate n ((none,0):Option Nat×Nat)).filterMap (·.1)=[]:=by
  simp
 have iJ:C.fp=[M.H.size]:=by simp[C,zS.fp]
 have := zE.new_ok ok aC (.mat 0 (List.replicate n [])) C (.cells us e) (by simp_all) (by
  refine⟨rfl,by simp[C],rfl,by simp[C],by simp_all,us,e,nv,by grind,fun i hi=>?_⟩;have lL:i<n:=by simp_all
  refine⟨none,.slice none 0 0,by grind,hx i lL,⟨rfl,by simp⟩,by simp⟩)
 refine⟨_,_,_,hr,rfl,rfl,rfl,by show M.H.push _=w.heap.push _;rw[hM],rfl,this.1,this.2,C,κset_same _ _ _,_,c,rfl,?_⟩;refine⟨hc,0,by rw[hM],by simp,?_⟩;simp;have:qE (M.H.push (.cells us e)) M.H.size=us.size:=by simp[qE]
 show c*1≤qE (M.H.push (.cells us e)) M.H.size;omega
theorem yGk {P M w}(ok:Ok M)(hM:M.H=w.heap){mat nm t l c v u rl rc}(hl:zK M l rl)(hc:zK M c rc)
  (h:qJ (pQ P mat nm M.h t l c) v u):zZ P (Instr.makeSlice t rl rc) M w v u:=by
 unfold pQ at h;split at h
 ·rename_i e l c hu aC;have e1:rl=.int .i64 l:=hl;have e2:rc=.int .i64 c:=hc;subst e1;subst e2;cases mat with
  |true=>
   split at h
   ·rename_i cd;obtain⟨cP,rfl,rfl⟩:=wE h;obtain⟨i,z,h1,h2,h3,h4,h5,h6,h7⟩:=iN cd;simp[Bool.and_eq_true] at cP;obtain⟨⟨⟨o1,o2⟩,o3⟩,o4⟩:=cP;have hr:=run_make (P:=P) w t e i z hu h1 h2 .i64 .i64 l c o1 o2 (by grind) (by omega);have bZ:i.size=1:=h3;rw[bZ,Nat.mul_one] at hr;refine yRy ok hM aC (n:=l.toNat) (c:=c.toNat) (by omega) (by rw[size_madeCells];omega) (fun k hk=>?_) hr;have Ad:z.cells.toList=[.slice none 0 0]:=h4;have EY:z.cells.size=1:=h7;simp only[madeCells];have:z.cells.toList[0]'(by simp;omega)=.slice none 0 0:=by grind
    grind
   ·exact h.elim
  |false=>
   simp  at h;split at h
   ·rename_i ty cd;obtain⟨cP,rfl,rfl⟩:=wE h;obtain⟨i,z,h1,h2,h3,h4,h5,h6,h7⟩:=iN cd;simp  at cP;obtain⟨⟨⟨o1,o2⟩,o3⟩,o4⟩:=cP;have hr:=run_make (P:=P) w t e i z hu h1 h2 .i64 .i64 l c o1 o2 (by grind) (by omega);refine OE ok hM aC (c:=c.toNat) (us:=madeCells z.cells (c.toNat*ty.size)) (e:=e) (by grind) (by rw[size_madeCells];omega) (fun k hk=>?_) (by simp_all);rw[OG hk];simp  at hk;exact OD h4 h7 (by omega)
   ·exact h.elim
 ·exact h.elim
theorem OH off:∀l k cells,off+k+l.length≤cells.size→
  (l.zipIdx k).foldl (fun(cs:Array Value) (p:Value×Nat)=>cs.setIfInBounds (off+p.2) p.1) cells=qP cells (off+k) l
 |[],k,cells,h=>by
  apply Array.ext_getElem?;intro j;rw[vH h];simp_all
 |c::l,k,cells,h=>by
  simp;rw[OH off l (k+1) _ (by grind)];apply Array.ext_getElem?;intro j;rw[vH (by grind),vH (by omega)];grind
theorem EZ place cells i v rest off size (h:place i=some (off,size))(h1:v.cells.size=size)(h2:off+size≤cells.size):
  Instr.fill place cells ((i,v)::rest)=Instr.fill place (qP cells off v.cells.toList) rest:=by
 have hc:¬(v.cells.size≠size||decide (off+v.cells.size>cells.size))=true:=by
  simp_all
 simp only[Instr.fill,h];rw[if_neg hc]
 congr 1
 rw[←Array.foldl_toList,Array.toList_zipIdx];have:=OH off v.cells.toList 0 cells (by simp;omega);omega
def nK (M:zE):(Nat×zO)→(Nat×Value)→Prop:=fun p q=>p.1=q.1∧zK M p.2 q.2
theorem E0 {M place}:∀{parts av cells out vals},zG (zM M) cells vals.toList→
  zG (nK M) parts av→tT place cells parts=some out→∃res,Instr.fill place vals av=some res∧zG (zM M) out res.toList
 |[],[],cells,out,vals,hc,_,h=>by cases h;exact⟨vals,rfl,hc⟩
 |(i,v)::parts,(i',rv)::av,cells,out,vals,hc,hp,h=>by
  obtain⟨⟨hi,hv⟩,hp⟩:=hp;subst hi;unfold tT at h;split at h
  ·rename_i off size vs OI ca;cases hb:(Nat.beq vs.length size&&Nat.ble (off+size) cells.length) with
   |false=>simp_all
   |true=>
    rw[hb] at h;simp only[Bool.and_eq_true] at hb;have b1:=Nat.eq_of_beq_eq_true hb.1;have b2:=Nat.le_of_ble_eq_true hb.2;split at h
    ·rename_i aZ E1;obtain⟨p1,rfl⟩:=Er _ _ _ _ E1;have bW:=zr ca hv;have hl:=bW.length;have Ol:=hc.length;simp  at hl Ol;have qO:=Eu (qK.refl M) hc bW (off:=off) (by simp_all);obtain⟨res,h1,h2⟩:=E0 qO hp h;exact⟨res,by rw[EZ place vals i rv av off size OI (by omega) (by omega)];exact h1,h2⟩
    ·cases h
  ·cases h
theorem OJ {P} w:∀(l:List Field),l.all (fun f=>(P.info? f.type).isSome)=true→
  (l.mapM fun f=>(do pure (f.offset,←sizeOf f.type):Sem (Nat×Nat))).run P w=.ok (l.map fun f=>(f.offset,P.cellsOf f.type)) w
 |[],_=>by simp
 |f::l,h=>by
  simp only[List.all_cons,Bool.and_eq_true] at h;obtain⟨i,hi⟩:=Option.isSome_iff_exists.1 h.1;rw[List.mapM_cons];simp only[Sem.run_bind,wP w hi,Result.andThen_ok,Sem.run_pure,OJ w l h.2,List.map_cons]
theorem yRv {P M w}(ok:Ok M)(hM:M.H=w.heap){t parts av v u}(hp:zG (nK M) parts av)
  (h:qJ (D7 P t parts) v u):zZ P (Instr.build t av.toArray) M w v u:=by
 unfold D7 at h;split at h
 ·exact h.elim
 ·rename_i zero hz;obtain⟨i,z,h1,h2,h3,h4,rfl⟩:=N2 hz;have hzero:=zn M h4;split at h
  ·rename_i fs hs;obtain⟨aL,h⟩:=vW h;split at h
   ·rename_i cells hf;obtain⟨rfl,rfl⟩:=yM h;have OI:(fun(j:Nat)=>(fs[j]?).map fun(f:Field)=>(f.offset,P.cellsOf f.type))=(fun(j:Nat)=>(fs.toList.map fun f=>(f.offset,P.cellsOf f.type)).toArray[j]?):=by
     simp
    obtain⟨res,k1,k2⟩:=E0 hzero hp hf;refine zZ.pure ok hM (rv:=.agg res) ?_ ⟨res,rfl,k2⟩;have hm:=OJ (P:=P) w fs.toList aL;simp[Instr.build,zeroValue,En w h1,run_underlying hs,Array.mapM_eq_mapM_toList];simp_all
   ·exact h.elim
  ·rename_i n e hs;obtain⟨aL,h⟩:=vW h;obtain⟨y,hy⟩:=Option.isSome_iff_exists.1 aL;split at h
   ·rename_i cells hf;obtain⟨rfl,rfl⟩:=yM h;obtain⟨res,k1,k2⟩:=E0 hzero hp hf;refine zZ.pure ok hM (rv:=.agg res) ?_ ⟨res,rfl,k2⟩;simp[Instr.build,zeroValue,Sem.run_bind,En w h1,Result.andThen_ok,h2,Sem.run_pure,run_underlying hs,wP w hy];simp_all
   ·exact h.elim
  ·exact h.elim
theorem zZ.after {P s M M1 w v u1 u2}(h1:M1.h=zX M.h u1)(st:qU M M1)(h:zZ P s M1 w v u2):zZ P s M w v (u1++u2):=by
 obtain⟨rv,w',M',a1,a2,a3,a4,a5,a6,a7,a8,a9⟩:=h;exact⟨rv,w',M',a1,a2,a3,a4,a5,by rw[a6,h1,jZ],a7,st.trans a8,a9⟩
theorem yX.fresh {h0 h}(hf:yX h0 h){n}(hn:h0 n=none):h n=none:=by
 rcases hf n with e|⟨o,t,xs,e1,_⟩|⟨o,xs,e1,_⟩
 all_goals simp_all
theorem OK {t vs x}(h:tP t vs=some x):vs.length=t.size∧kc t t.dflt 0 vs=some x:=by
 unfold tP at h;cases hb:Nat.beq vs.length t.size with
 |false=>simp_all
 |true=>simp_all
theorem yI6 {M t vs us x}(h:tP t vs=some x)(hv:zG (zM M) vs us){rd}(hr:∀i,i<us.length→rd i=us[i]?):zT M.H M.G t x rd:=by
 obtain⟨h1,h2⟩:=OK h;have hl:=hv.length;refine EA t vs us t.dflt x 0 (fun j=>(wH t)[j]?) rd (uv t _ (by simp)) h2 hv (by grind) (by grind)
theorem OM {h0 t n}:∀{parts av xs out vals u M},Ok M→yX h0 M.h→xs.length=n→vals.size=n*t.size→
  (∀k h,zT M.H M.G t xs[k] (fun j=>vals[k*t.size+j]?))→(∀p∈parts,p.1<n)→zG (nK M) parts av→iG h0 t xs parts=some (out,u)→
  ∃res M',Instr.fill (fun i=>some (i*t.size,t.size)) vals av=some res∧M'.H=M.H∧M'.h=zX M.h u∧Ok M'∧qU M M'∧yX h0 M'.h∧out.length=n∧res.size=n*t.size∧
   (∀k h,zT M'.H M'.G t out[k] (fun j=>res[k*t.size+j]?))
 |[],[],xs,out,vals,u,M,ok,hf,hx,hs,hE,_,_,h=>by
  cases h;exact⟨vals,M,rfl,rfl,rfl,ok,qU.refl M,hf,hx,hs,hE⟩
 |(i,v)::parts,(i',rv)::av,xs,out,vals,u,M,ok,hf,hx,hs,hE,aS,hp,h=>by
  obtain⟨⟨hi,hv⟩,hp⟩:=hp;dsimp only at hi hv;subst hi;unfold iG at h;split at h
  ·rename_i vs ca;split at h
   ·rename_i EI u1 qo;split at h
    ·rename_i x lM;split at h
     ·rename_i xs' us cI;cases h;have bW:=zr ca hv;obtain⟨M1,a1,a2,a3,a4,a5,a6,a7⟩:=Ew ok hf bW qo;have hl:=a5.length;simp  at hl;have hfl:=(OK lM).1;have lL:i<n:=aS (i,v) (by simp);have aO:=Nat.mul_le_mul_right t.size (show i+1≤n by omega);rw[Nat.add_mul] at aO;have ar:i*t.size+rv.cells.toList.length≤vals.size:=by simp_all
      have hE1:∀k (h:k<(xs.set i x).length),zT M1.H M1.G t (xs.set i x)[k] (fun j=>(qP vals (i*t.size) rv.cells.toList)[k*t.size+j]?):=by
       intro k hk;rw[List.length_set] at hk;by_cases e:k=i
       ·subst e;rw[List.getElem_set_self];refine yI6 lM a5 fun j hj=>?_
        rw[vH ar,if_neg (by omega),if_pos (by omega)];simp
       ·rw[List.getElem_set_ne (Ne.symm e)];refine qS a4.ext.G (by grind) t _ _ _ (fun j hj=>?_) (hE k hk);rw[vH ar,Array.length_toList];rcases Oi (Ne.symm e) hj with h|h
        all_goals grind
      obtain⟨res,M2,b1,b2,b3,b4,b5,b6,b7,b8,b9⟩:=OM a3 a6 (by simp_all) (by rw[wD ar];exact hs) hE1
       (fun p hp=>aS p (by grind)) (hp.mono fun p q ON=>⟨ON.1,by
        obtain⟨_,hq⟩:=ON;exact zK.ext a4.ext hq⟩) cI
      exact⟨res,M2,by rw[EZ _ vals i rv av (i*t.size) t.size rfl (by omega) (by omega)];exact b1,b2.trans a1,by rw[b3,a2,jZ],b4,a4.trans b5,b6,b7,b8,b9⟩
     ·cases h
    ·cases h
   ·cases h
  ·cases h
theorem OO {P w t e n av}{ty:Ty}{i z res}(hu:P.underlying t=some (.slice e))(hi:P.info? e=some i)
  (hz:i.zero=some z) (hs:i.size=ty.size) (bL:n*P.cellsOf e≤16777216) (hf:Instr.fill (fun j=>some (j*ty.size,ty.size)) (madeCells z.cells (n*ty.size)) av=some res):
  (Instr.buildSlice t n av.toArray).run P w=.ok (.slice (some ⟨w.heap.size,0,none⟩) n n) (w.alloc (.cells res e)):=by
 have hc:P.cellsOf e=ty.size:=by rw[Em hi];exact hs
 rw[hc] at bL;have h1:¬2^24<n*ty.size:=by omega
 by_cases h0:n*ty.size=0
 ·have hm:madeCells z.cells (n*ty.size)=#[]:=by rw[h0];simp[madeCells]
  rw[hm] at hf;simp[Instr.buildSlice,run_underlying hu,wP w hi,hc,h0];simp[Array.range_zero',hf,newRow]
 ·simp[Instr.buildSlice,run_underlying hu,Result.andThen_ok,wP w hi,hc,h1,if_false,h0,Sem.run_pure,zeroValue,En w hi,hz];rw[show(Array.range (n*ty.size)).map (z.cells[· %z.cells.size]!)=madeCells z.cells (n*ty.size) from rfl,hf];rfl
theorem OP {parts:List (Nat×zO)}{n}(h:parts.all (fun p=>Nat.blt p.1 n)=true):∀p∈parts,p.1<n:=by
 simp only[List.all_eq_true] at h;exact fun p hp=>Ey (h p hp)
theorem yQq {P M w}(ok:Ok M)(hM:M.H=w.heap){nm t e n parts av ty xs u}
  (hp:zG (nK M) parts av) (hu:P.underlying t=some (.slice e)) (aC:M.h nm=none) (cd:jK P e=some ty) (bL:n*P.cellsOf e≤16777216) (aS:∀p∈parts,p.1<n)
  (hf:iG M.h ty (List.replicate n ty.dflt) parts=some (xs,u)):
  zZ P (Instr.buildSlice t n av.toArray) M w (.c (.osl nm none)) (u++[(nm,.arr true ty xs)]):=by
 obtain⟨i,z,h1,h2,h3,h4,h5,h6,h7⟩:=iN cd;obtain⟨res,M',b1,b2,b3,b4,b5,b6,b7,b8,b9⟩:=OM (n:=n) ok (yX.refl _) (by simp) (vals:=madeCells z.cells (n*ty.size)) (by rw[size_madeCells])
  (fun k hk=>by rw[OG hk];exact OD h4 h7 (by simp_all)) aS hp hf
 have hr:=OO (P:=P) (w:=w) hu h1 h2 h3 bL b1;refine zZ.after b3 b5 (OE b4 (by grind) (b6.fresh aC) (c:=n) (us:=res) (e:=e) (by omega) (by omega) (by grind) ?_);simp_all
structure lN (M:zE) (J:List Nat) (n:Nat) (rows:List (List Int)) (vals:Array Value) (rc:List (Option Nat×Nat)):Prop where
 len:rows.length=n
 size:vals.size=n
 rlen:rc.length=n
 row:∀k (h:k<rows.length),∃rb v,rc[k]? =some (rb,rows[k].length)∧vals[k]? =some v∧eR M.H rb rows[k].length v∧
  (∀R,rb=some R→∃rv er,M.H[R]? =some (.cells rv er (0,0))∧∀j (h':j<rows[k].length),rv[j]? =some (.int .i64 rows[k][j]))
 nd:(rc.filterMap (·.1)).Nodup
 of:∀R∈rc.filterMap (·.1),∃j∈J,∃C,M.κ j=some C∧R∈C.fp
 js:∀j∈J,∃ys:List Int,M.h j=some (.arr true (.int .i64) ys)
theorem lN.put {M}(ok:Ok M){J n rows vals rc}(I:lN M J n rows vals rc){i}(hi:i<n){v rv r u}
  (hv:zK M v rv) (ht:nj M.h v=some (r,u)) (hJ:∀p∈u,p.1∉J):∃Ae,lN M (J++u.map (·.1)) n (rows.set i r) (qP vals i rv.cells.toList) Ae∧rv.cells.size=1∧(∀p∈u,p.2=.gone):=by
 have put:∀(rb:Option Nat) (J':List Nat),rv.one1=true→eR M.H rb r.length rv→(∀R,rb=some R→∃rv er,M.H[R]? =some (.cells rv er (0,0))∧∀j (h':j<r.length),rv[j]? =some (.int .i64 r[j]))→
   (∀R,rb=some R→R∉rc.filterMap (·.1))→(∀R,rb=some R→∃j∈J',∃C,M.κ j=some C∧R∈C.fp)→(∀j∈J',∃ys:List Int,M.h j=some (.arr true (.int .i64) ys))→
   lN M (J++J') n (rows.set i r) (qP vals i rv.cells.toList) (rc.set i (rb,r.length))∧rv.cells.size=1:=by
  intro rb J' h1 h2 h3 h4 h5 h6;have aq:rv.cells=#[rv]:=by cases rv<;>first|rfl|cases h1
  obtain⟨s1,s2⟩:=zv (x:=(rb,r.length)) rc i I.nd h4;have ar:i+rv.cells.toList.length≤vals.size:=by rw[aq,I.size];show i+1≤n;omega
  refine⟨⟨by rw[List.length_set];exact I.len,by rw[wD ar];exact I.size,by rw[List.length_set];exact I.rlen,fun k hk=>?_,s1,fun R hR=>?_,fun j hj=>?_⟩,by rw[aq];rfl⟩
  ·rw[List.length_set] at hk;by_cases e:k=i
   ·subst e;rw[List.getElem_set_self];refine⟨rb,rv,?_,?_,h2,h3⟩
    ·rw[List.getElem?_set_self (by rw[I.rlen];exact hi)]
    ·rw[vH ar,if_neg (by omega),if_pos (by rw[aq];show k<k+1;omega),aq];simp
   ·rw[List.getElem_set_ne (Ne.symm e)];obtain⟨gI,v',p1,p2,p3,p4⟩:=I.row k hk;refine⟨gI,v',by rw[List.getElem?_set_ne (Ne.symm e)];exact p1,?_,p3,p4⟩;rw[vH ar,aq];grind
  ·rcases s2 R hR with h|h
   ·obtain⟨j,hj,hC⟩:=I.of R h;exact⟨j,by grind,hC⟩
   grind
  ·rcases List.mem_append.1 hj with h|h
   ·exact I.js j h
   ·exact h6 j h
 unfold nj at ht;split at ht
 ·rename_i jd;split at ht
  ·rename_i ys bR;cases ht;obtain⟨Cj,cA,fB⟩:=ok.obj jd _ bR;obtain⟨jr,jf⟩:=ug fB;obtain⟨r1,r2⟩:=EF cA fB hv;have lI:∀j∈[jd],∃ys:List Int,M.h j=some (.arr true (.int .i64) ys):=by grind
   have:=put Cj.blk [jd] (zM.one (c:=.osl jd none) hv) r1 r2 (fun R hR hm=>?_) (by grind) (fun j hj=>lI j hj)
   ·exact(by grind)
   ·obtain⟨j,hj,C,hC,hRC⟩:=I.of R hm;obtain⟨ys',kp⟩:=I.js j hj;have ba:j≠jd:=fun e=>hJ (jd,.gone) (by simp) (e▸hj)
    exact ok.disj j jd _ _ C Cj R ba kp bR rfl rfl hC cA hRC (vS hR)
  ·cases ht
 ·cases ht;have e:rv=.slice none 0 0:=hv;have:=put none [] (by rw[e];rfl) ⟨e,rfl⟩ (by simp) (by simp) (by simp) (by simp);exact by grind
 ·cases ht
theorem re:∀{l},kf l=true→l.Nodup
 |[],_=>by simp
 |a::l,h=>by
  simp only[kf,Bool.and_eq_true] at h;refine List.nodup_cons.2 ⟨fun hm=>?_,re h.2⟩;have:l.any (Nat.beq a)=true:=List.any_eq_true.2 ⟨a,hm,by simp⟩;simp_all
theorem OQ {M}(ok:Ok M){n}:∀{parts av J rows out vals rc u},lN M J n rows vals rc→
  (∀p∈parts,p.1<n)→zG (nK M) parts av→nk M.h rows parts=some (out,u)→(J++u.map (·.1)).Nodup→
  ∃res Ae,Instr.fill (fun i=>some (i*1,1)) vals av=some res∧lN M (J++u.map (·.1)) n out res Ae∧(∀p∈u,p.2=.gone)
 |[],[],J,rows,out,vals,rc,u,I,_,_,h,_=>by
  cases h;exact⟨vals,rc,rfl,by simp_all,by simp⟩
 |(i,v)::parts,(i',rv)::av,J,rows,out,vals,rc,u,I,aS,hp,h,cc=>by
  obtain⟨⟨hi,hv⟩,hp⟩:=hp;subst hi;unfold nk at h;split at h
  ·rename_i r u1 ht;split at h
   ·rename_i OR us cI;cases h;rw[List.map_append,←List.append_assoc] at cc;have lL:i<n:=aS (i,v) (by simp);obtain⟨Ae,I',h1,hg⟩:=I.put ok lL hv ht (by grind);obtain⟨res,rc2,b1,b2,b3⟩:=OQ ok I' (by grind) hp cI cc;refine⟨res,rc2,?_,by simp_all,fun p hp=>?_⟩
    ·rw[EZ _ vals i rv av (i*1) 1 rfl h1 (by rw[I.size];omega),Nat.mul_one];exact b1
    grind
   ·cases h
  ·cases h
theorem E2 {j}:∀{u h},(∀p∈u,p.2=.gone)→j∈u.map (·.1)→zX h u j=some .gone
 |(id,o)::u,h,hg,hj=>by
  have ho:o=.gone:=hg (id,o) (by simp);subst ho;by_cases hm:j∈u.map (·.1)
  ·exact E2 (u:=u) (by grind) hm
  ·have e:j=id:=by
    simp_all
   subst e;show zX (qH h j .gone) u j=_;rw[zx]
   ·exact qM _ _ _
   ·rw[Bool.eq_false_iff];simp_all
theorem rf {n u h}(hn:n∉u.map (·.1)):zX h u n=h n:=by
 refine zx h ?_;rw[Bool.eq_false_iff];simp_all
theorem yBw {P:Program}{M:zE}{w}(ok:Ok M)(hM:M.H=w.heap){nm n c}{rows res rc J}{u:qV}{e s}
  (aC:M.h nm=none) (I:lN M J n rows (res.extract 0 n) rc) (hJ:∀j,j∈J→j∈u.map (·.1)) (hg:∀p∈u,p.2=.gone∧∃o,M.h p.1=some o∧o.owned=true) (hc:n≤c) (hs:c≤res.size)
  w' (hw:w'.heap=w.heap.push (.cells res e)∧w'.os=w.os∧w'.tape=w.tape∧w'.output=w.output)
  (hr:s.run P w=.ok (.slice (some ⟨w.heap.size,0,none⟩) n c) w'):zZ P s M w (.c (.osl nm none)) (u++[(nm,.mat 0 rows)]):=by
 let C:zS:=⟨some M.H.size,n,1,0,rc⟩;have hnJ:nm∉u.map (·.1):=(by grind);have aO:∀R∈rc.filterMap (·.1),∃j C,(j∈u.map (·.1))∧M.κ j=some C∧R∈C.fp:=fun R hR=>by
  obtain⟨j,hj,C,hC,hm⟩:=I.of R hR;grind
 have aad:∀R∈rc.filterMap (·.1),R<M.H.size:=fun R hR=>by
  obtain⟨j,hj,C,hC,hm⟩:=I.of R hR;obtain⟨ys,hy⟩:=I.js j hj;exact(ok.own R ⟨j,_,C,hy,rfl,hC,hm⟩).2
 have hh:∀n',(zX M.h (u++[(nm,.mat 0 rows)])) n'=if n'=nm then some (.mat 0 rows) else zX M.h u n':=fun n'=>by
  rw[jZ,Ep];by_cases e:n'=nm
  ·rw[if_pos e,e,qM]
  ·rw[if_neg e,qN _ _ e]
 have:=zE.move_ok (M:=M) (nm:=nm) (o':=.mat 0 rows) (C':=C) (h':=zX M.h (u++[(nm,.mat 0 rows)])) (H':=M.H.push (.cells res e)) ok (fun j=>j∈u.map (·.1)) aC
  (fun j hj=>by
   obtain⟨p,hp,e⟩:=List.mem_map.1 hj;obtain⟨_,o,ho,de⟩:=hg p hp;refine⟨o,by rw[←e];exact ho,de,?_⟩;have ba:j≠nm:=by grind
   rw[hh,if_neg ba];exact E2 (by grind) hj)
  (by rw[hh,if_pos rfl]) (fun n' h1 h2=>by rw[hh,if_neg h2];exact rf h1) (by simp) (fun b hb _=>gG hb) (fun b hb=>qe (gG hb))
  (fun b hb=>by
   simp only[C,zS.fp,Option.toList_some,List.singleton_append,List.mem_cons] at hb;grind)
  (fun x=>by
   refine⟨rfl,I.len.symm,rfl,by rw[I.len];exact I.rlen,?_,res,e,nv,by rw[I.len];omega,fun k hk=>?_⟩
   ·simp only[C,zS.fp,Option.toList_some,List.singleton_append];exact List.nodup_cons.2 ⟨by grind,I.nd⟩
   ·obtain⟨rb,v,p1,p2,p3,p4⟩:=I.row k hk;refine⟨rb,v,p1,?_,p3.ext x,fun R hR=>?_⟩
    ·grind
    ·obtain⟨rv,er,p5,p6⟩:=p4 R hR;refine⟨rv,er,?_,p6⟩;have:R<M.H.size:=by grind
     show(M.H.push _)[R]? =_;grind)
 refine⟨_,_,_,hr,hw.2.1,hw.2.2.1,hw.2.2.2,by show M.H.push _=_;rw[hw.1,hM],rfl,this.1,this.2,C,κset_same _ _ _,_,c,rfl,?_⟩;refine⟨hc,0,by rw[hM],.inr (by simp),?_⟩;have:qE (M.H.push (.cells res e)) M.H.size=res.size:=by simp[qE]
 show(0+c)*1≤qE (M.H.push (.cells res e)) M.H.size;rw[this];omega
theorem yA1 {P M w}(ok:Ok M)(hM:M.H=w.heap){mat nm t n parts av v u}
  (hp:zG (nK M) parts av) (h:qJ (pP P mat nm M.h t n parts) v u):zZ P (Instr.buildSlice t n av.toArray) M w v u:=by
 unfold pP at h;split at h
 ·rename_i e hu aC;obtain⟨bL,h⟩:=vW h;have bL:=Nat.le_of_ble_eq_true bL;cases mat with
  |true=>
   split at h
   ·rename_i rows u' cd hf;obtain⟨hb,h⟩:=vW h;simp only[Bool.and_eq_true] at hb;obtain⟨_,rfl,rfl⟩:=wE h;obtain⟨i,z,h1,h2,h3,h4,h5,h6,h7⟩:=iN cd;have Ad:z.cells.toList=[.slice none 0 0]:=h4;have EY:z.cells.size=1:=h7;have I0:lN M [] n (List.replicate n []) (madeCells z.cells (n*1)) (List.replicate n (none,0)):=by
     refine⟨by simp,by rw[size_madeCells,Nat.mul_one],by simp,fun k hk=>?_,by simp,by simp,by simp⟩;have hkn:k<n:=by simp_all
     refine⟨none,.slice none 0 0,by simp[hkn],?_,⟨rfl,by simp⟩,by simp⟩;simp only[madeCells];have:z.cells.toList[0]'(by grind)=.slice none 0 0:=by grind
     grind
    obtain⟨res,rc,b1,b2,b3⟩:=OQ ok I0 (OP hb.2) hp hf (by simpa using re hb.1);have hr:=OO (P:=P) (w:=w) (ty:=.sl (.int .i64)) hu h1 h2 h3 bL b1;have E3:res.extract 0 n=res:=by
     have:=b2.size;simp_all
    refine yBw ok hM aC (by rw[E3];exact b2) (by simp) (fun p hp=>⟨b3 p hp,?_⟩) (by simp) (by rw[b2.size];omega) (w.alloc (.cells res e)) ⟨rfl,rfl,rfl,rfl⟩ hr;obtain⟨ys,hy⟩:=b2.js p.1 (by grind);exact⟨_,hy,rfl⟩
   ·exact h.elim
  |false=>
   simp  at h;split at h
   ·rename_i ty cd;split at h
    ·rename_i xs u' hf;obtain⟨hb,h⟩:=vW h;obtain⟨_,rfl,rfl⟩:=wE h;exact yQq ok hM hp hu aC cd bL (OP hb) hf
    ·exact h.elim
   ·exact h.elim
 ·exact h.elim
theorem E4 {H F}:∀t x rd,zT H F t x rd→∀j,j<t.size→∃v,rd j=some v∧v.one1=true
 |.int k,x,rd,h,j,hj
 |.bool,x,rd,h,j,hj=>by
  simp[Ty.size] at hj;obtain rfl:j=0:=by omega
  exact⟨_,h,rfl⟩
 |.sl t,x,rd,h,j,hj=>by
  simp[Ty.size] at hj;obtain rfl:j=0:=by omega
  obtain⟨A,n,c,h1,_⟩:=h;exact⟨_,h1,rfl⟩
 |.pair a b,x,rd,h,j,hj=>by
  simp[Ty.size] at hj;by_cases aS:j<a.size
  ·exact E4 a _ _ h.1 j aS
  ·have:=E4 b _ _ h.2 (j-a.size) (by omega);simp_all
def Rd (H : Array Go.Obj) (v : Value) (n size : Nat) (news : List Value) : Prop := ∃ A c, v = .slice A n c ∧ news.length = n * size ∧ (∀ u ∈ news, u.one1 = true) ∧ (match A with
 |none=>n=0
 |some a=>n=0∨a.spot=none∧∀j u,news[j]? =some u→qO H a.block (a.off+j)=some u)
theorem Rd.first {P H v n size news}(h:Rd H v n size news) w (hw:w.heap=H):(Builtin.firstCells size n v).run P w=.ok news.toArray w:=by
 obtain⟨A,c,rfl,hl,_,h⟩:=h;cases A with
 |none=>
  have h0:n=0:=h;subst h0;have:news=[]:=by grind
  subst this;rfl
 |some a=>
  rcases h with h0|⟨hs,h⟩
  ·subst h0;have:news=[]:=by grind
   subst this;simp[Builtin.firstCells,loadCells,loadCellsFrom]
  ·obtain⟨B,o,sp⟩:=a;cases hs;exact run_firstCells_some w size n ⟨B,o,none⟩ n c news hl (fun j u hu=>by rw[Addr.add_lit,kl,hw];simp_all)
theorem E5 {H F t}{ys:List t.den}{B o c}(hc:ys.length≤c)(h:∀i hi,zT H F t ys[i] (fun j=>qO H B (o+i*t.size+j))):
  ∃news,Rd H (.slice (some ⟨B,o,none⟩) ys.length c) ys.length t.size news∧∀i hi,zT H F t ys[i] (fun j=>news[i*t.size+j]?):=by
 have OT:∀k,k<ys.length*t.size→∃v,qO H B (o+k)=some v∧v.one1=true:=by
  intro k hk;have hi:k/t.size<ys.length:=Nat.div_lt_of_lt_mul (by grind);obtain⟨v,h1,h2⟩:=E4 t _ _ (h _ hi) (k%t.size) (Nat.mod_lt _ t.size_pos);refine⟨v,?_,h2⟩;rw[Nat.add_assoc,Nat.mul_comm,Nat.div_add_mod] at h1;exact h1
 refine⟨(List.range (ys.length*t.size)).map fun k=>(qO H B (o+k)).getD undef,⟨_,c,rfl,by simp,fun u hu=>?_,.inr ⟨rfl,fun j u hu=>?_⟩⟩,fun i hi=>?_⟩
 ·grind
 ·grind
 ·refine qS (by simp) (by simp) t _ _ _ (fun j hj=>?_) (h i hi);have aO:=Nat.mul_le_mul_right t.size (show i+1≤ys.length by omega);grind
theorem uw {H F t A c}:∃news,Rd H (.slice A 0 c) 0 t.size news∧∀i hi,zT H F t ([]:List t.den)[i] (fun j=>news[i*t.size+j]?):=
 ⟨[],⟨A,c,rfl,by simp,by simp,by grind⟩,by simp⟩
theorem E6 {H F t}{ys:List t.den}{v}(h:zT H F (.sl t) ys (fun _=>some v)):
  ∃news,Rd H v ys.length t.size news∧∀i hi,zT H F t ys[i] (fun j=>news[i*t.size+j]?):=by
 simp[zT] at h;obtain⟨A,n,c,rfl,rfl,hc,h⟩:=h;rcases h with⟨rfl,_⟩|⟨B,o,rfl,hB,hE⟩
 ·exact uw
 ·exact E5 hc hE
theorem nL {M own t xs C id r v}(hC:M.κ id=some C)(hO:qR M (.arr own t xs) C)(hv:zM M (.osl id r) v):
  ∃news,Rd M.H v (wU xs r).length t.size news∧∀i hi,zT M.H M.G t (wU xs r)[i] (fun j=>news[i*t.size+j]?):=by
 obtain⟨h1,h2,h3,h4⟩:=hO;obtain⟨C',aj,hv⟩:=hv;rw[hC] at aj;cases aj;have key:∀lo n,lo+n≤C.len→yY M.H C lo n v→∃news,Rd M.H v (yC xs lo n).length t.size news∧∀i (hi:i<(yC xs lo n).length),zT M.H M.G t (yC xs lo n)[i] (fun j=>news[i*t.size+j]?):=by
  intro lo n hn hS;obtain⟨A,c,rfl,hS⟩:=hS;have hl:=ql (xs:=xs) (lo:=lo) (n:=n) (by omega);by_cases h0:n=0
  ·subst h0;have e:yC xs lo 0=[]:=by rfl
   exact uw
  ·cases hB:C.blk with
   |none=>simp_all
   |some B=>
    rw[hB] at hS h4;obtain⟨hc,a,rfl,ha,_⟩:=hS;obtain⟨vals,e,h5,h6,h7,h8⟩:=h4;have lH:a=lo*C.sz:=by omega
    have := E5 (H := M.H) (F := M.G) (ys := yC xs lo n) (B := B) (o := a) (c := c) (by omega) (fun i hi=>by
     obtain⟨bU,e1⟩:=zt hi;rw[e1];refine qS (by simp) (by simp) t _ _ _ (fun j hj=>?_) (h8 (lo+i) bU);rw[lH,h2,←Nat.add_mul];simp[qO,h5])
    simp_all
 cases r with
 |none=>
  have:=key 0 C.len (by omega) hv;rw[h1,N7] at this;exact this
 |some p=>exact key p.1 p.2 hv.1 hv.2.1
theorem iO {P w t e i A sLen sCap n size x news} T (hu:P.underlying t=some (.slice e))(hi:P.info? e=some i)(hs:i.size=size)
  (hx : Rd w.heap x n size news) (aM : sLen + n ≤ sCap) w' (hw:match A with
   |none=>w'=w
   |some a=>(storeCells (a.add (sLen*size)) news).run P w=.ok () w'):
  (Builtin.append_ #[t,t] T #[.slice A sLen sCap,x]).run P w=.ok (.slice A (sLen+n) sCap) w':=by
 have hf:=hx.first (P:=P) w rfl
 obtain⟨X,c,rfl,_⟩:=hx;subst hs;cases A with
 |none=>
  subst hw;simp[Builtin.append_,run_underlying hu,sizeOf,typeInfo,hi,Builtin.lenOf,aM,hf]
 |some a=>simp[Builtin.append_,run_underlying hu,sizeOf,typeInfo,hi,Builtin.lenOf,aM,hf,hw]
theorem E7 {P}{w}{t e}{i}{z}{A sLen sCap n size x olds news} T (hu:P.underlying t=some (.slice e))(hi:P.info? e=some i)(hz:i.zero=some z)
  (hs:i.size=size) (hb:Rd w.heap (.slice A sLen sCap) sLen size olds) (hx:Rd w.heap x n size news) (hg:sCap<sLen+n) (h46:(sLen+n)*i.bytes≤140737488355328) (aae:sLen+n≤140737488355328):
  (Builtin.append_ #[t,t] T #[.slice A sLen sCap,x]).run P w=
   .ok (.slice (some ⟨w.heap.size,0,none⟩) (sLen+n) (grownCap w (sLen+n) sCap e)) (w.drew.alloc (.cells (olds.toArray++news.toArray++Builtin.zeroCells z.cells (grownCap w (sLen+n) sCap e-(sLen+n))) e)):=by
 have hf:=hx.first (P:=P) w.drew rfl
 have hfo:=hb.first (P:=P) w.drew rfl
 obtain⟨X,c,rfl,_⟩:=hx;subst hs;have hn:¬(sLen+n≤sCap):=by omega
 have aaf:¬(9223372036854775807<((sLen:Int)+(n:Int))):=by omega
 have aag:¬(281474976710656<Builtin.nextslicecap (sLen+n) sCap*i.bytes):=by
  have h1:=Nat.mul_le_mul_right i.bytes (nextslicecap_le hg);grind
 simp[Builtin.append_,run_underlying hu,sizeOf,typeInfo,zeroValue,hi,hz,Builtin.lenOf,Question.forced,hf,hfo,newRow,grownCap];grind
theorem rj z n:(Builtin.zeroCells z n).size=n*z.size:=by simp[Builtin.zeroCells]
theorem E8 {H F t}{xs ys:List t.den}{olds news:List Value}(hl:olds.length=xs.length*t.size)(hx:∀i h,zT H F t xs[i] (fun j=>olds[i*t.size+j]?))
  (hy:∀i h,zT H F t ys[i] (fun j=>news[i*t.size+j]?)):∀i h,zT H F t (xs++ys)[i] (fun j=>(olds++news)[i*t.size+j]?):=by
 intro i hi;by_cases h:i<xs.length
 ·rw[List.getElem_append_left h];refine qS (by simp) (by simp) t _ _ _ (fun j hj=>?_) (hx i h);have:=Nat.mul_le_mul_right t.size (show i+1≤xs.length by omega);grind
 ·rw[List.getElem_append_right (by omega)];refine qS (by simp) (by simp) t _ _ _ (fun j hj=>?_) (hy (i-xs.length) (by grind));have:=Nat.mul_le_mul_right t.size (show xs.length≤i by omega);rw[List.getElem?_append_right (by omega),hl]
  congr 1
  rw[Nat.sub_mul];omega
def ux (M:zE)(w:World)(v:zO)(u:qV)(rv:Value)(w':World):Prop:=
 ∃M',w'.os=w.os∧w'.tape=w.tape∧w'.output=w.output∧M'.H=w'.heap∧M'.h=zX M.h u∧Ok M'∧qU M M'∧zK M' v rv
theorem ux.runs {P s M w w' v u rv}(h:ux M w v u rv w')(hr:s.run P w=.ok rv w'):zZ P s M w v u:=by
 obtain⟨M',h⟩:=h;exact⟨_,_,M',hr,h⟩
theorem OU {M w}(ok:Ok M)(hM:M.H=w.heap){nm t zs us e c}{u:qV}(aC:M.h nm=none)
  (hg:∀p∈u,p.2=.gone∧∃o,M.h p.1=some o∧o.owned=true) (hc:zs.length≤c) (hs:c*t.size≤us.size) (hx:∀i h,zT M.H M.G t zs[i] (fun j=>us[i*t.size+j]?))
  {w':World} (hw:w'.heap=w.heap.push (.cells us e)∧w'.os=w.os∧w'.tape=w.tape∧w'.output=w.output):
  ux M w (.c (.osl nm none)) (u++[(nm,.arr true t zs)]) (.slice (some ⟨w.heap.size,0,none⟩) zs.length c) w':=by
 let C:zS:=⟨some M.H.size,zs.length,t.size,0,[]⟩;have hh:∀n',(zX M.h (u++[(nm,.arr true t zs)])) n'=if n'=nm then some (.arr true t zs) else zX M.h u n':=fun n'=>by
  rw[jZ,Ep];by_cases e:n'=nm
  ·rw[if_pos e,e,qM]
  ·rw[if_neg e,qN _ _ e]
 have hle:=Nat.mul_le_mul_right t.size hc;have:=zE.move_ok (M:=M) (nm:=nm) (o':=.arr true t zs) (C':=C) (h':=zX M.h (u++[(nm,.arr true t zs)])) (H':=M.H.push (.cells us e)) ok (fun j=>j∈u.map (·.1)) aC
  (fun j hj=>by
   obtain⟨p,hp,e⟩:=List.mem_map.1 hj;obtain⟨_,o,ho,de⟩:=hg p hp;refine⟨o,by simp_all,de,?_⟩;have ba:j≠nm:=by grind
   rw[hh,if_neg ba];exact E2 (by grind) hj)
  (by simp_all) (fun n' h1 h2=>by rw[hh,if_neg h2];exact rf h1) (by simp) (by grind) (fun b hb=>qe (gG hb))
  (fun b hb=>by
   simp only[C,zS.fp] at hb;simp_all)
  (fun x=>⟨rfl,rfl,(by grind),us,e,nv,by simp,by omega,fun i hi=>qS x.G x.sameG t _ _ _ (by simp) (hx i hi)⟩)
 refine⟨_,hw.2.1,hw.2.2.1,hw.2.2.2,by show M.H.push _=_;simp_all,rfl,this.1,this.2,C,κset_same _ _ _,_,c,rfl,?_⟩;refine⟨hc,0,by rw[hM],by simp,?_⟩;have:qE (M.H.push (.cells us e)) M.H.size=us.size:=by simp[qE]
 show(0+c)*t.size≤qE (M.H.push (.cells us e)) M.H.size;simp_all
theorem OV {P M w}(ok:Ok M)(hM:M.H=w.heap){nm t zs us e s c}{u:qV}(aC:M.h nm=none)
  (hg:∀p∈u,p.2=.gone∧∃o,M.h p.1=some o∧o.owned=true) (hc:zs.length≤c) (hs:c*t.size≤us.size) (hx:∀i h,zT M.H M.G t zs[i] (fun j=>us[i*t.size+j]?))
  {w'} (hr:s.run P w=.ok (.slice (some ⟨w.heap.size,0,none⟩) zs.length c) w') (hw:w'.heap=w.heap.push (.cells us e)∧w'.os=w.os∧w'.tape=w.tape∧w'.output=w.output):
  zZ P s M w (.c (.osl nm none)) (u++[(nm,.arr true t zs)]):=
 (OU ok hM aC hg hc hs hx hw).runs hr
theorem OW {M:zE}{w:World}(ok:Ok M)(hM:M.H=w.heap){id nm:Nat}{t:Ty}{cW zs:List t.den}{C:zS}{H':Array Go.Obj}{c:Nat}{A:Option Addr}{w':World}
  (ab:M.h id=some (.arr true t cW)) (hC:M.κ id=some C) (aC:M.h nm=none) (bZ:H'.size=M.H.size) (hH:∀b,b∉C.fp→H'[b]? =M.H[b]?) (bK:∀b,qE H' b=qE M.H b)
  (hx:∀M',qK M M'→M'.H=H'→M'.G=M.G→match C.blk with
   |none=>zs=[]
   |some B=>∃vals e,H'[B]? =some (.cells vals e (0,0))∧zs.length*t.size≤vals.size∧∀i (h:i<zs.length),zT M'.H M'.G t zs[i] (fun j=>vals[i*t.size+j]?))
  (hA:match C.blk with
   |none=>A=none∧zs.length=0∧c=0
   |some B=>zs.length≤c∧∃a,A=some ⟨B,a,none⟩∧(c=0∨a=0)∧c*t.size≤qE M.H B)
  (hw:w'.heap=H'∧w'.os=w.os∧w'.tape=w.tape∧w'.output=w.output):
  ux M w (.c (.osl nm none)) [(id,.gone),(nm,.arr true t zs)] (.slice A zs.length c) w':=by
 obtain⟨C0,iP,hO⟩:=ok.obj id _ ab;rw[hC] at iP;cases iP;obtain⟨fr,ff⟩:=ug hO;have ba:id≠nm:=by grind
 let C':zS:=⟨C.blk,zs.length,t.size,0,[]⟩;have hh:∀n',(zX M.h [(id,.gone),(nm,.arr true t zs)]) n'=if n'=nm then some (.arr true t zs) else if n'=id then some .gone else M.h n':=fun n'=>by
  show(qH (qH M.h id .gone) nm _) n'=_;by_cases e:n'=nm
  ·rw[if_pos e,e,qM]
  ·rw[if_neg e,qN _ _ e];by_cases e2:n'=id
   ·rw[if_pos e2,e2,qM]
   ·rw[if_neg e2,qN _ _ e2]
 have:=zE.move_ok (M:=M) (nm:=nm) (o':=.arr true t zs) (C':=C') (h':=zX M.h [(id,.gone),(nm,.arr true t zs)]) (H':=H') ok (fun j=>j=id) aC
  (fun j hj=>⟨.arr true t cW,by rw[hj];exact ab,rfl,by simp_all⟩)
  (by rw[hh,if_pos rfl]) (by grind) (by omega) (by grind) (fun b _=>bK b)
  (fun b hb=>.inr ⟨id,C,rfl,hC,by
   simp only[C',zS.fp,List.filterMap_nil,List.append_nil] at hb;rw[ff];exact hb⟩)
  (fun x=>by
   refine⟨rfl,rfl,(by grind),?_⟩;have:=hx _ x rfl rfl;show match C.blk with
    |none=>_
    |some B=>_
   cases hB:C.blk with
   |none=>simp_all
   |some B=>
    rw[hB] at this;obtain⟨vals,e,h1,h2,h3⟩:=this;exact⟨vals,e,h1,by simp,h2,h3⟩)
 refine⟨_,hw.2.1,hw.2.2.1,hw.2.2.2,by rw[hw.1];rfl,rfl,this.1,this.2,C',κset_same _ _ _,_,c,rfl,?_⟩;show match C.blk with
  |none=>_
  |some B=>_
 cases hB:C.blk with
 |none=>rw[hB] at hA;exact hA
 |some B=>
  rw[hB] at hA;obtain⟨h1,a,h2,h3,h4⟩:=hA;refine⟨h1,a,h2,by simpa using h3,?_⟩;show(0+c)*t.size≤qE H' B;simp_all
theorem E9 {P M w}(ok:Ok M)(hM:M.H=w.heap){id nm t cW zs C H' s c A w'}
  (ab:M.h id=some (.arr true t cW)) (hC:M.κ id=some C) (aC:M.h nm=none) (bZ:H'.size=M.H.size) (hH:∀b,b∉C.fp→H'[b]? =M.H[b]?) (bK:∀b,qE H' b=qE M.H b)
  (hx:∀M',qK M M'→M'.H=H'→M'.G=M.G→match C.blk with
   |none=>zs=[]
   |some B=>∃vals e,H'[B]? =some (.cells vals e (0,0))∧zs.length*t.size≤vals.size∧∀i h,zT M'.H M'.G t zs[i] (fun j=>vals[i*t.size+j]?))
  (hA:match C.blk with
   |none=>A=none∧zs.length=0∧c=0
   |some B=>zs.length≤c∧∃a,A=some ⟨B,a,none⟩∧(c=0∨a=0)∧c*t.size≤qE M.H B)
  (hw:w'.heap=H'∧w'.os=w.os∧w'.tape=w.tape∧w'.output=w.output) (hr:s.run P w=.ok (.slice A zs.length c) w'):
  zZ P s M w (.c (.osl nm none)) [(id,.gone),(nm,.arr true t zs)]:=
 (OW ok hM ab hC aC bZ hH bK hx hA hw).runs hr
theorem uy {n b}(h:(Nat.ble (n*b) 140737488355328&&Nat.ble n 140737488355328)=true):n*b≤140737488355328∧n≤140737488355328:=by
 simp_all
theorem Fa {H H' F F'}:∀t x rd,t.flat=true→zT H F t x rd→zT H' F' t x rd
 |.int k,n,rd,_,h
 |.bool,n,rd,_,h=>h
 |.pair a b,p,rd,hf,h=>by
  simp[Ty.flat] at hf;exact⟨Fa a _ _ hf.1 h.1,Fa b _ _ hf.2 h.2⟩
theorem OX {M:zE}{sh s}{xs:List s.den}{v}(hs:(sh||s.flat)=true)(hv:zT M.H (bif sh then M.G else M.F) (.sl s) xs (fun _=>some v)):
  ∃news,Rd M.H v xs.length s.size news∧∀i hi,zT M.H M.G s xs[i] (fun j=>news[i*s.size+j]?):=by
 obtain⟨news,h1,h2⟩:=E6 hv;refine⟨news,h1,fun i hi=>?_⟩;cases sh with
 |true=>simp_all
 |false=>exact Fa _ _ _ hs (h2 i hi)
theorem OY {M}(ok:Ok M){t x ys u v}(hv:zM M x v)(h:kg M.h t x=some (ys,u)):
  u=[]∧∃news,Rd M.H v ys.length t.size news∧∀i hi,zT M.H M.G t ys[i] (fun j=>news[i*t.size+j]?):=by
 unfold kg at h;split at h
 ·cases h;have e:v=.slice none 0 0:=hv;subst e;exact⟨rfl,uw⟩
 ·rename_i sh s xs;cases hs:(sh||s.flat) with
  |false=>simp_all
  |true=>
   rw[hs] at h;simp  at h;obtain⟨zs,hz,rfl,rfl⟩:=h;obtain⟨e,hz⟩:=dM hz;subst e;subst hz;exact⟨rfl,OX hs hv⟩
 ·rename_i sh s xs;cases hs:(sh||s.flat) with
  |false=>rw[hs] at h;cases h
  |true=>
   rw[hs] at h;simp  at h;obtain⟨zs,hz,rfl,rfl⟩:=h;obtain⟨e,hz⟩:=dM hz;subst e;subst hz;exact⟨rfl,OX hs hv.2⟩
 ·split at h
  ·rename_i own s xs ab;simp  at h;obtain⟨zs,hz,rfl,rfl⟩:=h;obtain⟨e,hz⟩:=dM hz;subst e;subst hz;obtain⟨C,hC,hO⟩:=ok.obj _ _ ab;exact⟨rfl,nL hC hO hv⟩
  ·cases h
 ·cases h
theorem yHb {P M w}(ok:Ok M)(hM:M.H=w.heap){nm t e T ty x ys news}(hu:P.underlying t=some (.slice e))(cd:jK P e=some ty)(aC:M.h nm=none)
  (hx:Rd M.H x ys.length ty.size news) (hE:∀i hi,zT M.H M.G ty ys[i] (fun j=>news[i*ty.size+j]?)) (aM:ys.length*P.bytesOf e≤140737488355328∧ys.length≤140737488355328):
  zZ P (Builtin.append_ #[t,t] T #[.slice none 0 0,x]) M w (.c (.osl nm none)) [(nm,.arr true ty ys)]:=by
 obtain⟨i,z,h1,h2,h3,h4,h5,h6,h7⟩:=iN cd;by_cases h0:ys.length=0
 ·have hy:ys=[]:=by grind
  subst hy;have hr:=iO (P:=P) (w:=w) (A:=none) (sLen:=0) (sCap:=0) T hu h1 h3 (by rw[←hM];exact hx) (by simp) w rfl;let C:zS:=⟨none,0,ty.size,0,[]⟩;have:=zE.move_ok (M:=M) (nm:=nm) (o':=.arr true ty []) (C':=C) (h':=qH M.h nm (.arr true ty [])) (H':=M.H) ok (fun _=>False) aC (by simp) (qM _ _ _)
   (fun n' _ h2=>qN _ _ h2) (by simp) (by simp) (by simp) (nofun) (fun x=>⟨rfl,rfl,by grind,rfl⟩)
  exact⟨_,_,M.move nm C (qH M.h nm (.arr true ty [])) M.H,hr,rfl,rfl,rfl,hM,rfl,this.1,this.2,C,κset_same _ _ _,_,_,rfl,rfl,rfl,rfl⟩
 ·have hb:Rd w.heap (.slice none 0 0) 0 ty.size []:=⟨none,0,rfl,by simp,by simp,rfl⟩;have hr:=E7 (P:=P) (w:=w) T hu h1 h2 h3 hb (by rw[←hM];exact hx) (by omega) (by simp_all) (by omega);simp  at hr;have hlen:news.length=ys.length*ty.size:=hx.choose_spec.choose_spec.2.1;have fS:=grownCap_ge w ys.length 0 e;refine OV (u:=[]) ok hM aC (by simp) fS ?_ (fun i hi=>?_) hr ⟨rfl,rfl,rfl,rfl⟩
  ·simp[rj,h7,hlen,←Nat.add_mul];simp_all
  ·refine qS (by simp) (by simp) ty _ _ _ (fun j hj=>?_) (hE i hi);have:=Nat.mul_le_mul_right ty.size (show i+1≤ys.length by omega);grind
theorem Fc {P}{M w}(ok:Ok M)(hM:M.H=w.heap){id nm t e T ty x b cW ys r news}(hu:P.underlying t=some (.slice e))(cd:jK P e=some ty)
  (aC:M.h nm=none) (ab:M.h id=some (.arr true ty cW)) (hb:zM M (.osl id r) b) (lK:match r with|none=>True|some (lo,_)=>lo=0)
  (hx:Rd M.H x ys.length ty.size news) (hE:∀i hi,zT M.H M.G ty ys[i] (fun j=>news[i*ty.size+j]?))
  (aM:((wU cW r).length+ys.length)*P.bytesOf e≤140737488355328∧(wU cW r).length+ys.length≤140737488355328):
  zZ P (Builtin.append_ #[t,t] T #[b,x]) M w (.c (.osl nm none)) [(id,.gone),(nm,.arr true ty (wU cW r++ys))]:=by
 obtain⟨i,z,h1,h2,h3,h4,h5,h6,h7⟩:=iN cd;obtain⟨C,hC,hO⟩:=ok.obj id _ ab;obtain⟨olds,ho,hEo⟩:=nL hC hO hb;have hlen:news.length=ys.length*ty.size:=hx.choose_spec.choose_spec.2.1;have eY:olds.length=(wU cW r).length*ty.size:=ho.choose_spec.choose_spec.2.1;obtain⟨C',aj,hS⟩:=hb;rw[hC] at aj;cases aj;have fW:∃n,(wU cW r).length=n∧yY M.H C 0 n b:=by
  cases r with
  |none=>exact⟨C.len,by rw[hO.1];rfl,hS⟩
  |some p=>
   obtain⟨lo,n⟩:=p;have:lo=0:=lK;subst this;exact⟨n,ql (by have:=hO.1;have:=hS.1;omega),hS.2.1⟩
 obtain⟨n,hn,A,sCap,rfl,fW⟩:=fW;rw[hn] at eY ho aM;have aL:=E8 (H:=M.H) (F:=M.G) (t:=ty) (xs:=wU cW r) (ys:=ys) (olds:=olds) (news:=news) (by rw[hn];exact eY) hEo hE;have iQ:(wU cW r++ys).length=n+ys.length:=by rw[List.length_append,hn]
 by_cases bM:n+ys.length≤sCap
 ·
  cases hB:C.blk with
  |none=>
   rw[hB] at fW;obtain⟨rfl,rfl,rfl⟩:=fW;have hr:=iO (P:=P) (w:=w) (A:=none) (sLen:=0) (sCap:=0) T hu h1 h3 (by rw[←hM];exact hx) bM w rfl;rw[←iQ] at hr;refine E9 (s:=Builtin.append_ #[t,t] T #[.slice none 0 0,x]) (H':=M.H) ok hM ab hC aC rfl (fun _ _=>rfl) (fun _=>rfl) (fun M' _ _ _=>?_) ?_ ⟨hM.symm,rfl,rfl,rfl⟩ hr
   ·rw[hB];exact List.eq_nil_of_length_eq_zero (by omega)
   ·rw[hB];exact⟨rfl,by omega,rfl⟩
  |some B=>
   rw[hB] at fW;obtain⟨hc,a,rfl,ha,hs⟩:=fW;obtain⟨k1,k2,k3,k4⟩:=hO;rw[hB] at k4;obtain⟨vals,ev,k5,k6,k7,k8⟩:=k4;rw[Nat.zero_mul] at ha;rw[Nat.zero_add,k2] at hs;have bK:qE M.H B=vals.size:=by simp only[qE,k5]
   rw[bK] at hs;have dt:w.heap[B]? =some (.cells vals ev (0,0)):=by rw[←hM];exact k5
   by_cases h0:sCap=0
   ·
    have Af:n=0:=by omega
    have Fe:ys.length=0:=by omega
    have hr := iO (P := P) (w := w) (A := some ⟨B, a, none⟩) (sLen := n) (sCap := sCap) T hu h1 h3 (by rw [← hM]; exact hx) bM w (by
     have:news=[]:=List.eq_nil_of_length_eq_zero (by rw[hlen,Fe,Nat.zero_mul]);rw[this];rfl)
    rw[←iQ] at hr;have Ad:wU cW r++ys=[]:=List.eq_nil_of_length_eq_zero (by omega);refine E9 (s:=Builtin.append_ #[t,t] T #[.slice (some ⟨B,a,none⟩) n sCap,x]) (H':=M.H) ok hM ab hC aC rfl (fun _ _=>rfl) (fun _=>rfl) (fun M' _ _ _=>?_) ?_ ⟨hM.symm,rfl,rfl,rfl⟩ hr
    ·rw[hB];refine⟨vals,ev,k5,by rw[Ad];simp,fun i hi=>?_⟩;rw[Ad] at hi;simp at hi
    ·rw[hB];exact⟨by omega,a,rfl,.inl h0,by rw[h0];simp⟩
   ·have fz:a=0:=by rcases ha with ha|ha<;>omega
    subst fz;have hle:=Nat.mul_le_mul_right ty.size bM;rw[Nat.add_mul] at hle;have ar:n*ty.size+news.length≤vals.size:=by omega
    have dp:=run_storeCells_at (P:=P) B (n*ty.size) ev news 0 vals w dt (by simpa using ar) (fun v hv=>nx (hx.choose_spec.choose_spec.2.2.1 v hv));simp only[Nat.add_zero] at dp;have hr:=iO (P:=P) (w:=w) (A:=some ⟨B,0,none⟩) (sLen:=n) (sCap:=sCap) T hu h1 h3 (by rw[←hM];exact hx) bM (w.setRow B (qP vals (n*ty.size) news)) (by show(storeCells (Addr.add ⟨B,0,none⟩ (n*ty.size)) news).run P w=_;rw[Addr.add_lit,Nat.zero_add];exact dp);rw[←iQ] at hr;obtain⟨f1,f2,f3,f4⟩:=fU dt (new:=qP vals (n*ty.size) news) (wD ar);refine E9 (s:=Builtin.append_ #[t,t] T #[.slice (some ⟨B,0,none⟩) n sCap,x]) (H':=(w.setRow B (qP vals (n*ty.size) news)).heap) ok hM ab hC aC (by rw[hM];exact f1)
     (fun b hb=>by rw[hM];exact f3 b fun e=>hb (e▸vS hB)) (fun b=>by rw[hM];exact f4 b) (fun M' xt hH hG=>?_) ?_ ⟨rfl,rfl,rfl,rfl⟩ hr
    ·rw[hB];refine⟨_,ev,f2,by rw[iQ,wD ar,Nat.add_mul];omega,fun i hi=>?_⟩;refine qS xt.G xt.sameG ty _ _ _ (fun j hj=>?_) (aL i hi);have aO:=Nat.mul_le_mul_right ty.size (show i+1≤n+ys.length by omega);rw[Nat.add_mul,Nat.add_mul] at aO;rw[vH ar];by_cases aS:i*ty.size+j<n*ty.size
     ·rw[if_pos aS,List.getElem?_append_left (by omega)];obtain⟨A',c',e1,_,_,hold⟩:=ho;simp only[Value.slice.injEq] at e1;obtain⟨rfl,_,rfl⟩:=e1;rcases hold with Af|⟨_,hold⟩
      ·rw[Af] at aS;omega
      ·have nM:i*ty.size+j<olds.length:=by omega
       have:=hold (i*ty.size+j) olds[i*ty.size+j] (List.getElem?_eq_getElem nM);rw[List.getElem?_eq_getElem nM,←this];simp only[qO,k5,Nat.zero_add]
     ·rw[if_neg aS,if_pos (by omega),List.getElem?_append_right (by omega),eY]
    ·rw[hB];exact by grind
 ·
  have hr:=E7 (P:=P) (w:=w) T hu h1 h2 h3 (by rw[←hM];exact ho) (by rw[←hM];exact hx) (by omega) (by rw[h6] at aM;exact aM.1) aM.2;have fS:=grownCap_ge w (n+ys.length) sCap e;rw[←iQ] at hr fS;refine OV (s:=Builtin.append_ #[t,t] T #[.slice A n sCap,x]) (u:=[(id,.gone)]) ok hM aC (fun p hp=>?_) fS ?_ (fun i hi=>?_) hr ⟨rfl,rfl,rfl,rfl⟩
  ·simp only[List.mem_singleton] at hp;subst hp;exact⟨rfl,_,ab,rfl⟩
  ·simp only[Array.size_append,List.size_toArray,rj,h7,hlen,eY,←Nat.add_mul];exact Nat.le_of_eq (by congr 1;omega)
  ·refine qS (fun _ h=>h) (fun _ _=>rfl) ty _ _ _ (fun j hj=>?_) (aL i hi);have:=Nat.mul_le_mul_right ty.size (show i+1≤n+ys.length by omega);rw[Nat.add_mul,Nat.add_mul] at this;rw[Array.getElem?_append_left (by simp;omega)];simp
def rk (H:Array Go.Obj)(row:List Int)(m:Option (Option Nat×Nat))(c:Option Value):Prop:=∃rb v,m=some (rb,row.length)∧c=some v∧eR H rb row.length v∧
 (∀R,rb=some R→∃rv er,H[R]? =some (.cells rv er (0,0))∧∀j (h':j<row.length),rv[j]? =some (.int .i64 row[j]))
theorem OZ {M ver xs C}(h:qR M (.mat ver xs) C):C.len=xs.length∧C.sz=1∧C.rows.length=xs.length∧C.fp.Nodup∧
  ∃bG:List Value,bG.length=xs.length∧(∀k (h:k<xs.length),rk M.H xs[k] C.rows[k]? bG[k]?)∧
   (match C.blk with
    |none=>xs=[]
    |some B=>∃vals e,M.H[B]? =some (.cells vals e (0,0))∧xs.length≤vals.size∧∀k,k<xs.length→vals[k]? =bG[k]?):=by
 obtain⟨h1,h2,h3,h4,h5,h6⟩:=h;refine⟨h2,h3,h4,h5,?_⟩;cases hB:C.blk with
 |none=>
  simp_all
 |some B=>
  rw[hB] at h6;obtain⟨vals,e,h7,h8,h9⟩:=h6;refine⟨vals.toList.take xs.length,by simp;omega,fun k hk=>?_,vals,e,h7,h8,by grind⟩;obtain⟨rb,v,k1,k2,k3,k4⟩:=h9 k hk;exact⟨rb,v,k1,by grind,k3,k4⟩
theorem rk.one {H row m v}(h:rk H row m (some v)):v.one1=true:=by
 obtain⟨rb,v',_,e,h,_⟩:=h;cases e;exact h.one
theorem O0 {M}{xs:List (List Int)}{C id v}(hC:M.κ id=some C)(hv:zM M (.osl id none) v){bG}(hl:bG.length=xs.length)(hlen:C.len=xs.length)(bZ:C.sz=1)
  (bC : ∀ u ∈ bG, u.one1 = true) (hb:match C.blk with
    |none=>xs=[]
    |some B=>∃vals e,M.H[B]? =some (.cells vals e (0,0))∧xs.length≤vals.size∧∀k,k<xs.length→vals[k]? =bG[k]?):Rd M.H v xs.length 1 bG:=by
 obtain⟨C',aj,A,c,rfl,hS⟩:=hv;rw[hC] at aj;cases aj;rw[hlen];refine⟨A,c,rfl,by omega,bC,?_⟩;cases hB:C.blk with
 |none=>
  simp_all
 |some B=>
  rw[hB] at hS hb;obtain⟨hc,a,rfl,ha,_⟩:=hS;obtain⟨vals,e,h1,h2,h3⟩:=hb;by_cases h0:xs.length=0
  ·omega
  ·refine .inr ⟨rfl,fun j u hu=>?_⟩;have fz:a=0:=by omega
   have hj:j<xs.length:=by
    grind
   simp[qO];simp_all
theorem O1 {C D:zS}(hC:C.fp.Nodup)(hD:D.fp.Nodup)(ct:∀b,b∈C.fp→b∉D.fp):((C.rows++D.rows).filterMap (·.1)).Nodup:=by
 rw[List.filterMap_append];refine List.nodup_append.2 ⟨(List.nodup_append.1 hC).2.1,(List.nodup_append.1 hD).2.1,fun a ha b hb e=>?_⟩;exact ct a (by simp[zS.fp];simp_all) (by simp[zS.fp];simp_all)
theorem Ag {P M w w'}(ok:Ok M)(hM:M.H=w.heap){id jd nm v1 v2 xs ys C Cj C' s A c H'}
  (ab:M.h id=some (.mat v1 xs)) (bR:M.h jd=some (.mat v2 ys)) (ba:id≠jd) (hC:M.κ id=some C) (cA:M.κ jd=some Cj) (aC:M.h nm=none) (bZ:M.H.size≤H'.size)
  (hH:∀b,b<M.H.size→C.blk≠some b→H'[b]? =M.H[b]?) (bK:∀b,b<M.H.size→qE H' b=qE M.H b)
  (hl:C'.len=(xs++ys).length) (Ah:C'.sz=1) (hv0:C'.ver=0) (eZ:C'.rows=C.rows++Cj.rows) (Ff:∀B,C'.blk=some B→(M.H.size≤B∧B<H'.size)∨C.blk=some B)
  (hx:match C'.blk with
   |none=>xs++ys=[]
   |some B=>∃vals e,H'[B]? =some (.cells vals e (0,0))∧(xs++ys).length≤vals.size∧∀k (h:k<(xs++ys).length),rk M.H (xs++ys)[k] (C.rows++Cj.rows)[k]? vals[k]?)
  (hA:yY H' C' 0 C'.len (.slice A (xs++ys).length c))
  (hw:w'.heap=H'∧w'.os=w.os∧w'.tape=w.tape∧w'.output=w.output) (hr:s.run P w=.ok (.slice A (xs++ys).length c) w'):
  zZ P s M w (.c (.osl nm none)) [(id,.gone),(jd,.gone),(nm,.mat 0 (xs++ys))]:=by
 obtain⟨C0,iP,hO⟩:=ok.obj id _ ab;rw[hC] at iP;cases iP;obtain⟨C1,c0,fB⟩:=ok.obj jd _ bR;rw[cA] at c0;cases c0;have Fg:=hO.2.2.2.2.1;have O2:=fB.2.2.2.2.1;have ct:∀b,b∈C.fp→b∉Cj.fp:=fun b h1 h2=>ok.disj id jd _ _ C Cj b ba ab bR rfl rfl hC cA h1 h2
 have hni:id≠nm:=by grind
 have hnj:jd≠nm:=by grind
 have hh:∀n',(zX M.h [(id,.gone),(jd,.gone),(nm,.mat 0 (xs++ys))]) n'=if n'=nm then some (.mat 0 (xs++ys)) else if n'=jd then some .gone else if n'=id then some .gone else M.h n':=fun n'=>by
  show(qH (qH (qH M.h id .gone) jd .gone) nm _) n'=_;by_cases e:n'=nm
  ·rw[if_pos e,e,qM]
  ·rw[if_neg e,qN _ _ e];by_cases e2:n'=jd
   ·rw[if_pos e2,e2,qM]
   ·rw[if_neg e2,qN _ _ e2];by_cases e3:n'=id
    ·rw[if_pos e3,e3,qM]
    ·rw[if_neg e3,qN _ _ e3]
 have uz:∀b∈C.fp,b<M.H.size:=fun b hb=>(ok.own b ⟨id,_,C,ab,rfl,hC,hb⟩).2
 have uA:∀b∈Cj.fp,b<M.H.size:=fun b hb=>(ok.own b ⟨jd,_,Cj,bR,rfl,cA,hb⟩).2
 have ud:∀R∈(C.rows++Cj.rows).filterMap (·.1),R∈C.fp∧C.blk≠some R∨R∈Cj.fp:=fun R hR=>by
  rw[List.filterMap_append] at hR;rcases List.mem_append.1 hR with h|h
  ·refine .inl ⟨by simp only[zS.fp,List.mem_append];exact .inr h,fun e=>?_⟩;exact(List.nodup_append.1 Fg).2.2 R (by simp[e]) R h rfl
  ·exact .inr (by simp only[zS.fp,List.mem_append];exact .inr h)
 have uB:∀R∈(C.rows++Cj.rows).filterMap (·.1),R<M.H.size∧C.blk≠some R:=fun R hR=>by
  rcases ud R hR with⟨h1,h2⟩|h
  ·exact⟨uz R h1,h2⟩
  ·exact⟨uA R h,fun e=>ct R (vS e) h⟩
 have nd':C'.fp.Nodup:=by
  simp only[zS.fp,eZ];cases hB:C'.blk with
  |none=>simpa using O1 Fg O2 ct
  |some B=>
   simp only[Option.toList_some,List.singleton_append];refine List.nodup_cons.2 ⟨fun hm=>?_,O1 Fg O2 ct⟩;grind
 have:=zE.move_ok (M:=M) (nm:=nm) (o':=.mat 0 (xs++ys)) (C':=C') (h':=zX M.h [(id,.gone),(jd,.gone),(nm,.mat 0 (xs++ys))]) (H':=H') ok (fun j=>j=id∨j=jd) aC
  (fun j hj=>by
   rcases hj with rfl|rfl
   ·exact⟨_,ab,rfl,by rw[hh,if_neg hni,if_neg ba,if_pos rfl]⟩
   ·exact⟨_,bR,rfl,by rw[hh,if_neg hnj,if_pos rfl]⟩)
  (by rw[hh,if_pos rfl]) (fun n' h1 h2=>by rw[hh,if_neg h2,if_neg (fun e=>h1 (.inr e)),if_neg (fun e=>h1 (.inl e))]) bZ
  (fun b hb hn=>hH b hb fun e=>hn id C (.inl rfl) hC (vS e)) bK
  (fun b hb=>by
   simp only[zS.fp,eZ,List.mem_append] at hb;rcases hb with hb|hb
   ·cases hB:C'.blk with
    |none=>rw[hB] at hb;simp at hb
    |some B=>
     rw[hB] at hb;simp at hb;subst hb;rcases Ff b hB with h|h
     ·exact .inl h
     ·exact .inr ⟨id,C,.inl rfl,hC,vS h⟩
   simp_all)
  (fun x=>by
   refine⟨hv0,hl,Ah,?_,nd',?_⟩
   ·rw[eZ,List.length_append,hO.2.2.2.1,fB.2.2.2.1,List.length_append]
   ·cases hB:C'.blk with
    |none=>rw[hB] at hx;exact hx
    |some B=>
     rw[hB] at hx;obtain⟨vals,e,k1,k2,k3⟩:=hx;refine⟨vals,e,k1,k2,fun k hk=>?_⟩;obtain⟨rb,v,q1,q2,q3,q4⟩:=k3 k hk;refine⟨rb,v,by rw[eZ];exact q1,q2,q3.ext x,fun R hR=>?_⟩;obtain⟨rv,er,q5,q6⟩:=q4 R hR;have O3:=uB R (List.mem_filterMap.2 ⟨_,List.mem_of_getElem? q1,hR⟩);exact⟨rv,er,by show H'[R]? =_;rw[hH R O3.1 O3.2];exact q5,q6⟩)
 exact⟨_,_,M.move nm C' (zX M.h [(id,.gone),(jd,.gone),(nm,.mat 0 (xs++ys))]) H',hr,hw.2.1,hw.2.2.1,hw.2.2.2,hw.1.symm,rfl,this.1,this.2,C',κset_same _ _ _,by rw[hl] at hA⊢;exact hA⟩
theorem Fh {H}{xs:List (List Int)}{rc:List (Option Nat×Nat)}{bG:List Value}(hl:bG.length=xs.length)(h:∀k (h:k<xs.length),rk H xs[k] rc[k]? bG[k]?):∀u∈bG,u.one1=true:=by
 intro u hu;obtain⟨k,hk,rfl⟩:=List.getElem_of_mem hu;have:=h k (by omega);rw[List.getElem?_eq_getElem hk] at this;exact this.one
theorem yLj {P M w}(ok:Ok M)(hM:M.H=w.heap){id jd nm v1 v2 t e T x b xs ys}(hu:P.underlying t=some (.slice e))(cd:jK P e=some (.sl (.int .i64)))
  (aC:M.h nm=none) (ab:M.h id=some (.mat v1 xs)) (bR:M.h jd=some (.mat v2 ys)) (ba:id≠jd) (hb:zM M (.osl id none) b) (hx:zM M (.osl jd none) x)
  (aM:(xs.length+ys.length)*P.bytesOf e≤140737488355328∧xs.length+ys.length≤140737488355328):
  zZ P (Builtin.append_ #[t,t] T #[b,x]) M w (.c (.osl nm none)) [(id,.gone),(jd,.gone),(nm,.mat 0 (xs++ys))]:=by
 obtain⟨i,z,h1,h2,h3,h4,h5,h6,h7⟩:=iN cd;obtain⟨C,hC,hO⟩:=ok.obj id _ ab;obtain⟨Cj,cA,fB⟩:=ok.obj jd _ bR;obtain⟨a1,a2,a3,a4,olds,a5,a6,a7⟩:=OZ hO;obtain⟨b1,b2,b3,b4,news,b5,b6,b7⟩:=OZ fB;have ho:=O0 hC hb a5 a1 a2 (Fh a5 a6) a7;have hn:=O0 cA hx b5 b1 b2 (Fh b5 b6) b7;have iQ:(xs++ys).length=xs.length+ys.length:=List.length_append;have bC:=Fh b5 b6;have aL:∀k (h:k<(xs++ys).length),rk M.H (xs++ys)[k] (C.rows++Cj.rows)[k]? (olds++news)[k]? :=by
  intro k hk;by_cases aS:k<xs.length
  ·rw[List.getElem_append_left aS,List.getElem?_append_left (by omega),List.getElem?_append_left (by omega)];exact a6 k aS
  ·rw[List.getElem_append_right (by omega),List.getElem?_append_right (by omega),List.getElem?_append_right (by omega),a3,a5];exact b6 _ (by omega)
 obtain⟨C',aj,A,sCap,rfl,fW⟩:=hb;rw[hC] at aj;cases aj;rw[a1] at ho fW;have ky:i.size=1:=h3;have EY:z.cells.size=1:=h7;by_cases bM:xs.length+ys.length≤sCap
 ·cases hB:C.blk with
  |none=>
   rw[hB] at fW;obtain⟨rfl,h0,rfl⟩:=fW;have hr:=iO (P:=P) (w:=w) (A:=none) (sLen:=xs.length) (sCap:=0) T hu h1 ky (by rw[←hM];exact hn) bM w rfl;rw[←iQ] at hr;have bI:xs++ys=[]:=List.eq_nil_of_length_eq_zero (by omega);rw[a1];refine Ag (C':=⟨none,(xs++ys).length,1,0,C.rows++Cj.rows⟩) (H':=M.H) ok hM ab bR ba hC cA aC (Nat.le_refl _) (fun _ _ _=>rfl) (fun _ _=>rfl) rfl rfl rfl rfl (fun B hB=>by cases hB) bI ⟨none,0,rfl,rfl,(by show(xs++ys).length=0;omega),rfl⟩ ⟨hM.symm,rfl,rfl,rfl⟩ hr
  |some B=>
   rw[hB] at fW a7;obtain⟨hc,a,rfl,ha,hs⟩:=fW;obtain⟨vals,ev,k5,k6,k7⟩:=a7;rw[Nat.zero_mul] at ha;rw[Nat.zero_add,a2,Nat.mul_one] at hs;have bK:qE M.H B=vals.size:=by simp only[qE,k5]
   rw[bK] at hs;have dt:w.heap[B]? =some (.cells vals ev (0,0)):=by rw[←hM];exact k5
   by_cases h0:sCap=0
   ·have hr := iO (P := P) (w := w) (A := some ⟨B, a, none⟩) (sLen := xs.length) (sCap := sCap) T hu h1 ky (by rw [← hM]; exact hn) bM w (by
     have:news=[]:=List.eq_nil_of_length_eq_zero (by omega);rw[this];rfl)
    rw[←iQ] at hr;have bI:xs++ys=[]:=List.eq_nil_of_length_eq_zero (by omega);rw[a1];refine Ag (C':=⟨some B,(xs++ys).length,1,0,C.rows++Cj.rows⟩) (H':=M.H) ok hM ab bR ba hC cA aC (Nat.le_refl _) (fun _ _ _=>rfl) (fun _ _=>rfl) rfl rfl rfl rfl (fun B' dB=>.inr (by cases dB;exact hB))
     ⟨vals,ev,k5,by rw[bI];simp,fun k hk=>by rw[bI] at hk;simp at hk⟩ ⟨_,sCap,rfl,(by show(xs++ys).length≤sCap;omega),a,rfl,.inl h0,by rw[h0];simp⟩ ⟨hM.symm,rfl,rfl,rfl⟩ hr
   ·have fz:a=0:=by rcases ha with ha|ha<;>omega
    subst fz;have ar:xs.length+news.length≤vals.size:=by omega
    have dp:=run_storeCells_at (P:=P) B xs.length ev news 0 vals w dt (by simpa using ar) (fun v hv=>nx (bC v hv));simp only[Nat.add_zero] at dp;have hr:=iO (P:=P) (w:=w) (A:=some ⟨B,0,none⟩) (sLen:=xs.length) (sCap:=sCap) T hu h1 ky (by rw[←hM];exact hn) bM (w.setRow B (qP vals xs.length news))
     (by show(storeCells (Addr.add ⟨B,0,none⟩ (xs.length*1)) news).run P w=_;rw[Addr.add_lit,Nat.zero_add,Nat.mul_one];exact dp)
    rw[←iQ] at hr;obtain⟨f1,f2,f3,f4⟩:=fU dt (new:=qP vals xs.length news) (wD ar);rw[a1];refine Ag (C':=⟨some B,(xs++ys).length,1,0,C.rows++Cj.rows⟩) (H':=(w.setRow B (qP vals xs.length news)).heap) ok hM ab bR ba hC cA aC (by rw[hM,f1];exact Nat.le_refl _) (fun b hb hn=>by rw[hM];exact f3 b fun e=>hn (e▸hB))
     (fun b _=>by rw[hM];exact f4 b) rfl rfl rfl rfl (fun B' dB=>.inr (by cases dB;exact hB)) ⟨_,ev,f2,by rw[wD ar];omega,fun k hk=>?_⟩ ⟨_,sCap,rfl,(by show(xs++ys).length≤sCap;omega),0,rfl,.inr (by simp),by show(0+sCap)*1≤qE _ B;rw[f4,←hM,bK];omega⟩ ⟨rfl,rfl,rfl,rfl⟩ hr
    have:=aL k hk;rw[vH ar];by_cases aS:k<xs.length
    ·rw[if_pos aS,k7 k aS];rw[List.getElem?_append_left (l₁:=olds) (by omega)] at this;exact this
    ·rw[if_neg aS,if_pos (by omega)];rw[List.getElem?_append_right (l₁:=olds) (by omega),a5] at this;exact this
 ·have hr:=E7 (P:=P) (w:=w) T hu h1 h2 ky (by rw[←hM];exact ho) (by rw[←hM];exact hn) (by omega) (by rw[h6] at aM;exact aM.1) aM.2;have fS:=grownCap_ge w (xs.length+ys.length) sCap e;rw[←iQ] at hr fS;generalize fT:olds.toArray++news.toArray++Builtin.zeroCells z.cells (grownCap w (xs++ys).length sCap e-(xs++ys).length)=us at hr;have Fi:us.size=grownCap w (xs++ys).length sCap e:=by
   rw[←fT];simp only[Array.size_append,List.size_toArray,rj,EY];omega
  have Fj:∀k,k<(xs++ys).length→us[k]? =(olds++news)[k]? :=fun k hk=>by
   rw[←fT,Array.getElem?_append_left (by simp;omega)];simp
  have hbz:∀us:Array Value,qE (M.H.push (.cells us e)) M.H.size=us.size:=fun us=>by simp[qE]
  rw[a1];refine Ag (C':=⟨some M.H.size,(xs++ys).length,1,0,C.rows++Cj.rows⟩) (H':=M.H.push (.cells us e)) (w':=w.drew.alloc (.cells us e)) ok hM ab bR ba hC cA aC (by simp) (fun b hb _=>gG hb) (fun b hb=>qe (gG hb)) rfl rfl rfl rfl
   (fun B' dB=>.inl (by cases dB;exact⟨Nat.le_refl _,by simp⟩)) ⟨us,e,nv,by omega,fun k hk=>?_⟩ ⟨_,_,rfl,fS,0,by rw[hM],.inr (by simp),(by rw[hbz,Fi];show(0+_)*1≤_;omega)⟩ ⟨(by rw[hM];rfl),rfl,rfl,rfl⟩ hr
  rw[Fj k hk];exact aL k hk
theorem nN {c s v u}(h:qJ (bif c then s else .stuck) v u):c=true∧qJ s v u:=by
 cases c with
 |true=>simp_all
 |false=>exact h.elim
theorem O4 {c a b v u}(h:qJ (bif c then a else b) v u):(c=true∧qJ a v u)∨(c=false∧qJ b v u):=by
 grind
theorem O5 {z:Value}{t}(h:z.cells.toList=wH t)(hs:z.cells.size=t.size){n i j}(hj:j<t.size)(hi:i<n):(Builtin.zeroCells z.cells n).toList[i*t.size+j]? =(wH t)[j]? :=by
 have aO:=Nat.mul_le_mul_right t.size (show i+1≤n by omega);rw[List.getElem?_eq_getElem (l:=wH t) (by grind),←OC h hs (i:=i) hj];simp[Builtin.zeroCells];grind
theorem yIf {z:Value}{t}(h:z.cells.toList=wH t)(hs:z.cells.size=t.size){n}:∀v∈(Builtin.zeroCells z.cells n).toList,v.one1=true:=by
 intro v hv;have hz:∀u∈wH t,u.one1=true:=by
  clear h hs hv
  induction t with
  |pair a b qy qz=>
   intro u hu;rcases List.mem_append.1 hu with hu|hu
   all_goals simp_all
  |_=>
   intro u hu;rw[List.mem_singleton.1 hu];rfl
 obtain⟨k,hk,rfl⟩:=List.getElem_of_mem hv;have zw:k<n*t.size:=by rw[Array.length_toList,rj,hs] at hk;exact hk
 have h0:=t.size_pos;have := O5 h hs (n := n) (i := k / t.size) (j := k % t.size) (Nat.mod_lt _ h0) (by
  rw[Nat.div_lt_iff_lt_mul h0];omega)
 rw[Nat.div_add_mod' k t.size,List.getElem?_eq_getElem hk,List.getElem?_eq_getElem (by grind),Option.some.injEq] at this;simp_all
theorem Fk {P}{M:zE}{w:World}(ok:Ok M)(hM:M.H=w.heap){id nm n':Nat}{t:Ty}{cW zs}{C:zS}{H'}{s:Sem Value}{c:Nat}{A:Option Addr}{w':World}
  (ab:M.h id=some (.arr true t cW)) (hC:M.κ id=some C) (aC:M.h nm=none) (bZ:H'.size=M.H.size) (hH:∀b,b∉C.fp→H'[b]? =M.H[b]?) (bK:∀b,qE H' b=qE M.H b)
  (hx:∀M',qK M M'→M'.H=H'→M'.G=M.G→match C.blk with
   |none=>zs=[]
   |some B=>∃vals e,H'[B]? =some (.cells vals e (0,0))∧zs.length*t.size≤vals.size∧∀i (h:i<zs.length),zT M'.H M'.G t zs[i] (fun j=>vals[i*t.size+j]?))
  (hn : n' ≤ zs.length) (hc : zs.length ≤ c) (hA:match C.blk with
   |none=>A=none∧n'=0∧c=0
   |some B=>∃a,A=some ⟨B,a,none⟩∧(c=0∨a=0)∧c*t.size≤qE M.H B)
  (hw:w'.heap=H'∧w'.os=w.os∧w'.tape=w.tape∧w'.output=w.output) (hr:s.run P w=.ok (.slice A n' c) w'):
  zZ P s M w (.c (.osl nm (some (0,n')))) [(id,.gone),(nm,.arr true t zs)]:=by
 obtain⟨C0,iP,hO⟩:=ok.obj id _ ab;rw[hC] at iP;cases iP;obtain⟨fr,ff⟩:=ug hO;have ba:id≠nm:=fun e=>by simp_all
 let C':zS:=⟨C.blk,zs.length,t.size,0,[]⟩;have hh:∀n',(zX M.h [(id,.gone),(nm,.arr true t zs)]) n'=if n'=nm then some (.arr true t zs) else if n'=id then some .gone else M.h n':=fun n'=>by
  show(qH (qH M.h id .gone) nm _) n'=_;by_cases e:n'=nm
  ·rw[if_pos e,e,qM]
  ·rw[if_neg e,qN _ _ e];by_cases e2:n'=id
   ·rw[if_pos e2,e2,qM]
   ·rw[if_neg e2,qN _ _ e2]
 have:=zE.move_ok (M:=M) (nm:=nm) (o':=.arr true t zs) (C':=C') (h':=zX M.h [(id,.gone),(nm,.arr true t zs)]) (H':=H') ok (fun j=>j=id) aC
  (fun j hj=>⟨.arr true t cW,by rw[hj];exact ab,rfl,by simp_all⟩)
  (by rw[hh,if_pos rfl]) (by grind) (by omega) (fun b hb hn=>hH b (hn id C rfl hC)) (fun b _=>bK b)
  (fun b hb=>.inr ⟨id,C,rfl,hC,by
   simp only[C',zS.fp,List.filterMap_nil,List.append_nil] at hb;rw[ff];exact hb⟩)
  (fun x=>by
   refine⟨rfl,rfl,fun _=>rfl,?_⟩;have:=hx _ x rfl rfl;cases hB:C.blk with
   |none=>simp_all
   |some B=>
    rw[hB] at this;obtain⟨vals,e,h1,h2,h3⟩:=this;exact⟨vals,e,h1,by simp,h2,h3⟩)
 refine⟨_,_,_,hr,hw.2.1,hw.2.2.1,hw.2.2.2,by rw[hw.1];rfl,rfl,this.1,this.2,C',κset_same _ _ _,by grind,⟨_,c,rfl,?_⟩,_,_,_,rfl,by grind⟩;show match C.blk with
  |none=>_
  |some B=>_
 cases hB:C.blk with
 |none=>rw[hB] at hA;exact hA
 |some B=>
  rw[hB] at hA;obtain⟨a,h2,h3,h4⟩:=hA;refine⟨by omega,a,h2,by simpa using h3,?_⟩;show(0+c)*t.size≤qE H' B;simp_all
theorem yNx {P}{M w}(ok:Ok M)(hM:M.H=w.heap){id nm i j m t e T ty x b xs}(hu:P.underlying t=some (.slice e))(cd:jK P e=some ty)
  (aC:M.h nm=none) (ab:M.h id=some (.arr true ty xs)) (hb:zM M (.osl id (some (0,i))) b) (hx:zM M (.osl id (some (j,m))) x) (fx:i≤j):
  zZ P (Builtin.append_ #[t,t] T #[b,x]) M w (.c (.osl nm (some (0,i+m)))) [(id,.gone),(nm,.arr true ty (xs.take i++yC xs j m++xs.drop (i+m)))]:=by
 obtain⟨inf,z,h1,h2,h3,h4,h5,h6,h7⟩:=iN cd;obtain⟨C,hC,hO⟩:=ok.obj id _ ab;obtain⟨news,hR,hE⟩:=nL hC hO hx;obtain⟨C1,c0,uC,_⟩:=hx;rw[hC] at c0;cases c0;obtain⟨C1,c0,dq,⟨A,c,rfl,hS⟩,cZ⟩:=hb;rw[hC] at c0;cases c0;obtain⟨_,_,_,cZ,ER⟩:=cZ;cases cZ;have hlen:=hO.1;have O6:(wU xs (some (j,m))).length=m:=ql (by omega);rw[O6] at hR;have Ai:news.length=m*ty.size:=hR.choose_spec.choose_spec.2.1;have kz:(yC xs j m).length=m:=O6;have kA:(xs.take i).length=i:=by rw[List.length_take];omega
 have uD:(xs.take i++yC xs j m++xs.drop (i+m)).length=xs.length:=by
  rw[List.length_append,List.length_append,kz,kA,List.length_drop];omega
 have aM:i+m≤c:=by omega
 cases hB:C.blk with
 |none=>
  rw[hB] at hS;obtain⟨rfl,rfl,rfl⟩:=hS;have hr:=iO (P:=P) (w:=w) (A:=none) (sLen:=0) (sCap:=0) T hu h1 h3 (by rw[←hM];exact hR) aM w rfl;refine Fk (s:=Builtin.append_ #[t,t] T #[.slice none 0 0,x]) (H':=M.H) ok hM ab hC aC rfl (fun _ _=>rfl) (fun _=>rfl) (fun M' _ _ _=>?_) (by omega) (by omega) ?_ ⟨hM.symm,rfl,rfl,rfl⟩ hr
  ·rw[hB];exact List.eq_nil_of_length_eq_zero (by omega)
  ·rw[hB];exact⟨rfl,by omega,rfl⟩
 |some B=>
  rw[hB] at hS;obtain⟨hc,a,rfl,ha,hs⟩:=hS;obtain⟨k1,k2,k3,k4⟩:=hO;rw[hB] at k4;obtain⟨vals,ev,k5,k6,k7,k8⟩:=k4;rw[Nat.zero_mul] at ha;rw[Nat.zero_add,k2] at hs;have bK:qE M.H B=vals.size:=by simp only[qE,k5]
  have dt:w.heap[B]? =some (.cells vals ev (0,0)):=by rw[←hM];exact k5
  by_cases h0:c=0
  ·have hm0:m=0:=by omega
   have hr := iO (P := P) (w := w) (A := some ⟨B, a, none⟩) (sLen := i) (sCap := c) T hu h1 h3 (by rw [← hM]; exact hR) aM w (by
    have:news=[]:=List.eq_nil_of_length_eq_zero (by rw[Ai,hm0,Nat.zero_mul]);rw[this];rfl)
   refine Fk (s:=Builtin.append_ #[t,t] T #[.slice (some ⟨B,a,none⟩) i c,x]) (H':=M.H) ok hM ab hC aC rfl (fun _ _=>rfl) (fun _=>rfl) (fun M' _ _ _=>?_) (by omega) (by omega) ?_ ⟨hM.symm,rfl,rfl,rfl⟩ hr
   ·rw[hB];refine⟨vals,ev,k5,by rw[uD];exact k7,fun p hp=>?_⟩;rw[uD] at hp;omega
   ·rw[hB];exact⟨a,rfl,.inl h0,by rw[h0];simp⟩
  ·have fz:a=0:=by rcases ha with ha|ha<;>omega
   subst fz;have hle:=Nat.mul_le_mul_right ty.size (show i+m≤xs.length by omega);rw[Nat.add_mul] at hle;have ar:i*ty.size+news.length≤vals.size:=by omega
   have dp:=run_storeCells_at (P:=P) B (i*ty.size) ev news 0 vals w dt (by simpa using ar) (fun v hv=>nx (hR.choose_spec.choose_spec.2.2.1 v hv));simp only[Nat.add_zero] at dp;have hr:=iO (P:=P) (w:=w) (A:=some ⟨B,0,none⟩) (sLen:=i) (sCap:=c) T hu h1 h3 (by rw[←hM];exact hR) aM (w.setRow B (qP vals (i*ty.size) news)) (by show(storeCells (Addr.add ⟨B,0,none⟩ (i*ty.size)) news).run P w=_;rw[Addr.add_lit,Nat.zero_add];exact dp);obtain⟨f1,f2,f3,f4⟩:=fU dt (new:=qP vals (i*ty.size) news) (wD ar);refine Fk (s:=Builtin.append_ #[t,t] T #[.slice (some ⟨B,0,none⟩) i c,x]) (H':=(w.setRow B (qP vals (i*ty.size) news)).heap) ok hM ab hC aC (by rw[hM];exact f1)
    (fun b hb=>by rw[hM];exact f3 b fun e=>hb (e▸vS hB)) (fun b=>by rw[hM];exact f4 b) (fun M' xt hH hG=>?_) (by omega) (by omega) ?_ ⟨rfl,rfl,rfl,rfl⟩ hr
   ·rw[hB];refine⟨_,ev,f2,by rw[uD,wD ar];exact k7,fun p hp=>?_⟩;rw[uD] at hp;have aO:=Nat.mul_le_mul_right ty.size (show p+1≤xs.length by omega);rw[Nat.add_mul] at aO;have nO:(xs.take i++yC xs j m++xs.drop (i+m))[p]? =xs[p]? →(∀q,q<ty.size→(qP vals (i*ty.size) news)[p*ty.size+q]? =vals[p*ty.size+q]?)→zT M'.H M'.G ty ((xs.take i++yC xs j m++xs.drop (i+m))[p]'(by omega)) (fun q=>(qP vals (i*ty.size) news)[p*ty.size+q]?):=fun e1 e2=>by
     have e3:(xs.take i++yC xs j m++xs.drop (i+m))[p]'(by omega)=xs[p]:=by
      rw[List.getElem?_eq_getElem (by omega),List.getElem?_eq_getElem hp,Option.some.injEq] at e1;exact e1
     rw[e3];exact qS xt.G xt.sameG ty _ _ _ e2 (k8 p hp)
    by_cases Aj:p<i
    ·refine nO ?_ fun q hq=>?_
     ·rw[List.append_assoc,List.getElem?_append_left (by omega),List.getElem?_take,if_pos Aj]
     ·have:=Nat.mul_le_mul_right ty.size (show p+1≤i by omega);rw[Nat.add_mul] at this;rw[vH ar,if_pos (by omega)]
    ·by_cases uE:p<i+m
     ·have e3:(xs.take i++yC xs j m++xs.drop (i+m))[p]'(by omega)=(wU xs (some (j,m)))[p-i]'(by omega):=by
       rw[List.getElem_append_left (by rw[List.length_append,kA,kz];exact uE),List.getElem_append_right (by omega)];simp only[kA];rfl
      rw[e3];refine qS xt.G xt.sameG ty _ _ _ (fun q hq=>?_) (hE (p-i) (by omega));have q1:=Nat.mul_le_mul_right ty.size (show i≤p by omega);have q2:=Nat.mul_le_mul_right ty.size (show p-i+1≤m by omega);rw[Nat.add_mul] at q2;have q3:(p-i)*ty.size=p*ty.size-i*ty.size:=Nat.sub_mul ..
      rw[vH ar,if_neg (by omega),if_pos (by omega)]
      congr 1;omega
     ·refine nO ?_ fun q hq=>?_
      ·rw[List.getElem?_append_right (by rw[List.length_append,kA,kz];omega),List.getElem?_drop]
       congr 1
       rw[List.length_append,kA,kz];omega
      ·have:=Nat.mul_le_mul_right ty.size (show i+m≤p by omega);rw[Nat.add_mul] at this;rw[vH ar,if_neg (by omega),if_neg (by omega)]
   ·rw[hB];exact⟨0,rfl,.inr rfl,by rw[←k2] at hs⊢;exact hs⟩
theorem yTf {P M w}(ok:Ok M)(hM:M.H=w.heap){t T id lo n rx v u}(hx:zM M (.osl id (some (lo,n))) rx)
  (h:qJ (yv P M.h t id lo n) v u):zZ P (Builtin.clear_ #[t] T #[rx]) M w v u:=by
 unfold yv at h;split at h
 case h_2=>exact h.elim
 rename_i e s xs hu ab;split at h
 case h_2=>exact h.elim
 rename_i ty cd;obtain⟨heq,h⟩:=nN h;have:=tO heq;subst this;obtain⟨_,rfl,rfl⟩:=wE h;obtain⟨inf,z,h1,h2,h3,h4,h5,h6,h7⟩:=iN cd;obtain⟨C,hC,uC,⟨A,c,rfl,hS⟩,_⟩:=hx;obtain⟨C1,c0,hO⟩:=ok.obj id _ ab;rw[hC] at c0;cases c0;by_cases Af:n=0
 ·subst Af;have e0:xs.take lo++List.replicate 0 ty.dflt++xs.drop (lo+0)=xs:=by simp
  rw[e0];refine⟨.tuple #[],w,M,?_,rfl,rfl,rfl,hM,?_,ok,qU.refl M,trivial⟩
  ·cases A with
   |none=>simp[Builtin.clear_,run_underlying hu]
   |some a=>simp[Builtin.clear_,run_underlying hu]
  ·rw[Ep,qi ab]
 ·obtain⟨k1,k2,k3,k4⟩:=hO;cases hB:C.blk with
  |none=>rw[hB] at hS;omega
  |some B=>
   rw[hB] at hS k4;obtain⟨hc,a,rfl,ha,hs⟩:=hS;obtain⟨vals,ev,k5,k6,k7,k8⟩:=k4;have lH:a=lo*ty.size:=by rw[←k2];rcases ha with ha|ha<;>omega
   subst lH;have dt:w.heap[B]? =some (.cells vals ev (0,0)):=by rw[←hM];exact k5
   have uD:(Builtin.zeroCells z.cells n).toList.length=n*ty.size:=by rw[Array.length_toList,rj,h7]
   have hle:=Nat.mul_le_mul_right ty.size (show lo+n≤xs.length by omega);rw[Nat.add_mul] at hle;have ar:lo*ty.size+(Builtin.zeroCells z.cells n).toList.length≤vals.size:=by omega
   have bC:∀v∈(Builtin.zeroCells z.cells n).toList,v.one1=true:=yIf h4 h7;have dp:=run_storeCells_at (P:=P) B (lo*ty.size) ev (Builtin.zeroCells z.cells n).toList 0 vals w dt (by simpa using ar) (fun v hv=>nx (bC v hv));simp only[Nat.add_zero] at dp;obtain⟨f1,f2,f3,f4⟩:=fU dt (new:=qP vals (lo*ty.size) (Builtin.zeroCells z.cells n).toList) (wD ar);have fE:(Builtin.clear_ #[t] T #[.slice (some ⟨B,lo*ty.size,none⟩) n c]).run P w=.ok (.tuple #[]) (w.setRow B (qP vals (lo*ty.size) (Builtin.zeroCells z.cells n).toList)):=by
    obtain⟨n',rfl⟩:∃n',n=n'+1:=⟨n-1,by omega⟩;have e:(storeCells ⟨B,lo*ty.size,none⟩ (Builtin.zeroCells z.cells (n'+1)).toList).run P w=.ok () (w.setRow B (qP vals (lo*ty.size) (Builtin.zeroCells z.cells (n'+1)).toList)):=dp;simp[Builtin.clear_,run_underlying hu,zeroValue,typeInfo,h1,h2,e]
   have hH:∀b,b∉C.fp→(w.setRow B (qP vals (lo*ty.size) (Builtin.zeroCells z.cells n).toList)).heap[b]? =M.H[b]? :=fun b kr=>by
    rw[hM];exact f3 b fun e=>kr (e▸vS hB)
   have bK:∀b,b<M.H.size→qE (w.setRow B (qP vals (lo*ty.size) (Builtin.zeroCells z.cells n).toList)).heap b=qE M.H b:=fun b _=>by rw[hM];exact f4 b
   have uF:(xs.take lo++List.replicate n ty.dflt++xs.drop (lo+n)).length=xs.length:=by
    simp only[List.length_append,List.length_take,List.length_replicate,List.length_drop];omega
   have x:=zE.write_ext ok ab rfl hC C.le_refl hH bK (.arr true ty (xs.take lo++List.replicate n ty.dflt++xs.drop (lo+n)));have := zE.write_ok ok ab rfl hC C.le_refl (fun _ h => h) (by rw [hM]; exact f1) hH bK (o' := .arr true ty (xs.take lo ++ List.replicate n ty.dflt ++ xs.drop (lo + n))) (by
    refine⟨by rw[uF];exact k1,k2,k3,?_⟩;rw[hB];refine⟨_,ev,f2,fun h=>(by cases h),by rw[uF,wD ar];exact k7,fun p hp=>?_⟩;rw[uF] at hp;have aO:=Nat.mul_le_mul_right ty.size (show p+1≤xs.length by omega);rw[Nat.add_mul] at aO;have Fl:(xs.take lo).length=lo:=by rw[List.length_take];omega
    have nO:(xs.take lo++List.replicate n ty.dflt++xs.drop (lo+n))[p]? =xs[p]? →(∀q,q<ty.size→(qP vals (lo*ty.size) (Builtin.zeroCells z.cells n).toList)[p*ty.size+q]? =vals[p*ty.size+q]?)→
      zT (M.write id (.arr true ty (xs.take lo++List.replicate n ty.dflt++xs.drop (lo+n))) C (w.setRow B (qP vals (lo*ty.size) (Builtin.zeroCells z.cells n).toList)).heap).H (M.write id (.arr true ty (xs.take lo++List.replicate n ty.dflt++xs.drop (lo+n))) C (w.setRow B (qP vals (lo*ty.size) (Builtin.zeroCells z.cells n).toList)).heap).G ty ((xs.take lo++List.replicate n ty.dflt++xs.drop (lo+n))[p]'(by omega)) (fun q=>(qP vals (lo*ty.size) (Builtin.zeroCells z.cells n).toList)[p*ty.size+q]?):=fun e1 e2=>by
     have e3:(xs.take lo++List.replicate n ty.dflt++xs.drop (lo+n))[p]'(by omega)=xs[p]:=by
      rw[List.getElem?_eq_getElem (by omega),List.getElem?_eq_getElem hp,Option.some.injEq] at e1;exact e1
     rw[e3];exact qS x.G x.sameG ty _ _ _ e2 (k8 p hp)
    by_cases Aj:p<lo
    ·refine nO ?_ fun q hq=>?_
     ·rw[List.append_assoc,List.getElem?_append_left (by omega),List.getElem?_take,if_pos Aj]
     ·have:=Nat.mul_le_mul_right ty.size (show p+1≤lo by omega);rw[Nat.add_mul] at this;rw[vH ar,if_pos (by omega)]
    ·by_cases uE:p<lo+n
     ·have e3:(xs.take lo++List.replicate n ty.dflt++xs.drop (lo+n))[p]'(by omega)=ty.dflt:=by
       rw[List.getElem_append_left (by rw[List.length_append,Fl,List.length_replicate];exact uE),List.getElem_append_right (by omega)];simp
      rw[e3];refine uv ty _ fun q hq=>?_
      have q1:=Nat.mul_le_mul_right ty.size (show lo≤p by omega);have q2:=Nat.mul_le_mul_right ty.size (show p-lo+1≤n by omega);rw[Nat.add_mul] at q2;have q3:(p-lo)*ty.size=p*ty.size-lo*ty.size:=Nat.sub_mul ..
      rw[vH ar,if_neg (by omega),if_pos (by omega),show p*ty.size+q-lo*ty.size=(p-lo)*ty.size+q by omega,O5 h4 h7 hq (by omega)]
     ·refine nO ?_ fun q hq=>?_
      ·rw[List.getElem?_append_right (by rw[List.length_append,Fl,List.length_replicate];omega),List.getElem?_drop]
       congr 1
       rw[List.length_append,Fl,List.length_replicate];omega
      ·have:=Nat.mul_le_mul_right ty.size (show lo+n≤p by omega);rw[Nat.add_mul] at this;rw[vH ar,if_neg (by omega),if_neg (by omega)])
   exact⟨_,_,_,fE,rfl,rfl,rfl,rfl,rfl,this.1,this.2,trivial⟩
theorem yEf {P M w}(ok:Ok M)(hM:M.H=w.heap){mat nm t T b x v u rb rx}
  (hb:zK M b rb) (hx:zK M x rx) (h:qJ (pV P mat nm M.h t b x) v u):zZ P (Builtin.append_ #[t,t] T #[rb,rx]) M w v u:=by
 unfold pV at h;split at h
 case h_2=>exact h.elim
 rename_i e b x hu aC;split at h
 ·exact h.elim
 rename_i ty cd;cases mat with
 |true=>
  split at h
  ·rename_i id jd;split at h
   ·rename_i v1 xs v2 ys ab bR;cases ba:Nat.beq id jd with
    |true=>rw[ba] at h;exact h.elim
    |false=>
     rw[ba] at h;obtain⟨hr,rfl,rfl⟩:=wE h;exact yLj ok hM hu cd aC ab bR (fun e=>by subst e;simp at ba) hb hx (uy hr)
   ·exact h.elim
  ·exact h.elim
 |false=>
  simp only[cond_false] at h;split at h
  ·split at h
   ·rename_i ys u1 ht;obtain⟨hr,rfl,rfl⟩:=wE h;obtain⟨rfl,news,h1,h2⟩:=OY ok hx ht;rw[show rb=.slice none 0 0 from hb];exact yHb ok hM hu cd aC h1 h2 (uy hr)
   ·exact h.elim
  ·split at h
   ·rename_i s xs ab;split at h
    ·rename_i zs ys u1 hz ht;obtain⟨e1,hz⟩:=dM hz;subst e1;subst hz;obtain⟨rfl,news,h1,h2⟩:=OY ok hx ht;split at h
     ·rcases O4 h with⟨hc,h⟩|⟨_,h⟩
      ·split at h
       ·rename_i i' jd j m zs e1 e2 _;cases e1;have:=Nat.eq_of_beq_eq_true hc;subst this;obtain⟨_,hz⟩:=dM e2;subst hz;obtain⟨hr,rfl,rfl⟩:=wE h;exact yNx ok hM hu cd aC ab hb hx (Nat.le_of_ble_eq_true hr)
       ·exact h.elim
      ·obtain⟨hr,rfl,rfl⟩:=wE h;exact Fc ok hM hu cd aC ab hb rfl h1 h2 (uy hr)
     ·rcases O4 h with⟨hc,h⟩|⟨_,h⟩
      ·exact h.elim
      ·obtain⟨hr,rfl,rfl⟩:=wE h;exact Fc ok hM hu cd aC ab hb trivial h1 h2 (uy hr)
     ·exact h.elim
    ·exact h.elim
   ·exact h.elim
  ·exact h.elim
theorem Fm {M}(ok:Ok M){c v t ys}(hv:zM M c v)(h:jM M.h c=some ⟨t,ys⟩){kd}(ht:t=.int kd):
  ∃news,Rd M.H v ys.length t.size news∧∃F,∀i hi,zT M.H F t ys[i] (fun j=>news[i*t.size+j]?):=by
 unfold jM at h;split at h
 ·cases h;obtain⟨news,h1,h2⟩:=E6 hv;exact⟨news,h1,_,h2⟩
 ·split at h
  ·rename_i own s xs ab;cases h;obtain⟨C,hC,hO⟩:=ok.obj _ _ ab;obtain⟨news,h1,h2⟩:=nL hC hO hv;exact⟨news,h1,_,h2⟩
  all_goals grind
 ·rename_i id i ver;split at h
  ·rename_i v' xs ab;cases cJ:Nat.beq v' ver with
   |false=>simp_all
   |true=>
    rw[cJ] at h;cases h;have e:v'=ver:=by simp_all
    subst e;obtain⟨C,hC,hO⟩:=ok.obj _ _ ab;obtain⟨C',aj,bC,_,aO⟩:=hv;rw[hC] at aj;cases aj;obtain⟨rb,rl,nP,iR⟩:=aO hO.1;by_cases hi:i<xs.length
    ·obtain⟨B,gI,v2,k1,k2,k3,k4,k5,k6⟩:=qh hO hi;rw[nP] at k3;cases k3;rw[show xs.getD i []=xs[i] by simp_all];cases rb with
     |none=>
      obtain⟨rfl,h0⟩:=iR;have bI:xs[i]=[]:=by grind
      rw[bI];obtain⟨news,q1,q2⟩:=uw (H:=M.H) (F:=M.G) (t:=.int .i64) (A:=none) (c:=0);exact⟨news,q1,_,q2⟩
     |some R=>
      obtain⟨a,c,rfl,h1,h2,h3⟩:=iR;by_cases h0:xs[i].length=0
      ·have bI:xs[i]=[]:=by grind
       rw[bI];obtain⟨news,q1,q2⟩:=uw (H:=M.H) (F:=M.G) (t:=.int .i64) (A:=some ⟨R,a,none⟩) (c:=c);exact⟨news,q1,_,q2⟩
      ·have ha:a=0:=by omega
       subst ha;obtain ⟨news, q1, q2⟩ := E5 (H := M.H) (F := fun _ => True) (t := .int .i64) (ys := xs[i]) (B := R) (o := 0) (c := c) h1 (fun j hj=>by
        simp[zT,Ty.size];simp_all)
       exact⟨news,q1,_,q2⟩
    ·have:C.rows[i]? =none:=List.getElem?_eq_none (by have:=hO.2.2.2.1;omega);simp_all
  ·cases h
 ·cases h
theorem yMr {M}(ok:Ok M){c v t ys}(hv:zM M c v)(h:jM M.h c=some ⟨t,ys⟩):∃A k,v=.slice A ys.length k:=by
 by_cases ht:t=.int .i64
 ·obtain⟨news,⟨A,k,e,_⟩,_⟩:=Fm ok hv h ht;simp_all
 unfold jM at h;split at h
 ·cases h;obtain⟨news,⟨A,k,e,_⟩,_⟩:=E6 hv;simp_all
 ·rename_i id r;split at h
  ·rename_i own s xs ab;cases h;obtain⟨C,hC,hO⟩:=ok.obj _ _ ab;obtain⟨news,⟨A,k,e,_⟩,_⟩:=nL hC hO hv;simp_all
  ·rename_i ver xs ab;cases r with
   |none=>
    cases h;obtain⟨C,hC,hO⟩:=ok.obj _ _ ab;obtain⟨C',aj,A,k,e,_⟩:=hv;rw[hC] at aj;cases aj;exact⟨A,k,by rw[e,hO.2.1]⟩
   |some p=>cases h
  ·cases h
 all_goals grind
theorem yCa {M}(ok:Ok M){c v n}(hv:zM M c v)(h:pJ M.h c=some n):∃A k,v=.slice A n k:=by
 unfold pJ at h;split at h
 ·cases h;exact⟨none,0,hv⟩
 ·obtain⟨C,B,_,_,e⟩:=hv;simp_all
 ·split at h
  ·rename_i t xs hr;cases h;exact yMr ok hv hr
  ·cases h
theorem yOr {P w t e A n k T ts}(h0:ts[0]? =some t)(hu:P.underlying t=some (.slice e)):
  (Builtin.len_ ts T #[.slice A n k]).run P w=.ok (.int .i64 n) w:=by
 have hr:(underlying t).run P w=.ok (.slice e) w:=by simp[underlying,hu]
 simp[Builtin.len_,h0,hr,goInt]
theorem O7 {P M w}(ok:Ok M)(hM:M.H=w.heap){lt l rl v u ts T}(hl:zG (zK M) l rl.toList)
  (h:qJ (yw lt l) v u):zZ P (bif lt then Builtin.min_ ts T rl else Builtin.max_ ts T rl) M w v u:=by
 unfold yw at h;split at h
 ·rename_i k x j y;obtain⟨rfl,rfl⟩:=yM h;obtain⟨rl⟩:=rl
  match rl,hl with
  |[a,b],⟨h1,h2,_⟩=>
   rw[show a=.int k x from h1,show b=.int j y from h2];refine .pure (rv:=.int k (bif lt then(bif decide (y<x) then y else x) else(bif decide (y>x) then y else x))) ok hM ?_ rfl;cases lt<;>simp[Builtin.min_,Builtin.max_,Builtin.min2,Builtin.max2,Bool.cond_decide]
 ·rename_i k x j y i z;obtain⟨rfl,rfl⟩:=yM h;obtain⟨rl⟩:=rl
  match rl,hl with
  |[a,b,c],⟨h1,h2,h3,_⟩=>
   rw[show a=.int k x from h1,show b=.int j y from h2,show c=.int i z from h3];refine .pure (rv:=_) ok hM ?_ rfl;cases lt<;>simp[Builtin.min_,Builtin.max_,Builtin.min2,Builtin.max2,Bool.cond_decide]
 ·exact h.elim
theorem O8 {M:zE}:∀{cs ns},np cs=some ns→cs=ns.map (.int .i64)
 |[],ns,h=>by cases h;rfl
 |.int .i64 n::l,ns,h=>by
  unfold np at h;split at h
  ·rename_i r hr;cases h;rw[O8 (M:=M) hr];rfl
  ·cases h
theorem O9 xs:∀(ns:List Int) i,nq xs i (ns.map (.int .i64))=(((xs.drop i).take ns.length)++ns.drop ((xs.drop i).take ns.length).length).map (.int .i64)
 |[],i=>by rfl
 |n::ns,i=>by
  simp only[List.map_cons,nq,O9 xs ns (i+1)];by_cases hi:i<xs.length
  ·have hb:Nat.blt i xs.length=true:=by simp_all
   rw[hb,List.drop_eq_getElem_cons hi];grind
  ·have hb:Nat.blt i xs.length=false:=by
    cases h:Nat.blt i xs.length with
    |false=>rfl
    |true=>exact absurd (by simp_all) hi
   have e1:xs.drop i=[]:=List.drop_eq_nil_of_le (by omega);grind
theorem yH1 {P M w}(ok:Ok M)(hM:M.H=w.heap){t e ts T d s v u rd rs}(h0:ts[0]? =some t)(hu:P.underlying t=some (.slice e))(he:P.cellsOf e=1)
  (hd:zK M d rd) (hs:zK M s rs) (h:qJ (pW M.h d s) v u):zZ P (Builtin.copy_ ts T #[rd,rs]) M w v u:=by
 unfold pW at h;split at h
 case h_2=>exact h.elim
 rename_i id off n s;split at h
 case h_2=>exact h.elim
 rename_i cells ys ab gL;split at h
 case h_2=>exact h.elim
 rename_i vs cD;split at h
 case h_2=>exact h.elim
 rename_i ns EW;obtain⟨_,rfl,rfl⟩:=wE h;clear h;obtain⟨C,B,hC,hB,rfl⟩:=hd;obtain⟨C',aj,B',vals,ev,k1,k2,k3,k4,k5⟩:=ok.obj id _ ab;rw[hC] at aj;cases aj;rw[hB] at k1;cases k1;obtain⟨c1,c2,c3⟩:=ub cD;obtain⟨i,hi⟩:=fR (P:=P) (t:=e) (by omega);obtain⟨A,k,rfl,dX⟩:∃A k,rs=.slice A ys.length k∧∃news,Rd M.H (.slice A ys.length k) ys.length 1 news∧news=ys.map (.int .i64):=by
  split at gL
  ·cases gL;exact⟨none,0,hs,[],⟨none,0,rfl,rfl,by simp,rfl⟩,rfl⟩
  ·obtain⟨news,hR,F,hE⟩:=Fm ok hs gL rfl;obtain⟨A,k,e,hl,r⟩:=hR;refine⟨A,k,e,news,⟨A,k,rfl,hl,r⟩,?_⟩;refine List.ext_getElem (by simpa[Ty.size] using hl) fun j h1 h2=>?_
   have:=hE j (by simpa using h2);simp only[zT,Ty.size,Nat.mul_one,Nat.add_zero] at this;rw[List.getElem?_eq_getElem h1,Option.some.injEq] at this;rw[this];simp
 obtain⟨news,⟨A',k',e',hl,bC,dX⟩,uG⟩:=dX;cases e';let m:=min ys.length n;have hm:Nat.min ys.length n=m:=rfl;have nQ:(Builtin.firstCells 1 m (.slice A ys.length k)).run P w=.ok (news.take m).toArray w:=by
  have:Rd M.H (.slice A m k) m 1 (news.take m):=by
   refine⟨A,k,rfl,?_,fun u hu=>bC u (List.mem_of_mem_take hu),?_⟩;all_goals grind
  have:=this.first (P:=P) w hM.symm
  cases A<;>exact this
 have Pb:w.heap[B]? =some (.cells vals ev (0,0)):=by rw[←hM];exact k3
 have fa:=k4.length;have Ai:(news.take m).length=m:=by rw[List.length_take,hl];omega
 have ar:off+(news.take m).length≤vals.size:=by
  rw[Ai];simp at fa;omega
 have dp:=run_storeCells_at (P:=P) B off ev (news.take m) 0 vals w Pb (by simpa using ar) (fun v hv=>nx (bC v (List.mem_of_mem_take hv)));simp only[Nat.add_zero] at dp;have fE:(Builtin.copy_ ts T #[.slice (some ⟨B,off,none⟩) n n,.slice A ys.length k]).run P w=.ok (.int .i64 (m:Nat)) (w.setRow B (qP vals off (news.take m))):=by
  simp[Builtin.copy_,h0,run_underlying hu,Builtin.lenOf,wP w hi,he,hm,nQ,goInt];have e:(storeCells ⟨B,off,none⟩ (news.take m)).run P w=.ok () (w.setRow B (qP vals off (news.take m))):=dp;rw[e];rfl
 obtain⟨f1,f2,f3,f4⟩:=fU Pb (new:=qP vals off (news.take m)) (wD ar);have hH:∀b,b∉C.fp→(w.setRow B (qP vals off (news.take m))).heap[b]? =M.H[b]? :=fun b kr=>by
  rw[hM];exact f3 b fun e=>kr (e▸vS hB)
 have bK:∀b,b<M.H.size→qE (w.setRow B (qP vals off (news.take m))).heap b=qE M.H b:=fun b _=>by rw[hM];exact f4 b
 let o':Obj:=.box true (cells.take off++nq ys 0 vs++cells.drop (off+n));have x:=zE.write_ext ok ab rfl hC C.le_refl hH bK o';have aq:cells.take off++nq ys 0 vs++cells.drop (off+n)=cells.take off++(ys.take m).map (.int .i64)++cells.drop (off+((ys.take m).map (zN.int .i64)).length):=by
  have hv:=O8 (M:=M) EW;have hnn:ns.length=n:=by rw[←c3,hv];simp
  have uH:(ys.drop 0).take ns.length=ys.take m:=by
   grind
  rw[hv,O9,uH,List.map_append,List.map_drop,←hv,List.append_assoc,List.append_assoc,List.append_assoc]
  congr 2
  have hlm:(ys.take m).length=m:=by rw[List.length_take];omega
  have e1:cells.drop (off+n)=(cells.drop (off+m)).drop (n-m):=by
   rw[List.drop_drop];congr 1;omega
  rw[List.length_map,hlm,c2,List.drop_take,List.drop_drop,e1,List.take_append_drop]
 have := zE.write_ok ok ab rfl hC C.le_refl (fun _ h => h) (by rw [hM]; exact f1) hH bK (o' := o') (by
  refine⟨B,_,ev,hB,k2,f2,?_,fun h=>(by cases h)⟩;rw[aq];refine Eu x k4 (us:=news.take m) ?_ (by simpa using ar);rw[uG];refine zG.of_get (by simp) fun j h1 h2=>?_
  simp[zM])
 exact⟨_,_,_,fE,rfl,rfl,rfl,rfl,rfl,this.1,this.2,rfl⟩
theorem Pc {P t}(h:tU P t=true):∃k e i,P.underlying t=some (.map k e)∧P.underlying k=some (.int .i64)∧P.info? e=some i∧i.zero=some (.bool false):=by
 unfold tU at h;split at h
 ·split at h
  ·rename_i hk hz;obtain⟨i,h1,h2⟩:=Option.bind_eq_some_iff.1 hz;grind
  ·cases h
 ·cases h
theorem yOe {P M w}(ok:Ok M)(hM:M.H=w.heap){nm t v u}(h:qJ (pR P nm M.h t) v u):zZ P (Instr.makeMap t none) M w v u:=by
 unfold pR at h;split at h
 case h_2=>exact h.elim
 rename_i aC;obtain⟨_,h⟩:=nN h;obtain⟨_,rfl,rfl⟩:=wE h;let C:zS:=⟨some M.H.size,0,0,0,[]⟩;have := zE.new_ok ok aC (.imap []) C (.map #[] 0) (by simp [C, zS.fp]) (by
  refine⟨M.H.size,#[],0,rfl,rfl,nv,by simp,fun n=>rfl⟩)
 refine⟨.map (some w.heap.size),w.alloc (.map #[] 0),_,?_,rfl,rfl,rfl,?_,rfl,this.1,this.2,C,M.H.size,κset_same _ _ _,rfl,by rw[hM]⟩
 ·rfl
 ·show M.H.push _=w.heap.push _;rw[hM]
theorem Fo {n}:∀{es i},(∀e∈es,∃m b,e.key=.int .i64 m∧e.val=.bool b)→
  (vO n es=none∧Instr.findNow (.int .i64) (.int .i64 n) es i=some none)∨
  (∃j b e,vO n es=some (.bool b)∧Instr.findNow (.int .i64) (.int .i64 n) es i=some (some (i+j,.bool b))∧es[j]? =some e∧e.key=.int .i64 n∧
   ∀f:MapEntry→MapEntry,(∀e,(f e).key=.int .i64 n)→vO n (es.modify j f)=some (f e).val∧(∀m,m≠n→vO m (es.modify j f)=vO m es)∧∀e'∈es.modify j f,e'∈es∨e'=f e)
 |[],i,_=>.inl ⟨rfl,rfl⟩
 |e::es,i,h=>by
  obtain⟨m,b,h1,h2⟩:=h e (by simp);by_cases hm:n=m
  ·subst hm;refine .inr ⟨0,b,e,?_,?_,rfl,h1,fun f hf=>⟨?_,fun m ba=>?_,fun e' he=>?_⟩⟩
   ·simp[vO,h1,h2]
   ·simp[Instr.findNow,Instr.sameNow,h1,h2]
   ·simp[vO,hf]
   ·simp[vO,hf,h1,ba]
   grind
  ·have hs:Instr.findNow (.int .i64) (.int .i64 n) (e::es) i=Instr.findNow (.int .i64) (.int .i64 n) es (i+1):=by
    have hb:(n==m)=false:=by simp[hm]
    simp[Instr.findNow,Instr.sameNow,h1,hb]
   have hf:vO n (e::es)=vO n es:=by simp[vO,h1,hm]
   rcases Fo (es:=es) (i:=i+1) (by grind) with⟨k1,k2⟩|⟨j,b',e',k1,k2,k3,k4,k5⟩
   ·exact .inl ⟨hf.trans k1,hs.trans k2⟩
   ·refine .inr ⟨j+1,b',e',hf.trans k1,by grind,by simp_all,k4,fun f hfk=>?_⟩;obtain⟨q1,q2,q3⟩:=k5 f hfk;refine⟨by simp[vO,h1,hm,q1],fun m' ba=>?_,fun e'' he=>?_⟩
    ·rw[List.modify_succ_cons];simp[vO,q2 m' ba]
    grind
theorem Ak {P w r es ck}(h:w.heap[r]? =some (.map es ck)):(getObj r).run P w=.ok (.map es ck) w:=by
 simp[getObj,Sem.run,h]
theorem Pd {P w r es ck} o (h:w.heap[r]? =some (.map es ck)):(setObj r o).run P w=.ok () {w with heap:=w.heap.setIfInBounds r o}:=by
 simp[setObj,Sem.run,h]
theorem Al {P w k b n}(h:P.underlying k=some (.int .i64)):(Instr.checkKey b 10000 k (.int .i64 n)).run P w=.ok () w:=by
 unfold Instr.checkKey;simp[run_underlying h]
theorem Am {P w k n es r}(h:P.underlying k=some (.int .i64))(hf:Instr.findNow (.int .i64) (.int .i64 n) es 0=some r):(Instr.findKey k (.int .i64 n) es).run P w=.ok r w:=by
 unfold Instr.findKey;simp[run_underlying h,hf]
theorem yQx {P M w}(ok:Ok M)(hM:M.H=w.heap){t x i v u rx ri}(hx:zK M x rx)(hi:zK M i ri)(h:qJ (pS P M.h t x i) v u):zZ P (Instr.lookup t rx ri false) M w v u:=by
 unfold pS at h;split at h
 case h_2=>exact h.elim
 rename_i id n;split at h
 case h_2=>exact h.elim
 rename_i bQ ab;obtain⟨hb,h⟩:=nN h;obtain⟨rfl,rfl⟩:=yM h;obtain⟨k,e,inf,h1,h2,h3,h4⟩:=Pc hb;obtain⟨C,B,hC,hB,rfl⟩:=hx;obtain⟨C',aj,B',es,ck,k1,k2,k3,k4,k5⟩:=ok.obj id _ ab;rw[hC] at aj;cases aj;rw[hB] at k1;cases k1;have eg:ri=.int .i64 n:=hi;subst eg;rw[hM] at k3;refine .pure (rv:=.bool ((bQ.lookup n).getD false)) ok hM ?_ rfl;have h5:=k5 n;unfold Instr.lookup;rcases Fo (n:=n) (i:=0) k4 with⟨q1,q2⟩|⟨j,b,e',q1,q2,q3,q4,q5⟩
 ·have:bQ.lookup n=none:=by cases hl:bQ.lookup n with|none=>rfl|some b=>simp_all
  simp[run_underlying h1,Ak k3,Al h2,Am h2 q2,zeroValue,typeInfo,h3,h4,this]
 ·have:bQ.lookup n=some b:=by cases hl:bQ.lookup n with|none=>simp_all|some b=>simp_all
  simp[run_underlying h1,Ak k3,Al h2,Am h2 q2,this]
theorem Fp {n b c}:∀{es},vO n es=none→∀m,vO m (es++[⟨.int .i64 n,.bool b,c⟩])=if m=n then some (.bool b) else vO m es
 |[],_,m=>by rfl
 |e::es,h,m=>by
  rw[List.cons_append];have aA:∀(m:Int) (l:List MapEntry),vO m (e::l)=match e.key with|.int .i64 k=>if m=k then some e.val else vO m l|_=>vO m l:=fun m l=>rfl
  rw[aA] at h;rw[aA,aA];split at h
  ·rename_i k hk;split at h
   ·cases h
   ·by_cases hm:m=k
    ·grind
    ·rw[if_neg hm,Fp h m,if_neg hm]
  ·exact Fp h m
theorem yO3 {P M w}(ok:Ok M)(hM:M.H=w.heap){t x i y v u rx ri ry}(hx:zK M x rx)(hi:zK M i ri)(hy:zK M y ry)(h:qJ (pT P M.h t x i y) v u):
  v=.undef∧eW P (Instr.mapUpdate t rx ri ry) M w u:=by
 unfold pT at h;split at h
 case h_2=>exact h.elim
 rename_i id n b;split at h
 case h_2=>exact h.elim
 rename_i bQ ab;obtain⟨hb,h⟩:=nN h;obtain⟨_,rfl,rfl⟩:=wE h;obtain⟨k,e,inf,h1,h2,h3,h4⟩:=Pc hb;obtain⟨C,B,hC,hB,rfl⟩:=hx;obtain⟨C',aj,B',es,ck,k1,k2,k3,k4,k5⟩:=ok.obj id _ ab;rw[hC] at aj;cases aj;rw[hB] at k1;cases k1;have eg:ri=.int .i64 n:=hi;subst eg;have hry:ry=.bool b:=hy;subst hry;have k3':=k3;rw[hM] at k3;have write:∀(iS:Array MapEntry) (lO:Nat),(Instr.mapUpdate t (.map (some B)) (.int .i64 n) (.bool b)).run P w=.ok () {w with heap:=w.heap.setIfInBounds B (.map iS lO)}→
   (∀e∈iS.toList,∃m b,e.key=.int .i64 m∧e.val=.bool b)→(∀m,vO m iS.toList=if m=n then some (.bool b) else vO m es.toList)→eW P (Instr.mapUpdate t (.map (some B)) (.int .i64 n) (.bool b)) M w [(id,.imap ((n,b)::bQ))]:=by
  intro iS lO hr he hf;have An:∀c,(w.heap.setIfInBounds B (.map iS lO))[c]? =if c=B then some (.map iS lO) else w.heap[c]? :=by grind
  have hH:∀c,c∉C.fp→(w.heap.setIfInBounds B (.map iS lO))[c]? =M.H[c]? :=fun c hc=>by
   rw[An,if_neg (fun(e:c=B)=>hc (by rw[e];exact vS hB)),hM]
  have bK:∀c,c<M.H.size→qE (w.heap.setIfInBounds B (.map iS lO)) c=qE M.H c:=fun c _=>by
   unfold qE;grind
  have := zE.write_ok ok ab rfl hC C.le_refl (by simp) (by rw [hM]; simp) hH bK (o' := .imap ((n, b) :: bQ)) (by
   refine⟨B,iS,lO,hB,k2,?_,he,fun m=>?_⟩
   ·show(w.heap.setIfInBounds B (.map iS lO))[B]? =_;rw[An,if_pos rfl]
   grind)
  exact⟨_,_,hr,rfl,rfl,rfl,rfl,rfl,this.1,this.2⟩
 refine⟨rfl,?_⟩;rcases Fo (n:=n) (i:=0) k4 with⟨q1,q2⟩|⟨j,b',e',q1,q2,q3,q4,q5⟩
 ·refine write (es.push ⟨.int .i64 n,.bool b,ck⟩) (ck+1) ?_ (fun e he=>?_) fun m=>?_
  ·unfold Instr.mapUpdate;simp[run_underlying h1,Ak k3,Al h2,Am h2 q2,Pd _ k3]
  ·grind
  ·rw[Array.toList_push];exact Fp q1 m
 ·refine write (es.modify j fun e=>{e with key:=.int .i64 n,val:=.bool b}) ck ?_ (by grind) fun m=>?_
  ·unfold Instr.mapUpdate;rw[Nat.zero_add] at q2;simp only[Array.getElem?_toList] at q3;simp[run_underlying h1,Ak k3,Al h2,Am h2 q2,Pd _ k3,q3,q4,Instr.keyThatStays,Instr.sameBits]
  all_goals grind
theorem Pe:∀(ns:List Int) (b:ByteArray),ns.foldl (fun r n=>r.push (UInt8.ofNat n.toNat)) b=⟨(b.data.toList++fP ns).toArray⟩
 |[],b=>by simp[fP]
 |n::ns,b=>by
  rw[List.foldl_cons,Pe ns];simp[fP]
theorem ySu {P M}(ok:Ok M){c v xs}(hv:zM M c v)(h:pI M.h c=some xs){w}(hM:M.H=w.heap):
  ∃A n k,v=.slice A n k∧(Conv.bytesToString v).run P w=.ok (.string ⟨(fP xs).toArray⟩) w:=by
 unfold pI at h;split at h
 ·cases h;refine⟨none,0,0,hv,?_⟩;rw[show v=.slice none 0 0 from hv];rfl
 ·split at h
  ·rename_i ys hr;obtain rfl:ys=xs:=by simp_all
   obtain⟨news,⟨A,k,e,hl,bC,dX⟩,F,hE⟩:=Fm ok hv hr rfl;refine⟨A,_,k,e,?_⟩;have hn:news=ys.map (Value.int .u8):=by
    refine List.ext_getElem (by simpa[Ty.size] using hl) fun j h1 h2=>?_
    have:=hE j (by simp_all);simp[zT,Ty.size] at this;grind
   subst e;cases A with
   |none=>
    have h1:ys=[]:=by grind
    subst h1;rfl
   |some a=>
    have eT:(loadCells a ys.length).run P w=.ok (ys.map (Value.int .u8)).toArray w:=by
     rcases dX with h0|⟨h1,h2⟩
     ·have h1:ys=[]:=by grind
      subst h1;rfl
     ·have:=Rd.first (P:=P) (H:=M.H) (v:=.slice (some a) ys.length k) (n:=ys.length) (size:=1) (news:=news) ⟨_,k,rfl,by grind,bC,by grind⟩ w hM.symm
      rw[hn] at this
      simpa[Builtin.firstCells] using this
    rw[run_bytesToString w a _ k ys eT,Pe];rfl
  ·cases h
structure kB (M:zE) (w:World) (u:qV) (M':zE) (w':World):Prop where
 os:w'.os=w.os
 tape:w'.tape=w.tape
 output:w'.output=w.output
 H:M'.H=w'.heap
 h:M'.h=zX M.h u
 ok:Ok M'
 step:qU M M'
def nR (P:Program)(f:Nat)(args:List zO)(h:Hp)(v:zO)(u:qV):Prop:=
 ∀(M:zE) (w:World) (vs:Array Value),M.h=h→M.H=w.heap→Ok M→zG (zK M) args vs.toList→
  ((callFunc f vs).run P w=.ok (.enter f vs) w∧Calls P f vs w fun
   |.returned rv,w'=>∃M',kB M w u M' w'∧zK M' v rv
   |_,_=>False)∨∃rv w' M',(callFunc f vs).run P w=.ok (.value rv) w'∧kB M w u M' w'∧zK M' v rv
def Pf (P:Program)(S:yx):Prop:=∀k nm f args h v u,qJ (S k nm f args h) v u→nR P f args h v u
structure wC (E:wW):Prop where
 eq:uk E.P E.eqT
 sums:Pf E.P E.sums
section
variable {P:Program} {Q:Exit→Act→World→Prop} {o:Oper} {a:Act} {w:World} {M:zE} {next:Act→World→Prop} {v:zO} {u:qV}
theorem vU {s}(hr:zZ P s M w v u)(he:execOp a.eval o=(do pure (.value (←s)):Sem Next))(hn:∀M' w' rv,kB M w u M' w'→zK M' v rv→next (a.put o.dst rv) w'):
  o.wp P a w next Q:=by
 obtain⟨rv,w',M',h1,h2,h3,h4,h5,h6,h7,h8,h9⟩:=hr;unfold Oper.wp;rw[he];simp[h1];exact hn M' w' rv ⟨h2,h3,h4,h5,h6,h7,h8⟩ h9
theorem Pg {s}(hr:eW P s M w u)(he:execOp a.eval o=(do s;pure .skip:Sem Next))(hn:∀M' w' rv,kB M w u M' w'→zK M' .undef rv→next (a.put o.dst rv) w'):
  o.wp P a w next Q:=by
 obtain⟨w',M',h1,h2,h3,h4,h5,h6,h7,h8⟩:=hr;unfold Oper.wp;rw[he];simp[h1];exact hn M' w' undef ⟨h2,h3,h4,h5,h6,h7,h8⟩ trivial
theorem gM (ok:Ok M)(hM:M.H=w.heap){rv}(hu:u=[])(hv:zK M v rv)(he:(execOp a.eval o).run P w=.ok (.value rv) w)(hn:∀M' w' rv,kB M w u M' w'→zK M' v rv→next (a.put o.dst rv) w'):
  o.wp P a w next Q:=by
 unfold Oper.wp;rw[he];subst hu;exact hn M w rv ⟨rfl,rfl,rfl,hM,rfl,ok,.refl M⟩ hv
end
theorem uI {α β} f:∀(l:List α) (r:List β),l.mapM f=some r→zG (fun a b=>f a=some b) l r
 |[],r,h=>by simp at h;subst h;trivial
 |a::l,r,h=>by
  simp[Option.bind_eq_some_iff] at h;obtain⟨b,h1,bs,h2,h3⟩:=h;cases h3;exact⟨h1,uI f l bs h2⟩
theorem zG.map_left {α β γ R}{f:α→γ}:∀{l} {m:List β},zG (fun a b=>R (f a) b) l m→zG R (l.map f) m
 |[],[],_=>trivial
 |_::_,_::_,h=>⟨h.1,zG.map_left h.2⟩
def _root_.Go.Operand.lit:Operand→Value
 |.const c=>c
 |_=>undef
theorem yCb {P:Program}{M:zE}{w:World}{t:TypeId}{d}{y:Operand}{x:zN}{rx ry:Value}{b:Bool}(hu:P.underlying t=some d)(hx:zM M x rx)(hy:ry=y.lit)
  (h:DW d y x=some b) op (iT:op=.eql∨op=.neq) ox oy:
  (eqGuard op t ox oy rx ry).run P w=.ok () w∧(binOp op t rx ry).run P w=.ok (.bool (iF op b)) w:=by
 have key:∀n,(Op.equalIn (n+1) t rx ry).run P w=.ok b w→(eqGuard op t ox oy rx ry).run P w=.ok () w→(binOp op t rx ry=match op with|.eql=>(do pure (.bool (←Op.equal t rx ry)))|_=>(do pure (.bool (!(←Op.equal t rx ry)))))→
   n=9999→(eqGuard op t ox oy rx ry).run P w=.ok () w∧(binOp op t rx ry).run P w=.ok (.bool (iF op b)) w:=by
  intro n h1 h2 h3 hn;have nA:(Op.equal t rx ry).run P w=.ok b w:=by subst hn;exact h1
  refine⟨h2,?_⟩;rw[h3];rcases iT with rfl|rfl<;>simp[nA,iF]
 unfold DW at h;split at h<;>cases h<;>simp only[Operand.lit] at hy<;>subst hy;all_goals (try obtain rfl:rx=_:=hx)
 all_goals (try obtain⟨C,B,_,_,_,rfl⟩:=hx)
 all_goals (try obtain⟨B,o,rfl,_⟩:=hx)
 all_goals (try obtain⟨cv,rfl,_⟩:=hx)
 all_goals (try obtain⟨⟨_,_,_,rfl⟩,_⟩:=hx)
 all_goals
  refine key 9999 ?_ ?_ ?_ rfl
  ·generalize 9999=n;unfold Op.equalIn;simp[run_underlying hu]
  ·rcases iT with rfl|rfl<;>simp[eqGuard]
  ·rcases iT with rfl|rfl<;>rfl
theorem yKi {M}(ok:Ok M){c v n}(hv:zM M c v)(h:pK M.h c=some n)(hn:0<n):∃a k,v=.slice (some a) n k:=by
 unfold pK at h;split at h
 ·rename_i sh t xs;cases h;have hv:zT M.H (bif sh then M.G else M.F) (.sl t) xs (fun _=>some v):=hv;simp[zT] at hv;obtain⟨A,m,c,rfl,rfl,hc,h⟩:=hv;rcases h with⟨rfl,_⟩|⟨B,o,rfl,_⟩
  ·simp at hn
  ·exact⟨_,_,rfl⟩
 ·rename_i id;split at h
  ·rename_i own t xs ab;cases h;obtain⟨C,hC,hO⟩:=ok.obj _ _ ab;obtain⟨C',aj,A,k,e,hS⟩:=hv;rw[hC] at aj;cases aj;have hl:C.len=xs.length:=hO.1;rw[e,hl];cases hB:C.blk with
   |none=>rw[hB] at hS;omega
   |some B=>
    rw[hB] at hS;obtain⟨_,a,rfl,_⟩:=hS;exact⟨_,_,rfl⟩
  ·cases h
 ·cases h
theorem yKh {P:Program}{w:World}{t e}{a n k}(hu:P.underlying t=some (.slice e)) op (iT:op=.eql∨op=.neq) ox oy:
  (eqGuard op t ox oy (.slice (some a) n k) (.slice none 0 0)).run P w=.ok () w∧(binOp op t (.slice (some a) n k) (.slice none 0 0)).run P w=.ok (.bool (iF op false)) w:=by
 have key:∀m,(Op.equalIn (m+1) t (.slice (some a) n k) (.slice none 0 0)).run P w=.ok false w:=fun m=>by
  unfold Op.equalIn;simp[run_underlying hu]
 have h1:(Op.equal t (.slice (some a) n k) (.slice none 0 0)).run P w=.ok false w:=key 9999;rcases iT with rfl|rfl
 ·refine⟨by simp[eqGuard],?_⟩;rw[show binOp .eql t (.slice (some a) n k) (.slice none 0 0)=(do pure (.bool (←Op.equal t (.slice (some a) n k) (.slice none 0 0)))) from rfl];simp[h1,iF]
 ·refine⟨by simp[eqGuard],?_⟩;rw[show binOp .neq t (.slice (some a) n k) (.slice none 0 0)=(do pure (.bool (!(←Op.equal t (.slice (some a) n k) (.slice none 0 0))))) from rfl];simp[h1,iF]
theorem Fq {M}{ev:Operand→zO}{ρ:Operand→Value}(aF:∀x,zK M (ev x) (ρ x)):∀(l:List (Nat×Operand)),zG (nK M) (l.map fun p=>(p.1,ev p.2)) (l.map fun p=>(p.1,ρ p.2))
 |[]=>trivial
 |p::l=>⟨⟨rfl,aF p.2⟩,Fq aF l⟩
theorem Ph {f:Operand→Value}(parts:Array (Nat×Operand)):(parts.map fun(i,x)=>(i,f x))=(parts.toList.map fun p=>(p.1,f p.2)).toArray:=by
 grind
theorem Pj {M}{ev:Operand→zO}{ρ}(aF:∀x,zK M (ev x) (ρ x)):∀{l ids},zG (fun x id=>lz (ev x)=some id) l ids→
  zG (fun id u=>∃C B,M.κ id=some C∧C.blk=some B∧u=.pointer (some ⟨B,0,none⟩)) ids (l.map ρ)
 |[],[],_=>trivial
 |x::l,id::ids,h=>by
  refine⟨?_,Pj aF h.2⟩;have h1:lz (ev x)=some id:=h.1;have hx:=aF x;unfold lz at h1;split at h1
  ·rename_i rp hc;cases h1;rw[hc] at hx;exact hx
  ·cases h1
theorem Pk {M ev ρ}(aF:∀x,zK M (ev x) (ρ x)):∀(l:List Operand),zG (zK M) (l.map ev) (l.map ρ)
 |[]=>trivial
 |x::l=>⟨aF x,Pk aF l⟩
theorem yQk {E}(hE:wC E){A}{k pre}{Q}{o}{a}{w}{M}{next}{v}{u ev}(ok:Ok M)(hM:M.H=w.heap)
  (aF:∀x,zK M (ev x) (a.eval x)) (h:qJ (dL E A k pre o ev M.h) v u) (hn:∀M' w' rv,kB M w u M' w'→zK M' v rv→next (a.put o.dst rv) w'):o.wp E.P a w next Q:=by
 unfold dL at h;dsimp only at h;split at h
 ·rename_i x ho;obtain⟨rfl,rfl⟩:=yM h;exact gM ok hM rfl (aF x) (by cases o;cases ho;rfl) hn
 ·rename_i x ho;obtain⟨rfl,rfl⟩:=yM h;exact gM ok hM rfl (aF x) (by cases o;cases ho;rfl) hn
 ·rename_i c x y ho;split at h
  ·rename_i cb hc;have dO:=aF c;rw[hc] at dO;have dO:a.eval c=.bool cb:=dO;split at h
   ·rename_i xb yb hx hy;obtain⟨rfl,rfl⟩:=yM h;have h1:=aF x;have h2:=aF y;rw[hx] at h1;rw[hy] at h2;refine gM (rv:=.bool (bif cb then xb else yb)) ok hM rfl (show zK M (.c (.bool _)) (.bool _) from rfl) ?_ hn;have h1:a.eval x=.bool xb:=h1;have h2:a.eval y=.bool yb:=h2;cases o;cases ho;show(do pure (.value (if←asBool (a.eval c) then a.eval x else a.eval y)):Sem Next).run E.P w=_;cases cb<;>simp[dO,asBool,h1,h2]
   ·refine gM (rv:=if cb then a.eval x else a.eval y) ok hM ?_ ?_ ?_ hn
    ·rcases h with⟨_,_,rfl⟩|⟨_,⟨_,_,rfl⟩|⟨_,h⟩⟩
     ·rfl
     ·rfl
     ·exact h.elim
    ·rcases h with⟨rfl,rfl,_⟩|⟨rfl,⟨_,rfl,_⟩|⟨_,h⟩⟩
     ·exact aF x
     ·exact aF y
     ·exact h.elim
    ·cases o;cases ho;show(do pure (.value (if←asBool (a.eval c) then a.eval x else a.eval y)):Sem Next).run E.P w=_;cases cb<;>simp[dO,asBool]
  ·exact h.elim
 ·rename_i t ho;split at h
  ·rename_i zs aC hz;obtain⟨_,rfl,rfl⟩:=wE h;exact vU (yR9 ok hM aC hz) (by cases o;cases ho;rfl) hn
  ·exact h.elim
 ·rename_i t x ho;split at h
  ·rename_i vs aC hv;obtain⟨_,rfl,rfl⟩:=wE h;exact vU (yDk ok hM aC (aF x) hv _) (by cases o;cases ho;rfl) hn
  ·exact h.elim
 ·rename_i t parts ho;have hp:=Fq aF parts.toList;have:=yRv ok hM hp h;exact vU this (by cases o;cases ho;rw[←Ph];rfl) hn
 ·rename_i t n parts ho;have hp:=Fq aF parts.toList;exact vU (yA1 ok hM hp h) (by cases o;cases ho;rw[←Ph];rfl) hn
 ·rename_i t x ho;exact vU (yJy ok hM (aF x) h) (by cases o;cases ho;rfl) hn
 ·rename_i t x y ho;obtain⟨rfl,hr⟩:=yGa ok hM (aF x) (aF y) h;exact Pg hr (by cases o;cases ho;rfl) hn
 ·rename_i x ho;have hx:=aF x;have key:∀c,ev x=.c c→v=.c c→u=[]→(match a.eval x with|.pointer none|.nilIface|.nilFunc=>False|.func (.method _) _ _=>False|_=>True)→o.wp E.P a w next Q:=by
   intro c hc hv hu hm;rw[hc] at hx;refine gM (rv:=a.eval x) ok hM hu (by rw[hv];exact hx) ?_ hn;cases o;cases ho;simp only[execOp];generalize a.eval x=r at*
   split<;>first|rfl|exact hm.elim
  split at h
  ·rename_i i j hc;obtain⟨rfl,rfl⟩:=yM h;refine key _ hc rfl rfl ?_;rw[hc] at hx;obtain⟨C,B,_,_,e⟩:=hx;rw[e];trivial
  ·rename_i i j k hc;obtain⟨rfl,rfl⟩:=yM h;refine key _ hc rfl rfl ?_;rw[hc] at hx;obtain⟨C,B,_,_,_,e⟩:=hx;rw[e];trivial
  ·rename_i i j k l hc;obtain⟨rfl,rfl⟩:=yM h;refine key _ hc rfl rfl ?_;rw[hc] at hx;obtain⟨B,o,e,_⟩:=hx;rw[e];trivial
  ·rename_i i j hc;obtain⟨rfl,rfl⟩:=yM h;refine key _ hc rfl rfl ?_;rw[hc] at hx;obtain⟨cv,e,_⟩:=hx;rw[e];trivial
  ·exact h.elim
 ·rename_i op t x y _ ho;cases hc:(DY y&&DX op) with
  |false=>
   rw[hc] at h;exact vU (yHk hE.eq ok hM (aF x) (aF y) h) (by cases o;cases ho;rfl) hn
  |true=>
   rw[hc] at h;rw[Bool.and_eq_true] at hc;have iT:op=.eql∨op=.neq:=by cases op<;>first|(left;rfl)|(right;rfl)|(cases hc.2)
   split at h
   ·rename_i d cv hu dO;split at h
    ·rename_i b hb;obtain⟨rfl,rfl⟩:=yM h;have hx:=aF x;rw[dO] at hx;have hy:a.eval y=y.lit:=by
      cases y<;>first|rfl|(cases hc.1)
     obtain⟨h1,h2⟩:=yCb (w:=w) hu hx hy hb op iT x y;refine gM (rv:=.bool (iF op b)) ok hM rfl (show zK M (.c (.bool _)) (.bool _) from rfl) ?_ hn;cases o;cases ho;show(do pure (.value (←(do eqGuard op t x y (a.eval x) (a.eval y);binOp op t (a.eval x) (a.eval y)))):Sem Next).run E.P w=_;simp only[Sem.run_bind,h1,Result.andThen_ok,h2,Sem.run_pure]
    ·split at h
     ·rename_i n hln Pl;obtain⟨uJ,rfl,rfl⟩:=dW h;have hx:=aF x;rw[dO] at hx;obtain⟨a',k',hx⟩:=yKi ok hx hln (by simpa using uJ);obtain⟨h1,h2⟩:=yKh (P:=E.P) (w:=w) (a:=a') (n:=n) (k:=k') hu op iT x (.const (.slice none 0 0));have hy:a.eval (.const (.slice none 0 0))=.slice none 0 0:=rfl;refine gM (rv:=.bool (iF op false)) ok hM rfl (show zK M (.c (.bool _)) (.bool _) from rfl) ?_ hn;cases o;cases ho;show(do pure (.value (←(do eqGuard op t x (.const (.slice none 0 0)) (a.eval x) (a.eval (.const (.slice none 0 0)));binOp op t (a.eval x) (a.eval (.const (.slice none 0 0)))))):Sem Next).run E.P w=_;rw[hx,hy];simp only[Sem.run_bind,h1,Result.andThen_ok,h2,Sem.run_pure]
     ·exact h.elim
   ·exact h.elim
 ·rename_i op t x ho;exact vU (yG7 ok hM (aF x) h) (by cases o;cases ho;rfl) hn
 ·rename_i s d x ho;split at h
  ·rename_i k1 k k2 n hs hd hx;obtain⟨rfl,rfl⟩:=yM h;have eu:=aF x;rw[hx] at eu;have eu:a.eval x=.int k2 n:=eu;refine gM (rv:=.int k (k.wrap n)) ok hM rfl (show zK M (.c (.int _ _)) (.int _ _) from rfl) ?_ hn;cases o;cases ho;show(do pure (.value (←convert s d (a.eval x))):Sem Next).run E.P w=_;simp[convert,run_underlying hs,run_underlying hd,eu,Conv.intToInt]
  ·rename_i e c hs hd hx;split at h
   ·rename_i xs he uK;obtain⟨rfl,rfl⟩:=yM h;have eu:=aF x;rw[hx] at eu;obtain⟨A,n,k,e1,e2⟩:=ySu (P:=E.P) (w:=w) ok eu uK hM;refine gM (rv:=.string ⟨(fP xs).toArray⟩) ok hM rfl (show zK M (.c (.str xs)) _ from rfl) ?_ hn;cases o;cases ho;show(do pure (.value (←convert s d (a.eval x))):Sem Next).run E.P w=_;rw[e1] at e2⊢;simp only[Sem.run_bind,run_convert_bytes_string w s d e A n k hs he hd,e2,Result.andThen_ok,Sem.run_pure]
   ·exact h.elim
  ·exact h.elim
 ·rename_i f first captured ho
  cases hf:Nat.beq first.size 0 with
  |false=>rw[hf] at h;exact h.elim
  |true=>
   rw[hf] at h;simp only[cond_true] at h;split at h
   ·rename_i ids ew;obtain⟨rfl,rfl⟩:=yM h;have h0:first=#[]:=Array.eq_empty_of_size_eq_zero (by simpa using hf)
    refine gM (rv:=.func (.func f) #[] (captured.map a.eval)) ok hM rfl ?_ ?_ hn
    case refine_2=>
     cases o;cases ho;show(do pure (.value (←Instr.makeFunc (.func f) (first.map a.eval) (captured.map a.eval))):Sem Next).run E.P w=_;subst h0;simp[Instr.makeFunc]
    refine⟨_,rfl,?_⟩;rw[Array.toList_map];exact Pj aF (uI _ _ _ ew)
   ·exact h.elim
 ·rename_i t l c ho;exact vU (yGk ok hM (aF l) (aF c) h) (by cases o;cases ho;rfl) hn
 ·rename_i t ho;exact vU (yOe ok hM h) (by cases o;cases ho;rfl) hn
 ·rename_i t x i ho;exact vU (yQx ok hM (aF x) (aF i) h) (by cases o;cases ho;rfl) hn
 ·rename_i t x i y ho;obtain⟨rfl,hr⟩:=yO3 ok hM (aF x) (aF i) (aF y) h;exact Pg hr (by cases o;cases ho;rfl) hn
 ·rename_i t x lo hi mx ho;have hO:∀y:Option Operand,qu M (y.map ev) (y.map a.eval):=fun y=>by
   cases y with
   |none=>trivial
   |some y=>exact aF y
  exact vU (yPq ok hM (aF x) (hO lo) (hO hi) (hO mx) h) (by cases o;cases ho;rfl) hn
 ·rename_i t x f ho;exact vU (yHn ok hM (aF x) h) (by cases o;cases ho;rfl) hn
 ·rename_i t x f ho;exact vU (yHc ok hM (aF x) h) (by cases o;cases ho;rfl) hn
 ·rename_i t x i ho;exact vU (yRi ok hM (aF x) (aF i) h) (by cases o;cases ho;rfl) hn
 ·rename_i t x i ho;split at h
  ·rename_i s;exact vU (yQi ok hM (aF i) h) (by cases o;cases ho;rfl) hn
  ·exact vU (yMl ok hM (aF x) (aF i) h) (by cases o;cases ho;rfl) hn
 ·rename_i t i ho;have ht:=aF t;split at h
  ·rename_i xs uK;rw[uK] at ht;obtain⟨vs,ca,aL⟩:=ht;split at h
   ·rename_i g cs hi;obtain⟨hp,rfl⟩:=El h;have hl:=aL.length;have aS:i<xs.length:=by
     rcases Nat.lt_or_ge i xs.length with h|h
     ·exact h
     ·rw[List.getElem?_eq_none h] at hi;cases hi
    have dA:i<vs.size:=by simp at hl;omega
    have hc:=aL.get i aS (by simpa using dA);rw[List.getElem?_eq_getElem aS,Option.some.injEq] at hi;rw[hi] at hc;refine gM (rv:=vs[i]) ok hM rfl ?_ ?_ hn
    ·rcases Eo hp with⟨e1,rfl⟩|⟨e1,c,rfl,rfl⟩
     ·cases e1;exact hc
     ·cases e1;exact hc
    ·cases o;cases ho;show(do pure (.value (←Instr.extract (a.eval t) i)):Sem Next).run E.P w=_;rw[ca];simp[Instr.extract,dA]
   ·exact h.elim
  ·exact h.elim
 ·rename_i c ho;have bH:=Pk aF c.args.toList;have exec:∀b,c.callee=.builtin b→∀s:Sem Value,(∀C,Go.builtin b c.argTypes o.type C (c.args.map a.eval)=(do pure (.value (←s)):Sem Next))→execOp a.eval o=(do pure (.value (←s)):Sem Next):=fun b hb s hs=>by
   cases o;cases ho;show(do let d←resolve a.eval c _;invoke d.target d.args:Sem Next)=_;unfold resolve;rw[hb];exact hs _
  have dE:c.args.map a.eval=(c.args.toList.map a.eval).toArray:=by cases c.args;simp
  split at h
  ·rename_i b dF;unfold Ed at h;split at h
   ·split at h
    case h_2=>exact h.elim
    rename_i x hx;have h1:∃rx,(c.args.toList.map a.eval).toArray=#[rx]∧zM M x rx:=by
     rw[hx] at bH
     match hl:c.args.toList.map a.eval,bH with
     |[rx],hh=>exact⟨rx,rfl,hh.1⟩
    obtain⟨rx,nS,eu⟩:=h1;split at h
    ·rename_i e hu;split at h
     ·rename_i n hlen;obtain⟨rfl,rfl⟩:=yM h;obtain⟨t,ht,hu⟩:=Option.bind_eq_some_iff.1 hu;obtain⟨A,k,rfl⟩:=yCa ok eu hlen;refine vU (s:=Builtin.len_ c.argTypes o.type (c.args.map a.eval)) ?_ (exec _ dF _ fun _=>rfl) hn;rw[dE,nS];exact .pure ok hM (yOr ht hu) rfl
     ·exact h.elim
    ·exact h.elim
   ·split at h
    case h_2=>exact h.elim
    rename_i b x hx;have h1:∃rb rx,(c.args.toList.map a.eval).toArray=#[rb,rx]∧zK M b rb∧zK M x rx:=by
     rw[hx] at bH
     match hl:c.args.toList.map a.eval,bH with
     |[rb,rx],hh=>exact⟨rb,rx,rfl,hh.1,hh.2.1⟩
    obtain⟨rb,rx,nS,Fs,eu⟩:=h1;split at h
    ·rename_i t t' hts;obtain⟨htt,h'⟩:=nN h;have:t=t':=by simpa using htt
     subst this;refine vU (s:=Builtin.append_ c.argTypes o.type (c.args.map a.eval)) ?_ (exec _ dF _ fun _=>rfl) hn;have ht:c.argTypes=#[t,t]:=by
      have:=congrArg List.toArray hts
      simpa using this
     rw[dE,nS,ht];exact yEf ok hM Fs eu h'
    ·exact h.elim
   ·split at h
    case h_2=>exact h.elim
    rename_i d s hx;have h1:∃rb rx,(c.args.toList.map a.eval).toArray=#[rb,rx]∧zK M d rb∧zK M s rx:=by
     rw[hx] at bH
     match hl:c.args.toList.map a.eval,bH with
     |[rb,rx],hh=>exact⟨rb,rx,rfl,hh.1,hh.2.1⟩
    obtain⟨rb,rx,nS,Fs,eu⟩:=h1;split at h
    ·rename_i e hu;obtain⟨Ft,h⟩:=nN h;obtain⟨t,ht,hu⟩:=Option.bind_eq_some_iff.1 hu;refine vU (s:=Builtin.copy_ c.argTypes o.type (c.args.map a.eval)) ?_ (exec _ dF _ fun _=>rfl) hn;rw[dE,nS];exact yH1 ok hM ht hu (by simpa using Ft) Fs eu h
    ·exact h.elim
   ·split at h
    case h_2=>exact h.elim
    rename_i id lo n hx;have h1:∃rx,(c.args.toList.map a.eval).toArray=#[rx]∧zM M (.osl id (some (lo,n))) rx:=by
     rw[hx] at bH
     match hl:c.args.toList.map a.eval,bH with
     |[rx],hh=>exact⟨rx,rfl,hh.1⟩
    obtain⟨rx,nS,eu⟩:=h1;split at h
    ·rename_i t ht;refine vU (s:=Builtin.clear_ c.argTypes o.type (c.args.map a.eval)) ?_ (exec _ dF _ fun _=>rfl) hn;rw[dE,nS];obtain⟨rv,w',M',q1,q2⟩:=yTf (T:=o.type) ok hM eu h;refine⟨rv,w',M',?_,q2⟩;have e:(Builtin.clear_ c.argTypes o.type #[rx]).run E.P w=(Builtin.clear_ #[t] o.type #[rx]).run E.P w:=by
      simp only[Builtin.clear_,ht];rfl
     rw[e];exact q1
    ·exact h.elim
   ·refine vU (s:=Builtin.max_ c.argTypes o.type (c.args.map a.eval)) ?_ (exec _ dF _ fun _=>rfl) hn;rw[dE];exact O7 (lt:=false) (ts:=c.argTypes) (T:=o.type) ok hM bH h
   ·refine vU (s:=Builtin.min_ c.argTypes o.type (c.args.map a.eval)) ?_ (exec _ dF _ fun _=>rfl) hn;rw[dE];exact O7 (lt:=true) (ts:=c.argTypes) (T:=o.type) ok hM bH h
   ·exact h.elim
  ·rename_i f dF;split at h
   ·rename_i Fu cap hf;have Pm:=aF f;rw[hf] at Pm;obtain⟨cv,dO,uL⟩:=Pm;have aL:zG (zK M) (c.args.toList.map ev++cap.map fun id=>.c (.ptr id 0)) (c.args.map a.eval++cv).toList:=by
     rw[Array.toList_append,Array.toList_map];exact bH.append (zG.map_left uL)
    have lK:(execOp a.eval o).run E.P w=(callFunc Fu (c.args.map a.eval++cv)).run E.P w:=by
     cases o;cases ho;show(do let d←resolve a.eval c _;invoke d.target d.args:Sem Next).run E.P w=_;unfold resolve;rw[dF];simp only[dO,Deferred.ofValue,Sem.run_bind,Sem.run_pure,Result.andThen_ok,invoke,Array.empty_append]
    rcases hE.sums k _ Fu _ M.h v u h M w _ rfl hM ok aL with⟨h1,h2⟩|⟨rv,w',M',h1,hB,hv⟩
    case inr=>
     unfold Oper.wp;rw[lK,h1];exact hn M' w' rv hB hv
    unfold Oper.wp;rw[lK,h1,Oper.upon_enter];refine Calls.mono h2 fun e w' he=>?_
    cases e with
    |returned rv=>
     obtain⟨M',hB,hv⟩:=he;exact hn M' w' rv hB hv
    |panicked _=>exact he.elim
    |outgrown=>exact he.elim
   ·exact h.elim
  ·exact h.elim
 ·exact h.elim
section
variable {P:Program} {h h':Hp}
theorem yDm {t a}(hh:∀id∈qL a,h id=h' id):pM P h t a=pM P h' t a:=by
 unfold pM;cases a with
 |c v=>cases v<;>first|rfl|(have:=hh _ (List.mem_singleton.2 rfl);simp_all)
 |_=>rfl
theorem Pn {v}(hh:∀id∈qX v,h id=h' id):fQ h v=fQ h' v:=by
 unfold fQ;cases v<;>first|rfl|(have:=hh _ (List.mem_singleton.2 rfl);simp_all)
theorem Fv:∀{vs},(∀id∈vs.flatMap qX,h id=h' id)→fq h vs=fq h' vs
 |[],_=>rfl
 |v::vs,hh=>by
  simp  at hh;unfold fq;rw[Pn fun id hi=>hh id (.inl hi),Fv (by grind)]
theorem Po {v vs}(e:fO v=some vs):vs.flatMap qX=qL v:=by
 unfold fO at e;split at e
 ·cases e;simp[qL]
 ·cases e;rfl
 ·cases e
theorem yHv {t a v}(ha:∀id∈qL a,h id=h' id)(hv:∀id∈qL v,h id=h' id):pN P h t a v=pN P h' t a v:=by
 unfold pN;cases e:fO v with
 |none=>rfl
 |some vs=>
  have hf:fq h vs=fq h' vs:=Fv (by rw[Po e];exact hv);cases a with
  |c x=>
   cases x with
   |mptr id i=>
    have h1:=ha _ (List.mem_singleton.2 rfl);simp only[h1];generalize h' id=ob;rcases ob with _|(_|_|_|_|_|_|_)<;>first|rfl|skip
    all_goals cases v with
    |c y=>cases y with
     |osl jd r=>cases r with
      |none=>
       have h2:=hv _ (List.mem_singleton.2 rfl);simp_all
      |some _=>rfl
     |_=>rfl
    |_=>rfl
   |ptr id off=>
    have h1:=ha _ (List.mem_singleton.2 rfl);simp_all
   |eptr id i off=>
    have h1:=ha _ (List.mem_singleton.2 rfl);simp_all
   |meptr id i j ver=>
    have h1:=ha _ (List.mem_singleton.2 rfl);simp[h1]
   |_=>rfl
  |_=>rfl
theorem Ao {v}(hh:∀id∈qX v,h id=h' id):jM h v=jM h' v:=by
 unfold jM;cases v<;>first|rfl|(have:=hh _ (List.mem_singleton.2 rfl);simp_all)
theorem yF6 {v}(hh:∀id∈qX v,h id=h' id):pJ h v=pJ h' v:=by
 have e:=Ao hh;unfold pJ;grind
theorem ySp {t x i}(hh:∀id∈qL x,h id=h' id):pO P h t x i=pO P h' t x i:=by
 unfold pO;generalize P.underlying t=d;rcases d with _|d
 ·rfl
 ·cases d with
  |slice e=>
   cases x with
   |c v=>
    cases i with
    |c iv=>
     cases iv with
     |int k n=>cases v<;>first|rfl|(have:=hh _ (List.mem_singleton.2 rfl);simp_all)
     |_=>cases v<;>rfl
    |_=>rfl
   |_=>rfl
  |array n e=>
   grind
  |_=>rfl
theorem ySd {nm t}(h0:h nm=h' nm):pR P nm h t=pR P nm h' t:=by
 unfold pR;rw[h0]
theorem yL9 {t x i}(hh:∀id∈qL x,h id=h' id):pS P h t x i=pS P h' t x i:=by
 unfold pS;split
 ·rename_i id n;rw[hh id (by simp[qL,qX])]
 ·rfl
theorem yCn {t x i y}(hh:∀id∈qL x,h id=h' id):pT P h t x i y=pT P h' t x i y:=by
 unfold pT;split
 ·rename_i id n b;rw[hh id (by simp[qL,qX])]
 ·rfl
theorem yJs {t x lo hi mx}(hh:∀id∈qL x,h id=h' id):pU P h t x lo hi mx=pU P h' t x lo hi mx:=by
 unfold pU;split
 ·rfl
 ·rename_i id r _;rw[hh id (by simp[qL,qX])]
 ·rename_i id _;rw[hh id (by simp[qL,qX])]
 ·rename_i id off _;rw[hh id (by simp[qL,qX])]
 ·rfl
theorem yM9 {v}(hh:∀id∈qL v,h id=h' id):nj h v=nj h' v:=by
 unfold nj;cases v with
 |c v=>cases v with
  |osl jd r=>cases r with
   |none=>
    have h2:=hh _ (List.mem_singleton.2 rfl);simp_all
   |some _=>rfl
  |_=>rfl
 |_=>rfl
theorem Pp:∀{parts rows},(∀id∈(parts.map (·.2)).flatMap qL,h id=h' id)→nk h rows parts=nk h' rows parts
 |[],_,_=>rfl
 |(i,v)::rest,rows,hh=>by
  simp only[List.map_cons,List.flatMap_cons,List.mem_append] at hh;unfold nk;rw[yM9 fun id hi=>hh id (.inl hi)];cases nj h' v with
  |none=>rfl
  |some p=>simp[Pp fun id hi=>hh id (.inr hi)]
theorem Pq {t}:∀{parts xs},(∀id∈(parts.map (·.2)).flatMap qL,h id=h' id)→iG h t xs parts=iG h' t xs parts
 |[],_,_=>rfl
 |(i,v)::rest,xs,hh=>by
  simp only[List.map_cons,List.flatMap_cons,List.mem_append] at hh;unfold iG;cases e:fO v with
  |none=>rfl
  |some vs=>
   have hf:fq h vs=fq h' vs:=Fv (by rw[Po e];simp_all);simp[hf];cases fq h' vs with
   |none=>rfl
   |some p=>
    dsimp only;cases tP t p.1 with
    |none=>rfl
    |some x=>simp[Pq fun id hi=>hh id (.inr hi)]
theorem yCg {mat nm t n parts}(h0:h nm=h' nm)(hh:∀id∈(parts.map (·.2)).flatMap qL,h id=h' id):
  pP P mat nm h t n parts=pP P mat nm h' t n parts:=by
 have e':∀ty:Ty,iG h ty (List.replicate n ty.dflt) parts=iG h' ty (List.replicate n ty.dflt) parts:=fun ty=>Pq hh
 unfold pP;rw[h0,Pp hh];simp_all
theorem yBk {mat nm t l c}(h0:h nm=h' nm):pQ P mat nm h t l c=pQ P mat nm h' t l c:=by
 unfold pQ;rw[h0]
theorem yIp {t v}(hh:∀id∈qX v,h id=h' id):kg h t v=kg h' t v:=by
 unfold kg;cases v with
 |osl id r=>
  have:=hh _ (List.mem_singleton.2 rfl);simp_all
 |_=>rfl
theorem yGb {mat:Bool}{nm:Nat}{t:TypeId}{b x:zO}(h0:h nm=h' nm)(hb:∀id∈qL b,h id=h' id)(hx:∀id∈qL x,h id=h' id):pV P mat nm h t b x=pV P mat nm h' t b x:=by
 unfold pV;rw[h0];generalize P.underlying t=d;rcases d with _|d
 ·rfl
 cases d with
 |slice e=>
  generalize h' nm=on;cases on with
  |some _=>rfl
  |none=>
   cases b with
   |c b=>
    cases x with
    |c x=>
     have ht:∀ty,kg h ty x=kg h' ty x:=fun ty=>yIp hx
     simp only[ht];cases b with
     |osl id r=>
      have h1:=hb _ (List.mem_singleton.2 rfl);simp only[h1];cases x with
      |osl jd r2=>
       have h2:=hx _ (List.mem_singleton.2 rfl);grind
      |_=>cases mat with
       |false=>rfl
       |true=>
        generalize jK P e=et;rcases et with _|(_|_|_|_)<;>first|rfl|skip
        rename_i t2;cases t2<;>first|rfl|skip
        rename_i k;cases k<;>cases r<;>rfl
     |_=>cases mat with
      |false=>rfl
      |true=>
       generalize jK P e=et;rcases et with _|(_|_|_|_)<;>first|rfl|skip
       rename_i t2;cases t2<;>first|rfl|skip
       rename_i k;cases k<;>rfl
    |_=>rfl
   |_=>rfl
 |_=>rfl
theorem yJ3 {d s}(hd:∀id∈qL d,h id=h' id)(hs:∀id∈qL s,h id=h' id):pW h d s=pW h' d s:=by
 unfold pW;cases d with
 |c d=>
  cases s with
  |c s=>
   cases d with
   |bsl id off n=>
    have h1:=hd _ (List.mem_singleton.2 rfl);have h2:jM h s=jM h' s:=Ao hs;grind
   |_=>rfl
  |_=>simp
 |_=>rfl
end
theorem yG0 {E}{A}{k pre}{o}{ev kC}{h}(he:∀x∈o.op.operands,ev x=kC x):dL E A k pre o ev h=dL E A k pre o kC h:=by
 obtain⟨dst,op,type,pos,after,guard⟩:=o;have eN:∀ps:Array (Nat×Operand),(∀x∈ps.map (·.2),ev x=kC x)→(ps.toList.map fun p=>(p.1,ev p.2))=(ps.toList.map fun p=>(p.1,kC p.2)):=fun ps hp=>
  List.map_congr_left (by grind)
 have maps:∀xs:Array Operand,(∀x∈xs,ev x=kC x)→xs.toList.map ev=xs.toList.map kC:=by simp
 cases op<;>simp only[Op.operands] at he<;>simp only[dL]
 case build t ps=>rw[eN ps fun x hx=>he x (by simpa using hx)]
 case buildSlice t n ps=>rw[eN ps fun x hx=>he x (by simpa using hx)]
 case makeFunc fn first captured=>
  cases fn<;>first|rfl|skip
  have:captured.toList.mapM (fun x=>lz (ev x))=captured.toList.mapM (fun x=>lz (kC x)):=by
   have h2:∀l:List Operand,(∀x∈l,ev x=kC x)→l.mapM (fun x=>lz (ev x))=l.mapM (fun x=>lz (kC x)):=fun l=>by
    induction l with
    |nil=>exact fun _=>rfl
    |cons y l ih=>simp_all
   exact by grind
  simp only[this]
 case call c=>
  obtain⟨callee,args,Pr⟩:=c;have ha:=maps args fun x hx=>he x (by simp[Call.operands,hx])
  cases callee with
  |value f=>
   have hf:=he f (by simp[Call.operands]);simp only[hf,ha]
  |builtin b=>simp only[ha]
  |invoke _ _=>rfl
 case makeMap t r=>cases r<;>rfl
 case lookup t x i ok=>cases ok<;>simp_all
 case slice t x lo hi mx=>
  have h1:=he x (by simp);cases lo<;>cases hi<;>cases mx<;>simp_all
 all_goals (first|rfl|(simp only[he _ (by simp:_∈#[_])];done)|(simp_all;done))
def jQ (S:yx):Prop:=∀k nm f (args:List zO) h h',(args.any yO=false→∀id,(id∈args.flatMap qL∨fu nm id=true)→h id=h' id)→(args.any yO=true→h=h')→S k nm f args h=S k nm f args h'
theorem yR2 nm:fu nm nm=true:=by
 simp[fu]
theorem yE7 {E}(hS:jQ E.sums){A k pre o ev h h'}
  (hh:match iI ev o with|none=>h=h'|some l=>∀id,(id∈l∨fu (iH pre o.dst) id=true)→h id=h' id):dL E A k pre o ev h=dL E A k pre o ev h':=by
 have full:h=h'→dL E A k pre o ev h=dL E A k pre o ev h':=fun e=>by rw[e]
 unfold iI at hh;dsimp only at hh;cases hq:NS o.op with
 |true=>
  obtain⟨dst,op,type,pos,after,guard⟩:=o;cases op<;>first|rfl|cases hq
 |false=>
 rw[hq] at hh;simp only[cond_false] at hh;cases hc:(Ee o.op&&(o.op.operands.toList.map ev).any yO) with
 |true=>rw[hc] at hh;exact full hh
 |false=>
  rw[hc] at hh;replace hh:∀id,(id∈(o.op.operands.toList.map ev).flatMap qL∨fu (iH pre o.dst) id=true)→h id=h' id:=hh;have h0:h (iH pre o.dst)=h' (iH pre o.dst):=hh _ (.inr (yR2 _));have hx:∀x∈o.op.operands,∀id∈qL (ev x),h id=h' id:=by grind
  obtain⟨dst,op,type,pos,after,guard⟩:=o;dsimp only at h0 hx hc;cases op<;>simp only[Op.operands] at hx<;>simp only[dL]
  case alloc t=>rw[h0]
  case box t x=>rw[h0]
  case buildSlice t n ps=>
   exact yCg h0 (by grind)
  case load t x=>exact yDm (hx x (by simp))
  case store t x y=>exact yHv (hx x (by simp)) (hx y (by simp))
  case makeSlice t l c=>exact yBk h0
  case slice t x lo hi mx=>exact yJs (hx x (by simp))
  case makeMap t r=>cases r<;>first|rfl|exact ySd h0
  case lookup t x i ok=>cases ok<;>first|rfl|exact yL9 (hx x (by simp))
  case mapUpdate t x i y=>exact yCn (hx x (by simp))
  case indexAddr t x i=>exact ySp (hx x (by simp))
  case binOp op t x y p=>
   have hx:=hx x (by simp);have hl:∀v,ev x=.c v→pK h v=pK h' v:=fun v e=>by
    cases v with
    |osl id r=>cases r with
     |none=>simp only[pK,hx id (by rw[e];simp[qL,qX])]
     |some p=>rfl
    |_=>rfl
   split
   ·cases DY y&&DX op with
    |false=>rfl
    |true=>
     rename_i d v hu hv;simp only[hl v hv]
   ·rfl
  case convert s d x=>
   have hx:=hx x (by simp);have hs:∀v,ev x=.c v→pI h v=pI h' v:=fun v e=>by
    have:=Ao (h:=h) (h':=h') (v:=v) fun id ab=>hx id (by rw[e];exact ab)
    unfold pI;cases v<;>first|rfl|simp only[this]
   split
   ·rfl
   ·rename_i e c _ _ hc;rw[hs c hc]
   ·rfl
  case call c=>
   obtain⟨callee,args,Pr⟩:=c;have ha:∀v∈args.toList.map ev,∀id∈qL v,h id=h' id:=fun v hv=>by
    obtain⟨x,uM,rfl⟩:=List.mem_map.1 hv;exact hx x (by simp at uM;simp[Call.operands,uM])
   cases callee with
   |value f=>
    dsimp only;cases hf:ev f with
    |c fv=>cases fv with
     |fn Fu cap=>
      dsimp only;simp only[Ee,Bool.true_and] at hc;have cZ:cap=[]:=by
       have hm:ev f∈(Op.call ⟨.value f,args,Pr⟩).operands.toList.map ev:=List.mem_map_of_mem (by simp[Op.operands,Call.operands]);have:=List.any_eq_false.1 hc _ hm;rw[hf] at this
       simpa[yO] using this
      subst cZ;simp only[List.map_nil,List.append_nil];have hb:(args.toList.map ev).any yO=false:=by
       refine List.any_eq_false.2 fun v hv=>?_
       obtain⟨x,uM,rfl⟩:=List.mem_map.1 hv;exact List.any_eq_false.1 hc _ (List.mem_map_of_mem (by simp at uM;simp[Op.operands,Call.operands,uM]))
      refine hS _ _ _ _ _ _ (fun _ id ab=>?_) fun ht=>?_
      ·rcases ab with ab|ab
       ·obtain⟨v,hv,ab⟩:=List.mem_flatMap.1 ab;exact ha v hv id ab
       ·exact hh id (.inr ab)
      ·rw[hb] at ht;cases ht
     |_=>rfl
    |_=>rfl
   |invoke _ _=>rfl
   |builtin b=>
    generalize hl:args.toList.map ev=l at ha;unfold Ed;cases b<;>first|rfl|skip
    case len=>
     match l,ha with
     |[],_=>rfl
     |[v],ha=>cases v with
      |c v=>
       have:=yF6 (ha (.c v) (by simp));simp only[this]
      |_=>rfl
     |v::_::_,_=>cases v<;>rfl
    case append=>
     match l,ha with
     |[],_|[_],_|_::_::_::_,_=>rfl
     |[b,x],ha=>
      have:=fun mat t=>yGb (P:=E.P) (mat:=mat) (t:=t) h0 (ha b (by simp)) (ha x (by simp))
      simp only[this]
    case clear=>
     match l,ha with
     |[],_=>rfl
     |[v],ha=>cases v with
      |c v=>cases v with
       |osl id r=>cases r with
        |none=>rfl
        |some p=>
         have e:=ha (.c (.osl id (some p))) (by simp) id (by simp[qL,qX]);dsimp only;split
         ·unfold yv;rw[e]
         ·rfl
       |_=>rfl
      |_=>rfl
     |v::_::_,_=>cases v with
      |c v=>cases v with
       |osl id r=>cases r<;>rfl
       |_=>rfl
      |_=>rfl
    case copy=>
     match l,ha with
     |[],_|[_],_|_::_::_::_,_=>rfl
     |[b,x],ha=>
      have:=yJ3 (ha b (by simp)) (ha x (by simp));simp only[this]
  case makeFunc fn first captured=>cases fn<;>rfl
  all_goals rfl
end Go.Ab
set_option linter.unusedSectionVars false
namespace Go.Ab
structure jB (M M':zE):Prop where
 F:∀b,M.F b→M'.F b
 G:∀b,M.G b→M'.G b
 same:∀b,M.F b→M'.H[b]? =M.H[b]?
 sameG:∀b,M.G b→M'.H[b]? =M.H[b]?
 bsz:∀b,b<M.H.size→qE M'.H b=qE M.H b
 size:M.H.size≤M'.H.size
 frame:∀b,b<M.H.size→¬qC M b→M'.H[b]? =M.H[b]?
 own:∀b,qC M' b→b<M.H.size→qC M b
 Gb:∀b,M'.G b→b<M.H.size→M.G b∨qC M b
 Fb:∀b,M'.F b→b<M.H.size→M.F b∨qC M b
theorem qU.grow {M M'}(s:qU M M'):jB M M':=⟨s.ext.F,s.ext.G,s.ext.same,s.ext.sameG,s.ext.bsz,s.size,s.frame,s.own,s.Gb,s.Fb⟩
theorem jB.trans {M M' eS}(x:jB M M')(y:jB M' eS):jB M eS where
 F b h:=y.F b (x.F b h)
 G b h:=y.G b (x.G b h)
 same b h:=(y.same b (x.F b h)).trans (x.same b h)
 sameG b h:=(y.sameG b (x.G b h)).trans (x.sameG b h)
 bsz b h:=(y.bsz b (by have:=x.size;omega)).trans (x.bsz b h)
 size:=Nat.le_trans x.size y.size
 frame b h hn:=by
  have:=x.size;rw[y.frame b (by omega) fun ho=>hn (x.own b ho h),x.frame b h hn]
 own b ho h:=x.own b (y.own b ho (by have:=x.size;omega)) h
 Gb b hg h:=by
  rcases y.Gb b hg (by have:=x.size;omega) with k|k
  ·exact x.Gb b k h
  ·exact .inr (x.own b k h)
 Fb b hg h:=by
  rcases y.Fb b hg (by have:=x.size;omega) with k|k
  ·exact x.Fb b k h
  ·exact .inr (x.own b k h)
def Ap (M M':zE):Prop:=∀id C,M.κ id=some C→∃C',M'.κ id=some C'∧C'.blk=C.blk
structure kD (nl:Bool) (M M':zE):Prop where
 g:jB M M'
 k:nl=true→Ap M M'
theorem kD.step {nl M M' eS}(x:kD nl M M')(s:qU M' eS):kD nl M eS:=
 ⟨x.g.trans s.grow,fun h id C hC=>by
  obtain⟨C1,h1,e1⟩:=x.k h id C hC;obtain⟨C2,h2,le⟩:=s.ext.κ id C1 h1;exact⟨C2,h2,le.blk.trans e1⟩⟩
theorem kD.trans {M M' eS}(x:kD false M M')(y:jB M' eS):kD false M eS:=⟨x.g.trans y,by simp⟩
structure yD (nl:Bool) (na nt:Nat) (a0:Nat→Value) (M0:zE) (w0:World) (st:St) (a:Act) (w:World):Prop where
 ex:∃M:zE,M.h=st.h∧M.H=w.heap∧Ok M∧kD nl M0 M∧∀t,zK M (st.t t) (a.tmps.getD t undef)
 defers:a.defers=[]
 size:a.tmps.size=nt
 os:w.os=w0.os
 tape:w.tape=w0.tape
 output:w.output=w0.output
 keep:∀t,t<na→a.tmps.getD t undef=a0 t
theorem Ps {M}{st:St}{a:Act}(h:∀t,zK M (st.t t) (a.tmps.getD t undef)) x:zK M (st.ev x) (a.eval x):=by
 cases x with
 |tmp t=>exact h t
 |const v=>exact yR1 M v
 |global g=>trivial
 |func f=>exact⟨#[],rfl,trivial⟩
theorem Fw {t s v}(h:t s=v):vG t s v=t:=by
 funext n;unfold vG;cases e:Nat.beq n s with
 |false=>rfl
 |true=>
  simp_all
def rq (ops:Array Oper)(o:Oper)(st:St):Option Bool:=match o.guard with
 |none=>some true
 |some (j,want)=>match za ops j with
  |none=>none
  |some s=>match st.t s with
   |.c (.bool b)=>some (b==want)
   |.skp=>some false
   |_=>none
theorem Pt {R ops o st yes no}{out:R}(h:zb ops o st yes no=some out):
  ∃b,rq ops o st=some b∧(if b=true then yes st else no st)=some out:=by
 unfold zb at h;unfold rq;cases hg:o.guard with
 |none=>simp_all
 |some p=>
  obtain⟨j,want⟩:=p;rw[hg] at h;dsimp only at h⊢;cases hs:za ops j with
  |none=>simp_all
  |some s=>
   rw[hs] at h;dsimp only at h⊢;split at h
   ·rename_i b hb;rw[hb];refine⟨b==want,rfl,?_⟩;cases b with
    |true=>
     simp[Fw hb] at h;cases want<;>exact h
    |false=>
     simp[Fw hb] at h;cases want<;>exact h
   all_goals simp_all
theorem getD_some {a:Array Value}{s v}(h:a.getD s undef=v)(hv:v≠undef):a[s]? =some v:=by
 by_cases hs:s<a.size
 all_goals simp_all
theorem Pu {ops o st b nl na nt a0 M0 w0 w a}(h:rq ops o st=some b)(R:yD nl na nt a0 M0 w0 st a w):Region.wanted o (yielded ops a.tmps)=b:=by
 obtain⟨M,_,_,_,_,ht⟩:=R.ex;unfold rq at h;unfold Region.wanted;split at h
 ·simp_all
 ·rename_i j want hg;rw[hg];split at h
  ·cases h
  ·rename_i s hs;have hv:=ht s;have hs':(ops[j]?).bind (·.dst)=some s:=hs;split at h
   ·rename_i b' hb;cases h;rw[hb] at hv;have:=getD_some hv (by nofun);simp only[yielded,hs',Option.bind_some,this];rfl
   ·rename_i hb;cases h;rw[hb] at hv;have hv:a.tmps.getD s undef=undef:=hv;have:∀x:Option Value,(x=none∨x=some undef)→((match x with|some (.bool b)=>some b|_=>none:Option Bool)==some want)=false:=fun x hx=>by
     rcases hx with rfl|rfl<;>cases want<;>rfl
    refine this _ ?_;by_cases aS:s<a.tmps.size
    all_goals simp_all
   ·cases h
theorem kB.rel {nl na nt a0 M0 M M' w0 w w' st a dst v u rv}(R:yD nl na nt a0 M0 w0 st a w)(hh:M.h=st.h)(hs:kD nl M0 M)(ht:∀t,zK M (st.t t) (a.tmps.getD t undef))
  (hd:∀d,dst=some d→na≤d∧d<nt) (hB:kB M w u M' w') (hv:zK M' v rv):yD nl na nt a0 M0 w0 {t:=wT st.t dst v,h:=zX st.h u} (a.put dst rv) w' where
 ex:=by
  refine⟨M',by rw[hB.h,hh],hB.H,hB.ok,hs.step hB.step,fun t=>?_⟩;cases dst with
  |none=>exact(ht t).ext hB.step.ext
  |some d=>
   show zK M' (vG st.t d v t) ((a.tmps.setIfInBounds d rv).getD t undef);have aS:d<a.tmps.size:=by rw[R.size];simp_all
   unfold vG;cases e:Nat.beq t d with
   |true=>
    simp_all
   |false=>
    have e:t≠d:=fun e'=>by simp_all
    have:=(ht t).ext hB.step.ext;simp[Array.getElem?_setIfInBounds_ne (Ne.symm e)] at this⊢;exact this
 defers:=by cases dst<;>exact R.defers
 size:=by cases dst<;>simp[Act.put,R.size]
 os:=hB.os.trans R.os
 tape:=hB.tape.trans R.tape
 output:=hB.output.trans R.output
 keep t h:=by
  cases dst with
  |none=>exact R.keep t h
  |some d=>
   have ba:d≠t:=by grind
   rw[←R.keep t h];simp[Act.put,Array.getElem?_setIfInBounds_ne ba]
theorem yD.skip {nl na nt a0 M0 w0 w st a dst}(hd:∀d,dst=some d→na≤d)(R:yD nl na nt a0 M0 w0 st a w):yD nl na nt a0 M0 w0 {st with t:=wT st.t dst .skp} (a.put dst undef) w where
 ex:=by
  obtain⟨M,h1,h2,h3,h4,ht⟩:=R.ex;refine⟨M,h1,h2,h3,h4,fun t=>?_⟩;cases dst with
  |none=>exact ht t
  |some d=>
   show zK M (vG st.t d .skp t) ((a.tmps.setIfInBounds d undef).getD t undef);unfold vG;cases e:Nat.beq t d with
   |true=>
    have e:t=d:=by simp_all
    subst e;show(a.tmps.setIfInBounds t undef).getD t undef=undef;simp
   |false=>
    have e:t≠d:=fun e'=>by simp_all
    have:=ht t;simp[Array.getElem?_setIfInBounds_ne (Ne.symm e)] at this⊢;exact this
 defers:=by cases dst<;>exact R.defers
 size:=by cases dst<;>simp[Act.put,R.size]
 os:=R.os
 tape:=R.tape
 output:=R.output
 keep t h:=by
  cases dst with
  |none=>exact R.keep t h
  |some d=>
   have ba:d≠t:=by grind
   rw[←R.keep t h];simp[Act.put,Array.getElem?_setIfInBounds_ne ba]
section
variable {E:wW} {A:qA} {nl:Bool} {k pre na nt:Nat} {a0:Nat→Value} {R:Type} {M0:zE} {w0:World} {Q:Exit→Act→World→Prop}
theorem yD.op (hE:wC E){st a w}{o:Oper}{v u next}(r:yD nl na nt a0 M0 w0 st a w)(hd:∀d,o.dst=some d→na≤d∧d<nt)(hy:qJ (dL E A k pre o st.ev st.h) v u)
  (hn:∀a' w',yD nl na nt a0 M0 w0 {t:=wT st.t o.dst v,h:=zX st.h u} a' w'→next a' w'):o.wp E.P a w next Q:=by
 obtain⟨M,h1,h2,h3,h4,ht⟩:=r.ex;rw[←h1] at hy;exact yQk hE h3 h2 (Ps ht) hy fun M' w' rv hB hv=>hn _ _ (hB.rel r h1 h4 ht hd hv)
theorem Fx (hE:wC E){dst}(h:lA na nt dst=true):∀d,dst=some d→na≤d∧d<nt:=fun d hd=>by
 simp[lA] at h;simp_all
theorem Pv (hE:wC E){o st K}{out:R}(h:y9 E A k pre na nt o st K=some out):
  (∀d,o.dst=some d→na≤d∧d<nt)∧∃v u,qJ (dL E A k pre o st.ev st.h) v u∧K v u {t:=wT st.t o.dst v,h:=zX st.h u}=some out:=by
 unfold y9 at h;cases hc:lA na nt o.dst with
 |false=>simp_all
 |true=>
  rw[hc] at h;exact⟨Fx hE hc,qQ.elim_some h⟩
theorem Pw (hE:wC E){ops}:∀l st K (out:R) a w,(∀p∈l,ops[p.1]? =some p.2)→zc E A k pre na nt ops l st K=some out→yD nl na nt a0 M0 w0 st a w→
  (∀bc a' w',yD nl na nt a0 M0 w0 bc a' w'→K bc=some out→Q .normal a' w')→wpOps E.P ops Q (l.map (·.1)) a w
 |[],st,K,out,a,w,_,h,r,hK=>hK st a w r h
 |(i,o)::rest,st,K,out,a,w,hl,h,r,hK=>by
  have ho:ops[i]? =some o:=hl (i,o) (by simp);have ih:=fun st K out a w=>Pw hE rest st K out a w fun p hp=>hl p (by grind)
  obtain⟨b,hb,h⟩:=Pt h;have hw:=Pu hb r;simp[wpOps,ho];cases b with
  |true=>
   rw[if_pos rfl] at h;rw[if_pos hw];obtain⟨hd,v,u,hy,h⟩:=Pv hE h;exact .inl (yD.op hE r hd hy (by grind))
  |false=>
   rw[if_neg (by simp[hw])];cases hc:lA na nt o.dst with
   |false=>simp_all
   |true=>
    rw[hc] at h;exact ih _ _ _ _ _ h (r.skip fun d hd=>(Fx hE hc d hd).1) hK
end
def rr (o:Oper)(acc:Array Nat):Nat:=o.after.foldl (fun s e=>if Region.binds .any e then s|||2^e.on|||acc.getD e.on 0 else s) 0
theorem Px (acc:Array Nat) i:∀(l:List Edge) s,(l.foldl (fun s e=>if Region.binds .any e then s|||2^e.on|||acc.getD e.on 0 else s) s).testBit i=true→
  s.testBit i=true∨∃e∈l,Region.binds .any e=true∧(e.on=i∨(acc.getD e.on 0).testBit i=true)
 |[],s,h=>.inl h
 |e::l,s,h=>by
  rcases Px acc i l _ h with h|⟨e',he,h⟩
  all_goals grind
def uN (ops:Array Oper)(acc:Array Nat):Prop:=∀j,j<acc.size→∀i,(acc.getD j 0).testBit i=true→∃o,ops[j]? =some o∧∃e∈o.after.toList,Region.binds .any e=true∧(e.on=i∨(e.on<j∧(acc.getD e.on 0).testBit i=true))
theorem yRe {ops acc o}(h:uN ops acc)(ho:ops[acc.size]? =some o):uN ops (acc.push (rr o acc)):=by
 have nO:∀j,j<acc.size→(acc.push (rr o acc)).getD j 0=acc.getD j 0:=fun j hj=>by
  simp[Array.getElem?_push,Nat.ne_of_lt hj]
 intro j hj i hb;simp  at hj;by_cases aS:j<acc.size
 ·rw[nO j aS] at hb;obtain⟨o',h1,e,h2,h3,h4⟩:=h j aS i hb;grind
 ·have e:j=acc.size:=by omega
  subst e;rw[show(acc.push (rr o acc)).getD acc.size 0=rr o acc by simp] at hb;unfold rr at hb;rw[←Array.foldl_toList] at hb;rcases Px acc i _ _ hb with hb|⟨e,h2,h3,h4⟩
  all_goals grind
theorem yKj ops:uN ops (Region.before ops):=by
 have key:∀(l:List Oper) (acc:Array Nat),uN ops acc→(∀m (hm:m<l.length),ops[acc.size+m]? =some l[m])→
   uN ops (l.foldl (fun acc o=>acc.push (rr o acc)) acc):=by
  intro l
  induction l with
  |nil=>simp
  |cons o l ih=>
   intro acc h ho;refine ih _ (yRe h (ho 0 (by simp))) fun m hm=>?_
   have:=ho (m+1) (by simp;omega);grind
 have:=key ops.toList #[] (nofun) (by simp);unfold Region.before;rw[←Array.foldl_toList];exact this
theorem Py {ops i j}(h:fw (Region.before ops) i j=true):∃o,ops[j]? =some o∧∃e∈o.after.toList,Region.binds .any e=true∧(e.on=i∨(e.on<j∧fw (Region.before ops) i e.on=true)):=by
 unfold fw at h;by_cases hj:j<(Region.before ops).size
 ·exact yKj ops j hj i h
 simp_all
def uO (ops:Array Oper)(S:Nat→Bool):Prop:=∀j o,S j=true→ops[j]? =some o→∀e∈o.after.toList,Region.binds .any e=true→S e.on=true
theorem Pz {ops S}(hS:uO ops S){i}:∀n j,j=n→fw (Region.before ops) i j=true→S j=true→S i=true:=by
 intro n
 induction n using Nat.strongRecOn with
 |_ n ih=>
  intro j hj h hs;obtain⟨o,ho,e,he,hb,h⟩:=Py h;have PA:=hS j o hs ho e he hb;grind
theorem yLv {ops S}(hS:uO ops S){i j}(h:fw (Region.before ops) i j=true)(hr:∀o,ops[j]? =some o→∀e∈o.after.toList,Region.binds .any e=true→S e.on=true):S i=true:=by
 obtain⟨o,ho,e,he,hb,h⟩:=Py h;have PA:=hr o ho e he hb;rcases h with h|⟨h,hi⟩
 ·simp_all
 ·exact Pz hS _ _ rfl hi PA
structure It where
 i:Nat
 o:Oper
 v:zO
 u:qV
 r:Option (List Nat)
 wt:Bool
def It.dn (pre:Nat)(it:It):pY:=⟨it.i,iH pre it.o.dst,vN it.u,it.r⟩
def yH (st:St)(it:It):St:={t:=wT st.t it.o.dst it.v,h:=zX st.h it.u}
section
variable (E:wW) (A:qA) (k pre na nt:Nat) (ops:Array Oper)
structure Aq (st:St) (it:It):Prop where
 w:rq ops it.o st=some it.wt
 y:it.wt=true→(∀d,it.o.dst=some d→na≤d∧d<nt)∧qJ (dL E A k pre it.o st.ev st.h) it.v it.u∧it.r=iI st.ev it.o
 n:it.wt=false→it.v=.skp∧it.u=[]∧∀d,it.o.dst=some d→na≤d∧d<nt
def Fy (b:Array Nat)(x y:It):Prop:=fw b x.i y.i=true∨(kk ops x.i y.i=true∧(x.wt=true→y.wt=true→kj (x.dn pre) (y.dn pre)=false))
end
section
variable {E:wW} {A:qA} {k pre na nt:Nat} {R:Type} {ops:Array Oper} {b:Array Nat}
theorem Fz (hE:wC E):∀rest done st K (out:R),pZ E A k pre na nt ops b rest done st K=some out→
  ∃cg:List It,cg.map (fun it=>(it.i,it.o))=rest∧K (cg.foldl yH st)=some out∧(∀bo it post,cg=bo++it::post→Aq E A k pre na nt ops (bo.foldl yH st) it)∧
   (∀d∈done,∀it∈cg,fw b d.i it.i=true∨(kk ops d.i it.i=true∧(it.wt=true→kj d (it.dn pre)=false)))∧cg.Pairwise (Fy pre ops b)
 |[],done,st,K,out,h=>⟨[],rfl,h,by simp,by simp,.nil⟩
 |(i,o)::rest,done,st,K,out,h=>by
  unfold pZ at h;generalize hc:(done.all fun d=>fw b d.i i||kk ops d.i i)=c at h;cases c with
  |false=>cases h
  |true=>
   have iU:∀d∈done,fw b d.i i=true∨kk ops d.i i=true:=by grind
   rw[cond_true] at h;obtain⟨bw,hb,h⟩:=Pt h;cases bw with
   |true=>
    rw[if_pos rfl] at h;obtain⟨hd,v,u,hy,h⟩:=Pv hE h;dsimp only at h;generalize FA:(done.all fun d=>fw b d.i i|| !kj d ⟨i,iH pre o.dst,vN u,iI st.ev o⟩)=c2 at h;cases c2 with
    |false=>simp_all
    |true=>
     rw[cond_true] at h;have ER:∀d∈done,fw b d.i i=true∨kj d ⟨i,iH pre o.dst,vN u,iI st.ev o⟩=false:=by grind
     obtain⟨cg,h1,h2,h3,h4,h5⟩:=Fz hE rest _ _ K out h;let it:It:=⟨i,o,v,u,iI st.ev o,true⟩;refine⟨it::cg,by grind,h2,fun bo uP post e=>?_,fun d uQ uP fY=>?_,?_⟩
     ·cases bo with
      |nil=>
       obtain⟨rfl,rfl⟩:=e;exact⟨hb,by grind,by simp⟩
      |cons p bo=>
       simp only[List.cons_append,List.cons.injEq] at e;obtain⟨rfl,e⟩:=e;exact h3 bo uP post e
     ·rcases List.mem_cons.1 fY with rfl|fY
      ·rcases iU d uQ with h|h
       ·grind
       ·rcases ER d uQ with h'|h'
        ·grind
        ·exact .inr ⟨h,fun _=>h'⟩
      simp_all
     ·refine List.pairwise_cons.2 ⟨fun y nT=>?_,h5⟩;rcases h4 (it.dn pre) (List.mem_cons_self ..) y nT with h|⟨h,h'⟩
      ·exact .inl h
      ·exact .inr ⟨h,by grind⟩
   |false=>
    rw[if_neg (by simp)] at h;have kE:lA na nt o.dst=true:=by
     grind
    rw[kE] at h;rw[cond_true] at h;obtain⟨cg,h1,h2,h3,h4,h5⟩:=Fz hE rest _ _ K out h;let it:It:=⟨i,o,.skp,[],some [],false⟩;refine⟨it::cg,by grind,h2,fun bo uP post e=>?_,fun d uQ uP fY=>?_,?_⟩
    ·cases bo with
     |nil=>
      obtain⟨rfl,rfl⟩:=e;exact⟨hb,by simp,fun _=>⟨rfl,rfl,Fx hE kE⟩⟩
     |cons p bo=>
      simp  at e;obtain⟨rfl,e⟩:=e;exact h3 bo uP post e
    ·grind
    ·refine List.pairwise_cons.2 ⟨fun y nT=>?_,h5⟩;rcases h4 (it.dn pre) (List.mem_cons_self ..) y nT with h|⟨h,h'⟩
     ·exact .inl h
     ·exact .inr ⟨h,by simp⟩
end
theorem PB {t t' d v x}(h:t x=t' x):wT t d v x=wT t' d v x:=by
 cases d with
 |none=>exact h
 |some d=>
  show vG t d v x=vG t' d v x;unfold vG;simp_all
theorem Ar {t d v x}(h:d≠some x):wT t d v x=t x:=by
 cases d with
 |none=>rfl
 |some d=>
  show vG t d v x=_;unfold vG;cases e:Nat.beq x d with
  |false=>rfl
  |true=>simp_all
theorem yMq {t t' v x}:wT t (some x) v x=wT t' (some x) v x:=by
 show vG t x v x=vG t' x v x;unfold vG;simp
theorem yS1 {t d e v u}(h:∀x,d=some x→e≠some x):wT (wT t d v) e u=wT (wT t e u) d v:=by
 funext x;by_cases hd:d=some x
 ·subst hd;rw[Ar (h x rfl)];exact yMq
 ·rw[Ar hd];exact PB (Ar hd)
theorem nU {n}:∀{u h h'},h n=h' n→zX h u n=zX h' u n
 |[],_,_,e=>e
 | (id, o) :: u, h, h', e => nU (u := u) (by
   by_cases hn:n=id
   ·subst hn;rw[qM,qM]
   ·rw[qN _ _ hn,qN _ _ hn];exact e)
theorem PD {n}:∀{u h h'},n∈vN u→zX h u n=zX h' u n
 |(id,o)::u,h,h',hm=>by
  by_cases hu:n∈vN u
  ·exact PD (u:=u) hu
  ·have e:n=id:=by
    simp[vN] at hm hu;simp_all
   subst e;exact nU (u:=u) (by rw[qM,qM])
theorem yGf {u v h}(hd:∀a∈vN u,a∉vN v):zX (zX h u) v=zX (zX h v) u:=by
 funext n;by_cases hu:n∈vN u
 ·rw[rf (hd n hu)];exact PD hu
 ·rw[rf (u:=u) (h:=zX h v) hu];exact nU (rf hu)
theorem ySb {st x y}(hd:∀t,x.o.dst=some t→y.o.dst≠some t)(hu:∀a∈vN x.u,a∉vN y.u):yH (yH st x) y=yH (yH st y) x:=by
 unfold yH;simp;exact⟨yS1 hd,yGf hu⟩
theorem PE {x}:∀{l:List It} {st},(∀y∈l,(∀t,x.o.dst=some t→y.o.dst≠some t)∧∀a∈vN x.u,a∉vN y.u)→yH (l.foldl yH st) x=l.foldl yH (yH st x)
 |[],_,_=>rfl
 |y::l,st,h=>by
  rw[List.foldl_cons,List.foldl_cons,ySb (by grind) (by grind)];exact PE (by grind)
theorem As t:∀(l:List It) st bc,st.t t=bc.t t→(l.foldl yH st).t t=((l.filter fun it=>it.o.dst==some t).foldl yH bc).t t
 |[],_,_,h=>h
 |y::l,st,bc,h=>by
  rw[List.foldl_cons,List.filter_cons];cases hy:y.o.dst==some t with
  |true=>
   exact As t l _ _ (PB h)
  |false=>
   exact As t l _ _ (by
    show wT st.t y.o.dst y.v t=_;rw[Ar (by simp_all)];exact h)
theorem At n:∀(l:List It) st bc,st.h n=bc.h n→(l.foldl yH st).h n=((l.filter fun it=>(vN it.u).contains n).foldl yH bc).h n
 |[],_,_,h=>h
 |y::l,st,bc,h=>by
  rw[List.foldl_cons,List.filter_cons];cases hy:(vN y.u).contains n with
  |true=>
   exact At n l _ _ (nU h)
  |false=>
   exact At n l _ _ (by
    show zX st.h y.u n=_;rw[rf (by simpa[vN] using hy)];exact h)
theorem PF {S W bo post}{it:It}(fY:S it=false)(h1:∀y∈bo,W y=true→S y=true)(h2:∀y∈post,W y=true→S y=false):((bo++it::post).filter S).filter W=bo.filter W:=by
 have e1:(bo.filter S).filter W=bo.filter W:=by
  rw[List.filter_filter];refine List.filter_congr fun y hy=>?_
  simp_all
 simp_all
def ru (d:pY)(a:Nat):Prop:=match d.refs with
 |none=>True
 |some l=>a∈l∨fu d.nm a=true
theorem FB {x y}(h:kj x y=false):(∀a∈x.upd,¬ru y a)∧(∀a∈y.upd,¬ru x a)∧∀a∈x.upd,a∉y.upd:=by
 unfold kj at h;have key:∀(d e:pY),y8 d.upd e.refs=false→d.upd.any (fu e.nm)=false→∀a∈d.upd,¬ru e a:=by
  intro d e hm ho a ha hl;unfold y8 at hm;unfold ru at hl;cases hr:e.refs with
  |none=>
   simp_all
  |some l=>
   simp_all
 refine⟨by grind,by grind,fun a ha hb=>?_⟩;simp_all
section
variable {E:wW} {A:qA} {k pre na nt:Nat} {R:Type} {ops:Array Oper}
theorem FC {i j x y}(hi:ops[i]? =some x)(hj:ops[j]? =some y)(h:kk ops i j=true):
  (∀d,x.dst=some d→d∉y.looksAt ops)∧(∀d,x.dst=some d→y.dst≠some d)∧(∀d,y.dst=some d→d∉x.looksAt ops):=by
 unfold kk at h;rw[hi,hj] at h;exact Oper.apart_spec h
theorem yGo (hE:wC E)(hS:jQ E.sums){S}(hC:uO ops S){st bo post it}(cQ:∀y∈bo++it::post,ops[y.i]? =some y.o)(hg:Aq E A k pre na nt ops (bo.foldl yH st) it)
  (hu:∀y∈bo++it::post,y.wt=false→y.u=[]) (hp:(bo++it::post).Pairwise (Fy pre ops (Region.before ops))) (fY:S it.i=false)
  (hr:∀o,ops[it.i]? =some o→∀e∈o.after.toList,Region.binds .any e=true→S e.on=true):
  Aq E A k pre na nt ops (((bo++it::post).filter fun y=>S y.i).foldl yH st) it∧
   (∀y∈post,S y.i=true→(∀t,it.o.dst=some t→y.o.dst≠some t)∧∀a∈vN it.u,a∉vN y.u):=by
 have ez:ops[it.i]? =some it.o:=cQ it (by simp);obtain⟨Aj,uE,hp3⟩:=List.pairwise_append.1 hp;have before:∀y∈bo,S y.i=false→kk ops y.i it.i=true∧(y.wt=true→it.wt=true→kj (y.dn pre) (it.dn pre)=false):=fun y hy hs=>by
  rcases hp3 y hy it (by simp) with h|h
  ·rw[yLv hC h hr] at hs;cases hs
  ·exact h
 have behind:∀y∈post,S y.i=true→kk ops it.i y.i=true∧(it.wt=true→y.wt=true→kj (it.dn pre) (y.dn pre)=false):=fun y hy hs=>by
  rcases(List.pairwise_cons.1 uE).1 y hy with h|h
  ·rw[Pz hC _ _ rfl h hs] at fY;cases fY
  ·exact h
 have lP:∀t,t∈it.o.looksAt ops→(((bo++it::post).filter fun y=>S y.i).foldl yH st).t t=(bo.foldl yH st).t t:=fun t ht=>by
  rw[As t _ st st rfl,As t bo st st rfl,PF fY (fun y hy hw=>?_) fun y hy hw=>?_]
  ·cases hs:S y.i with
   |true=>rfl
   |false=>
    have:=(FC (cQ y (by simp[hy])) ez (before y hy hs).1).1 t (by simpa using hw);exact absurd ht this
  ·cases hs:S y.i with
   |false=>rfl
   |true=>
    have:=(FC ez (cQ y (by simp[hy])) (behind y hy hs).1).2.2 t (by simpa using hw);simp_all
 have PG:it.wt=true→∀n,ru (it.dn pre) n→(((bo++it::post).filter fun y=>S y.i).foldl yH st).h n=(bo.foldl yH st).h n:=fun hw n hn=>by
  rw[At n _ st st rfl,At n bo st st rfl,PF fY (fun y hy nT=>?_) fun y hy nT=>?_]
  ·cases hs:S y.i with
   |true=>rfl
   |false=>
    have hm:n∈vN y.u:=by simpa using nT
    have FD:y.wt=true:=by
     cases h:y.wt with
     |true=>rfl
     |false=>rw[hu y (by simp[hy]) h] at hm;simp[vN] at hm
    exact absurd hn ((FB ((before y hy hs).2 FD hw)).1 n hm)
  ·cases hs:S y.i with
   |false=>rfl
   |true=>
    have hm:n∈vN y.u:=by simpa using nT
    have FD:y.wt=true:=by
     cases h:y.wt with
     |true=>rfl
     |false=>rw[hu y (by simp[hy]) h] at hm;simp[vN] at hm
    exact absurd hn ((FB ((behind y hy hs).2 hw FD)).2.1 n hm)
 generalize hL:((bo++it::post).filter fun y=>S y.i).foldl yH st=Au at lP PG⊢;refine⟨⟨?_,fun hw=>?_,hg.n⟩,fun y hy hs=>?_⟩
 ·rw[←hg.w];unfold rq;cases nV:it.o.guard with
  |none=>rfl
  |some p=>
   obtain⟨j,want⟩:=p;dsimp only;cases rz:za ops j with
   |none=>rfl
   |some s=>
    have:s∈it.o.looksAt ops:=by
     have rz:(ops[j]?).bind (·.dst)=some s:=rz;simp only[Oper.looksAt,nV,rz];simp
    simp_all
 ·obtain⟨hd,hy,PH⟩:=hg.y hw;have aF:∀x∈it.o.op.operands,Au.ev x=(bo.foldl yH st).ev x:=fun x hx=>by
   cases x with
   |tmp t=>exact lP t (List.mem_append_left _ (List.mem_filterMap.2 ⟨.tmp t,by simpa using hx,rfl⟩))
   |_=>rfl
  have hrefs:iI Au.ev it.o=iI (bo.foldl yH st).ev it.o:=by
   unfold iI;have:it.o.op.operands.toList.map Au.ev=it.o.op.operands.toList.map (bo.foldl yH st).ev:=List.map_congr_left (by grind);simp only[this]
  refine⟨hd,?_,by rw[PH,hrefs]⟩;rw[yG0 aF];have hh : dL E A k pre it.o (bo.foldl yH st).ev Au.h = dL E A k pre it.o (bo.foldl yH st).ev (bo.foldl yH st).h := yE7 hS (by
   rw[←PH];have:=PG hw;unfold ru at this;have hdn:(it.dn pre).refs=it.r:=rfl;rw[hdn] at this;cases h:it.r with
   |none=>
    grind
   |some l=>
    rw[h] at this;exact this)
  rw[hh];exact hy
 ·obtain⟨h1,h2⟩:=behind y hy hs;refine⟨(FC ez (cQ y (by simp[hy])) h1).2.1,fun a ha hb=>?_⟩;have hwi:it.wt=true:=by
   cases h:it.wt with
   |true=>rfl
   |false=>rw[hu it (by simp) h] at ha;simp[vN] at ha
  have hwy:y.wt=true:=by
   cases h:y.wt with
   |true=>rfl
   |false=>rw[hu y (by simp[hy]) h] at hb;simp[vN] at hb
  exact(FB (h2 hwi hwy)).2.2 a ha hb
end
theorem yQz {ops}(h:tW ops=true){j o}(ho:ops[j]? =some o):∀e∈o.after.toList,Region.binds .any e=true→e.on<j:=by
 intro e he hb;have hm:(o,j)∈ops.toList.zipIdx:=by
  grind
 have:=List.all_eq_true.1 (List.all_eq_true.1 h _ hm) e he;simp_all
theorem Av {L:Array Bool}{i}(hi:i<L.size) j:(L.setIfInBounds i true).getD j false=(L.getD j false||i==j):=by
 by_cases h:i=j
 all_goals simp_all
section
variable {E:wW} {A:qA} {nl:Bool} {k pre na nt:Nat} {a0:Nat→Value} {R:Type} {ops:Array Oper} {M0:zE} {w0:World} {Q:Exit→Act→World→Prop}
theorem yB1 (hE:wC E)(hS:jQ E.sums)(he:tW ops=true){cg st}(hi:cg.map (·.i)=List.range ops.size)(cQ:∀y∈cg,ops[y.i]? =some y.o)(hg:∀bo it post,cg=bo++it::post→Aq E A k pre na nt ops (bo.foldl yH st) it)
  (hp:cg.Pairwise (Fy pre ops (Region.before ops))) (hQ:∀a w,yD nl na nt a0 M0 w0 (cg.foldl yH st) a w→Q .normal a w):
  ∀fuel L a w,L.size=ops.size→(∃U:List Nat,U.length≤fuel∧∀j,j<ops.size→L.getD j false=false→j∈U)→uO ops (fun j=>L.getD j false)→
   yD nl na nt a0 M0 w0 ((cg.filter fun y=>L.getD y.i false).foldl yH st) a w→wpAny E.P .any ops Q fuel L a w:=by
 have hu:∀y∈cg,y.wt=false→y.u=[]:=fun y hy hw=>by
  obtain⟨bo,post,e⟩:=List.append_of_mem hy;exact((hg bo y post e).n hw).2.1
 have FE:∀y∈cg,y.i<ops.size:=fun y hy=>(Array.getElem?_eq_some_iff.1 (cQ y hy)).1
 have cc:(cg.map (·.i)).Nodup:=by rw[hi];exact List.nodup_range
 have full:∀(L:Array Bool) (a:Act) (w:World),(∀j,j<ops.size→L.getD j false=true)→yD nl na nt a0 M0 w0 ((cg.filter fun y=>L.getD y.i false).foldl yH st) a w→Q .normal a w:=fun L a w hl r=>by
  rw[List.filter_eq_self.2 fun y hy=>hl y.i (FE y hy)] at r;exact hQ a w r
 have rdy:∀(L:Array Bool),L.size=ops.size→Region.ready .any ops L=[]→∀j,j<ops.size→L.getD j false=true:=fun L hL hr j=>by
  induction j using Nat.strongRecOn with
  |_ j ih=>
   intro hj;cases hb:L.getD j false with
   |true=>rfl
   |false=>
    have ho:ops[j]? =some ops[j]:=Array.getElem?_eq_getElem hj;have:j∈Region.ready .any ops L:=mem_ready.2 ⟨by
     have FF:j<L.size:=by omega
     simpa[Array.getD,FF] using hb,ops[j],ho,fun e he' bn=>by
      have aS:=yQz he ho e (by simpa using he') bn;exact ih e.on aS (by omega)⟩
    rw[hr] at this;cases this
 intro fuel
 induction fuel with
 |zero=>
  intro L a w hL hU hC r;obtain⟨U,hUl,hU⟩:=hU;have hU0:U=[]:=List.eq_nil_of_length_eq_zero (by omega);have aL:∀j,j<ops.size→L.getD j false=true:=by grind
  refine⟨?_,full L a w aL r⟩;cases hr:Region.ready .any ops L with
  |nil=>rfl
  |cons j l=>
   have:j∈Region.ready .any ops L:=by rw[hr];exact List.mem_cons_self ..
   obtain⟨h0,o,ho,_⟩:=mem_ready.1 this;have hj:=(Array.getElem?_eq_some_iff.1 ho).1;have:=aL j hj;have FF:j<L.size:=by omega
   simp[Array.getD,FF] at this h0;rw[this] at h0;cases h0
 |succ fuel ih=>
  intro L a w hL hU hC r;refine⟨fun hr=>full L a w (rdy L hL hr) r,fun i hir=>?_⟩;obtain⟨h0,o,ho,nW⟩:=mem_ready.1 hir;have uR:=(Array.getElem?_eq_some_iff.1 ho).1;have uS:i<L.size:=by omega
  have FG:L.getD i false=false:=by simpa[Array.getD,uS] using h0
  obtain⟨it,fY,kF⟩:∃it∈cg,it.i=i:=by
   have:i∈cg.map (·.i):=by rw[hi];simpa using uR
   obtain⟨it,h1,h2⟩:=List.mem_map.1 this;exact⟨it,h1,h2⟩
  obtain⟨bo,post,e⟩:=List.append_of_mem fY;have ez:ops[it.i]? =some it.o:=cQ it fY;have de:o=it.o:=by rw[kF,ho] at ez;exact Option.some.inj ez
  subst de;have lQ:=yGo hE hS hC (by rw[←e];exact cQ) (hg bo it post e) (by rw[←e];exact hu) (by rw[←e];exact hp) (by rw[kF];exact FG) (by grind);rw[←e] at lQ;obtain⟨nV,uT⟩:=lQ;have hw:=Pu nV.w r;have qH:(cg.filter fun y=>(L.setIfInBounds i true).getD y.i false).foldl yH st=yH ((cg.filter fun y=>L.getD y.i false).foldl yH st) it:=by
   have other:∀y∈bo++post,(L.setIfInBounds i true).getD y.i false=L.getD y.i false:=fun y hy=>by
    rw[Av uS];grind
   have e1:cg.filter (fun y=>L.getD y.i false)=bo.filter (fun y=>L.getD y.i false)++post.filter (fun y=>L.getD y.i false):=by
    conv=>lhs;rw[e]
    rw[List.filter_append,List.filter_cons,if_neg (by rw[kF,FG];simp)]
   have e2:cg.filter (fun y=>(L.setIfInBounds i true).getD y.i false)=bo.filter (fun y=>L.getD y.i false)++it::post.filter (fun y=>L.getD y.i false):=by
    conv=>lhs;rw[e]
    rw[List.filter_append,List.filter_cons,if_pos (by rw[kF,Av uS];simp),List.filter_congr fun y hy=>other y (List.mem_append_left _ hy),List.filter_congr fun y hy=>other y (List.mem_append_right _ hy)]
   rw[e1,e2,List.foldl_append,List.foldl_append,List.foldl_cons];exact (PE fun y hy=>by
    obtain⟨FH,FI⟩:=List.mem_filter.1 hy;exact uT y FH FI).symm
  have aj:uO ops fun j=>(L.setIfInBounds i true).getD j false:=fun j o' hj fy ed PI hb=>by
   dsimp only at hj⊢;rw[Av uS] at hj;refine getD_set_true ?_;rw[Bool.or_eq_true] at hj;rcases hj with hj|hj
   ·exact hC j o' hj fy ed PI hb
   ·have:i=j:=by simpa using hj
    subst this;rw[ho] at fy;cases fy;exact nW ed (by simpa using PI) hb
  have PJ:∃U:List Nat,U.length≤fuel∧∀j,j<ops.size→(L.setIfInBounds i true).getD j false=false→j∈U:=by
   obtain⟨U,hl,hU⟩:=hU;refine⟨U.erase i,?_,fun j hj hb=>?_⟩
   ·rw[List.length_erase_of_mem (hU i uR FG)];omega
   ·rw[Av uS,Bool.or_eq_false_iff] at hb;exact(List.mem_erase_of_ne (by have:=hb.2;simp at this;exact fun h=>this h.symm)).2 (hU j hj hb.1)
  unfold wpOp;rw[ho];dsimp only;cases nX:it.wt with
  |true=>
   rw[nX] at hw;rw[if_pos hw];obtain⟨hd,hy,_⟩:=nV.y nX;refine .inl (yD.op hE r hd hy fun a' w' r'=>?_);exact ih _ _ _ (by simpa using hL) PJ aj (by rw[qH];exact r')
  |false=>
   rw[nX] at hw;rw[if_neg (by simp[hw])];obtain⟨hv,iM,kE⟩:=nV.n nX;refine ih _ _ _ (by simpa using hL) PJ aj ?_;rw[qH];have:=r.skip (dst:=it.o.dst) fun d hd=>(kE d hd).1
   unfold yH;rw[hv,iM];exact this
theorem yJq (hE:wC E)(hS:jQ E.sums){id st K}{out:R}{a w}(hm:E.P.follows .mixedOrders=true)(he:tW ops=true)
  (h:pZ E A k pre na nt ops (Region.before ops) (ops.toList.zipIdx.map fun p=>(p.2,p.1)) [] st K=some out) (r:yD nl na nt a0 M0 w0 st a w)
  (hK:∀bc a' w',yD nl na nt a0 M0 w0 bc a' w'→K bc=some out→Q .normal a' w'):(Code.region id ops true).wp E.P Q a w:=by
 obtain⟨cg,h1,h2,h3,_,h5⟩:=Fz hE _ _ _ _ _ h;have hi:cg.map (·.i)=List.range ops.size:=by
  have:=congrArg (List.map Prod.fst) h1;rw[List.map_map,List.map_map] at this;refine Eq.trans this ?_;have e:(Prod.fst∘fun p:Oper×Nat=>(p.2,p.1))=Prod.snd:=rfl;rw[e,List.zipIdx_map_snd,←List.range_eq_range'];simp
 have cQ:∀y∈cg,ops[y.i]? =some y.o:=fun y hy=>by
  have:(y.i,y.o)∈ops.toList.zipIdx.map fun p=>(p.2,p.1):=by grind
  grind
 refine wp_region_any hm (yB1 hE hS he (nt:=nt) (na:=na) (a0:=a0) (M0:=M0) (w0:=w0) hi cQ h3 h5 (fun a w r=>hK _ a w r h2) _ _ _ _ (by simp) ⟨List.range ops.size,by simp,by grind⟩ (fun j o hj=>?_) ?_)
 ·by_cases h:j<ops.size<;>simp[h] at hj
 ·rw[List.filter_eq_nil_iff.2 fun y hy=>by
   by_cases h:y.i<ops.size<;>simp[h]]
  exact⟨r.ex,r.defers,r.size,r.os,r.tape,r.output,r.keep⟩
end
end Go.Ab
