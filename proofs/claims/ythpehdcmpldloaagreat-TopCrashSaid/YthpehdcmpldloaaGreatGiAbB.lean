/- part 1 -/
import Derived.Test.YthpehdcmpldloaaGreatGiAbA
import Derived.Laws.BytesString
set_option linter.unusedVariables false
set_option linter.unusedSimpArgs false
namespace Go.Ab
theorem yC9 off:∀l k cells,off+k+l.length≤cells.size→
  (l.zipIdx k).foldl (fun(cs:Array Value) (p:Value×Nat)=>cs.setIfInBounds (off+p.2) p.1) cells=yV cells (off+k) l
 |[],k,cells,h=>by
  apply Array.ext_getElem?;intro j;rw[eu h];simp_all
 |c::l,k,cells,h=>by
  simp;rw[yC9 off l (k+1) _ (by grind)];apply Array.ext_getElem?;intro j;rw[eu (by grind),eu (by omega)];grind
theorem T6 place cells i v rest off size (h:place i=some (off,size))(h1:v.cells.size=size)(h2:off+size≤cells.size):
  Instr.fill place cells ((i,v)::rest)=Instr.fill place (yV cells off v.cells.toList) rest:=by
 have hc:¬(v.cells.size≠size||decide (off+v.cells.size>cells.size))=true:=by
  simp_all
 simp only[Instr.fill,h];rw[if_neg hc]
 congr 1
 rw[←Array.foldl_toList,Array.toList_zipIdx];have:=yC9 off v.cells.toList 0 cells (by simp;omega);omega
def AQ (M:zK):(Nat×zY)→(Nat×Value)→Prop:=fun p q=>p.1=q.1∧zV M p.2 q.2
theorem T7 {M place}:∀{parts aN cells out vals},zM (zX M) cells vals.toList→
  zM (AQ M) parts aN→Iw place cells parts=some out→∃res,Instr.fill place vals aN=some res∧zM (zX M) out res.toList
 |[],[],cells,out,vals,hc,_,h=>by cases h;exact⟨vals,rfl,hc⟩
 |(i,v)::parts,(i',rv)::aN,cells,out,vals,hc,hp,h=>by
  obtain⟨⟨hi,hv⟩,hp⟩:=hp;subst hi;unfold Iw at h;split at h
  ·rename_i off size vs DR dI;cases hb:(Nat.beq vs.length size&&Nat.ble (off+size) cells.length) with
   |false=>simp_all
   |true=>
    rw[hb] at h;simp only[Bool.and_eq_true] at hb;have b1:=Nat.eq_of_beq_eq_true hb.1;have b2:=Nat.le_of_ble_eq_true hb.2;split at h
    ·rename_i bM T8;obtain⟨p1,rfl⟩:=Tv _ _ _ _ T8;have dv:=NB dI hv;have hl:=dv.length;have ng:=hc.length;simp  at hl ng;have yS:=Tz (yO.refl M) hc dv (off:=off) (by simp_all);obtain⟨res,h1,h2⟩:=T7 yS hp h;exact⟨res,by rw[T6 place vals i rv aN off size DR (by omega) (by omega)];exact h1,h2⟩
    ·cases h
  ·cases h
theorem yOv {P} w:∀(l:List Field),l.all (fun f=>(P.info? f.type).isSome)=true→
  (l.mapM fun f=>(do pure (f.offset,←sizeOf f.type):Sem (Nat×Nat))).run P w=.ok (l.map fun f=>(f.offset,P.cellsOf f.type)) w
 |[],_=>by simp
 |f::l,h=>by
  simp only[List.all_cons,Bool.and_eq_true] at h;obtain⟨i,hi⟩:=Option.isSome_iff_exists.1 h.1;rw[List.mapM_cons];simp only[Sem.run_bind,iM w hi,Result.andThen_ok,Sem.run_pure,yOv w l h.2,List.map_cons]
theorem vKq {P M w}(ok:Ok M)(hM:M.H=w.heap){t parts aN v u}(hp:zM (AQ M) parts aN)
  (h:yL (S6 P t parts) v u):qL P (Instr.build t aN.toArray) M w v u:=by
 unfold S6 at h;split at h
 ·exact h.elim
 ·rename_i zero hz;obtain⟨i,z,h1,h2,h3,h4,rfl⟩:=yFn hz;have hzero:=Nx M h4;split at h
  ·rename_i fs hs;obtain⟨bj,h⟩:=gE h;split at h
   ·rename_i cells hf;obtain⟨rfl,rfl⟩:=wP h;have DR:(fun(j:Nat)=>(fs[j]?).map fun(f:Field)=>(f.offset,P.cellsOf f.type))=(fun(j:Nat)=>(fs.toList.map fun f=>(f.offset,P.cellsOf f.type)).toArray[j]?):=by
     simp
    obtain⟨res,k1,k2⟩:=T7 hzero hp hf;refine qL.pure ok hM (rv:=.agg res) ?_ ⟨res,rfl,k2⟩;have hm:=yOv (P:=P) w fs.toList bj;simp[Instr.build,zeroValue,To w h1,run_underlying hs,Array.mapM_eq_mapM_toList];simp_all
   ·exact h.elim
  ·rename_i n e hs;obtain⟨bj,h⟩:=gE h;obtain⟨y,hy⟩:=Option.isSome_iff_exists.1 bj;split at h
   ·rename_i cells hf;obtain⟨rfl,rfl⟩:=wP h;obtain⟨res,k1,k2⟩:=T7 hzero hp hf;refine qL.pure ok hM (rv:=.agg res) ?_ ⟨res,rfl,k2⟩;simp[Instr.build,zeroValue,Sem.run_bind,To w h1,Result.andThen_ok,h2,Sem.run_pure,run_underlying hs,iM w hy];simp_all
   ·exact h.elim
  ·exact h.elim
theorem qL.after {P s M M1 w v u1 u2}(h1:M1.h=qK M.h u1)(st:vG M M1)(h:qL P s M1 w v u2):qL P s M w v (u1++u2):=by
 obtain⟨rv,w',M',a1,a2,a3,a4,a5,a6,a7,a8,a9⟩:=h;exact⟨rv,w',M',a1,a2,a3,a4,a5,by rw[a6,h1,lC],a7,st.trans a8,a9⟩
theorem jI.fresh {h0 h}(hf:jI h0 h){n}(hn:h0 n=none):h n=none:=by
 rcases hf n with e|⟨o,t,xs,e1,_⟩|⟨o,xs,e1,_⟩
 all_goals simp_all
theorem yQk {t vs x}(h:Is t vs=some x):vs.length=t.size∧tD t t.dflt 0 vs=some x:=by
 unfold Is at h;cases hb:Nat.beq vs.length t.size with
 |false=>simp_all
 |true=>simp_all
theorem T9 {M t vs us x}(h:Is t vs=some x)(hv:zM (zX M) vs us){rd}(hr:∀i,i<us.length→rd i=us[i]?):qF M.H M.G t x rd:=by
 obtain⟨h1,h2⟩:=yQk h;have hl:=hv.length;refine TE t vs us t.dflt x 0 (fun j=>(iw t)[j]?) rd (IS t _ (by simp)) h2 hv (by grind) (by grind)
theorem vBs {h0 t n}:∀{parts aN xs out vals u M},Ok M→jI h0 M.h→xs.length=n→vals.size=n*t.size→
  (∀k h,qF M.H M.G t xs[k] (fun j=>vals[k*t.size+j]?))→(∀p∈parts,p.1<n)→zM (AQ M) parts aN→rV h0 t xs parts=some (out,u)→
  ∃res M',Instr.fill (fun i=>some (i*t.size,t.size)) vals aN=some res∧M'.H=M.H∧M'.h=qK M.h u∧Ok M'∧vG M M'∧jI h0 M'.h∧out.length=n∧res.size=n*t.size∧
   (∀k h,qF M'.H M'.G t out[k] (fun j=>res[k*t.size+j]?))
 |[],[],xs,out,vals,u,M,ok,hf,hx,hs,hE,_,_,h=>by
  cases h;exact⟨vals,M,rfl,rfl,rfl,ok,vG.refl M,hf,hx,hs,hE⟩
 |(i,v)::parts,(i',rv)::aN,xs,out,vals,u,M,ok,hf,hx,hs,hE,bn,hp,h=>by
  obtain⟨⟨hi,hv⟩,hp⟩:=hp;dsimp only at hi hv;subst hi;unfold rV at h;split at h
  ·rename_i vs dI;split at h
   ·rename_i TM u1 DH;split at h
    ·rename_i x wq;split at h
     ·rename_i xs' us bg;cases h;have dv:=NB dI hv;obtain⟨M1,a1,a2,a3,a4,a5,a6,a7⟩:=TB ok hf dv DH;have hl:=a5.length;simp  at hl;have AR:=(yQk wq).1;have fK:i<n:=bn (i,v) (by simp);have aS:=Nat.mul_le_mul_right t.size (show i+1≤n by omega);rw[Nat.add_mul] at aS;have aK:i*t.size+rv.cells.toList.length≤vals.size:=by simp_all
      have hE1:∀k (h:k<(xs.set i x).length),qF M1.H M1.G t (xs.set i x)[k] (fun j=>(yV vals (i*t.size) rv.cells.toList)[k*t.size+j]?):=by
       intro k hk;rw[List.length_set] at hk;by_cases e:k=i
       ·subst e;rw[List.getElem_set_self];refine T9 wq a5 fun j hj=>?_
        rw[eu aK,if_neg (by omega),if_pos (by omega)];simp
       ·rw[List.getElem_set_ne (Ne.symm e)];refine vD a4.ext.G (by grind) t _ _ _ (fun j hj=>?_) (hE k hk);rw[eu aK,Array.length_toList];rcases vBg (Ne.symm e) hj with h|h
        all_goals grind
      obtain⟨res,M2,b1,b2,b3,b4,b5,b6,b7,b8,b9⟩:=vBs a3 a6 (by simp_all) (by rw[gV aK];exact hs) hE1
       (fun p hp=>bn p (by grind)) (hp.mono fun p q hpq=>⟨hpq.1,by
        obtain⟨_,hq⟩:=hpq;exact zV.ext a4.ext hq⟩) bg
      exact⟨res,M2,by rw[T6 _ vals i rv aN (i*t.size) t.size rfl (by omega) (by omega)];exact b1,b2.trans a1,by rw[b3,a2,lC],b4,a4.trans b5,b6,b7,b8,b9⟩
     ·cases h
    ·cases h
   ·cases h
  ·cases h
theorem yVz {P w t e n aN}{ty:Ty}{i z res}(hu:P.underlying t=some (.slice e))(hi:P.info? e=some i)
  (hz:i.zero=some z) (hs:i.size=ty.size) (cT:n*P.cellsOf e≤16777216) (hf:Instr.fill (fun j=>some (j*ty.size,ty.size)) (madeCells z.cells (n*ty.size)) aN=some res):
  (Instr.buildSlice t n aN.toArray).run P w=.ok (.slice (some ⟨w.heap.size,0,none⟩) n n) (w.alloc (.cells res e)):=by
 have hc:P.cellsOf e=ty.size:=by rw[Tm hi];exact hs
 rw[hc] at cT;have h1:¬2^24<n*ty.size:=by omega
 by_cases h0:n*ty.size=0
 ·have hm:madeCells z.cells (n*ty.size)=#[]:=by rw[h0];simp[madeCells]
  rw[hm] at hf;simp[Instr.buildSlice,run_underlying hu,iM w hi,hc,h0];simp[Array.range_zero',hf,newRow]
 ·simp[Instr.buildSlice,run_underlying hu,Result.andThen_ok,iM w hi,hc,h1,if_false,h0,Sem.run_pure,zeroValue,To w hi,hz];rw[show(Array.range (n*ty.size)).map (z.cells[· %z.cells.size]!)=madeCells z.cells (n*ty.size) from rfl,hf];rfl
theorem yGw {parts:List (Nat×zY)}{n}(h:parts.all (fun p=>Nat.blt p.1 n)=true):∀p∈parts,p.1<n:=by
 simp only[List.all_eq_true] at h;exact fun p hp=>TC (h p hp)
theorem vZ6 {P M w}(ok:Ok M)(hM:M.H=w.heap){nm t e n parts aN ty xs u}
  (hp:zM (AQ M) parts aN) (hu:P.underlying t=some (.slice e)) (aT:M.h nm=none) (dK:ky P e=some ty) (cT:n*P.cellsOf e≤16777216) (bn:∀p∈parts,p.1<n)
  (hf:rV M.h ty (List.replicate n ty.dflt) parts=some (xs,u)):
  qL P (Instr.buildSlice t n aN.toArray) M w (.c (.osl nm none)) (u++[(nm,.arr true ty xs)]):=by
 obtain⟨i,z,h1,h2,h3,h4,h5,h6,h7⟩:=sk dK;obtain⟨res,M',b1,b2,b3,b4,b5,b6,b7,b8,b9⟩:=vBs (n:=n) ok (jI.refl _) (by simp) (vals:=madeCells z.cells (n*ty.size)) (by rw[size_madeCells])
  (fun k hk=>by rw[yKx hk];exact yU3 h4 h7 (by simp_all)) bn hp hf
 have hr:=yVz (P:=P) (w:=w) hu h1 h2 h3 cT b1;refine qL.after b3 b5 (yE5 b4 (by grind) (b6.fresh aT) (c:=n) (us:=res) (e:=e) (by omega) (by omega) (by grind) ?_);simp_all
structure wu (M:zK) (J:List Nat) (n:Nat) (rows:List (List Int)) (vals:Array Value) (rc:List (Option Nat×Nat)):Prop where
 len:rows.length=n
 size:vals.size=n
 rlen:rc.length=n
 row:∀k (h:k<rows.length),∃rb v,rc[k]? =some (rb,rows[k].length)∧vals[k]? =some v∧mU M.H rb rows[k].length v∧
  (∀R,rb=some R→∃rv er,M.H[R]? =some (.cells rv er (0,0))∧∀j (h':j<rows[k].length),rv[j]? =some (.int .i64 rows[k][j]))
 nd:(rc.filterMap (·.1)).Nodup
 of:∀R∈rc.filterMap (·.1),∃j∈J,∃C,M.κ j=some C∧R∈C.fp
 js:∀j∈J,∃ys:List Int,M.h j=some (.arr true (.int .i64) ys)
theorem wu.put {M}(ok:Ok M){J n rows vals rc}(I:wu M J n rows vals rc){i}(hi:i<n){v rv r u}
  (hv:zV M v rv) (ht:Ax M.h v=some (r,u)) (hJ:∀p∈u,p.1∉J):∃NN,wu M (J++u.map (·.1)) n (rows.set i r) (yV vals i rv.cells.toList) NN∧rv.cells.size=1∧(∀p∈u,p.2=.gone):=by
 have put:∀(rb:Option Nat) (J':List Nat),rv.one1=true→mU M.H rb r.length rv→(∀R,rb=some R→∃rv er,M.H[R]? =some (.cells rv er (0,0))∧∀j (h':j<r.length),rv[j]? =some (.int .i64 r[j]))→
   (∀R,rb=some R→R∉rc.filterMap (·.1))→(∀R,rb=some R→∃j∈J',∃C,M.κ j=some C∧R∈C.fp)→(∀j∈J',∃ys:List Int,M.h j=some (.arr true (.int .i64) ys))→
   wu M (J++J') n (rows.set i r) (yV vals i rv.cells.toList) (rc.set i (rb,r.length))∧rv.cells.size=1:=by
  intro rb J' h1 h2 h3 h4 h5 h6;have aG:rv.cells=#[rv]:=by cases rv<;>first|rfl|cases h1
  obtain⟨s1,s2⟩:=NF (x:=(rb,r.length)) rc i I.nd h4;have aK:i+rv.cells.toList.length≤vals.size:=by rw[aG,I.size];show i+1≤n;omega
  refine⟨⟨by rw[List.length_set];exact I.len,by rw[gV aK];exact I.size,by rw[List.length_set];exact I.rlen,fun k hk=>?_,s1,fun R hR=>?_,fun j hj=>?_⟩,by rw[aG];rfl⟩
  ·rw[List.length_set] at hk;by_cases e:k=i
   ·subst e;rw[List.getElem_set_self];refine⟨rb,rv,?_,?_,h2,h3⟩
    ·rw[List.getElem?_set_self (by rw[I.rlen];exact hi)]
    ·rw[eu aK,if_neg (by omega),if_pos (by rw[aG];show k<k+1;omega),aG];simp
   ·rw[List.getElem_set_ne (Ne.symm e)];obtain⟨pT,v',p1,p2,p3,p4⟩:=I.row k hk;refine⟨pT,v',by rw[List.getElem?_set_ne (Ne.symm e)];exact p1,?_,p3,p4⟩;rw[eu aK,aG];grind
  ·rcases s2 R hR with h|h
   ·obtain⟨j,hj,hC⟩:=I.of R h;exact⟨j,by grind,hC⟩
   grind
  ·rcases List.mem_append.1 hj with h|h
   ·exact I.js j h
   ·exact h6 j h
 unfold Ax at ht;split at ht
 ·rename_i jd;split at ht
  ·rename_i ys dj;cases ht;obtain⟨Cj,eZ,nR⟩:=ok.obj jd _ dj;obtain⟨jr,jf⟩:=II nR;obtain⟨r1,r2⟩:=TJ eZ nR hv;have nf:∀j∈[jd],∃ys:List Int,M.h j=some (.arr true (.int .i64) ys):=by grind
   have:=put Cj.blk [jd] (zX.one (c:=.osl jd none) hv) r1 r2 (fun R hR hm=>?_) (by grind) (fun j hj=>nf j hj)
   ·exact(by grind)
   ·obtain⟨j,hj,C,hC,hRC⟩:=I.of R hm;obtain⟨ys',mY⟩:=I.js j hj;have bp:j≠jd:=fun e=>hJ (jd,.gone) (by simp) (e▸hj)
    exact ok.disj j jd _ _ C Cj R bp mY dj rfl rfl hC eZ hRC (ga hR)
  ·cases ht
 ·cases ht;have e:rv=.slice none 0 0:=hv;have:=put none [] (by rw[e];rfl) ⟨e,rfl⟩ (by simp) (by simp) (by simp) (by simp);exact by grind
 ·cases ht
theorem DS:∀{l},tF l=true→l.Nodup
 |[],_=>by simp
 |a::l,h=>by
  simp only[tF,Bool.and_eq_true] at h;refine List.nodup_cons.2 ⟨fun hm=>?_,DS h.2⟩;have:l.any (Nat.beq a)=true:=List.any_eq_true.2 ⟨a,hm,by simp⟩;simp_all
theorem yI9 {M}(ok:Ok M){n}:∀{parts aN J rows out vals rc u},wu M J n rows vals rc→
  (∀p∈parts,p.1<n)→zM (AQ M) parts aN→Ay M.h rows parts=some (out,u)→(J++u.map (·.1)).Nodup→
  ∃res NN,Instr.fill (fun i=>some (i*1,1)) vals aN=some res∧wu M (J++u.map (·.1)) n out res NN∧(∀p∈u,p.2=.gone)
 |[],[],J,rows,out,vals,rc,u,I,_,_,h,_=>by
  cases h;exact⟨vals,rc,rfl,by simp_all,by simp⟩
 |(i,v)::parts,(i',rv)::aN,J,rows,out,vals,rc,u,I,bn,hp,h,dJ=>by
  obtain⟨⟨hi,hv⟩,hp⟩:=hp;subst hi;unfold Ay at h;split at h
  ·rename_i r u1 ht;split at h
   ·rename_i iA us bg;cases h;rw[List.map_append,←List.append_assoc] at dJ;have fK:i<n:=bn (i,v) (by simp);obtain⟨NN,I',h1,hg⟩:=I.put ok fK hv ht (by grind);obtain⟨res,rc2,b1,b2,b3⟩:=yI9 ok I' (by grind) hp bg dJ;refine⟨res,rc2,?_,by simp_all,fun p hp=>?_⟩
    ·rw[T6 _ vals i rv aN (i*1) 1 rfl h1 (by rw[I.size];omega),Nat.mul_one];exact b1
    grind
   ·cases h
  ·cases h
theorem Ua {j}:∀{u h},(∀p∈u,p.2=.gone)→j∈u.map (·.1)→qK h u j=some .gone
 |(id,o)::u,h,hg,hj=>by
  have ho:o=.gone:=hg (id,o) (by simp);subst ho;by_cases hm:j∈u.map (·.1)
  ·exact Ua (u:=u) (by grind) hm
  ·have e:j=id:=by
    simp_all
   subst e;show qK (yJ h j .gone) u j=_;rw[NG]
   ·exact yQ _ _ _
   ·rw[Bool.eq_false_iff];simp_all
theorem DT {n u h}(hn:n∉u.map (·.1)):qK h u n=h n:=by
 refine NG h ?_;rw[Bool.eq_false_iff];simp_all
theorem vHb {P:Program}{M:zK}{w}(ok:Ok M)(hM:M.H=w.heap){nm n c}{rows res rc J}{u:vJ}{e s}
  (aT:M.h nm=none) (I:wu M J n rows (res.extract 0 n) rc) (hJ:∀j,j∈J→j∈u.map (·.1)) (hg:∀p∈u,p.2=.gone∧∃o,M.h p.1=some o∧o.owned=true) (hc:n≤c) (hs:c≤res.size)
  w' (hw:w'.heap=w.heap.push (.cells res e)∧w'.os=w.os∧w'.tape=w.tape∧w'.output=w.output)
  (hr:s.run P w=.ok (.slice (some ⟨w.heap.size,0,none⟩) n c) w'):qL P s M w (.c (.osl nm none)) (u++[(nm,.mat 0 rows)]):=by
 let C:qB:=⟨some M.H.size,n,1,0,rc⟩;have hnJ:nm∉u.map (·.1):=(by grind);have aS:∀R∈rc.filterMap (·.1),∃j C,(j∈u.map (·.1))∧M.κ j=some C∧R∈C.fp:=fun R hR=>by
  obtain⟨j,hj,C,hC,hm⟩:=I.of R hR;grind
 have aed:∀R∈rc.filterMap (·.1),R<M.H.size:=fun R hR=>by
  obtain⟨j,hj,C,hC,hm⟩:=I.of R hR;obtain⟨ys,hy⟩:=I.js j hj;exact(ok.own R ⟨j,_,C,hy,rfl,hC,hm⟩).2
 have hh:∀n',(qK M.h (u++[(nm,.mat 0 rows)])) n'=if n'=nm then some (.mat 0 rows) else qK M.h u n':=fun n'=>by
  rw[lC,Tu];by_cases e:n'=nm
  ·rw[if_pos e,e,yQ]
  ·rw[if_neg e,yT _ _ e]
 have:=zK.move_ok (M:=M) (nm:=nm) (o':=.mat 0 rows) (C':=C) (h':=qK M.h (u++[(nm,.mat 0 rows)])) (H':=M.H.push (.cells res e)) ok (fun j=>j∈u.map (·.1)) aT
  (fun j hj=>by
   obtain⟨p,hp,e⟩:=List.mem_map.1 hj;obtain⟨_,o,ho,iQ⟩:=hg p hp;refine⟨o,by rw[←e];exact ho,iQ,?_⟩;have bp:j≠nm:=by grind
   rw[hh,if_neg bp];exact Ua (by grind) hj)
  (by rw[hh,if_pos rfl]) (fun n' h1 h2=>by rw[hh,if_neg h2];exact DT h1) (by simp) (fun b hb _=>pR hb) (fun b hb=>Dz (pR hb))
  (fun b hb=>by
   simp only[C,qB.fp,Option.toList_some,List.singleton_append,List.mem_cons] at hb;grind)
  (fun x=>by
   refine⟨rfl,I.len.symm,rfl,by rw[I.len];exact I.rlen,?_,res,e,AF,by rw[I.len];omega,fun k hk=>?_⟩
   ·simp only[C,qB.fp,Option.toList_some,List.singleton_append];exact List.nodup_cons.2 ⟨by grind,I.nd⟩
   ·obtain⟨rb,v,p1,p2,p3,p4⟩:=I.row k hk;refine⟨rb,v,p1,?_,p3.ext x,fun R hR=>?_⟩
    ·grind
    ·obtain⟨rv,er,p5,p6⟩:=p4 R hR;refine⟨rv,er,?_,p6⟩;have:R<M.H.size:=by grind
     show(M.H.push _)[R]? =_;grind)
 refine⟨_,_,_,hr,hw.2.1,hw.2.2.1,hw.2.2.2,by show M.H.push _=_;rw[hw.1,hM],rfl,this.1,this.2,C,κset_same _ _ _,_,c,rfl,?_⟩;refine⟨hc,0,by rw[hM],.inr (by simp),?_⟩;have:qX (M.H.push (.cells res e)) M.H.size=res.size:=by simp[qX]
 show(0+c)*1≤qX (M.H.push (.cells res e)) M.H.size;rw[this];omega
theorem Ub {P M w}(ok:Ok M)(hM:M.H=w.heap){mat nm t n parts aN v u}
  (hp:zM (AQ M) parts aN) (h:yL (Dg P mat nm M.h t n parts) v u):qL P (Instr.buildSlice t n aN.toArray) M w v u:=by
 unfold Dg at h;split at h
 ·rename_i e hu aT;obtain⟨cT,h⟩:=gE h;have cT:=Nat.le_of_ble_eq_true cT;cases mat with
  |true=>
   split at h
   ·rename_i rows u' dK hf;obtain⟨hb,h⟩:=gE h;simp only[Bool.and_eq_true] at hb;obtain⟨_,rfl,rfl⟩:=gU h;obtain⟨i,z,h1,h2,h3,h4,h5,h6,h7⟩:=sk dK;have NM:z.cells.toList=[.slice none 0 0]:=h4;have T5:z.cells.size=1:=h7;have I0:wu M [] n (List.replicate n []) (madeCells z.cells (n*1)) (List.replicate n (none,0)):=by
     refine⟨by simp,by rw[size_madeCells,Nat.mul_one],by simp,fun k hk=>?_,by simp,by simp,by simp⟩;have hkn:k<n:=by simp_all
     refine⟨none,.slice none 0 0,by simp[hkn],?_,⟨rfl,by simp⟩,by simp⟩;simp only[madeCells];have:z.cells.toList[0]'(by grind)=.slice none 0 0:=by grind
     grind
    obtain⟨res,rc,b1,b2,b3⟩:=yI9 ok I0 (yGw hb.2) hp hf (by simpa using DS hb.1);have hr:=yVz (P:=P) (w:=w) (ty:=.sl (.int .i64)) hu h1 h2 h3 cT b1;have Uc:res.extract 0 n=res:=by
     have:=b2.size;simp_all
    refine vHb ok hM aT (by rw[Uc];exact b2) (by simp) (fun p hp=>⟨b3 p hp,?_⟩) (by simp) (by rw[b2.size];omega) (w.alloc (.cells res e)) ⟨rfl,rfl,rfl,rfl⟩ hr;obtain⟨ys,hy⟩:=b2.js p.1 (by grind);exact⟨_,hy,rfl⟩
   ·exact h.elim
  |false=>
   simp  at h;split at h
   ·rename_i ty dK;split at h
    ·rename_i xs u' hf;obtain⟨hb,h⟩:=gE h;obtain⟨_,rfl,rfl⟩:=gU h;exact vZ6 ok hM hp hu aT dK cT (yGw hb) hf
    ·exact h.elim
   ·exact h.elim
 ·exact h.elim
theorem Ud {H F}:∀t x rd,qF H F t x rd→∀j,j<t.size→∃v,rd j=some v∧v.one1=true
 |.int k,x,rd,h,j,hj
 |.bool,x,rd,h,j,hj=>by
  simp[Ty.size] at hj;obtain rfl:j=0:=by omega
  exact⟨_,h,rfl⟩
 |.sl t,x,rd,h,j,hj=>by
  simp[Ty.size] at hj;obtain rfl:j=0:=by omega
  obtain⟨A,n,c,h1,_⟩:=h;exact⟨_,h1,rfl⟩
 |.pair a b,x,rd,h,j,hj=>by
  simp[Ty.size] at hj;by_cases bn:j<a.size
  ·exact Ud a _ _ h.1 j bn
  ·have:=Ud b _ _ h.2 (j-a.size) (by omega);simp_all
def Rd (H : Array Go.Obj) (v : Value) (n size : Nat) (news : List Value) : Prop := ∃ A c, v = .slice A n c ∧ news.length = n * size ∧ (∀ u ∈ news, u.one1 = true) ∧ (match A with
 |none=>n=0
 |some a=>n=0∨a.spot=none∧∀j u,news[j]? =some u→yS H a.block (a.off+j)=some u)
theorem Rd.first {P H v n size news}(h:Rd H v n size news) w (hw:w.heap=H):(Builtin.firstCells size n v).run P w=.ok news.toArray w:=by
 obtain⟨A,c,rfl,hl,_,h⟩:=h;cases A with
 |none=>
  have h0:n=0:=h;subst h0;have:news=[]:=by grind
  subst this;rfl
 |some a=>
  rcases h with h0|⟨hs,h⟩
  ·subst h0;have:news=[]:=by grind
   subst this;simp[Builtin.firstCells,loadCells,loadCellsFrom]
  ·obtain⟨B,o,sp⟩:=a;cases hs;exact run_firstCells_some w size n ⟨B,o,none⟩ n c news hl (fun j u hu=>by rw[Addr.add_lit,tK,hw];simp_all)
theorem Ue {H F t}{ys:List t.den}{B o c}(hc:ys.length≤c)(h:∀i hi,qF H F t ys[i] (fun j=>yS H B (o+i*t.size+j))):
  ∃news,Rd H (.slice (some ⟨B,o,none⟩) ys.length c) ys.length t.size news∧∀i hi,qF H F t ys[i] (fun j=>news[i*t.size+j]?):=by
 have tot:∀k,k<ys.length*t.size→∃v,yS H B (o+k)=some v∧v.one1=true:=by
  intro k hk;have hi:k/t.size<ys.length:=Nat.div_lt_of_lt_mul (by grind);obtain⟨v,h1,h2⟩:=Ud t _ _ (h _ hi) (k%t.size) (Nat.mod_lt _ t.size_pos);refine⟨v,?_,h2⟩;rw[Nat.add_assoc,Nat.mul_comm,Nat.div_add_mod] at h1;exact h1
 refine⟨(List.range (ys.length*t.size)).map fun k=>(yS H B (o+k)).getD undef,⟨_,c,rfl,by simp,fun u hu=>?_,.inr ⟨rfl,fun j u hu=>?_⟩⟩,fun i hi=>?_⟩
 ·grind
 ·grind
 ·refine vD (by simp) (by simp) t _ _ _ (fun j hj=>?_) (h i hi);have aS:=Nat.mul_le_mul_right t.size (show i+1≤ys.length by omega);grind
theorem IT {H F t A c}:∃news,Rd H (.slice A 0 c) 0 t.size news∧∀i hi,qF H F t ([]:List t.den)[i] (fun j=>news[i*t.size+j]?):=
 ⟨[],⟨A,c,rfl,by simp,by simp,by grind⟩,by simp⟩
theorem Uf {H F t}{ys:List t.den}{v}(h:qF H F (.sl t) ys (fun _=>some v)):
  ∃news,Rd H v ys.length t.size news∧∀i hi,qF H F t ys[i] (fun j=>news[i*t.size+j]?):=by
 simp[qF] at h;obtain⟨A,n,c,rfl,rfl,hc,h⟩:=h;rcases h with⟨rfl,_⟩|⟨B,o,rfl,hB,hE⟩
 ·exact IT
 ·exact Ue hc hE
theorem AT {M own t xs C id r v}(hC:M.κ id=some C)(hO:yZ M (.arr own t xs) C)(hv:zX M (.osl id r) v):
  ∃news,Rd M.H v (j7 xs r).length t.size news∧∀i hi,qF M.H M.G t (j7 xs r)[i] (fun j=>news[i*t.size+j]?):=by
 obtain⟨h1,h2,h3,h4⟩:=hO;obtain⟨C',aE,hv⟩:=hv;rw[hC] at aE;cases aE;have key:∀lo n,lo+n≤C.len→jK M.H C lo n v→∃news,Rd M.H v (qR xs lo n).length t.size news∧∀i (hi:i<(qR xs lo n).length),qF M.H M.G t (qR xs lo n)[i] (fun j=>news[i*t.size+j]?):=by
  intro lo n hn hS;obtain⟨A,c,rfl,hS⟩:=hS;have hl:=DE (xs:=xs) (lo:=lo) (n:=n) (by omega);by_cases h0:n=0
  ·subst h0;have e:qR xs lo 0=[]:=by rfl
   exact IT
  ·cases hB:C.blk with
   |none=>simp_all
   |some B=>
    rw[hB] at hS h4;obtain⟨hc,a,rfl,ha,_⟩:=hS;obtain⟨vals,e,h5,h6,h7,h8⟩:=h4;have sd:a=lo*C.sz:=by omega
    have := Ue (H := M.H) (F := M.G) (ys := qR xs lo n) (B := B) (o := a) (c := c) (by omega) (fun i hi=>by
     obtain⟨bK,e1⟩:=NC hi;rw[e1];refine vD (by simp) (by simp) t _ _ _ (fun j hj=>?_) (h8 (lo+i) bK);rw[sd,h2,←Nat.add_mul];simp[yS,h5])
    simp_all
 cases r with
 |none=>
  have:=key 0 C.len (by omega) hv;rw[h1,vB6] at this;exact this
 |some p=>exact key p.1 p.2 hv.1 hv.2.1
theorem sm {P w t e i A sLen sCap n size x news} T (hu:P.underlying t=some (.slice e))(hi:P.info? e=some i)(hs:i.size=size)
  (hx : Rd w.heap x n size news) (aP : sLen + n ≤ sCap) w' (hw:match A with
   |none=>w'=w
   |some a=>(storeCells (a.add (sLen*size)) news).run P w=.ok () w'):
  (Builtin.append_ #[t,t] T #[.slice A sLen sCap,x]).run P w=.ok (.slice A (sLen+n) sCap) w':=by
 have hf:=hx.first (P:=P) w rfl
 obtain⟨X,c,rfl,_⟩:=hx;subst hs;cases A with
 |none=>
  subst hw;simp[Builtin.append_,run_underlying hu,sizeOf,typeInfo,hi,Builtin.lenOf,aP,hf]
 |some a=>simp[Builtin.append_,run_underlying hu,sizeOf,typeInfo,hi,Builtin.lenOf,aP,hf,hw]
theorem Ug {P}{w}{t e}{i}{z}{A sLen sCap n size x olds news} T (hu:P.underlying t=some (.slice e))(hi:P.info? e=some i)(hz:i.zero=some z)
  (hs:i.size=size) (hb:Rd w.heap (.slice A sLen sCap) sLen size olds) (hx:Rd w.heap x n size news) (hg:sCap<sLen+n) (h46:(sLen+n)*i.bytes≤140737488355328) (aee:sLen+n≤140737488355328):
  (Builtin.append_ #[t,t] T #[.slice A sLen sCap,x]).run P w=
   .ok (.slice (some ⟨w.heap.size,0,none⟩) (sLen+n) (grownCap w (sLen+n) sCap e)) (w.drew.alloc (.cells (olds.toArray++news.toArray++Builtin.zeroCells z.cells (grownCap w (sLen+n) sCap e-(sLen+n))) e)):=by
 have hf:=hx.first (P:=P) w.drew rfl
 have hfo:=hb.first (P:=P) w.drew rfl
 obtain⟨X,c,rfl,_⟩:=hx;subst hs;have hn:¬(sLen+n≤sCap):=by omega
 have aef:¬(9223372036854775807<((sLen:Int)+(n:Int))):=by omega
 have aeg:¬(281474976710656<Builtin.nextslicecap (sLen+n) sCap*i.bytes):=by
  have h1:=Nat.mul_le_mul_right i.bytes (nextslicecap_le hg);grind
 simp[Builtin.append_,run_underlying hu,sizeOf,typeInfo,zeroValue,hi,hz,Builtin.lenOf,Question.forced,hf,hfo,newRow,grownCap];grind
theorem DU z n:(Builtin.zeroCells z n).size=n*z.size:=by simp[Builtin.zeroCells]
theorem Uh {H F t}{xs ys:List t.den}{olds news:List Value}(hl:olds.length=xs.length*t.size)(hx:∀i h,qF H F t xs[i] (fun j=>olds[i*t.size+j]?))
  (hy:∀i h,qF H F t ys[i] (fun j=>news[i*t.size+j]?)):∀i h,qF H F t (xs++ys)[i] (fun j=>(olds++news)[i*t.size+j]?):=by
 intro i hi;by_cases h:i<xs.length
 ·rw[List.getElem_append_left h];refine vD (by simp) (by simp) t _ _ _ (fun j hj=>?_) (hx i h);have:=Nat.mul_le_mul_right t.size (show i+1≤xs.length by omega);grind
 ·rw[List.getElem_append_right (by omega)];refine vD (by simp) (by simp) t _ _ _ (fun j hj=>?_) (hy (i-xs.length) (by grind));have:=Nat.mul_le_mul_right t.size (show xs.length≤i by omega);rw[List.getElem?_append_right (by omega),hl]
  congr 1
  rw[Nat.sub_mul];omega
def IU (M:zK)(w:World)(v:zY)(u:vJ)(rv:Value)(w':World):Prop:=
 ∃M',w'.os=w.os∧w'.tape=w.tape∧w'.output=w.output∧M'.H=w'.heap∧M'.h=qK M.h u∧Ok M'∧vG M M'∧zV M' v rv
theorem IU.runs {P s M w w' v u rv}(h:IU M w v u rv w')(hr:s.run P w=.ok rv w'):qL P s M w v u:=by
 obtain⟨M',h⟩:=h;exact⟨_,_,M',hr,h⟩
theorem yDm {M w}(ok:Ok M)(hM:M.H=w.heap){nm t zs us e c}{u:vJ}(aT:M.h nm=none)
  (hg:∀p∈u,p.2=.gone∧∃o,M.h p.1=some o∧o.owned=true) (hc:zs.length≤c) (hs:c*t.size≤us.size) (hx:∀i h,qF M.H M.G t zs[i] (fun j=>us[i*t.size+j]?))
  {w':World} (hw:w'.heap=w.heap.push (.cells us e)∧w'.os=w.os∧w'.tape=w.tape∧w'.output=w.output):
  IU M w (.c (.osl nm none)) (u++[(nm,.arr true t zs)]) (.slice (some ⟨w.heap.size,0,none⟩) zs.length c) w':=by
 let C:qB:=⟨some M.H.size,zs.length,t.size,0,[]⟩;have hh:∀n',(qK M.h (u++[(nm,.arr true t zs)])) n'=if n'=nm then some (.arr true t zs) else qK M.h u n':=fun n'=>by
  rw[lC,Tu];by_cases e:n'=nm
  ·rw[if_pos e,e,yQ]
  ·rw[if_neg e,yT _ _ e]
 have hle:=Nat.mul_le_mul_right t.size hc;have:=zK.move_ok (M:=M) (nm:=nm) (o':=.arr true t zs) (C':=C) (h':=qK M.h (u++[(nm,.arr true t zs)])) (H':=M.H.push (.cells us e)) ok (fun j=>j∈u.map (·.1)) aT
  (fun j hj=>by
   obtain⟨p,hp,e⟩:=List.mem_map.1 hj;obtain⟨_,o,ho,iQ⟩:=hg p hp;refine⟨o,by simp_all,iQ,?_⟩;have bp:j≠nm:=by grind
   rw[hh,if_neg bp];exact Ua (by grind) hj)
  (by simp_all) (fun n' h1 h2=>by rw[hh,if_neg h2];exact DT h1) (by simp) (by grind) (fun b hb=>Dz (pR hb))
  (fun b hb=>by
   simp only[C,qB.fp] at hb;simp_all)
  (fun x=>⟨rfl,rfl,(by grind),us,e,AF,by simp,by omega,fun i hi=>vD x.G x.sameG t _ _ _ (by simp) (hx i hi)⟩)
 refine⟨_,hw.2.1,hw.2.2.1,hw.2.2.2,by show M.H.push _=_;simp_all,rfl,this.1,this.2,C,κset_same _ _ _,_,c,rfl,?_⟩;refine⟨hc,0,by rw[hM],by simp,?_⟩;have:qX (M.H.push (.cells us e)) M.H.size=us.size:=by simp[qX]
 show(0+c)*t.size≤qX (M.H.push (.cells us e)) M.H.size;simp_all
theorem yKq {P M w}(ok:Ok M)(hM:M.H=w.heap){nm t zs us e s c}{u:vJ}(aT:M.h nm=none)
  (hg:∀p∈u,p.2=.gone∧∃o,M.h p.1=some o∧o.owned=true) (hc:zs.length≤c) (hs:c*t.size≤us.size) (hx:∀i h,qF M.H M.G t zs[i] (fun j=>us[i*t.size+j]?))
  {w'} (hr:s.run P w=.ok (.slice (some ⟨w.heap.size,0,none⟩) zs.length c) w') (hw:w'.heap=w.heap.push (.cells us e)∧w'.os=w.os∧w'.tape=w.tape∧w'.output=w.output):
  qL P s M w (.c (.osl nm none)) (u++[(nm,.arr true t zs)]):=
 (yDm ok hM aT hg hc hs hx hw).runs hr
theorem yT7 {M:zK}{w:World}(ok:Ok M)(hM:M.H=w.heap){id nm:Nat}{t:Ty}{iy zs:List t.den}{C:qB}{H':Array Go.Obj}{c:Nat}{A:Option Addr}{w':World}
  (an:M.h id=some (.arr true t iy)) (hC:M.κ id=some C) (aT:M.h nm=none) (ee:H'.size=M.H.size) (hH:∀b,b∉C.fp→H'[b]? =M.H[b]?) (cS:∀b,qX H' b=qX M.H b)
  (hx:∀M',yO M M'→M'.H=H'→M'.G=M.G→match C.blk with
   |none=>zs=[]
   |some B=>∃vals e,H'[B]? =some (.cells vals e (0,0))∧zs.length*t.size≤vals.size∧∀i (h:i<zs.length),qF M'.H M'.G t zs[i] (fun j=>vals[i*t.size+j]?))
  (hA:match C.blk with
   |none=>A=none∧zs.length=0∧c=0
   |some B=>zs.length≤c∧∃a,A=some ⟨B,a,none⟩∧(c=0∨a=0)∧c*t.size≤qX M.H B)
  (hw:w'.heap=H'∧w'.os=w.os∧w'.tape=w.tape∧w'.output=w.output):
  IU M w (.c (.osl nm none)) [(id,.gone),(nm,.arr true t zs)] (.slice A zs.length c) w':=by
 obtain⟨C0,sn,hO⟩:=ok.obj id _ an;rw[hC] at sn;cases sn;obtain⟨fr,ff⟩:=II hO;have bp:id≠nm:=by grind
 let C':qB:=⟨C.blk,zs.length,t.size,0,[]⟩;have hh:∀n',(qK M.h [(id,.gone),(nm,.arr true t zs)]) n'=if n'=nm then some (.arr true t zs) else if n'=id then some .gone else M.h n':=fun n'=>by
  show(yJ (yJ M.h id .gone) nm _) n'=_;by_cases e:n'=nm
  ·rw[if_pos e,e,yQ]
  ·rw[if_neg e,yT _ _ e];by_cases e2:n'=id
   ·rw[if_pos e2,e2,yQ]
   ·rw[if_neg e2,yT _ _ e2]
 have:=zK.move_ok (M:=M) (nm:=nm) (o':=.arr true t zs) (C':=C') (h':=qK M.h [(id,.gone),(nm,.arr true t zs)]) (H':=H') ok (fun j=>j=id) aT
  (fun j hj=>⟨.arr true t iy,by rw[hj];exact an,rfl,by simp_all⟩)
  (by rw[hh,if_pos rfl]) (by grind) (by omega) (by grind) (fun b _=>cS b)
  (fun b hb=>.inr ⟨id,C,rfl,hC,by
   simp only[C',qB.fp,List.filterMap_nil,List.append_nil] at hb;rw[ff];exact hb⟩)
  (fun x=>by
   refine⟨rfl,rfl,(by grind),?_⟩;have:=hx _ x rfl rfl;show match C.blk with
    |none=>_
    |some B=>_
   cases hB:C.blk with
   |none=>simp_all
   |some B=>
    rw[hB] at this;obtain⟨vals,e,h1,h2,h3⟩:=this;exact⟨vals,e,h1,by simp,h2,h3⟩)
 refine⟨_,hw.2.1,hw.2.2.1,hw.2.2.2,by rw[hw.1];rfl,rfl,this.1,this.2,C',κset_same _ _ _,_,c,rfl,?_⟩;show match C.blk with
  |none=>_
  |some B=>_
 cases hB:C.blk with
 |none=>rw[hB] at hA;exact hA
 |some B=>
  rw[hB] at hA;obtain⟨h1,a,h2,h3,h4⟩:=hA;refine⟨h1,a,h2,by simpa using h3,?_⟩;show(0+c)*t.size≤qX H' B;simp_all
theorem Ui {P M w}(ok:Ok M)(hM:M.H=w.heap){id nm t iy zs C H' s c A w'}
  (an:M.h id=some (.arr true t iy)) (hC:M.κ id=some C) (aT:M.h nm=none) (ee:H'.size=M.H.size) (hH:∀b,b∉C.fp→H'[b]? =M.H[b]?) (cS:∀b,qX H' b=qX M.H b)
  (hx:∀M',yO M M'→M'.H=H'→M'.G=M.G→match C.blk with
   |none=>zs=[]
   |some B=>∃vals e,H'[B]? =some (.cells vals e (0,0))∧zs.length*t.size≤vals.size∧∀i h,qF M'.H M'.G t zs[i] (fun j=>vals[i*t.size+j]?))
  (hA:match C.blk with
   |none=>A=none∧zs.length=0∧c=0
   |some B=>zs.length≤c∧∃a,A=some ⟨B,a,none⟩∧(c=0∨a=0)∧c*t.size≤qX M.H B)
  (hw:w'.heap=H'∧w'.os=w.os∧w'.tape=w.tape∧w'.output=w.output) (hr:s.run P w=.ok (.slice A zs.length c) w'):
  qL P s M w (.c (.osl nm none)) [(id,.gone),(nm,.arr true t zs)]:=
 (yT7 ok hM an hC aT ee hH cS hx hA hw).runs hr
theorem IV {n b}(h:(Nat.ble (n*b) 140737488355328&&Nat.ble n 140737488355328)=true):n*b≤140737488355328∧n≤140737488355328:=by
 simp_all
theorem Uj {H H' F F'}:∀t x rd,t.flat=true→qF H F t x rd→qF H' F' t x rd
 |.int k,n,rd,_,h
 |.bool,n,rd,_,h=>h
 |.pair a b,p,rd,hf,h=>by
  simp[Ty.flat] at hf;exact⟨Uj a _ _ hf.1 h.1,Uj b _ _ hf.2 h.2⟩
theorem yCz {M:zK}{sh s}{xs:List s.den}{v}(hs:(sh||s.flat)=true)(hv:qF M.H (bif sh then M.G else M.F) (.sl s) xs (fun _=>some v)):
  ∃news,Rd M.H v xs.length s.size news∧∀i hi,qF M.H M.G s xs[i] (fun j=>news[i*s.size+j]?):=by
 obtain⟨news,h1,h2⟩:=Uf hv;refine⟨news,h1,fun i hi=>?_⟩;cases sh with
 |true=>simp_all
 |false=>exact Uj _ _ _ hs (h2 i hi)
theorem yL3 {M}(ok:Ok M){t x ys u v}(hv:zX M x v)(h:tG M.h t x=some (ys,u)):
  u=[]∧∃news,Rd M.H v ys.length t.size news∧∀i hi,qF M.H M.G t ys[i] (fun j=>news[i*t.size+j]?):=by
 unfold tG at h;split at h
 ·cases h;have e:v=.slice none 0 0:=hv;subst e;exact⟨rfl,IT⟩
 ·rename_i sh s xs;cases hs:(sh||s.flat) with
  |false=>simp_all
  |true=>
   rw[hs] at h;simp  at h;obtain⟨zs,hz,rfl,rfl⟩:=h;obtain⟨e,hz⟩:=lD hz;subst e;subst hz;exact⟨rfl,yCz hs hv⟩
 ·rename_i sh s xs;cases hs:(sh||s.flat) with
  |false=>rw[hs] at h;cases h
  |true=>
   rw[hs] at h;simp  at h;obtain⟨zs,hz,rfl,rfl⟩:=h;obtain⟨e,hz⟩:=lD hz;subst e;subst hz;exact⟨rfl,yCz hs hv.2⟩
 ·split at h
  ·rename_i own s xs an;simp  at h;obtain⟨zs,hz,rfl,rfl⟩:=h;obtain⟨e,hz⟩:=lD hz;subst e;subst hz;obtain⟨C,hC,hO⟩:=ok.obj _ _ an;exact⟨rfl,AT hC hO hv⟩
  ·cases h
 ·cases h
theorem vP6 {P M w}(ok:Ok M)(hM:M.H=w.heap){nm t e T ty x ys news}(hu:P.underlying t=some (.slice e))(dK:ky P e=some ty)(aT:M.h nm=none)
  (hx:Rd M.H x ys.length ty.size news) (hE:∀i hi,qF M.H M.G ty ys[i] (fun j=>news[i*ty.size+j]?)) (aP:ys.length*P.bytesOf e≤140737488355328∧ys.length≤140737488355328):
  qL P (Builtin.append_ #[t,t] T #[.slice none 0 0,x]) M w (.c (.osl nm none)) [(nm,.arr true ty ys)]:=by
 obtain⟨i,z,h1,h2,h3,h4,h5,h6,h7⟩:=sk dK;by_cases h0:ys.length=0
 ·have hy:ys=[]:=by grind
  subst hy;have hr:=sm (P:=P) (w:=w) (A:=none) (sLen:=0) (sCap:=0) T hu h1 h3 (by rw[←hM];exact hx) (by simp) w rfl;let C:qB:=⟨none,0,ty.size,0,[]⟩;have:=zK.move_ok (M:=M) (nm:=nm) (o':=.arr true ty []) (C':=C) (h':=yJ M.h nm (.arr true ty [])) (H':=M.H) ok (fun _=>False) aT (by simp) (yQ _ _ _)
   (fun n' _ h2=>yT _ _ h2) (by simp) (by simp) (by simp) (nofun) (fun x=>⟨rfl,rfl,by grind,rfl⟩)
  exact⟨_,_,M.move nm C (yJ M.h nm (.arr true ty [])) M.H,hr,rfl,rfl,rfl,hM,rfl,this.1,this.2,C,κset_same _ _ _,_,_,rfl,rfl,rfl,rfl⟩
 ·have hb:Rd w.heap (.slice none 0 0) 0 ty.size []:=⟨none,0,rfl,by simp,by simp,rfl⟩;have hr:=Ug (P:=P) (w:=w) T hu h1 h2 h3 hb (by rw[←hM];exact hx) (by omega) (by simp_all) (by omega);simp  at hr;have hlen:news.length=ys.length*ty.size:=hx.choose_spec.choose_spec.2.1;have oU:=grownCap_ge w ys.length 0 e;refine yKq (u:=[]) ok hM aT (by simp) oU ?_ (fun i hi=>?_) hr ⟨rfl,rfl,rfl,rfl⟩
  ·simp[DU,h7,hlen,←Nat.add_mul];simp_all
  ·refine vD (by simp) (by simp) ty _ _ _ (fun j hj=>?_) (hE i hi);have:=Nat.mul_le_mul_right ty.size (show i+1≤ys.length by omega);grind
theorem Uk {P}{M w}(ok:Ok M)(hM:M.H=w.heap){id nm t e T ty x b iy ys r news}(hu:P.underlying t=some (.slice e))(dK:ky P e=some ty)
  (aT:M.h nm=none) (an:M.h id=some (.arr true ty iy)) (hb:zX M (.osl id r) b) (tR:match r with|none=>True|some (lo,_)=>lo=0)
  (hx:Rd M.H x ys.length ty.size news) (hE:∀i hi,qF M.H M.G ty ys[i] (fun j=>news[i*ty.size+j]?))
  (aP:((j7 iy r).length+ys.length)*P.bytesOf e≤140737488355328∧(j7 iy r).length+ys.length≤140737488355328):
  qL P (Builtin.append_ #[t,t] T #[b,x]) M w (.c (.osl nm none)) [(id,.gone),(nm,.arr true ty (j7 iy r++ys))]:=by
 obtain⟨i,z,h1,h2,h3,h4,h5,h6,h7⟩:=sk dK;obtain⟨C,hC,hO⟩:=ok.obj id _ an;obtain⟨olds,ho,hEo⟩:=AT hC hO hb;have hlen:news.length=ys.length*ty.size:=hx.choose_spec.choose_spec.2.1;have nh:olds.length=(j7 iy r).length*ty.size:=ho.choose_spec.choose_spec.2.1;obtain⟨C',aE,hS⟩:=hb;rw[hC] at aE;cases aE;have oZ:∃n,(j7 iy r).length=n∧jK M.H C 0 n b:=by
  cases r with
  |none=>exact⟨C.len,by rw[hO.1];rfl,hS⟩
  |some p=>
   obtain⟨lo,n⟩:=p;have:lo=0:=tR;subst this;exact⟨n,DE (by have:=hO.1;have:=hS.1;omega),hS.2.1⟩
 obtain⟨n,hn,A,sCap,rfl,oZ⟩:=oZ;rw[hn] at nh ho aP;have bj:=Uh (H:=M.H) (F:=M.G) (t:=ty) (xs:=j7 iy r) (ys:=ys) (olds:=olds) (news:=news) (by rw[hn];exact nh) hEo hE;have so:(j7 iy r++ys).length=n+ys.length:=by rw[List.length_append,hn]
 by_cases cU:n+ys.length≤sCap
 ·
  cases hB:C.blk with
  |none=>
   rw[hB] at oZ;obtain⟨rfl,rfl,rfl⟩:=oZ;have hr:=sm (P:=P) (w:=w) (A:=none) (sLen:=0) (sCap:=0) T hu h1 h3 (by rw[←hM];exact hx) cU w rfl;rw[←so] at hr;refine Ui (s:=Builtin.append_ #[t,t] T #[.slice none 0 0,x]) (H':=M.H) ok hM an hC aT rfl (fun _ _=>rfl) (fun _=>rfl) (fun M' _ _ _=>?_) ?_ ⟨hM.symm,rfl,rfl,rfl⟩ hr
   ·rw[hB];exact List.eq_nil_of_length_eq_zero (by omega)
   ·rw[hB];exact⟨rfl,by omega,rfl⟩
  |some B=>
   rw[hB] at oZ;obtain⟨hc,a,rfl,ha,hs⟩:=oZ;obtain⟨k1,k2,k3,k4⟩:=hO;rw[hB] at k4;obtain⟨vals,ev,k5,k6,k7,k8⟩:=k4;rw[Nat.zero_mul] at ha;rw[Nat.zero_add,k2] at hs;have cS:qX M.H B=vals.size:=by simp only[qX,k5]
   rw[cS] at hs;have ka:w.heap[B]? =some (.cells vals ev (0,0)):=by rw[←hM];exact k5
   by_cases h0:sCap=0
   ·
    have DV:n=0:=by omega
    have Ul:ys.length=0:=by omega
    have hr := sm (P := P) (w := w) (A := some ⟨B, a, none⟩) (sLen := n) (sCap := sCap) T hu h1 h3 (by rw [← hM]; exact hx) cU w (by
     have:news=[]:=List.eq_nil_of_length_eq_zero (by rw[hlen,Ul,Nat.zero_mul]);rw[this];rfl)
    rw[←so] at hr;have NM:j7 iy r++ys=[]:=List.eq_nil_of_length_eq_zero (by omega);refine Ui (s:=Builtin.append_ #[t,t] T #[.slice (some ⟨B,a,none⟩) n sCap,x]) (H':=M.H) ok hM an hC aT rfl (fun _ _=>rfl) (fun _=>rfl) (fun M' _ _ _=>?_) ?_ ⟨hM.symm,rfl,rfl,rfl⟩ hr
    ·rw[hB];refine⟨vals,ev,k5,by rw[NM];simp,fun i hi=>?_⟩;rw[NM] at hi;simp at hi
    ·rw[hB];exact⟨by omega,a,rfl,.inl h0,by rw[h0];simp⟩
   ·have nQ:a=0:=by rcases ha with ha|ha<;>omega
    subst nQ;have hle:=Nat.mul_le_mul_right ty.size cU;rw[Nat.add_mul] at hle;have aK:n*ty.size+news.length≤vals.size:=by omega
    have dr:=run_storeCells_at (P:=P) B (n*ty.size) ev news 0 vals w ka (by simpa using aK) (fun v hv=>AG (hx.choose_spec.choose_spec.2.2.1 v hv));simp only[Nat.add_zero] at dr;have hr:=sm (P:=P) (w:=w) (A:=some ⟨B,0,none⟩) (sLen:=n) (sCap:=sCap) T hu h1 h3 (by rw[←hM];exact hx) cU (w.setRow B (yV vals (n*ty.size) news)) (by show(storeCells (Addr.add ⟨B,0,none⟩ (n*ty.size)) news).run P w=_;rw[Addr.add_lit,Nat.zero_add];exact dr);rw[←so] at hr;obtain⟨f1,f2,f3,f4⟩:=oW ka (new:=yV vals (n*ty.size) news) (gV aK);refine Ui (s:=Builtin.append_ #[t,t] T #[.slice (some ⟨B,0,none⟩) n sCap,x]) (H':=(w.setRow B (yV vals (n*ty.size) news)).heap) ok hM an hC aT (by rw[hM];exact f1)
     (fun b hb=>by rw[hM];exact f3 b fun e=>hb (e▸ga hB)) (fun b=>by rw[hM];exact f4 b) (fun M' xt hH hG=>?_) ?_ ⟨rfl,rfl,rfl,rfl⟩ hr
    ·rw[hB];refine⟨_,ev,f2,by rw[so,gV aK,Nat.add_mul];omega,fun i hi=>?_⟩;refine vD xt.G xt.sameG ty _ _ _ (fun j hj=>?_) (bj i hi);have aS:=Nat.mul_le_mul_right ty.size (show i+1≤n+ys.length by omega);rw[Nat.add_mul,Nat.add_mul] at aS;rw[eu aK];by_cases bn:i*ty.size+j<n*ty.size
     ·rw[if_pos bn,List.getElem?_append_left (by omega)];obtain⟨A',c',e1,_,_,hold⟩:=ho;simp only[Value.slice.injEq] at e1;obtain⟨rfl,_,rfl⟩:=e1;rcases hold with DV|⟨_,hold⟩
      ·rw[DV] at bn;omega
      ·have sr:i*ty.size+j<olds.length:=by omega
       have:=hold (i*ty.size+j) olds[i*ty.size+j] (List.getElem?_eq_getElem sr);rw[List.getElem?_eq_getElem sr,←this];simp only[yS,k5,Nat.zero_add]
     ·rw[if_neg bn,if_pos (by omega),List.getElem?_append_right (by omega),nh]
    ·rw[hB];exact by grind
 ·
  have hr:=Ug (P:=P) (w:=w) T hu h1 h2 h3 (by rw[←hM];exact ho) (by rw[←hM];exact hx) (by omega) (by rw[h6] at aP;exact aP.1) aP.2;have oU:=grownCap_ge w (n+ys.length) sCap e;rw[←so] at hr oU;refine yKq (s:=Builtin.append_ #[t,t] T #[.slice A n sCap,x]) (u:=[(id,.gone)]) ok hM aT (fun p hp=>?_) oU ?_ (fun i hi=>?_) hr ⟨rfl,rfl,rfl,rfl⟩
  ·simp only[List.mem_singleton] at hp;subst hp;exact⟨rfl,_,an,rfl⟩
  ·simp only[Array.size_append,List.size_toArray,DU,h7,hlen,nh,←Nat.add_mul];exact Nat.le_of_eq (by congr 1;omega)
  ·refine vD (fun _ h=>h) (fun _ _=>rfl) ty _ _ _ (fun j hj=>?_) (bj i hi);have:=Nat.mul_le_mul_right ty.size (show i+1≤n+ys.length by omega);rw[Nat.add_mul,Nat.add_mul] at this;rw[Array.getElem?_append_left (by simp;omega)];simp
def DW (H:Array Go.Obj)(row:List Int)(m:Option (Option Nat×Nat))(c:Option Value):Prop:=∃rb v,m=some (rb,row.length)∧c=some v∧mU H rb row.length v∧
 (∀R,rb=some R→∃rv er,H[R]? =some (.cells rv er (0,0))∧∀j (h':j<row.length),rv[j]? =some (.int .i64 row[j]))
theorem ySl {M ver xs C}(h:yZ M (.mat ver xs) C):C.len=xs.length∧C.sz=1∧C.rows.length=xs.length∧C.fp.Nodup∧
  ∃cM:List Value,cM.length=xs.length∧(∀k (h:k<xs.length),DW M.H xs[k] C.rows[k]? cM[k]?)∧
   (match C.blk with
    |none=>xs=[]
    |some B=>∃vals e,M.H[B]? =some (.cells vals e (0,0))∧xs.length≤vals.size∧∀k,k<xs.length→vals[k]? =cM[k]?):=by
 obtain⟨h1,h2,h3,h4,h5,h6⟩:=h;refine⟨h2,h3,h4,h5,?_⟩;cases hB:C.blk with
 |none=>
  simp_all
 |some B=>
  rw[hB] at h6;obtain⟨vals,e,h7,h8,h9⟩:=h6;refine⟨vals.toList.take xs.length,by simp;omega,fun k hk=>?_,vals,e,h7,h8,by grind⟩;obtain⟨rb,v,k1,k2,k3,k4⟩:=h9 k hk;exact⟨rb,v,k1,by grind,k3,k4⟩
theorem DW.one {H row m v}(h:DW H row m (some v)):v.one1=true:=by
 obtain⟨rb,v',_,e,h,_⟩:=h;cases e;exact h.one
theorem yWy {M}{xs:List (List Int)}{C id v}(hC:M.κ id=some C)(hv:zX M (.osl id none) v){cM}(hl:cM.length=xs.length)(hlen:C.len=xs.length)(ee:C.sz=1)
  (cy : ∀ u ∈ cM, u.one1 = true) (hb:match C.blk with
    |none=>xs=[]
    |some B=>∃vals e,M.H[B]? =some (.cells vals e (0,0))∧xs.length≤vals.size∧∀k,k<xs.length→vals[k]? =cM[k]?):Rd M.H v xs.length 1 cM:=by
 obtain⟨C',aE,A,c,rfl,hS⟩:=hv;rw[hC] at aE;cases aE;rw[hlen];refine⟨A,c,rfl,by omega,cy,?_⟩;cases hB:C.blk with
 |none=>
  simp_all
 |some B=>
  rw[hB] at hS hb;obtain⟨hc,a,rfl,ha,_⟩:=hS;obtain⟨vals,e,h1,h2,h3⟩:=hb;by_cases h0:xs.length=0
  ·omega
  ·refine .inr ⟨rfl,fun j u hu=>?_⟩;have nQ:a=0:=by omega
   have hj:j<xs.length:=by
    grind
   simp[yS];simp_all
theorem yYy {C D:qB}(hC:C.fp.Nodup)(hD:D.fp.Nodup)(ez:∀b,b∈C.fp→b∉D.fp):((C.rows++D.rows).filterMap (·.1)).Nodup:=by
 rw[List.filterMap_append];refine List.nodup_append.2 ⟨(List.nodup_append.1 hC).2.1,(List.nodup_append.1 hD).2.1,fun a ha b hb e=>?_⟩;exact ez a (by simp[qB.fp];simp_all) (by simp[qB.fp];simp_all)
theorem NO {P M w w'}(ok:Ok M)(hM:M.H=w.heap){id jd nm v1 v2 xs ys C Cj C' s A c H'}
  (an:M.h id=some (.mat v1 xs)) (dj:M.h jd=some (.mat v2 ys)) (bp:id≠jd) (hC:M.κ id=some C) (eZ:M.κ jd=some Cj) (aT:M.h nm=none) (ee:M.H.size≤H'.size)
  (hH:∀b,b<M.H.size→C.blk≠some b→H'[b]? =M.H[b]?) (cS:∀b,b<M.H.size→qX H' b=qX M.H b)
  (hl:C'.len=(xs++ys).length) (DX:C'.sz=1) (AU:C'.ver=0) (ni:C'.rows=C.rows++Cj.rows) (Um:∀B,C'.blk=some B→(M.H.size≤B∧B<H'.size)∨C.blk=some B)
  (hx:match C'.blk with
   |none=>xs++ys=[]
   |some B=>∃vals e,H'[B]? =some (.cells vals e (0,0))∧(xs++ys).length≤vals.size∧∀k (h:k<(xs++ys).length),DW M.H (xs++ys)[k] (C.rows++Cj.rows)[k]? vals[k]?)
  (hA:jK H' C' 0 C'.len (.slice A (xs++ys).length c))
  (hw:w'.heap=H'∧w'.os=w.os∧w'.tape=w.tape∧w'.output=w.output) (hr:s.run P w=.ok (.slice A (xs++ys).length c) w'):
  qL P s M w (.c (.osl nm none)) [(id,.gone),(jd,.gone),(nm,.mat 0 (xs++ys))]:=by
 obtain⟨C0,sn,hO⟩:=ok.obj id _ an;rw[hC] at sn;cases sn;obtain⟨C1,iP,nR⟩:=ok.obj jd _ dj;rw[eZ] at iP;cases iP;have Un:=hO.2.2.2.2.1;have ndD:=nR.2.2.2.2.1;have ez:∀b,b∈C.fp→b∉Cj.fp:=fun b h1 h2=>ok.disj id jd _ _ C Cj b bp an dj rfl rfl hC eZ h1 h2
 have NP:id≠nm:=by grind
 have hnj:jd≠nm:=by grind
 have hh:∀n',(qK M.h [(id,.gone),(jd,.gone),(nm,.mat 0 (xs++ys))]) n'=if n'=nm then some (.mat 0 (xs++ys)) else if n'=jd then some .gone else if n'=id then some .gone else M.h n':=fun n'=>by
  show(yJ (yJ (yJ M.h id .gone) jd .gone) nm _) n'=_;by_cases e:n'=nm
  ·rw[if_pos e,e,yQ]
  ·rw[if_neg e,yT _ _ e];by_cases e2:n'=jd
   ·rw[if_pos e2,e2,yQ]
   ·rw[if_neg e2,yT _ _ e2];by_cases e3:n'=id
    ·rw[if_pos e3,e3,yQ]
    ·rw[if_neg e3,yT _ _ e3]
 have IW:∀b∈C.fp,b<M.H.size:=fun b hb=>(ok.own b ⟨id,_,C,an,rfl,hC,hb⟩).2
 have IX:∀b∈Cj.fp,b<M.H.size:=fun b hb=>(ok.own b ⟨jd,_,Cj,dj,rfl,eZ,hb⟩).2
 have aZ:∀R∈(C.rows++Cj.rows).filterMap (·.1),R∈C.fp∧C.blk≠some R∨R∈Cj.fp:=fun R hR=>by
  rw[List.filterMap_append] at hR;rcases List.mem_append.1 hR with h|h
  ·refine .inl ⟨by simp only[qB.fp,List.mem_append];exact .inr h,fun e=>?_⟩;exact(List.nodup_append.1 Un).2.2 R (by simp[e]) R h rfl
  ·exact .inr (by simp only[qB.fp,List.mem_append];exact .inr h)
 have IY:∀R∈(C.rows++Cj.rows).filterMap (·.1),R<M.H.size∧C.blk≠some R:=fun R hR=>by
  rcases aZ R hR with⟨h1,h2⟩|h
  ·exact⟨IW R h1,h2⟩
  ·exact⟨IX R h,fun e=>ez R (ga e) h⟩
 have nd':C'.fp.Nodup:=by
  simp only[qB.fp,ni];cases hB:C'.blk with
  |none=>simpa using yYy Un ndD ez
  |some B=>
   simp only[Option.toList_some,List.singleton_append];refine List.nodup_cons.2 ⟨fun hm=>?_,yYy Un ndD ez⟩;grind
 have:=zK.move_ok (M:=M) (nm:=nm) (o':=.mat 0 (xs++ys)) (C':=C') (h':=qK M.h [(id,.gone),(jd,.gone),(nm,.mat 0 (xs++ys))]) (H':=H') ok (fun j=>j=id∨j=jd) aT
  (fun j hj=>by
   rcases hj with rfl|rfl
   ·exact⟨_,an,rfl,by rw[hh,if_neg NP,if_neg bp,if_pos rfl]⟩
   ·exact⟨_,dj,rfl,by rw[hh,if_neg hnj,if_pos rfl]⟩)
  (by rw[hh,if_pos rfl]) (fun n' h1 h2=>by rw[hh,if_neg h2,if_neg (fun e=>h1 (.inr e)),if_neg (fun e=>h1 (.inl e))]) ee
  (fun b hb hn=>hH b hb fun e=>hn id C (.inl rfl) hC (ga e)) cS
  (fun b hb=>by
   simp only[qB.fp,ni,List.mem_append] at hb;rcases hb with hb|hb
   ·cases hB:C'.blk with
    |none=>rw[hB] at hb;simp at hb
    |some B=>
     rw[hB] at hb;simp at hb;subst hb;rcases Um b hB with h|h
     ·exact .inl h
     ·exact .inr ⟨id,C,.inl rfl,hC,ga h⟩
   simp_all)
  (fun x=>by
   refine⟨AU,hl,DX,?_,nd',?_⟩
   ·rw[ni,List.length_append,hO.2.2.2.1,nR.2.2.2.1,List.length_append]
   ·cases hB:C'.blk with
    |none=>rw[hB] at hx;exact hx
    |some B=>
     rw[hB] at hx;obtain⟨vals,e,k1,k2,k3⟩:=hx;refine⟨vals,e,k1,k2,fun k hk=>?_⟩;obtain⟨rb,v,q1,q2,q3,q4⟩:=k3 k hk;refine⟨rb,v,by rw[ni];exact q1,q2,q3.ext x,fun R hR=>?_⟩;obtain⟨rv,er,q5,q6⟩:=q4 R hR;have hRm:=IY R (List.mem_filterMap.2 ⟨_,List.mem_of_getElem? q1,hR⟩);exact⟨rv,er,by show H'[R]? =_;rw[hH R hRm.1 hRm.2];exact q5,q6⟩)
 exact⟨_,_,M.move nm C' (qK M.h [(id,.gone),(jd,.gone),(nm,.mat 0 (xs++ys))]) H',hr,hw.2.1,hw.2.2.1,hw.2.2.2,hw.1.symm,rfl,this.1,this.2,C',κset_same _ _ _,by rw[hl] at hA⊢;exact hA⟩
theorem Uo {H}{xs:List (List Int)}{rc:List (Option Nat×Nat)}{cM:List Value}(hl:cM.length=xs.length)(h:∀k (h:k<xs.length),DW H xs[k] rc[k]? cM[k]?):∀u∈cM,u.one1=true:=by
 intro u hu;obtain⟨k,hk,rfl⟩:=List.getElem_of_mem hu;have:=h k (by omega);rw[List.getElem?_eq_getElem hk] at this;exact this.one
theorem Uq {P M w}(ok:Ok M)(hM:M.H=w.heap){id jd nm v1 v2 t e T x b xs ys}(hu:P.underlying t=some (.slice e))(dK:ky P e=some (.sl (.int .i64)))
  (aT:M.h nm=none) (an:M.h id=some (.mat v1 xs)) (dj:M.h jd=some (.mat v2 ys)) (bp:id≠jd) (hb:zX M (.osl id none) b) (hx:zX M (.osl jd none) x)
  (aP:(xs.length+ys.length)*P.bytesOf e≤140737488355328∧xs.length+ys.length≤140737488355328):
  qL P (Builtin.append_ #[t,t] T #[b,x]) M w (.c (.osl nm none)) [(id,.gone),(jd,.gone),(nm,.mat 0 (xs++ys))]:=by
 obtain⟨i,z,h1,h2,h3,h4,h5,h6,h7⟩:=sk dK;obtain⟨C,hC,hO⟩:=ok.obj id _ an;obtain⟨Cj,eZ,nR⟩:=ok.obj jd _ dj;obtain⟨a1,a2,a3,a4,olds,a5,a6,a7⟩:=ySl hO;obtain⟨b1,b2,b3,b4,news,b5,b6,b7⟩:=ySl nR;have ho:=yWy hC hb a5 a1 a2 (Uo a5 a6) a7;have hn:=yWy eZ hx b5 b1 b2 (Uo b5 b6) b7;have so:(xs++ys).length=xs.length+ys.length:=List.length_append;have cy:=Uo b5 b6;have bj:∀k (h:k<(xs++ys).length),DW M.H (xs++ys)[k] (C.rows++Cj.rows)[k]? (olds++news)[k]? :=by
  intro k hk;by_cases bn:k<xs.length
  ·rw[List.getElem_append_left bn,List.getElem?_append_left (by omega),List.getElem?_append_left (by omega)];exact a6 k bn
  ·rw[List.getElem_append_right (by omega),List.getElem?_append_right (by omega),List.getElem?_append_right (by omega),a3,a5];exact b6 _ (by omega)
 obtain⟨C',aE,A,sCap,rfl,oZ⟩:=hb;rw[hC] at aE;cases aE;rw[a1] at ho oZ;have tU:i.size=1:=h3;have T5:z.cells.size=1:=h7;by_cases cU:xs.length+ys.length≤sCap
 ·cases hB:C.blk with
  |none=>
   rw[hB] at oZ;obtain⟨rfl,h0,rfl⟩:=oZ;have hr:=sm (P:=P) (w:=w) (A:=none) (sLen:=xs.length) (sCap:=0) T hu h1 tU (by rw[←hM];exact hn) cU w rfl;rw[←so] at hr;have cP:xs++ys=[]:=List.eq_nil_of_length_eq_zero (by omega);rw[a1];refine NO (C':=⟨none,(xs++ys).length,1,0,C.rows++Cj.rows⟩) (H':=M.H) ok hM an dj bp hC eZ aT (Nat.le_refl _) (fun _ _ _=>rfl) (fun _ _=>rfl) rfl rfl rfl rfl (fun B hB=>by cases hB) cP ⟨none,0,rfl,rfl,(by show(xs++ys).length=0;omega),rfl⟩ ⟨hM.symm,rfl,rfl,rfl⟩ hr
  |some B=>
   rw[hB] at oZ a7;obtain⟨hc,a,rfl,ha,hs⟩:=oZ;obtain⟨vals,ev,k5,k6,k7⟩:=a7;rw[Nat.zero_mul] at ha;rw[Nat.zero_add,a2,Nat.mul_one] at hs;have cS:qX M.H B=vals.size:=by simp only[qX,k5]
   rw[cS] at hs;have ka:w.heap[B]? =some (.cells vals ev (0,0)):=by rw[←hM];exact k5
   by_cases h0:sCap=0
   ·have hr := sm (P := P) (w := w) (A := some ⟨B, a, none⟩) (sLen := xs.length) (sCap := sCap) T hu h1 tU (by rw [← hM]; exact hn) cU w (by
     have:news=[]:=List.eq_nil_of_length_eq_zero (by omega);rw[this];rfl)
    rw[←so] at hr;have cP:xs++ys=[]:=List.eq_nil_of_length_eq_zero (by omega);rw[a1];refine NO (C':=⟨some B,(xs++ys).length,1,0,C.rows++Cj.rows⟩) (H':=M.H) ok hM an dj bp hC eZ aT (Nat.le_refl _) (fun _ _ _=>rfl) (fun _ _=>rfl) rfl rfl rfl rfl (fun B' kF=>.inr (by cases kF;exact hB))
     ⟨vals,ev,k5,by rw[cP];simp,fun k hk=>by rw[cP] at hk;simp at hk⟩ ⟨_,sCap,rfl,(by show(xs++ys).length≤sCap;omega),a,rfl,.inl h0,by rw[h0];simp⟩ ⟨hM.symm,rfl,rfl,rfl⟩ hr
   ·have nQ:a=0:=by rcases ha with ha|ha<;>omega
    subst nQ;have aK:xs.length+news.length≤vals.size:=by omega
    have dr:=run_storeCells_at (P:=P) B xs.length ev news 0 vals w ka (by simpa using aK) (fun v hv=>AG (cy v hv));simp only[Nat.add_zero] at dr;have hr:=sm (P:=P) (w:=w) (A:=some ⟨B,0,none⟩) (sLen:=xs.length) (sCap:=sCap) T hu h1 tU (by rw[←hM];exact hn) cU (w.setRow B (yV vals xs.length news))
     (by show(storeCells (Addr.add ⟨B,0,none⟩ (xs.length*1)) news).run P w=_;rw[Addr.add_lit,Nat.zero_add,Nat.mul_one];exact dr)
    rw[←so] at hr;obtain⟨f1,f2,f3,f4⟩:=oW ka (new:=yV vals xs.length news) (gV aK);rw[a1];refine NO (C':=⟨some B,(xs++ys).length,1,0,C.rows++Cj.rows⟩) (H':=(w.setRow B (yV vals xs.length news)).heap) ok hM an dj bp hC eZ aT (by rw[hM,f1];exact Nat.le_refl _) (fun b hb hn=>by rw[hM];exact f3 b fun e=>hn (e▸hB))
     (fun b _=>by rw[hM];exact f4 b) rfl rfl rfl rfl (fun B' kF=>.inr (by cases kF;exact hB)) ⟨_,ev,f2,by rw[gV aK];omega,fun k hk=>?_⟩ ⟨_,sCap,rfl,(by show(xs++ys).length≤sCap;omega),0,rfl,.inr (by simp),by show(0+sCap)*1≤qX _ B;rw[f4,←hM,cS];omega⟩ ⟨rfl,rfl,rfl,rfl⟩ hr
    have:=bj k hk;rw[eu aK];by_cases bn:k<xs.length
    ·rw[if_pos bn,k7 k bn];rw[List.getElem?_append_left (l₁:=olds) (by omega)] at this;exact this
    ·rw[if_neg bn,if_pos (by omega)];rw[List.getElem?_append_right (l₁:=olds) (by omega),a5] at this;exact this
 ·have hr:=Ug (P:=P) (w:=w) T hu h1 h2 tU (by rw[←hM];exact ho) (by rw[←hM];exact hn) (by omega) (by rw[h6] at aP;exact aP.1) aP.2;have oU:=grownCap_ge w (xs.length+ys.length) sCap e;rw[←so] at hr oU;generalize oV:olds.toArray++news.toArray++Builtin.zeroCells z.cells (grownCap w (xs++ys).length sCap e-(xs++ys).length)=us at hr;have Ur:us.size=grownCap w (xs++ys).length sCap e:=by
   rw[←oV];simp only[Array.size_append,List.size_toArray,DU,T5];omega
  have Us:∀k,k<(xs++ys).length→us[k]? =(olds++news)[k]? :=fun k hk=>by
   rw[←oV,Array.getElem?_append_left (by simp;omega)];simp
  have hbz:∀us:Array Value,qX (M.H.push (.cells us e)) M.H.size=us.size:=fun us=>by simp[qX]
  rw[a1];refine NO (C':=⟨some M.H.size,(xs++ys).length,1,0,C.rows++Cj.rows⟩) (H':=M.H.push (.cells us e)) (w':=w.drew.alloc (.cells us e)) ok hM an dj bp hC eZ aT (by simp) (fun b hb _=>pR hb) (fun b hb=>Dz (pR hb)) rfl rfl rfl rfl
   (fun B' kF=>.inl (by cases kF;exact⟨Nat.le_refl _,by simp⟩)) ⟨us,e,AF,by omega,fun k hk=>?_⟩ ⟨_,_,rfl,oU,0,by rw[hM],.inr (by simp),(by rw[hbz,Ur];show(0+_)*1≤_;omega)⟩ ⟨(by rw[hM];rfl),rfl,rfl,rfl⟩ hr
  rw[Us k hk];exact bj k hk
theorem AV {c s v u}(h:yL (bif c then s else .stuck) v u):c=true∧yL s v u:=by
 cases c with
 |true=>simp_all
 |false=>exact h.elim
theorem vGd {c a b v u}(h:yL (bif c then a else b) v u):(c=true∧yL a v u)∨(c=false∧yL b v u):=by
 grind
theorem yFw {z:Value}{t}(h:z.cells.toList=iw t)(hs:z.cells.size=t.size){n i j}(hj:j<t.size)(hi:i<n):(Builtin.zeroCells z.cells n).toList[i*t.size+j]? =(iw t)[j]? :=by
 have aS:=Nat.mul_le_mul_right t.size (show i+1≤n by omega);rw[List.getElem?_eq_getElem (l:=iw t) (by grind),←ySc h hs (i:=i) hj];simp[Builtin.zeroCells];grind
theorem vQj {z:Value}{t}(h:z.cells.toList=iw t)(hs:z.cells.size=t.size){n}:∀v∈(Builtin.zeroCells z.cells n).toList,v.one1=true:=by
 intro v hv;have hz:∀u∈iw t,u.one1=true:=by
  clear h hs hv
  induction t with
  |pair a b DP DQ=>
   intro u hu;rcases List.mem_append.1 hu with hu|hu
   all_goals simp_all
  |_=>
   intro u hu;rw[List.mem_singleton.1 hu];rfl
 obtain⟨k,hk,rfl⟩:=List.getElem_of_mem hv;have pU:k<n*t.size:=by rw[Array.length_toList,DU,hs] at hk;exact hk
 have h0:=t.size_pos;have := yFw h hs (n := n) (i := k / t.size) (j := k % t.size) (Nat.mod_lt _ h0) (by
  rw[Nat.div_lt_iff_lt_mul h0];omega)
 rw[Nat.div_add_mod' k t.size,List.getElem?_eq_getElem hk,List.getElem?_eq_getElem (by grind),Option.some.injEq] at this;simp_all
theorem Ut {P}{M:zK}{w:World}(ok:Ok M)(hM:M.H=w.heap){id nm n':Nat}{t:Ty}{iy zs}{C:qB}{H'}{s:Sem Value}{c:Nat}{A:Option Addr}{w':World}
  (an:M.h id=some (.arr true t iy)) (hC:M.κ id=some C) (aT:M.h nm=none) (ee:H'.size=M.H.size) (hH:∀b,b∉C.fp→H'[b]? =M.H[b]?) (cS:∀b,qX H' b=qX M.H b)
  (hx:∀M',yO M M'→M'.H=H'→M'.G=M.G→match C.blk with
   |none=>zs=[]
   |some B=>∃vals e,H'[B]? =some (.cells vals e (0,0))∧zs.length*t.size≤vals.size∧∀i (h:i<zs.length),qF M'.H M'.G t zs[i] (fun j=>vals[i*t.size+j]?))
  (hn : n' ≤ zs.length) (hc : zs.length ≤ c) (hA:match C.blk with
   |none=>A=none∧n'=0∧c=0
   |some B=>∃a,A=some ⟨B,a,none⟩∧(c=0∨a=0)∧c*t.size≤qX M.H B)
  (hw:w'.heap=H'∧w'.os=w.os∧w'.tape=w.tape∧w'.output=w.output) (hr:s.run P w=.ok (.slice A n' c) w'):
  qL P s M w (.c (.osl nm (some (0,n')))) [(id,.gone),(nm,.arr true t zs)]:=by
 obtain⟨C0,sn,hO⟩:=ok.obj id _ an;rw[hC] at sn;cases sn;obtain⟨fr,ff⟩:=II hO;have bp:id≠nm:=fun e=>by simp_all
 let C':qB:=⟨C.blk,zs.length,t.size,0,[]⟩;have hh:∀n',(qK M.h [(id,.gone),(nm,.arr true t zs)]) n'=if n'=nm then some (.arr true t zs) else if n'=id then some .gone else M.h n':=fun n'=>by
  show(yJ (yJ M.h id .gone) nm _) n'=_;by_cases e:n'=nm
  ·rw[if_pos e,e,yQ]
  ·rw[if_neg e,yT _ _ e];by_cases e2:n'=id
   ·rw[if_pos e2,e2,yQ]
   ·rw[if_neg e2,yT _ _ e2]
 have:=zK.move_ok (M:=M) (nm:=nm) (o':=.arr true t zs) (C':=C') (h':=qK M.h [(id,.gone),(nm,.arr true t zs)]) (H':=H') ok (fun j=>j=id) aT
  (fun j hj=>⟨.arr true t iy,by rw[hj];exact an,rfl,by simp_all⟩)
  (by rw[hh,if_pos rfl]) (by grind) (by omega) (fun b hb hn=>hH b (hn id C rfl hC)) (fun b _=>cS b)
  (fun b hb=>.inr ⟨id,C,rfl,hC,by
   simp only[C',qB.fp,List.filterMap_nil,List.append_nil] at hb;rw[ff];exact hb⟩)
  (fun x=>by
   refine⟨rfl,rfl,fun _=>rfl,?_⟩;have:=hx _ x rfl rfl;cases hB:C.blk with
   |none=>simp_all
   |some B=>
    rw[hB] at this;obtain⟨vals,e,h1,h2,h3⟩:=this;exact⟨vals,e,h1,by simp,h2,h3⟩)
 refine⟨_,_,_,hr,hw.2.1,hw.2.2.1,hw.2.2.2,by rw[hw.1];rfl,rfl,this.1,this.2,C',κset_same _ _ _,by grind,⟨_,c,rfl,?_⟩,_,_,_,rfl,by grind⟩;show match C.blk with
  |none=>_
  |some B=>_
 cases hB:C.blk with
 |none=>rw[hB] at hA;exact hA
 |some B=>
  rw[hB] at hA;obtain⟨a,h2,h3,h4⟩:=hA;refine⟨by omega,a,h2,by simpa using h3,?_⟩;show(0+c)*t.size≤qX H' B;simp_all
theorem vKa {P}{M w}(ok:Ok M)(hM:M.H=w.heap){id nm i j m t e T ty x b xs}(hu:P.underlying t=some (.slice e))(dK:ky P e=some ty)
  (aT:M.h nm=none) (an:M.h id=some (.arr true ty xs)) (hb:zX M (.osl id (some (0,i))) b) (hx:zX M (.osl id (some (j,m))) x) (oS:i≤j):
  qL P (Builtin.append_ #[t,t] T #[b,x]) M w (.c (.osl nm (some (0,i+m)))) [(id,.gone),(nm,.arr true ty (xs.take i++qR xs j m++xs.drop (i+m)))]:=by
 obtain⟨inf,z,h1,h2,h3,h4,h5,h6,h7⟩:=sk dK;obtain⟨C,hC,hO⟩:=ok.obj id _ an;obtain⟨news,hR,hE⟩:=AT hC hO hx;obtain⟨C1,iP,dt,_⟩:=hx;rw[hC] at iP;cases iP;obtain⟨C1,iP,fJ,⟨A,c,rfl,hS⟩,iO⟩:=hb;rw[hC] at iP;cases iP;obtain⟨_,_,_,iO,DO⟩:=iO;cases iO;have hlen:=hO.1;have o0:(j7 xs (some (j,m))).length=m:=DE (by omega);rw[o0] at hR;have NQ:news.length=m*ty.size:=hR.choose_spec.choose_spec.2.1;have tV:(qR xs j m).length=m:=o0;have tW:(xs.take i).length=i:=by rw[List.length_take];omega
 have IZ:(xs.take i++qR xs j m++xs.drop (i+m)).length=xs.length:=by
  rw[List.length_append,List.length_append,tV,tW,List.length_drop];omega
 have aP:i+m≤c:=by omega
 cases hB:C.blk with
 |none=>
  rw[hB] at hS;obtain⟨rfl,rfl,rfl⟩:=hS;have hr:=sm (P:=P) (w:=w) (A:=none) (sLen:=0) (sCap:=0) T hu h1 h3 (by rw[←hM];exact hR) aP w rfl;refine Ut (s:=Builtin.append_ #[t,t] T #[.slice none 0 0,x]) (H':=M.H) ok hM an hC aT rfl (fun _ _=>rfl) (fun _=>rfl) (fun M' _ _ _=>?_) (by omega) (by omega) ?_ ⟨hM.symm,rfl,rfl,rfl⟩ hr
  ·rw[hB];exact List.eq_nil_of_length_eq_zero (by omega)
  ·rw[hB];exact⟨rfl,by omega,rfl⟩
 |some B=>
  rw[hB] at hS;obtain⟨hc,a,rfl,ha,hs⟩:=hS;obtain⟨k1,k2,k3,k4⟩:=hO;rw[hB] at k4;obtain⟨vals,ev,k5,k6,k7,k8⟩:=k4;rw[Nat.zero_mul] at ha;rw[Nat.zero_add,k2] at hs;have cS:qX M.H B=vals.size:=by simp only[qX,k5]
  have ka:w.heap[B]? =some (.cells vals ev (0,0)):=by rw[←hM];exact k5
  by_cases h0:c=0
  ·have hm0:m=0:=by omega
   have hr := sm (P := P) (w := w) (A := some ⟨B, a, none⟩) (sLen := i) (sCap := c) T hu h1 h3 (by rw [← hM]; exact hR) aP w (by
    have:news=[]:=List.eq_nil_of_length_eq_zero (by rw[NQ,hm0,Nat.zero_mul]);rw[this];rfl)
   refine Ut (s:=Builtin.append_ #[t,t] T #[.slice (some ⟨B,a,none⟩) i c,x]) (H':=M.H) ok hM an hC aT rfl (fun _ _=>rfl) (fun _=>rfl) (fun M' _ _ _=>?_) (by omega) (by omega) ?_ ⟨hM.symm,rfl,rfl,rfl⟩ hr
   ·rw[hB];refine⟨vals,ev,k5,by rw[IZ];exact k7,fun p hp=>?_⟩;rw[IZ] at hp;omega
   ·rw[hB];exact⟨a,rfl,.inl h0,by rw[h0];simp⟩
  ·have nQ:a=0:=by rcases ha with ha|ha<;>omega
   subst nQ;have hle:=Nat.mul_le_mul_right ty.size (show i+m≤xs.length by omega);rw[Nat.add_mul] at hle;have aK:i*ty.size+news.length≤vals.size:=by omega
   have dr:=run_storeCells_at (P:=P) B (i*ty.size) ev news 0 vals w ka (by simpa using aK) (fun v hv=>AG (hR.choose_spec.choose_spec.2.2.1 v hv));simp only[Nat.add_zero] at dr;have hr:=sm (P:=P) (w:=w) (A:=some ⟨B,0,none⟩) (sLen:=i) (sCap:=c) T hu h1 h3 (by rw[←hM];exact hR) aP (w.setRow B (yV vals (i*ty.size) news)) (by show(storeCells (Addr.add ⟨B,0,none⟩ (i*ty.size)) news).run P w=_;rw[Addr.add_lit,Nat.zero_add];exact dr);obtain⟨f1,f2,f3,f4⟩:=oW ka (new:=yV vals (i*ty.size) news) (gV aK);refine Ut (s:=Builtin.append_ #[t,t] T #[.slice (some ⟨B,0,none⟩) i c,x]) (H':=(w.setRow B (yV vals (i*ty.size) news)).heap) ok hM an hC aT (by rw[hM];exact f1)
    (fun b hb=>by rw[hM];exact f3 b fun e=>hb (e▸ga hB)) (fun b=>by rw[hM];exact f4 b) (fun M' xt hH hG=>?_) (by omega) (by omega) ?_ ⟨rfl,rfl,rfl,rfl⟩ hr
   ·rw[hB];refine⟨_,ev,f2,by rw[IZ,gV aK];exact k7,fun p hp=>?_⟩;rw[IZ] at hp;have aS:=Nat.mul_le_mul_right ty.size (show p+1≤xs.length by omega);rw[Nat.add_mul] at aS;have old:(xs.take i++qR xs j m++xs.drop (i+m))[p]? =xs[p]? →(∀q,q<ty.size→(yV vals (i*ty.size) news)[p*ty.size+q]? =vals[p*ty.size+q]?)→qF M'.H M'.G ty ((xs.take i++qR xs j m++xs.drop (i+m))[p]'(by omega)) (fun q=>(yV vals (i*ty.size) news)[p*ty.size+q]?):=fun e1 e2=>by
     have e3:(xs.take i++qR xs j m++xs.drop (i+m))[p]'(by omega)=xs[p]:=by
      rw[List.getElem?_eq_getElem (by omega),List.getElem?_eq_getElem hp,Option.some.injEq] at e1;exact e1
     rw[e3];exact vD xt.G xt.sameG ty _ _ _ e2 (k8 p hp)
    by_cases NR:p<i
    ·refine old ?_ fun q hq=>?_
     ·rw[List.append_assoc,List.getElem?_append_left (by omega),List.getElem?_take,if_pos NR]
     ·have:=Nat.mul_le_mul_right ty.size (show p+1≤i by omega);rw[Nat.add_mul] at this;rw[eu aK,if_pos (by omega)]
    ·by_cases I1:p<i+m
     ·have e3:(xs.take i++qR xs j m++xs.drop (i+m))[p]'(by omega)=(j7 xs (some (j,m)))[p-i]'(by omega):=by
       rw[List.getElem_append_left (by rw[List.length_append,tW,tV];exact I1),List.getElem_append_right (by omega)];simp only[tW];rfl
      rw[e3];refine vD xt.G xt.sameG ty _ _ _ (fun q hq=>?_) (hE (p-i) (by omega));have q1:=Nat.mul_le_mul_right ty.size (show i≤p by omega);have q2:=Nat.mul_le_mul_right ty.size (show p-i+1≤m by omega);rw[Nat.add_mul] at q2;have q3:(p-i)*ty.size=p*ty.size-i*ty.size:=Nat.sub_mul ..
      rw[eu aK,if_neg (by omega),if_pos (by omega)]
      congr 1;omega
     ·refine old ?_ fun q hq=>?_
      ·rw[List.getElem?_append_right (by rw[List.length_append,tW,tV];omega),List.getElem?_drop]
       congr 1
       rw[List.length_append,tW,tV];omega
      ·have:=Nat.mul_le_mul_right ty.size (show i+m≤p by omega);rw[Nat.add_mul] at this;rw[eu aK,if_neg (by omega),if_neg (by omega)]
   ·rw[hB];exact⟨0,rfl,.inr rfl,by rw[←k2] at hs⊢;exact hs⟩
theorem vGq {P M w}(ok:Ok M)(hM:M.H=w.heap){t T id lo n rx v u}(hx:zX M (.osl id (some (lo,n))) rx)
  (h:yL (Nc P M.h t id lo n) v u):qL P (Builtin.clear_ #[t] T #[rx]) M w v u:=by
 unfold Nc at h;split at h
 case h_2=>exact h.elim
 rename_i e s xs hu an;split at h
 case h_2=>exact h.elim
 rename_i ty dK;obtain⟨heq,h⟩:=AV h;have:=Ir heq;subst this;obtain⟨_,rfl,rfl⟩:=gU h;obtain⟨inf,z,h1,h2,h3,h4,h5,h6,h7⟩:=sk dK;obtain⟨C,hC,dt,⟨A,c,rfl,hS⟩,_⟩:=hx;obtain⟨C1,iP,hO⟩:=ok.obj id _ an;rw[hC] at iP;cases iP;by_cases DV:n=0
 ·subst DV;have e0:xs.take lo++List.replicate 0 ty.dflt++xs.drop (lo+0)=xs:=by simp
  rw[e0];refine⟨.tuple #[],w,M,?_,rfl,rfl,rfl,hM,?_,ok,vG.refl M,trivial⟩
  ·cases A with
   |none=>simp[Builtin.clear_,run_underlying hu]
   |some a=>simp[Builtin.clear_,run_underlying hu]
  ·rw[Tu,DD an]
 ·obtain⟨k1,k2,k3,k4⟩:=hO;cases hB:C.blk with
  |none=>rw[hB] at hS;omega
  |some B=>
   rw[hB] at hS k4;obtain⟨hc,a,rfl,ha,hs⟩:=hS;obtain⟨vals,ev,k5,k6,k7,k8⟩:=k4;have sd:a=lo*ty.size:=by rw[←k2];rcases ha with ha|ha<;>omega
   subst sd;have ka:w.heap[B]? =some (.cells vals ev (0,0)):=by rw[←hM];exact k5
   have IZ:(Builtin.zeroCells z.cells n).toList.length=n*ty.size:=by rw[Array.length_toList,DU,h7]
   have hle:=Nat.mul_le_mul_right ty.size (show lo+n≤xs.length by omega);rw[Nat.add_mul] at hle;have aK:lo*ty.size+(Builtin.zeroCells z.cells n).toList.length≤vals.size:=by omega
   have cy:∀v∈(Builtin.zeroCells z.cells n).toList,v.one1=true:=vQj h4 h7;have dr:=run_storeCells_at (P:=P) B (lo*ty.size) ev (Builtin.zeroCells z.cells n).toList 0 vals w ka (by simpa using aK) (fun v hv=>AG (cy v hv));simp only[Nat.add_zero] at dr;obtain⟨f1,f2,f3,f4⟩:=oW ka (new:=yV vals (lo*ty.size) (Builtin.zeroCells z.cells n).toList) (gV aK);have nV:(Builtin.clear_ #[t] T #[.slice (some ⟨B,lo*ty.size,none⟩) n c]).run P w=.ok (.tuple #[]) (w.setRow B (yV vals (lo*ty.size) (Builtin.zeroCells z.cells n).toList)):=by
    obtain⟨n',rfl⟩:∃n',n=n'+1:=⟨n-1,by omega⟩;have e:(storeCells ⟨B,lo*ty.size,none⟩ (Builtin.zeroCells z.cells (n'+1)).toList).run P w=.ok () (w.setRow B (yV vals (lo*ty.size) (Builtin.zeroCells z.cells (n'+1)).toList)):=dr;simp[Builtin.clear_,run_underlying hu,zeroValue,typeInfo,h1,h2,e]
   have hH:∀b,b∉C.fp→(w.setRow B (yV vals (lo*ty.size) (Builtin.zeroCells z.cells n).toList)).heap[b]? =M.H[b]? :=fun b tO=>by
    rw[hM];exact f3 b fun e=>tO (e▸ga hB)
   have cS:∀b,b<M.H.size→qX (w.setRow B (yV vals (lo*ty.size) (Builtin.zeroCells z.cells n).toList)).heap b=qX M.H b:=fun b _=>by rw[hM];exact f4 b
   have hol:(xs.take lo++List.replicate n ty.dflt++xs.drop (lo+n)).length=xs.length:=by
    simp only[List.length_append,List.length_take,List.length_replicate,List.length_drop];omega
   have x:=zK.write_ext ok an rfl hC C.le_refl hH cS (.arr true ty (xs.take lo++List.replicate n ty.dflt++xs.drop (lo+n)));have := zK.write_ok ok an rfl hC C.le_refl (fun _ h => h) (by rw [hM]; exact f1) hH cS (o' := .arr true ty (xs.take lo ++ List.replicate n ty.dflt ++ xs.drop (lo + n))) (by
    refine⟨by rw[hol];exact k1,k2,k3,?_⟩;rw[hB];refine⟨_,ev,f2,fun h=>(by cases h),by rw[hol,gV aK];exact k7,fun p hp=>?_⟩;rw[hol] at hp;have aS:=Nat.mul_le_mul_right ty.size (show p+1≤xs.length by omega);rw[Nat.add_mul] at aS;have pX:(xs.take lo).length=lo:=by rw[List.length_take];omega
    have old:(xs.take lo++List.replicate n ty.dflt++xs.drop (lo+n))[p]? =xs[p]? →(∀q,q<ty.size→(yV vals (lo*ty.size) (Builtin.zeroCells z.cells n).toList)[p*ty.size+q]? =vals[p*ty.size+q]?)→
      qF (M.write id (.arr true ty (xs.take lo++List.replicate n ty.dflt++xs.drop (lo+n))) C (w.setRow B (yV vals (lo*ty.size) (Builtin.zeroCells z.cells n).toList)).heap).H (M.write id (.arr true ty (xs.take lo++List.replicate n ty.dflt++xs.drop (lo+n))) C (w.setRow B (yV vals (lo*ty.size) (Builtin.zeroCells z.cells n).toList)).heap).G ty ((xs.take lo++List.replicate n ty.dflt++xs.drop (lo+n))[p]'(by omega)) (fun q=>(yV vals (lo*ty.size) (Builtin.zeroCells z.cells n).toList)[p*ty.size+q]?):=fun e1 e2=>by
     have e3:(xs.take lo++List.replicate n ty.dflt++xs.drop (lo+n))[p]'(by omega)=xs[p]:=by
      rw[List.getElem?_eq_getElem (by omega),List.getElem?_eq_getElem hp,Option.some.injEq] at e1;exact e1
     rw[e3];exact vD x.G x.sameG ty _ _ _ e2 (k8 p hp)
    by_cases NR:p<lo
    ·refine old ?_ fun q hq=>?_
     ·rw[List.append_assoc,List.getElem?_append_left (by omega),List.getElem?_take,if_pos NR]
     ·have:=Nat.mul_le_mul_right ty.size (show p+1≤lo by omega);rw[Nat.add_mul] at this;rw[eu aK,if_pos (by omega)]
    ·by_cases I1:p<lo+n
     ·have e3:(xs.take lo++List.replicate n ty.dflt++xs.drop (lo+n))[p]'(by omega)=ty.dflt:=by
       rw[List.getElem_append_left (by rw[List.length_append,pX,List.length_replicate];exact I1),List.getElem_append_right (by omega)];simp
      rw[e3];refine IS ty _ fun q hq=>?_
      have q1:=Nat.mul_le_mul_right ty.size (show lo≤p by omega);have q2:=Nat.mul_le_mul_right ty.size (show p-lo+1≤n by omega);rw[Nat.add_mul] at q2;have q3:(p-lo)*ty.size=p*ty.size-lo*ty.size:=Nat.sub_mul ..
      rw[eu aK,if_neg (by omega),if_pos (by omega),show p*ty.size+q-lo*ty.size=(p-lo)*ty.size+q by omega,yFw h4 h7 hq (by omega)]
     ·refine old ?_ fun q hq=>?_
      ·rw[List.getElem?_append_right (by rw[List.length_append,pX,List.length_replicate];omega),List.getElem?_drop]
       congr 1
       rw[List.length_append,pX,List.length_replicate];omega
      ·have:=Nat.mul_le_mul_right ty.size (show lo+n≤p by omega);rw[Nat.add_mul] at this;rw[eu aK,if_neg (by omega),if_neg (by omega)])
   exact⟨_,_,_,nV,rfl,rfl,rfl,rfl,rfl,this.1,this.2,trivial⟩
theorem vYk {P M w}(ok:Ok M)(hM:M.H=w.heap){mat nm t T b x v u rb rx}
  (hb:zV M b rb) (hx:zV M x rx) (h:yL (Dq P mat nm M.h t b x) v u):qL P (Builtin.append_ #[t,t] T #[rb,rx]) M w v u:=by
 unfold Dq at h;split at h
 case h_2=>exact h.elim
 rename_i e b x hu aT;split at h
 ·exact h.elim
 rename_i ty dK;cases mat with
 |true=>
  split at h
  ·rename_i id jd;split at h
   ·rename_i v1 xs v2 ys an dj;cases bp:Nat.beq id jd with
    |true=>rw[bp] at h;exact h.elim
    |false=>
     rw[bp] at h;obtain⟨hr,rfl,rfl⟩:=gU h;exact Uq ok hM hu dK aT an dj (fun e=>by subst e;simp at bp) hb hx (IV hr)
   ·exact h.elim
  ·exact h.elim
 |false=>
  simp only[cond_false] at h;split at h
  ·split at h
   ·rename_i ys u1 ht;obtain⟨hr,rfl,rfl⟩:=gU h;obtain⟨rfl,news,h1,h2⟩:=yL3 ok hx ht;rw[show rb=.slice none 0 0 from hb];exact vP6 ok hM hu dK aT h1 h2 (IV hr)
   ·exact h.elim
  ·split at h
   ·rename_i s xs an;split at h
    ·rename_i zs ys u1 hz ht;obtain⟨e1,hz⟩:=lD hz;subst e1;subst hz;obtain⟨rfl,news,h1,h2⟩:=yL3 ok hx ht;split at h
     ·rcases vGd h with⟨hc,h⟩|⟨_,h⟩
      ·split at h
       ·rename_i i' jd j m zs e1 e2 _;cases e1;have:=Nat.eq_of_beq_eq_true hc;subst this;obtain⟨_,hz⟩:=lD e2;subst hz;obtain⟨hr,rfl,rfl⟩:=gU h;exact vKa ok hM hu dK aT an hb hx (Nat.le_of_ble_eq_true hr)
       ·exact h.elim
      ·obtain⟨hr,rfl,rfl⟩:=gU h;exact Uk ok hM hu dK aT an hb rfl h1 h2 (IV hr)
     ·rcases vGd h with⟨hc,h⟩|⟨_,h⟩
      ·exact h.elim
      ·obtain⟨hr,rfl,rfl⟩:=gU h;exact Uk ok hM hu dK aT an hb trivial h1 h2 (IV hr)
     ·exact h.elim
    ·exact h.elim
   ·exact h.elim
  ·exact h.elim
theorem Uu {M}(ok:Ok M){c v t ys}(hv:zX M c v)(h:kz M.h c=some ⟨t,ys⟩){kd}(ht:t=.int kd):
  ∃news,Rd M.H v ys.length t.size news∧∃F,∀i hi,qF M.H F t ys[i] (fun j=>news[i*t.size+j]?):=by
 unfold kz at h;split at h
 ·cases h;obtain⟨news,h1,h2⟩:=Uf hv;exact⟨news,h1,_,h2⟩
 ·split at h
  ·rename_i own s xs an;cases h;obtain⟨C,hC,hO⟩:=ok.obj _ _ an;obtain⟨news,h1,h2⟩:=AT hC hO hv;exact⟨news,h1,_,h2⟩
  all_goals grind
 ·rename_i id i ver;split at h
  ·rename_i v' xs an;cases gd:Nat.beq v' ver with
   |false=>simp_all
   |true=>
    rw[gd] at h;cases h;have e:v'=ver:=by simp_all
    subst e;obtain⟨C,hC,hO⟩:=ok.obj _ _ an;obtain⟨C',aE,cy,_,aS⟩:=hv;rw[hC] at aE;cases aE;obtain⟨rb,rl,wv,ss⟩:=aS hO.1;by_cases hi:i<xs.length
    ·obtain⟨B,pT,v2,k1,k2,k3,k4,k5,k6⟩:=DC hO hi;rw[wv] at k3;cases k3;rw[show xs.getD i []=xs[i] by simp_all];cases rb with
     |none=>
      obtain⟨rfl,h0⟩:=ss;have cP:xs[i]=[]:=by grind
      rw[cP];obtain⟨news,q1,q2⟩:=IT (H:=M.H) (F:=M.G) (t:=.int .i64) (A:=none) (c:=0);exact⟨news,q1,_,q2⟩
     |some R=>
      obtain⟨a,c,rfl,h1,h2,h3⟩:=ss;by_cases h0:xs[i].length=0
      ·have cP:xs[i]=[]:=by grind
       rw[cP];obtain⟨news,q1,q2⟩:=IT (H:=M.H) (F:=M.G) (t:=.int .i64) (A:=some ⟨R,a,none⟩) (c:=c);exact⟨news,q1,_,q2⟩
      ·have ha:a=0:=by omega
       subst ha;obtain ⟨news, q1, q2⟩ := Ue (H := M.H) (F := fun _ => True) (t := .int .i64) (ys := xs[i]) (B := R) (o := 0) (c := c) h1 (fun j hj=>by
        simp[qF,Ty.size];simp_all)
       exact⟨news,q1,_,q2⟩
    ·have:C.rows[i]? =none:=List.getElem?_eq_none (by have:=hO.2.2.2.1;omega);simp_all
  ·cases h
 ·cases h
theorem vJm {M}(ok:Ok M){c v t ys}(hv:zX M c v)(h:kz M.h c=some ⟨t,ys⟩):∃A k,v=.slice A ys.length k:=by
 by_cases ht:t=.int .i64
 ·obtain⟨news,⟨A,k,e,_⟩,_⟩:=Uu ok hv h ht;simp_all
 unfold kz at h;split at h
 ·cases h;obtain⟨news,⟨A,k,e,_⟩,_⟩:=Uf hv;simp_all
 ·rename_i id r;split at h
  ·rename_i own s xs an;cases h;obtain⟨C,hC,hO⟩:=ok.obj _ _ an;obtain⟨news,⟨A,k,e,_⟩,_⟩:=AT hC hO hv;simp_all
  ·rename_i ver xs an;cases r with
   |none=>
    cases h;obtain⟨C,hC,hO⟩:=ok.obj _ _ an;obtain⟨C',aE,A,k,e,_⟩:=hv;rw[hC] at aE;cases aE;exact⟨A,k,by rw[e,hO.2.1]⟩
   |some p=>cases h
  ·cases h
 all_goals grind
theorem vU4 {M}(ok:Ok M){c v n}(hv:zX M c v)(h:Da M.h c=some n):∃A k,v=.slice A n k:=by
 unfold Da at h;split at h
 ·cases h;exact⟨none,0,hv⟩
 ·obtain⟨C,B,_,_,e⟩:=hv;simp_all
 ·split at h
  ·rename_i t xs hr;cases h;exact vJm ok hv hr
  ·cases h
theorem vIv {P w t e A n k T ts}(h0:ts[0]? =some t)(hu:P.underlying t=some (.slice e)):
  (Builtin.len_ ts T #[.slice A n k]).run P w=.ok (.int .i64 n) w:=by
 have hr:(underlying t).run P w=.ok (.slice e) w:=by simp[underlying,hu]
 simp[Builtin.len_,h0,hr,goInt]
theorem yNh {P M w}(ok:Ok M)(hM:M.H=w.heap){lt l rl v u ts T}(hl:zM (zV M) l rl.toList)
  (h:yL (Nd lt l) v u):qL P (bif lt then Builtin.min_ ts T rl else Builtin.max_ ts T rl) M w v u:=by
 unfold Nd at h;split at h
 ·rename_i k x j y;obtain⟨rfl,rfl⟩:=wP h;obtain⟨rl⟩:=rl
  match rl,hl with
  |[a,b],⟨h1,h2,_⟩=>
   rw[show a=.int k x from h1,show b=.int j y from h2];refine .pure (rv:=.int k (bif lt then(bif decide (y<x) then y else x) else(bif decide (y>x) then y else x))) ok hM ?_ rfl;cases lt<;>simp[Builtin.min_,Builtin.max_,Builtin.min2,Builtin.max2,Bool.cond_decide]
 ·rename_i k x j y i z;obtain⟨rfl,rfl⟩:=wP h;obtain⟨rl⟩:=rl
  match rl,hl with
  |[a,b,c],⟨h1,h2,h3,_⟩=>
   rw[show a=.int k x from h1,show b=.int j y from h2,show c=.int i z from h3];refine .pure (rv:=_) ok hM ?_ rfl;cases lt<;>simp[Builtin.min_,Builtin.max_,Builtin.min2,Builtin.max2,Bool.cond_decide]
 ·exact h.elim
theorem yFo {M:zK}:∀{cs ns},Az cs=some ns→cs=ns.map (.int .i64)
 |[],ns,h=>by cases h;rfl
 |.int .i64 n::l,ns,h=>by
  unfold Az at h;split at h
  ·rename_i r hr;cases h;rw[yFo (M:=M) hr];rfl
  ·cases h
theorem yT8 xs:∀(ns:List Int) i,AA xs i (ns.map (.int .i64))=(((xs.drop i).take ns.length)++ns.drop ((xs.drop i).take ns.length).length).map (.int .i64)
 |[],i=>by rfl
 |n::ns,i=>by
  simp only[List.map_cons,AA,yT8 xs ns (i+1)];by_cases hi:i<xs.length
  ·have hb:Nat.blt i xs.length=true:=by simp_all
   rw[hb,List.drop_eq_getElem_cons hi];grind
  ·have hb:Nat.blt i xs.length=false:=by
    cases h:Nat.blt i xs.length with
    |false=>rfl
    |true=>exact absurd (by simp_all) hi
   have e1:xs.drop i=[]:=List.drop_eq_nil_of_le (by omega);grind
theorem Uv {P M w}(ok:Ok M)(hM:M.H=w.heap){t e ts T d s v u rd rs}(h0:ts[0]? =some t)(hu:P.underlying t=some (.slice e))(he:P.cellsOf e=1)
  (hd:zV M d rd) (hs:zV M s rs) (h:yL (Dr M.h d s) v u):qL P (Builtin.copy_ ts T #[rd,rs]) M w v u:=by
 unfold Dr at h;split at h
 case h_2=>exact h.elim
 rename_i id off n s;split at h
 case h_2=>exact h.elim
 rename_i cells ys an pY;split at h
 case h_2=>exact h.elim
 rename_i vs fu;split at h
 case h_2=>exact h.elim
 rename_i ns T1;obtain⟨_,rfl,rfl⟩:=gU h;clear h;obtain⟨C,B,hC,hB,rfl⟩:=hd;obtain⟨C',aE,B',vals,ev,k1,k2,k3,k4,k5⟩:=ok.obj id _ an;rw[hC] at aE;cases aE;rw[hB] at k1;cases k1;obtain⟨c1,c2,c3⟩:=IE fu;obtain⟨i,hi⟩:=oT (P:=P) (t:=e) (by omega);obtain⟨A,k,rfl,kD⟩:∃A k,rs=.slice A ys.length k∧∃news,Rd M.H (.slice A ys.length k) ys.length 1 news∧news=ys.map (.int .i64):=by
  split at pY
  ·cases pY;exact⟨none,0,hs,[],⟨none,0,rfl,rfl,by simp,rfl⟩,rfl⟩
  ·obtain⟨news,hR,F,hE⟩:=Uu ok hs pY rfl;obtain⟨A,k,e,hl,r⟩:=hR;refine⟨A,k,e,news,⟨A,k,rfl,hl,r⟩,?_⟩;refine List.ext_getElem (by simpa[Ty.size] using hl) fun j h1 h2=>?_
   have:=hE j (by simpa using h2);simp only[qF,Ty.size,Nat.mul_one,Nat.add_zero] at this;rw[List.getElem?_eq_getElem h1,Option.some.injEq] at this;rw[this];simp
 obtain⟨news,⟨A',k',e',hl,cy,kD⟩,I2⟩:=kD;cases e';let m:=min ys.length n;have hm:Nat.min ys.length n=m:=rfl;have AW:(Builtin.firstCells 1 m (.slice A ys.length k)).run P w=.ok (news.take m).toArray w:=by
  have:Rd M.H (.slice A m k) m 1 (news.take m):=by
   refine⟨A,k,rfl,?_,fun u hu=>cy u (List.mem_of_mem_take hu),?_⟩;all_goals grind
  have:=this.first (P:=P) w hM.symm
  cases A<;>exact this
 have NS:w.heap[B]? =some (.cells vals ev (0,0)):=by rw[←hM];exact k3
 have bS:=k4.length;have NQ:(news.take m).length=m:=by rw[List.length_take,hl];omega
 have aK:off+(news.take m).length≤vals.size:=by
  rw[NQ];simp at bS;omega
 have dr:=run_storeCells_at (P:=P) B off ev (news.take m) 0 vals w NS (by simpa using aK) (fun v hv=>AG (cy v (List.mem_of_mem_take hv)));simp only[Nat.add_zero] at dr;have nV:(Builtin.copy_ ts T #[.slice (some ⟨B,off,none⟩) n n,.slice A ys.length k]).run P w=.ok (.int .i64 (m:Nat)) (w.setRow B (yV vals off (news.take m))):=by
  simp[Builtin.copy_,h0,run_underlying hu,Builtin.lenOf,iM w hi,he,hm,AW,goInt];have e:(storeCells ⟨B,off,none⟩ (news.take m)).run P w=.ok () (w.setRow B (yV vals off (news.take m))):=dr;rw[e];rfl
 obtain⟨f1,f2,f3,f4⟩:=oW NS (new:=yV vals off (news.take m)) (gV aK);have hH:∀b,b∉C.fp→(w.setRow B (yV vals off (news.take m))).heap[b]? =M.H[b]? :=fun b tO=>by
  rw[hM];exact f3 b fun e=>tO (e▸ga hB)
 have cS:∀b,b<M.H.size→qX (w.setRow B (yV vals off (news.take m))).heap b=qX M.H b:=fun b _=>by rw[hM];exact f4 b
 let o':Obj:=.box true (cells.take off++AA ys 0 vs++cells.drop (off+n));have x:=zK.write_ext ok an rfl hC C.le_refl hH cS o';have aG:cells.take off++AA ys 0 vs++cells.drop (off+n)=cells.take off++(ys.take m).map (.int .i64)++cells.drop (off+((ys.take m).map (zZ.int .i64)).length):=by
  have hv:=yFo (M:=M) T1;have hnn:ns.length=n:=by rw[←c3,hv];simp
  have I3:(ys.drop 0).take ns.length=ys.take m:=by
   grind
  rw[hv,yT8,I3,List.map_append,List.map_drop,←hv,List.append_assoc,List.append_assoc,List.append_assoc]
  congr 2
  have NT:(ys.take m).length=m:=by rw[List.length_take];omega
  have e1:cells.drop (off+n)=(cells.drop (off+m)).drop (n-m):=by
   rw[List.drop_drop];congr 1;omega
  rw[List.length_map,NT,c2,List.drop_take,List.drop_drop,e1,List.take_append_drop]
 have := zK.write_ok ok an rfl hC C.le_refl (fun _ h => h) (by rw [hM]; exact f1) hH cS (o' := o') (by
  refine⟨B,_,ev,hB,k2,f2,?_,fun h=>(by cases h)⟩;rw[aG];refine Tz x k4 (us:=news.take m) ?_ (by simpa using aK);rw[I2];refine zM.of_get (by simp) fun j h1 h2=>?_
  simp[zX])
 exact⟨_,_,_,nV,rfl,rfl,rfl,rfl,rfl,this.1,this.2,rfl⟩
theorem vEh {P t}(h:Ix P t=true):∃k e i,P.underlying t=some (.map k e)∧P.underlying k=some (.int .i64)∧P.info? e=some i∧i.zero=some (.bool false):=by
 unfold Ix at h;split at h
 ·split at h
  ·rename_i hk hz;obtain⟨i,h1,h2⟩:=Option.bind_eq_some_iff.1 hz;grind
  ·cases h
 ·cases h
theorem Uw {P M w}(ok:Ok M)(hM:M.H=w.heap){nm t v u}(h:yL (Dl P nm M.h t) v u):qL P (Instr.makeMap t none) M w v u:=by
 unfold Dl at h;split at h
 case h_2=>exact h.elim
 rename_i aT;obtain⟨_,h⟩:=AV h;obtain⟨_,rfl,rfl⟩:=gU h;let C:qB:=⟨some M.H.size,0,0,0,[]⟩;have := zK.new_ok ok aT (.imap []) C (.map #[] 0) (by simp [C, qB.fp]) (by
  refine⟨M.H.size,#[],0,rfl,rfl,AF,by simp,fun n=>rfl⟩)
 refine⟨.map (some w.heap.size),w.alloc (.map #[] 0),_,?_,rfl,rfl,rfl,?_,rfl,this.1,this.2,C,M.H.size,κset_same _ _ _,rfl,by rw[hM]⟩
 ·rfl
 ·show M.H.push _=w.heap.push _;rw[hM]
theorem Ux {n}:∀{es i},(∀e∈es,∃m b,e.key=.int .i64 m∧e.val=.bool b)→
  (fI n es=none∧Instr.findNow (.int .i64) (.int .i64 n) es i=some none)∨
  (∃j b e,fI n es=some (.bool b)∧Instr.findNow (.int .i64) (.int .i64 n) es i=some (some (i+j,.bool b))∧es[j]? =some e∧e.key=.int .i64 n∧
   ∀f:MapEntry→MapEntry,(∀e,(f e).key=.int .i64 n)→fI n (es.modify j f)=some (f e).val∧(∀m,m≠n→fI m (es.modify j f)=fI m es)∧∀e'∈es.modify j f,e'∈es∨e'=f e)
 |[],i,_=>.inl ⟨rfl,rfl⟩
 |e::es,i,h=>by
  obtain⟨m,b,h1,h2⟩:=h e (by simp);by_cases hm:n=m
  ·subst hm;refine .inr ⟨0,b,e,?_,?_,rfl,h1,fun f hf=>⟨?_,fun m bp=>?_,fun e' he=>?_⟩⟩
   ·simp[fI,h1,h2]
   ·simp[Instr.findNow,Instr.sameNow,h1,h2]
   ·simp[fI,hf]
   ·simp[fI,hf,h1,bp]
   grind
  ·have hs:Instr.findNow (.int .i64) (.int .i64 n) (e::es) i=Instr.findNow (.int .i64) (.int .i64 n) es (i+1):=by
    have hb:(n==m)=false:=by simp[hm]
    simp[Instr.findNow,Instr.sameNow,h1,hb]
   have hf:fI n (e::es)=fI n es:=by simp[fI,h1,hm]
   rcases Ux (es:=es) (i:=i+1) (by grind) with⟨k1,k2⟩|⟨j,b',e',k1,k2,k3,k4,k5⟩
   ·exact .inl ⟨hf.trans k1,hs.trans k2⟩
   ·refine .inr ⟨j+1,b',e',hf.trans k1,by grind,by simp_all,k4,fun f hfk=>?_⟩;obtain⟨q1,q2,q3⟩:=k5 f hfk;refine⟨by simp[fI,h1,hm,q1],fun m' bp=>?_,fun e'' he=>?_⟩
    ·rw[List.modify_succ_cons];simp[fI,q2 m' bp]
    grind
theorem NU {P w r es ck}(h:w.heap[r]? =some (.map es ck)):(getObj r).run P w=.ok (.map es ck) w:=by
 simp[getObj,Sem.run,h]
theorem vB5 {P w r es ck} o (h:w.heap[r]? =some (.map es ck)):(setObj r o).run P w=.ok () {w with heap:=w.heap.setIfInBounds r o}:=by
 simp[setObj,Sem.run,h]
theorem NV {P w k b n}(h:P.underlying k=some (.int .i64)):(Instr.checkKey b 10000 k (.int .i64 n)).run P w=.ok () w:=by
 unfold Instr.checkKey;simp[run_underlying h]
theorem NW {P w k n es r}(h:P.underlying k=some (.int .i64))(hf:Instr.findNow (.int .i64) (.int .i64 n) es 0=some r):(Instr.findKey k (.int .i64 n) es).run P w=.ok r w:=by
 unfold Instr.findKey;simp[run_underlying h,hf]
theorem vNf {P M w}(ok:Ok M)(hM:M.H=w.heap){t x i v u rx ri}(hx:zV M x rx)(hi:zV M i ri)(h:yL (Dm P M.h t x i) v u):qL P (Instr.lookup t rx ri false) M w v u:=by
 unfold Dm at h;split at h
 case h_2=>exact h.elim
 rename_i id n;split at h
 case h_2=>exact h.elim
 rename_i di an;obtain⟨hb,h⟩:=AV h;obtain⟨rfl,rfl⟩:=wP h;obtain⟨k,e,inf,h1,h2,h3,h4⟩:=vEh hb;obtain⟨C,B,hC,hB,rfl⟩:=hx;obtain⟨C',aE,B',es,ck,k1,k2,k3,k4,k5⟩:=ok.obj id _ an;rw[hC] at aE;cases aE;rw[hB] at k1;cases k1;have nS:ri=.int .i64 n:=hi;subst nS;rw[hM] at k3;refine .pure (rv:=.bool ((di.lookup n).getD false)) ok hM ?_ rfl;have h5:=k5 n;unfold Instr.lookup;rcases Ux (n:=n) (i:=0) k4 with⟨q1,q2⟩|⟨j,b,e',q1,q2,q3,q4,q5⟩
 ·have:di.lookup n=none:=by cases hl:di.lookup n with|none=>rfl|some b=>simp_all
  simp[run_underlying h1,NU k3,NV h2,NW h2 q2,zeroValue,typeInfo,h3,h4,this]
 ·have:di.lookup n=some b:=by cases hl:di.lookup n with|none=>simp_all|some b=>simp_all
  simp[run_underlying h1,NU k3,NV h2,NW h2 q2,this]
theorem Uy {n b c}:∀{es},fI n es=none→∀m,fI m (es++[⟨.int .i64 n,.bool b,c⟩])=if m=n then some (.bool b) else fI m es
 |[],_,m=>by rfl
 |e::es,h,m=>by
  rw[List.cons_append];have aL:∀(m:Int) (l:List MapEntry),fI m (e::l)=match e.key with|.int .i64 k=>if m=k then some e.val else fI m l|_=>fI m l:=fun m l=>rfl
  rw[aL] at h;rw[aL,aL];split at h
  ·rename_i k hk;split at h
   ·cases h
   ·by_cases hm:m=k
    ·grind
    ·rw[if_neg hm,Uy h m,if_neg hm]
  ·exact Uy h m
theorem Uz {P M w}(ok:Ok M)(hM:M.H=w.heap){t x i y v u rx ri ry}(hx:zV M x rx)(hi:zV M i ri)(hy:zV M y ry)(h:yL (Dn P M.h t x i y) v u):
  v=.undef∧mZ P (Instr.mapUpdate t rx ri ry) M w u:=by
 unfold Dn at h;split at h
 case h_2=>exact h.elim
 rename_i id n b;split at h
 case h_2=>exact h.elim
 rename_i di an;obtain⟨hb,h⟩:=AV h;obtain⟨_,rfl,rfl⟩:=gU h;obtain⟨k,e,inf,h1,h2,h3,h4⟩:=vEh hb;obtain⟨C,B,hC,hB,rfl⟩:=hx;obtain⟨C',aE,B',es,ck,k1,k2,k3,k4,k5⟩:=ok.obj id _ an;rw[hC] at aE;cases aE;rw[hB] at k1;cases k1;have nS:ri=.int .i64 n:=hi;subst nS;have hry:ry=.bool b:=hy;subst hry;have k3':=k3;rw[hM] at k3;have write:∀(su:Array MapEntry) (wx:Nat),(Instr.mapUpdate t (.map (some B)) (.int .i64 n) (.bool b)).run P w=.ok () {w with heap:=w.heap.setIfInBounds B (.map su wx)}→
   (∀e∈su.toList,∃m b,e.key=.int .i64 m∧e.val=.bool b)→(∀m,fI m su.toList=if m=n then some (.bool b) else fI m es.toList)→mZ P (Instr.mapUpdate t (.map (some B)) (.int .i64 n) (.bool b)) M w [(id,.imap ((n,b)::di))]:=by
  intro su wx hr he hf;have AY:∀c,(w.heap.setIfInBounds B (.map su wx))[c]? =if c=B then some (.map su wx) else w.heap[c]? :=by grind
  have hH:∀c,c∉C.fp→(w.heap.setIfInBounds B (.map su wx))[c]? =M.H[c]? :=fun c hc=>by
   rw[AY,if_neg (fun(e:c=B)=>hc (by rw[e];exact ga hB)),hM]
  have cS:∀c,c<M.H.size→qX (w.heap.setIfInBounds B (.map su wx)) c=qX M.H c:=fun c _=>by
   unfold qX;grind
  have := zK.write_ok ok an rfl hC C.le_refl (by simp) (by rw [hM]; simp) hH cS (o' := .imap ((n, b) :: di)) (by
   refine⟨B,su,wx,hB,k2,?_,he,fun m=>?_⟩
   ·show(w.heap.setIfInBounds B (.map su wx))[B]? =_;rw[AY,if_pos rfl]
   grind)
  exact⟨_,_,hr,rfl,rfl,rfl,rfl,rfl,this.1,this.2⟩
 refine⟨rfl,?_⟩;rcases Ux (n:=n) (i:=0) k4 with⟨q1,q2⟩|⟨j,b',e',q1,q2,q3,q4,q5⟩
 ·refine write (es.push ⟨.int .i64 n,.bool b,ck⟩) (ck+1) ?_ (fun e he=>?_) fun m=>?_
  ·unfold Instr.mapUpdate;simp[run_underlying h1,NU k3,NV h2,NW h2 q2,vB5 _ k3]
  ·grind
  ·rw[Array.toList_push];exact Uy q1 m
 ·refine write (es.modify j fun e=>{e with key:=.int .i64 n,val:=.bool b}) ck ?_ (by grind) fun m=>?_
  ·unfold Instr.mapUpdate;rw[Nat.zero_add] at q2;simp only[Array.getElem?_toList] at q3;simp[run_underlying h1,NU k3,NV h2,NW h2 q2,vB5 _ k3,q3,q4,Instr.keyThatStays,Instr.sameBits]
  all_goals grind
theorem yOx:∀(ns:List Int) (b:ByteArray),ns.foldl (fun r n=>r.push (UInt8.ofNat n.toNat)) b=⟨(b.data.toList++oQ ns).toArray⟩
 |[],b=>by simp[oQ]
 |n::ns,b=>by
  rw[List.foldl_cons,yOx ns];simp[oQ]
theorem vLy {P M}(ok:Ok M){c v xs}(hv:zX M c v)(h:C9 M.h c=some xs){w}(hM:M.H=w.heap):
  ∃A n k,v=.slice A n k∧(Conv.bytesToString v).run P w=.ok (.string ⟨(oQ xs).toArray⟩) w:=by
 unfold C9 at h;split at h
 ·cases h;refine⟨none,0,0,hv,?_⟩;rw[show v=.slice none 0 0 from hv];rfl
 ·split at h
  ·rename_i ys hr;obtain rfl:ys=xs:=by simp_all
   obtain⟨news,⟨A,k,e,hl,cy,kD⟩,F,hE⟩:=Uu ok hv hr rfl;refine⟨A,_,k,e,?_⟩;have hn:news=ys.map (Value.int .u8):=by
    refine List.ext_getElem (by simpa[Ty.size] using hl) fun j h1 h2=>?_
    have:=hE j (by simp_all);simp[qF,Ty.size] at this;grind
   subst e;cases A with
   |none=>
    have h1:ys=[]:=by grind
    subst h1;rfl
   |some a=>
    have mX:(loadCells a ys.length).run P w=.ok (ys.map (Value.int .u8)).toArray w:=by
     rcases kD with h0|⟨h1,h2⟩
     ·have h1:ys=[]:=by grind
      subst h1;rfl
     ·have:=Rd.first (P:=P) (H:=M.H) (v:=.slice (some a) ys.length k) (n:=ys.length) (size:=1) (news:=news) ⟨_,k,rfl,by grind,cy,by grind⟩ w hM.symm
      rw[hn] at this
      simpa[Builtin.firstCells] using this
    rw[run_bytesToString w a _ k ys mX,yOx];rfl
  ·cases h
structure tX (M:zK) (w:World) (u:vJ) (M':zK) (w':World):Prop where
 os:w'.os=w.os
 tape:w'.tape=w.tape
 output:w'.output=w.output
 H:M'.H=w'.heap
 h:M'.h=qK M.h u
 ok:Ok M'
 step:vG M M'
def tY (P:Program)(f:Nat)(args:List zY)(h:Hp)(v:zY)(u:vJ):Prop:=
 ∀(M:zK) (w:World) (vs:Array Value),M.h=h→M.H=w.heap→Ok M→zM (zV M) args vs.toList→
  ((callFunc f vs).run P w=.ok (.enter f vs) w∧Calls P f vs w fun
   |.returned rv,w'=>∃M',tX M w u M' w'∧zV M' v rv
   |_,_=>False)∨∃rv w' M',(callFunc f vs).run P w=.ok (.value rv) w'∧tX M w u M' w'∧zV M' v rv
def yMp (P:Program)(S:Nf):Prop:=∀k nm f args h v u,yL (S k nm f args h) v u→tY P f args h v u
structure gF (E:Env):Prop where
 eq:IL E.P E.eqT
 sums:yMp E.P E.sums
section
variable {P:Program} {Q:Exit→Act→World→Prop} {o:Oper} {a:Act} {w:World} {M:zK} {next:Act→World→Prop} {v:zY} {u:vJ}
theorem gW {s}(hr:qL P s M w v u)(he:execOp a.eval o=(do pure (.value (←s)):Sem Next))(hn:∀M' w' rv,tX M w u M' w'→zV M' v rv→next (a.put o.dst rv) w'):
  o.wp P a w next Q:=by
 obtain⟨rv,w',M',h1,h2,h3,h4,h5,h6,h7,h8,h9⟩:=hr;unfold Oper.wp;rw[he];simp[h1];exact hn M' w' rv ⟨h2,h3,h4,h5,h6,h7,h8⟩ h9
theorem yW5 {s}(hr:mZ P s M w u)(he:execOp a.eval o=(do s;pure .skip:Sem Next))(hn:∀M' w' rv,tX M w u M' w'→zV M' .undef rv→next (a.put o.dst rv) w'):
  o.wp P a w next Q:=by
 obtain⟨w',M',h1,h2,h3,h4,h5,h6,h7,h8⟩:=hr;unfold Oper.wp;rw[he];simp[h1];exact hn M' w' undef ⟨h2,h3,h4,h5,h6,h7,h8⟩ trivial
theorem pZ (ok:Ok M)(hM:M.H=w.heap){rv}(hu:u=[])(hv:zV M v rv)(he:(execOp a.eval o).run P w=.ok (.value rv) w)(hn:∀M' w' rv,tX M w u M' w'→zV M' v rv→next (a.put o.dst rv) w'):
  o.wp P a w next Q:=by
 unfold Oper.wp;rw[he];subst hu;exact hn M w rv ⟨rfl,rfl,rfl,hM,rfl,ok,.refl M⟩ hv
end
theorem I4 {α β} f:∀(l:List α) (r:List β),l.mapM f=some r→zM (fun a b=>f a=some b) l r
 |[],r,h=>by simp at h;subst h;trivial
 |a::l,r,h=>by
  simp[Option.bind_eq_some_iff] at h;obtain⟨b,h1,bs,h2,h3⟩:=h;cases h3;exact⟨h1,I4 f l bs h2⟩
theorem zM.map_left {α β γ R}{f:α→γ}:∀{l} {m:List β},zM (fun a b=>R (f a) b) l m→zM R (l.map f) m
 |[],[],_=>trivial
 |_::_,_::_,h=>⟨h.1,zM.map_left h.2⟩
def _root_.Go.Operand.lit:Operand→Value
 |.const c=>c
 |_=>undef
theorem UA {P:Program}{M:zK}{w:World}{t:TypeId}{d}{y:Operand}{x:zZ}{rx ry:Value}{b:Bool}(hu:P.underlying t=some d)(hx:zX M x rx)(hy:ry=y.lit)
  (h:SY d y x=some b) op (sv:op=.eql∨op=.neq) ox oy:
  (eqGuard op t ox oy rx ry).run P w=.ok () w∧(binOp op t rx ry).run P w=.ok (.bool (rT op b)) w:=by
 have key:∀n,(Op.equalIn (n+1) t rx ry).run P w=.ok b w→(eqGuard op t ox oy rx ry).run P w=.ok () w→(binOp op t rx ry=match op with|.eql=>(do pure (.bool (←Op.equal t rx ry)))|_=>(do pure (.bool (!(←Op.equal t rx ry)))))→
   n=9999→(eqGuard op t ox oy rx ry).run P w=.ok () w∧(binOp op t rx ry).run P w=.ok (.bool (rT op b)) w:=by
  intro n h1 h2 h3 hn;have gD:(Op.equal t rx ry).run P w=.ok b w:=by subst hn;exact h1
  refine⟨h2,?_⟩;rw[h3];rcases sv with rfl|rfl<;>simp[gD,rT]
 unfold SY at h;split at h<;>cases h<;>simp only[Operand.lit] at hy<;>subst hy;all_goals (try obtain rfl:rx=_:=hx)
 all_goals (try obtain⟨C,B,_,_,_,rfl⟩:=hx)
 all_goals (try obtain⟨B,o,rfl,_⟩:=hx)
 all_goals (try obtain⟨cv,rfl,_⟩:=hx)
 all_goals (try obtain⟨⟨_,_,_,rfl⟩,_⟩:=hx)
 all_goals
  refine key 9999 ?_ ?_ ?_ rfl
  ·generalize 9999=n;unfold Op.equalIn;simp[run_underlying hu]
  ·rcases sv with rfl|rfl<;>simp[eqGuard]
  ·rcases sv with rfl|rfl<;>rfl
theorem UB {M}(ok:Ok M){c v n}(hv:zX M c v)(h:Db M.h c=some n)(hn:0<n):∃a k,v=.slice (some a) n k:=by
 unfold Db at h;split at h
 ·rename_i sh t xs;cases h;have hv:qF M.H (bif sh then M.G else M.F) (.sl t) xs (fun _=>some v):=hv;simp[qF] at hv;obtain⟨A,m,c,rfl,rfl,hc,h⟩:=hv;rcases h with⟨rfl,_⟩|⟨B,o,rfl,_⟩
  ·simp at hn
  ·exact⟨_,_,rfl⟩
 ·rename_i id;split at h
  ·rename_i own t xs an;cases h;obtain⟨C,hC,hO⟩:=ok.obj _ _ an;obtain⟨C',aE,A,k,e,hS⟩:=hv;rw[hC] at aE;cases aE;have hl:C.len=xs.length:=hO.1;rw[e,hl];cases hB:C.blk with
   |none=>rw[hB] at hS;omega
   |some B=>
    rw[hB] at hS;obtain⟨_,a,rfl,_⟩:=hS;exact⟨_,_,rfl⟩
  ·cases h
 ·cases h
theorem vSo {P:Program}{w:World}{t e}{a n k}(hu:P.underlying t=some (.slice e)) op (sv:op=.eql∨op=.neq) ox oy:
  (eqGuard op t ox oy (.slice (some a) n k) (.slice none 0 0)).run P w=.ok () w∧(binOp op t (.slice (some a) n k) (.slice none 0 0)).run P w=.ok (.bool (rT op false)) w:=by
 have key:∀m,(Op.equalIn (m+1) t (.slice (some a) n k) (.slice none 0 0)).run P w=.ok false w:=fun m=>by
  unfold Op.equalIn;simp[run_underlying hu]
 have h1:(Op.equal t (.slice (some a) n k) (.slice none 0 0)).run P w=.ok false w:=key 9999;rcases sv with rfl|rfl
 ·refine⟨by simp[eqGuard],?_⟩;rw[show binOp .eql t (.slice (some a) n k) (.slice none 0 0)=(do pure (.bool (←Op.equal t (.slice (some a) n k) (.slice none 0 0)))) from rfl];simp[h1,rT]
 ·refine⟨by simp[eqGuard],?_⟩;rw[show binOp .neq t (.slice (some a) n k) (.slice none 0 0)=(do pure (.bool (!(←Op.equal t (.slice (some a) n k) (.slice none 0 0))))) from rfl];simp[h1,rT]
theorem UC {M}{ev:Operand→zY}{ρ:Operand→Value}(aO:∀x,zV M (ev x) (ρ x)):∀(l:List (Nat×Operand)),zM (AQ M) (l.map fun p=>(p.1,ev p.2)) (l.map fun p=>(p.1,ρ p.2))
 |[]=>trivial
 |p::l=>⟨⟨rfl,aO p.2⟩,UC aO l⟩
theorem vBc {f:Operand→Value}(parts:Array (Nat×Operand)):(parts.map fun(i,x)=>(i,f x))=(parts.toList.map fun p=>(p.1,f p.2)).toArray:=by
 grind
theorem yNt {M}{ev:Operand→zY}{ρ}(aO:∀x,zV M (ev x) (ρ x)):∀{l ids},zM (fun x id=>wb (ev x)=some id) l ids→
  zM (fun id u=>∃C B,M.κ id=some C∧C.blk=some B∧u=.pointer (some ⟨B,0,none⟩)) ids (l.map ρ)
 |[],[],_=>trivial
 |x::l,id::ids,h=>by
  refine⟨?_,yNt aO h.2⟩;have h1:wb (ev x)=some id:=h.1;have hx:=aO x;unfold wb at h1;split at h1
  ·rename_i DY hc;cases h1;rw[hc] at hx;exact hx
  ·cases h1
theorem yV2 {M ev ρ}(aO:∀x,zV M (ev x) (ρ x)):∀(l:List Operand),zM (zV M) (l.map ev) (l.map ρ)
 |[]=>trivial
 |x::l=>⟨aO x,yV2 aO l⟩
theorem vQk {E}(hE:gF E){A}{k pre}{Q}{o}{a}{w}{M}{next}{v}{u ev}(ok:Ok M)(hM:M.H=w.heap)
  (aO:∀x,zV M (ev x) (a.eval x)) (h:yL (lB E A k pre o ev M.h) v u) (hn:∀M' w' rv,tX M w u M' w'→zV M' v rv→next (a.put o.dst rv) w'):o.wp E.P a w next Q:=by
 unfold lB at h;dsimp only at h;split at h
 ·rename_i x ho;obtain⟨rfl,rfl⟩:=wP h;exact pZ ok hM rfl (aO x) (by cases o;cases ho;rfl) hn
 ·rename_i x ho;obtain⟨rfl,rfl⟩:=wP h;exact pZ ok hM rfl (aO x) (by cases o;cases ho;rfl) hn
 ·rename_i c x y ho;split at h
  ·rename_i cb hc;have lF:=aO c;rw[hc] at lF;have lF:a.eval c=.bool cb:=lF;split at h
   ·rename_i xb yb hx hy;obtain⟨rfl,rfl⟩:=wP h;have h1:=aO x;have h2:=aO y;rw[hx] at h1;rw[hy] at h2;refine pZ (rv:=.bool (bif cb then xb else yb)) ok hM rfl (show zV M (.c (.bool _)) (.bool _) from rfl) ?_ hn;have h1:a.eval x=.bool xb:=h1;have h2:a.eval y=.bool yb:=h2;cases o;cases ho;show(do pure (.value (if←asBool (a.eval c) then a.eval x else a.eval y)):Sem Next).run E.P w=_;cases cb<;>simp[lF,asBool,h1,h2]
   ·refine pZ (rv:=if cb then a.eval x else a.eval y) ok hM ?_ ?_ ?_ hn
    ·rcases h with⟨_,_,rfl⟩|⟨_,⟨_,_,rfl⟩|⟨_,h⟩⟩
     ·rfl
     ·rfl
     ·exact h.elim
    ·rcases h with⟨rfl,rfl,_⟩|⟨rfl,⟨_,rfl,_⟩|⟨_,h⟩⟩
     ·exact aO x
     ·exact aO y
     ·exact h.elim
    ·cases o;cases ho;show(do pure (.value (if←asBool (a.eval c) then a.eval x else a.eval y)):Sem Next).run E.P w=_;cases cb<;>simp[lF,asBool]
  ·exact h.elim
 ·rename_i t ho;split at h
  ·rename_i zs aT hz;obtain⟨_,rfl,rfl⟩:=gU h;exact gW (vIu ok hM aT hz) (by cases o;cases ho;rfl) hn
  ·exact h.elim
 ·rename_i t x ho;split at h
  ·rename_i vs aT hv;obtain⟨_,rfl,rfl⟩:=gU h;exact gW (vK4 ok hM aT (aO x) hv _) (by cases o;cases ho;rfl) hn
  ·exact h.elim
 ·rename_i t parts ho;have hp:=UC aO parts.toList;have:=vKq ok hM hp h;exact gW this (by cases o;cases ho;rw[←vBc];rfl) hn
 ·rename_i t n parts ho;have hp:=UC aO parts.toList;exact gW (Ub ok hM hp h) (by cases o;cases ho;rw[←vBc];rfl) hn
 ·rename_i t x ho;exact gW (vX7 ok hM (aO x) h) (by cases o;cases ho;rfl) hn
 ·rename_i t x y ho;obtain⟨rfl,hr⟩:=vWi ok hM (aO x) (aO y) h;exact yW5 hr (by cases o;cases ho;rfl) hn
 ·rename_i x ho;have hx:=aO x;have key:∀c,ev x=.c c→v=.c c→u=[]→(match a.eval x with|.pointer none|.nilIface|.nilFunc=>False|.func (.method _) _ _=>False|_=>True)→o.wp E.P a w next Q:=by
   intro c hc hv hu hm;rw[hc] at hx;refine pZ (rv:=a.eval x) ok hM hu (by rw[hv];exact hx) ?_ hn;cases o;cases ho;simp only[execOp];generalize a.eval x=r at*
   split<;>first|rfl|exact hm.elim
  split at h
  ·rename_i i j hc;obtain⟨rfl,rfl⟩:=wP h;refine key _ hc rfl rfl ?_;rw[hc] at hx;obtain⟨C,B,_,_,e⟩:=hx;rw[e];trivial
  ·rename_i i j k hc;obtain⟨rfl,rfl⟩:=wP h;refine key _ hc rfl rfl ?_;rw[hc] at hx;obtain⟨C,B,_,_,_,e⟩:=hx;rw[e];trivial
  ·rename_i i j k l hc;obtain⟨rfl,rfl⟩:=wP h;refine key _ hc rfl rfl ?_;rw[hc] at hx;obtain⟨B,o,e,_⟩:=hx;rw[e];trivial
  ·rename_i i j hc;obtain⟨rfl,rfl⟩:=wP h;refine key _ hc rfl rfl ?_;rw[hc] at hx;obtain⟨cv,e,_⟩:=hx;rw[e];trivial
  ·exact h.elim
 ·rename_i op t x y _ ho;cases hc:(S0 y&&SZ op) with
  |false=>
   rw[hc] at h;exact gW (vKf hE.eq ok hM (aO x) (aO y) h) (by cases o;cases ho;rfl) hn
  |true=>
   rw[hc] at h;rw[Bool.and_eq_true] at hc;have sv:op=.eql∨op=.neq:=by cases op<;>first|(left;rfl)|(right;rfl)|(cases hc.2)
   split at h
   ·rename_i d cv hu lF;split at h
    ·rename_i b hb;obtain⟨rfl,rfl⟩:=wP h;have hx:=aO x;rw[lF] at hx;have hy:a.eval y=y.lit:=by
      cases y<;>first|rfl|(cases hc.1)
     obtain⟨h1,h2⟩:=UA (w:=w) hu hx hy hb op sv x y;refine pZ (rv:=.bool (rT op b)) ok hM rfl (show zV M (.c (.bool _)) (.bool _) from rfl) ?_ hn;cases o;cases ho;show(do pure (.value (←(do eqGuard op t x y (a.eval x) (a.eval y);binOp op t (a.eval x) (a.eval y)))):Sem Next).run E.P w=_;simp only[Sem.run_bind,h1,Result.andThen_ok,h2,Sem.run_pure]
    ·split at h
     ·rename_i n hln adY;obtain⟨lY,rfl,rfl⟩:=mW h;have hx:=aO x;rw[lF] at hx;obtain⟨a',k',hx⟩:=UB ok hx hln (by simpa using lY);obtain⟨h1,h2⟩:=vSo (P:=E.P) (w:=w) (a:=a') (n:=n) (k:=k') hu op sv x (.const (.slice none 0 0));have hy:a.eval (.const (.slice none 0 0))=.slice none 0 0:=rfl;refine pZ (rv:=.bool (rT op false)) ok hM rfl (show zV M (.c (.bool _)) (.bool _) from rfl) ?_ hn;cases o;cases ho;show(do pure (.value (←(do eqGuard op t x (.const (.slice none 0 0)) (a.eval x) (a.eval (.const (.slice none 0 0)));binOp op t (a.eval x) (a.eval (.const (.slice none 0 0)))))):Sem Next).run E.P w=_;rw[hx,hy];simp only[Sem.run_bind,h1,Result.andThen_ok,h2,Sem.run_pure]
     ·exact h.elim
   ·exact h.elim
 ·rename_i op t x ho;exact gW (vOu ok hM (aO x) h) (by cases o;cases ho;rfl) hn
 ·rename_i s d x ho;split at h
  ·rename_i k1 k k2 n hs hd hx;obtain⟨rfl,rfl⟩:=wP h;have lZ:=aO x;rw[hx] at lZ;have lZ:a.eval x=.int k2 n:=lZ;refine pZ (rv:=.int k (k.wrap n)) ok hM rfl (show zV M (.c (.int _ _)) (.int _ _) from rfl) ?_ hn;cases o;cases ho;show(do pure (.value (←convert s d (a.eval x))):Sem Next).run E.P w=_;simp[convert,run_underlying hs,run_underlying hd,lZ,Conv.intToInt]
  ·rename_i e c hs hd hx;split at h
   ·rename_i xs he I5;obtain⟨rfl,rfl⟩:=wP h;have lZ:=aO x;rw[hx] at lZ;obtain⟨A,n,k,e1,e2⟩:=vLy (P:=E.P) (w:=w) ok lZ I5 hM;refine pZ (rv:=.string ⟨(oQ xs).toArray⟩) ok hM rfl (show zV M (.c (.str xs)) _ from rfl) ?_ hn;cases o;cases ho;show(do pure (.value (←convert s d (a.eval x))):Sem Next).run E.P w=_;rw[e1] at e2⊢;simp only[Sem.run_bind,run_convert_bytes_string w s d e A n k hs he hd,e2,Result.andThen_ok,Sem.run_pure]
   ·exact h.elim
  ·exact h.elim
 ·rename_i f first captured ho
  cases hf:Nat.beq first.size 0 with
  |false=>rw[hf] at h;exact h.elim
  |true=>
   rw[hf] at h;simp only[cond_true] at h;split at h
   ·rename_i ids kJ;obtain⟨rfl,rfl⟩:=wP h;have h0:first=#[]:=Array.eq_empty_of_size_eq_zero (by simpa using hf)
    refine pZ (rv:=.func (.func f) #[] (captured.map a.eval)) ok hM rfl ?_ ?_ hn
    case refine_2=>
     cases o;cases ho;show(do pure (.value (←Instr.makeFunc (.func f) (first.map a.eval) (captured.map a.eval))):Sem Next).run E.P w=_;subst h0;simp[Instr.makeFunc]
    refine⟨_,rfl,?_⟩;rw[Array.toList_map];exact yNt aO (I4 _ _ _ kJ)
   ·exact h.elim
 ·rename_i t l c ho;exact gW (T4 ok hM (aO l) (aO c) h) (by cases o;cases ho;rfl) hn
 ·rename_i t ho;exact gW (Uw ok hM h) (by cases o;cases ho;rfl) hn
 ·rename_i t x i ho;exact gW (vNf ok hM (aO x) (aO i) h) (by cases o;cases ho;rfl) hn
 ·rename_i t x i y ho;obtain⟨rfl,hr⟩:=Uz ok hM (aO x) (aO i) (aO y) h;exact yW5 hr (by cases o;cases ho;rfl) hn
 ·rename_i t x lo hi mx ho;have hO:∀y:Option Operand,DL M (y.map ev) (y.map a.eval):=fun y=>by
   cases y with
   |none=>trivial
   |some y=>exact aO y
  exact gW (vX3 ok hM (aO x) (hO lo) (hO hi) (hO mx) h) (by cases o;cases ho;rfl) hn
 ·rename_i t x f ho;exact gW (TN ok hM (aO x) h) (by cases o;cases ho;rfl) hn
 ·rename_i t x f ho;exact gW (TP ok hM (aO x) h) (by cases o;cases ho;rfl) hn
 ·rename_i t x i ho;exact gW (vYq ok hM (aO x) (aO i) h) (by cases o;cases ho;rfl) hn
 ·rename_i t x i ho;exact gW (vKj ok hM (aO x) (aO i) h) (by cases o;cases ho;rfl) hn
 ·rename_i t i ho;have ht:=aO t;split at h
  ·rename_i xs I5;rw[I5] at ht;obtain⟨vs,dI,bj⟩:=ht;split at h
   ·rename_i g cs hi;obtain⟨hp,rfl⟩:=Tl h;have hl:=bj.length;have bn:i<xs.length:=by
     rcases Nat.lt_or_ge i xs.length with h|h
     ·exact h
     ·rw[List.getElem?_eq_none h] at hi;cases hi
    have kC:i<vs.size:=by simp at hl;omega
    have hc:=bj.get i bn (by simpa using kC);rw[List.getElem?_eq_getElem bn,Option.some.injEq] at hi;rw[hi] at hc;refine pZ (rv:=vs[i]) ok hM rfl ?_ ?_ hn
    ·rcases Tq hp with⟨e1,rfl⟩|⟨e1,c,rfl,rfl⟩
     ·cases e1;exact hc
     ·cases e1;exact hc
    ·cases o;cases ho;show(do pure (.value (←Instr.extract (a.eval t) i)):Sem Next).run E.P w=_;rw[dI];simp[Instr.extract,kC]
   ·exact h.elim
  ·exact h.elim
 ·rename_i c ho;have cN:=yV2 aO c.args.toList;have exec:∀b,c.callee=.builtin b→∀s:Sem Value,(∀C,Go.builtin b c.argTypes o.type C (c.args.map a.eval)=(do pure (.value (←s)):Sem Next))→execOp a.eval o=(do pure (.value (←s)):Sem Next):=fun b hb s hs=>by
   cases o;cases ho;show(do let d←resolve a.eval c _;invoke d.target d.args:Sem Next)=_;unfold resolve;rw[hb];exact hs _
  have kK:c.args.map a.eval=(c.args.toList.map a.eval).toArray:=by cases c.args;simp
  split at h
  ·rename_i b kL;unfold Tc at h;split at h
   ·split at h
    case h_2=>exact h.elim
    rename_i x hx;have h1:∃rx,(c.args.toList.map a.eval).toArray=#[rx]∧zX M x rx:=by
     rw[hx] at cN
     match hl:c.args.toList.map a.eval,cN with
     |[rx],hh=>exact⟨rx,rfl,hh.1⟩
    obtain⟨rx,AZ,lZ⟩:=h1;split at h
    ·rename_i e hu;split at h
     ·rename_i n hlen;obtain⟨rfl,rfl⟩:=wP h;obtain⟨t,ht,hu⟩:=Option.bind_eq_some_iff.1 hu;obtain⟨A,k,rfl⟩:=vU4 ok lZ hlen;refine gW (s:=Builtin.len_ c.argTypes o.type (c.args.map a.eval)) ?_ (exec _ kL _ fun _=>rfl) hn;rw[kK,AZ];exact .pure ok hM (vIv ht hu) rfl
     ·exact h.elim
    ·exact h.elim
   ·split at h
    case h_2=>exact h.elim
    rename_i b x hx;have h1:∃rb rx,(c.args.toList.map a.eval).toArray=#[rb,rx]∧zV M b rb∧zV M x rx:=by
     rw[hx] at cN
     match hl:c.args.toList.map a.eval,cN with
     |[rb,rx],hh=>exact⟨rb,rx,rfl,hh.1,hh.2.1⟩
    obtain⟨rb,rx,AZ,UD,lZ⟩:=h1;split at h
    ·rename_i t t' hts;obtain⟨htt,h'⟩:=AV h;have:t=t':=by simpa using htt
     subst this;refine gW (s:=Builtin.append_ c.argTypes o.type (c.args.map a.eval)) ?_ (exec _ kL _ fun _=>rfl) hn;have ht:c.argTypes=#[t,t]:=by
      have:=congrArg List.toArray hts
      simpa using this
     rw[kK,AZ,ht];exact vYk ok hM UD lZ h'
    ·exact h.elim
   ·split at h
    case h_2=>exact h.elim
    rename_i d s hx;have h1:∃rb rx,(c.args.toList.map a.eval).toArray=#[rb,rx]∧zV M d rb∧zV M s rx:=by
     rw[hx] at cN
     match hl:c.args.toList.map a.eval,cN with
     |[rb,rx],hh=>exact⟨rb,rx,rfl,hh.1,hh.2.1⟩
    obtain⟨rb,rx,AZ,UD,lZ⟩:=h1;split at h
    ·rename_i e hu;obtain⟨UE,h⟩:=AV h;obtain⟨t,ht,hu⟩:=Option.bind_eq_some_iff.1 hu;refine gW (s:=Builtin.copy_ c.argTypes o.type (c.args.map a.eval)) ?_ (exec _ kL _ fun _=>rfl) hn;rw[kK,AZ];exact Uv ok hM ht hu (by simpa using UE) UD lZ h
    ·exact h.elim
   ·split at h
    case h_2=>exact h.elim
    rename_i id lo n hx;have h1:∃rx,(c.args.toList.map a.eval).toArray=#[rx]∧zX M (.osl id (some (lo,n))) rx:=by
     rw[hx] at cN
     match hl:c.args.toList.map a.eval,cN with
     |[rx],hh=>exact⟨rx,rfl,hh.1⟩
    obtain⟨rx,AZ,lZ⟩:=h1;split at h
    ·rename_i t ht;refine gW (s:=Builtin.clear_ c.argTypes o.type (c.args.map a.eval)) ?_ (exec _ kL _ fun _=>rfl) hn;rw[kK,AZ];obtain⟨rv,w',M',q1,q2⟩:=vGq (T:=o.type) ok hM lZ h;refine⟨rv,w',M',?_,q2⟩;have e:(Builtin.clear_ c.argTypes o.type #[rx]).run E.P w=(Builtin.clear_ #[t] o.type #[rx]).run E.P w:=by
      simp only[Builtin.clear_,ht];rfl
     rw[e];exact q1
    ·exact h.elim
   ·refine gW (s:=Builtin.max_ c.argTypes o.type (c.args.map a.eval)) ?_ (exec _ kL _ fun _=>rfl) hn;rw[kK];exact yNh (lt:=false) (ts:=c.argTypes) (T:=o.type) ok hM cN h
   ·refine gW (s:=Builtin.min_ c.argTypes o.type (c.args.map a.eval)) ?_ (exec _ kL _ fun _=>rfl) hn;rw[kK];exact yNh (lt:=true) (ts:=c.argTypes) (T:=o.type) ok hM cN h
   ·exact h.elim
  ·rename_i f kL;split at h
   ·rename_i UF cap hf;have hfv:=aO f;rw[hf] at hfv;obtain⟨cv,lF,I6⟩:=hfv;have bj:zM (zV M) (c.args.toList.map ev++cap.map fun id=>.c (.ptr id 0)) (c.args.map a.eval++cv).toList:=by
     rw[Array.toList_append,Array.toList_map];exact cN.append (zM.map_left I6)
    have tR:(execOp a.eval o).run E.P w=(callFunc UF (c.args.map a.eval++cv)).run E.P w:=by
     cases o;cases ho;show(do let d←resolve a.eval c _;invoke d.target d.args:Sem Next).run E.P w=_;unfold resolve;rw[kL];simp only[lF,Deferred.ofValue,Sem.run_bind,Sem.run_pure,Result.andThen_ok,invoke,Array.empty_append]
    rcases hE.sums k _ UF _ M.h v u h M w _ rfl hM ok bj with⟨h1,h2⟩|⟨rv,w',M',h1,hB,hv⟩
    case inr=>
     unfold Oper.wp;rw[tR,h1];exact hn M' w' rv hB hv
    unfold Oper.wp;rw[tR,h1,Oper.upon_enter];refine Calls.mono h2 fun e w' he=>?_
    cases e with
    |returned rv=>
     obtain⟨M',hB,hv⟩:=he;exact hn M' w' rv hB hv
    |panicked _=>exact he.elim
    |outgrown=>exact he.elim
   ·exact h.elim
  ·exact h.elim
 ·exact h.elim
section
variable {P:Program} {h h':Hp}
theorem vOo {t a}(hh:∀id∈yP a,h id=h' id):Dd P h t a=Dd P h' t a:=by
 unfold Dd;cases a with
 |c v=>cases v<;>first|rfl|(have:=hh _ (List.mem_singleton.2 rfl);simp_all)
 |_=>rfl
theorem yDw {v}(hh:∀id∈vQ v,h id=h' id):oR h v=oR h' v:=by
 unfold oR;cases v<;>first|rfl|(have:=hh _ (List.mem_singleton.2 rfl);simp_all)
theorem UG:∀{vs},(∀id∈vs.flatMap vQ,h id=h' id)→nM h vs=nM h' vs
 |[],_=>rfl
 |v::vs,hh=>by
  simp  at hh;unfold nM;rw[yDw fun id hi=>hh id (.inl hi),UG (by grind)]
theorem yP2 {v vs}(e:oP v=some vs):vs.flatMap vQ=yP v:=by
 unfold oP at e;split at e
 ·cases e;simp[yP]
 ·cases e;rfl
 ·cases e
theorem vI8 {t a v}(ha:∀id∈yP a,h id=h' id)(hv:∀id∈yP v,h id=h' id):De P h t a v=De P h' t a v:=by
 unfold De;cases e:oP v with
 |none=>rfl
 |some vs=>
  have hf:nM h vs=nM h' vs:=UG (by rw[yP2 e];exact hv);cases a with
  |c x=>
   cases x with
   |mptr id i=>
    have h1:=ha _ (List.mem_singleton.2 rfl);simp only[h1];generalize h' id=ob;rcases ob with _|(_|_|_|_|_|_|_)<;>first|rfl|skip
    all_goals cases v with
    |c y=>cases y with
     |osl jd r=>cases r with
      |none=>
       have h2:=hv _ (List.mem_singleton.2 rfl);simp_all
      |some _=>rfl
     |_=>rfl
    |_=>rfl
   |ptr id off=>
    have h1:=ha _ (List.mem_singleton.2 rfl);simp_all
   |eptr id i off=>
    have h1:=ha _ (List.mem_singleton.2 rfl);simp_all
   |meptr id i j ver=>
    have h1:=ha _ (List.mem_singleton.2 rfl);simp[h1]
   |_=>rfl
  |_=>rfl
theorem NX {v}(hh:∀id∈vQ v,h id=h' id):kz h v=kz h' v:=by
 unfold kz;cases v<;>first|rfl|(have:=hh _ (List.mem_singleton.2 rfl);simp_all)
theorem vGu {v}(hh:∀id∈vQ v,h id=h' id):Da h v=Da h' v:=by
 have e:=NX hh;unfold Da;grind
theorem vIp {t x i}(hh:∀id∈yP x,h id=h' id):Df P h t x i=Df P h' t x i:=by
 unfold Df;generalize P.underlying t=d;rcases d with _|d
 ·rfl
 ·cases d with
  |slice e=>
   cases x with
   |c v=>
    cases i with
    |c iv=>
     cases iv with
     |int k n=>cases v<;>first|rfl|(have:=hh _ (List.mem_singleton.2 rfl);simp_all)
     |_=>cases v<;>rfl
    |_=>rfl
   |_=>rfl
  |array n e=>
   grind
  |_=>rfl
theorem vTu {nm t}(h0:h nm=h' nm):Dl P nm h t=Dl P nm h' t:=by
 unfold Dl;rw[h0]
theorem UH {t x i}(hh:∀id∈yP x,h id=h' id):Dm P h t x i=Dm P h' t x i:=by
 unfold Dm;split
 ·rename_i id n;rw[hh id (by simp[yP,vQ])]
 ·rfl
theorem vTe {t x i y}(hh:∀id∈yP x,h id=h' id):Dn P h t x i y=Dn P h' t x i y:=by
 unfold Dn;split
 ·rename_i id n b;rw[hh id (by simp[yP,vQ])]
 ·rfl
theorem UI {t x lo hi mx}(hh:∀id∈yP x,h id=h' id):Dp P h t x lo hi mx=Dp P h' t x lo hi mx:=by
 unfold Dp;split
 ·rfl
 ·rename_i id r _;rw[hh id (by simp[yP,vQ])]
 ·rename_i id _;rw[hh id (by simp[yP,vQ])]
 ·rename_i id off _;rw[hh id (by simp[yP,vQ])]
 ·rfl
theorem vPz {v}(hh:∀id∈yP v,h id=h' id):Ax h v=Ax h' v:=by
 unfold Ax;cases v with
 |c v=>cases v with
  |osl jd r=>cases r with
   |none=>
    have h2:=hh _ (List.mem_singleton.2 rfl);simp_all
   |some _=>rfl
  |_=>rfl
 |_=>rfl
theorem yFs:∀{parts rows},(∀id∈(parts.map (·.2)).flatMap yP,h id=h' id)→Ay h rows parts=Ay h' rows parts
 |[],_,_=>rfl
 |(i,v)::rest,rows,hh=>by
  simp only[List.map_cons,List.flatMap_cons,List.mem_append] at hh;unfold Ay;rw[vPz fun id hi=>hh id (.inl hi)];cases Ax h' v with
  |none=>rfl
  |some p=>simp[yFs fun id hi=>hh id (.inr hi)]
theorem yEh {t}:∀{parts xs},(∀id∈(parts.map (·.2)).flatMap yP,h id=h' id)→rV h t xs parts=rV h' t xs parts
 |[],_,_=>rfl
 |(i,v)::rest,xs,hh=>by
  simp only[List.map_cons,List.flatMap_cons,List.mem_append] at hh;unfold rV;cases e:oP v with
  |none=>rfl
  |some vs=>
   have hf:nM h vs=nM h' vs:=UG (by rw[yP2 e];simp_all);simp[hf];cases nM h' vs with
   |none=>rfl
   |some p=>
    dsimp only;cases Is t p.1 with
    |none=>rfl
    |some x=>simp[yEh fun id hi=>hh id (.inr hi)]
theorem vId {mat nm t n parts}(h0:h nm=h' nm)(hh:∀id∈(parts.map (·.2)).flatMap yP,h id=h' id):
  Dg P mat nm h t n parts=Dg P mat nm h' t n parts:=by
 have e':∀ty:Ty,rV h ty (List.replicate n ty.dflt) parts=rV h' ty (List.replicate n ty.dflt) parts:=fun ty=>yEh hh
 unfold Dg;rw[h0,yFs hh];simp_all
theorem vOp {mat nm t l c}(h0:h nm=h' nm):Dh P mat nm h t l c=Dh P mat nm h' t l c:=by
 unfold Dh;rw[h0]
theorem UJ {t v}(hh:∀id∈vQ v,h id=h' id):tG h t v=tG h' t v:=by
 unfold tG;cases v with
 |osl id r=>
  have:=hh _ (List.mem_singleton.2 rfl);simp_all
 |_=>rfl
theorem vW9 {mat:Bool}{nm:Nat}{t:TypeId}{b x:zY}(h0:h nm=h' nm)(hb:∀id∈yP b,h id=h' id)(hx:∀id∈yP x,h id=h' id):Dq P mat nm h t b x=Dq P mat nm h' t b x:=by
 unfold Dq;rw[h0];generalize P.underlying t=d;rcases d with _|d
 ·rfl
 cases d with
 |slice e=>
  generalize h' nm=on;cases on with
  |some _=>rfl
  |none=>
   cases b with
   |c b=>
    cases x with
    |c x=>
     have ht:∀ty,tG h ty x=tG h' ty x:=fun ty=>UJ hx
     simp only[ht];cases b with
     |osl id r=>
      have h1:=hb _ (List.mem_singleton.2 rfl);simp only[h1];cases x with
      |osl jd r2=>
       have h2:=hx _ (List.mem_singleton.2 rfl);grind
      |_=>cases mat with
       |false=>rfl
       |true=>
        generalize ky P e=et;rcases et with _|(_|_|_|_)<;>first|rfl|skip
        rename_i t2;cases t2<;>first|rfl|skip
        rename_i k;cases k<;>cases r<;>rfl
     |_=>cases mat with
      |false=>rfl
      |true=>
       generalize ky P e=et;rcases et with _|(_|_|_|_)<;>first|rfl|skip
       rename_i t2;cases t2<;>first|rfl|skip
       rename_i k;cases k<;>rfl
    |_=>rfl
   |_=>rfl
 |_=>rfl
theorem vO2 {d s}(hd:∀id∈yP d,h id=h' id)(hs:∀id∈yP s,h id=h' id):Dr h d s=Dr h' d s:=by
 unfold Dr;cases d with
 |c d=>
  cases s with
  |c s=>
   cases d with
   |bsl id off n=>
    have h1:=hd _ (List.mem_singleton.2 rfl);have h2:kz h s=kz h' s:=NX hs;grind
   |_=>rfl
  |_=>simp
 |_=>rfl
end
theorem UK {E}{A}{k pre}{o}{ev tZ}{h}(he:∀x∈o.op.operands,ev x=tZ x):lB E A k pre o ev h=lB E A k pre o tZ h:=by
 obtain⟨dst,op,type,pos,after,guard⟩:=o;have fZ:∀ps:Array (Nat×Operand),(∀x∈ps.map (·.2),ev x=tZ x)→(ps.toList.map fun p=>(p.1,ev p.2))=(ps.toList.map fun p=>(p.1,tZ p.2)):=fun ps hp=>
  List.map_congr_left (by grind)
 have maps:∀xs:Array Operand,(∀x∈xs,ev x=tZ x)→xs.toList.map ev=xs.toList.map tZ:=by simp
 cases op<;>simp only[Op.operands] at he<;>simp only[lB]
 case build t ps=>rw[fZ ps fun x hx=>he x (by simpa using hx)]
 case buildSlice t n ps=>rw[fZ ps fun x hx=>he x (by simpa using hx)]
 case makeFunc fn first captured=>
  cases fn<;>first|rfl|skip
  have:captured.toList.mapM (fun x=>wb (ev x))=captured.toList.mapM (fun x=>wb (tZ x)):=by
   have h2:∀l:List Operand,(∀x∈l,ev x=tZ x)→l.mapM (fun x=>wb (ev x))=l.mapM (fun x=>wb (tZ x)):=fun l=>by
    induction l with
    |nil=>exact fun _=>rfl
    |cons y l ih=>simp_all
   exact by grind
  simp only[this]
 case call c=>
  obtain⟨callee,args,ats⟩:=c;have ha:=maps args fun x hx=>he x (by simp[Call.operands,hx])
  cases callee with
  |value f=>
   have hf:=he f (by simp[Call.operands]);simp only[hf,ha]
  |builtin b=>simp only[ha]
  |invoke _ _=>rfl
 case makeMap t r=>cases r<;>rfl
 case lookup t x i ok=>cases ok<;>simp_all
 case slice t x lo hi mx=>
  have h1:=he x (by simp);cases lo<;>cases hi<;>cases mx<;>simp_all
 all_goals (first|rfl|(simp only[he _ (by simp:_∈#[_])];done)|(simp_all;done))
def kb (S:Nf):Prop:=∀k nm f (args:List zY) h h',(args.any wW=false→∀id,(id∈args.flatMap yP∨nO nm id=true)→h id=h' id)→(args.any wW=true→h=h')→S k nm f args h=S k nm f args h'
theorem vUx nm:nO nm nm=true:=by
 simp[nO]
theorem UL {E}(hS:kb E.sums){A k pre o ev h h'}
  (hh:match rZ ev o with|none=>h=h'|some l=>∀id,(id∈l∨nO (rY pre o.dst) id=true)→h id=h' id):lB E A k pre o ev h=lB E A k pre o ev h':=by
 have full:h=h'→lB E A k pre o ev h=lB E A k pre o ev h':=fun e=>by rw[e]
 unfold rZ at hh;dsimp only at hh;cases hq:yF3 o.op with
 |true=>
  obtain⟨dst,op,type,pos,after,guard⟩:=o;cases op<;>first|rfl|cases hq
 |false=>
 rw[hq] at hh;simp only[cond_false] at hh;cases hc:(Td o.op&&(o.op.operands.toList.map ev).any wW) with
 |true=>rw[hc] at hh;exact full hh
 |false=>
  rw[hc] at hh;replace hh:∀id,(id∈(o.op.operands.toList.map ev).flatMap yP∨nO (rY pre o.dst) id=true)→h id=h' id:=hh;have h0:h (rY pre o.dst)=h' (rY pre o.dst):=hh _ (.inr (vUx _));have hx:∀x∈o.op.operands,∀id∈yP (ev x),h id=h' id:=by grind
  obtain⟨dst,op,type,pos,after,guard⟩:=o;dsimp only at h0 hx hc;cases op<;>simp only[Op.operands] at hx<;>simp only[lB]
  case alloc t=>rw[h0]
  case box t x=>rw[h0]
  case buildSlice t n ps=>
   exact vId h0 (by grind)
  case load t x=>exact vOo (hx x (by simp))
  case store t x y=>exact vI8 (hx x (by simp)) (hx y (by simp))
  case makeSlice t l c=>exact vOp h0
  case slice t x lo hi mx=>exact UI (hx x (by simp))
  case makeMap t r=>cases r<;>first|rfl|exact vTu h0
  case lookup t x i ok=>cases ok<;>first|rfl|exact UH (hx x (by simp))
  case mapUpdate t x i y=>exact vTe (hx x (by simp))
  case indexAddr t x i=>exact vIp (hx x (by simp))
  case binOp op t x y p=>
   have hx:=hx x (by simp);have hl:∀v,ev x=.c v→Db h v=Db h' v:=fun v e=>by
    cases v with
    |osl id r=>cases r with
     |none=>simp only[Db,hx id (by rw[e];simp[yP,vQ])]
     |some p=>rfl
    |_=>rfl
   split
   ·cases S0 y&&SZ op with
    |false=>rfl
    |true=>
     rename_i d v hu hv;simp only[hl v hv]
   ·rfl
  case convert s d x=>
   have hx:=hx x (by simp);have hs:∀v,ev x=.c v→C9 h v=C9 h' v:=fun v e=>by
    have:=NX (h:=h) (h':=h') (v:=v) fun id an=>hx id (by rw[e];exact an)
    unfold C9;cases v<;>first|rfl|simp only[this]
   split
   ·rfl
   ·rename_i e c _ _ hc;rw[hs c hc]
   ·rfl
  case call c=>
   obtain⟨callee,args,ats⟩:=c;have ha:∀v∈args.toList.map ev,∀id∈yP v,h id=h' id:=fun v hv=>by
    obtain⟨x,A0,rfl⟩:=List.mem_map.1 hv;exact hx x (by simp at A0;simp[Call.operands,A0])
   cases callee with
   |value f=>
    dsimp only;cases hf:ev f with
    |c fv=>cases fv with
     |fn UF cap=>
      dsimp only;simp only[Td,Bool.true_and] at hc;have iO:cap=[]:=by
       have hm:ev f∈(Op.call ⟨.value f,args,ats⟩).operands.toList.map ev:=List.mem_map_of_mem (by simp[Op.operands,Call.operands]);have:=List.any_eq_false.1 hc _ hm;rw[hf] at this
       simpa[wW] using this
      subst iO;simp only[List.map_nil,List.append_nil];have hb:(args.toList.map ev).any wW=false:=by
       refine List.any_eq_false.2 fun v hv=>?_
       obtain⟨x,A0,rfl⟩:=List.mem_map.1 hv;exact List.any_eq_false.1 hc _ (List.mem_map_of_mem (by simp at A0;simp[Op.operands,Call.operands,A0]))
      refine hS _ _ _ _ _ _ (fun _ id an=>?_) fun ht=>?_
      ·rcases an with an|an
       ·obtain⟨v,hv,an⟩:=List.mem_flatMap.1 an;exact ha v hv id an
       ·exact hh id (.inr an)
      ·rw[hb] at ht;cases ht
     |_=>rfl
    |_=>rfl
   |invoke _ _=>rfl
   |builtin b=>
    generalize hl:args.toList.map ev=l at ha;unfold Tc;cases b<;>first|rfl|skip
    case len=>
     match l,ha with
     |[],_=>rfl
     |[v],ha=>cases v with
      |c v=>
       have:=vGu (ha (.c v) (by simp));simp only[this]
      |_=>rfl
     |v::_::_,_=>cases v<;>rfl
    case append=>
     match l,ha with
     |[],_|[_],_|_::_::_::_,_=>rfl
     |[b,x],ha=>
      have:=fun mat t=>vW9 (P:=E.P) (mat:=mat) (t:=t) h0 (ha b (by simp)) (ha x (by simp))
      simp only[this]
    case clear=>
     match l,ha with
     |[],_=>rfl
     |[v],ha=>cases v with
      |c v=>cases v with
       |osl id r=>cases r with
        |none=>rfl
        |some p=>
         have e:=ha (.c (.osl id (some p))) (by simp) id (by simp[yP,vQ]);dsimp only;split
         ·unfold Nc;rw[e]
         ·rfl
       |_=>rfl
      |_=>rfl
     |v::_::_,_=>cases v with
      |c v=>cases v with
       |osl id r=>cases r<;>rfl
       |_=>rfl
      |_=>rfl
    case copy=>
     match l,ha with
     |[],_|[_],_|_::_::_::_,_=>rfl
     |[b,x],ha=>
      have:=vO2 (ha b (by simp)) (ha x (by simp));simp only[this]
  case makeFunc fn first captured=>cases fn<;>rfl
  all_goals rfl
end Go.Ab
set_option linter.unusedSectionVars false
namespace Go.Ab
structure ke (M M':zK):Prop where
 F:∀b,M.F b→M'.F b
 G:∀b,M.G b→M'.G b
 same:∀b,M.F b→M'.H[b]? =M.H[b]?
 sameG:∀b,M.G b→M'.H[b]? =M.H[b]?
 bsz:∀b,b<M.H.size→qX M'.H b=qX M.H b
 size:M.H.size≤M'.H.size
 frame:∀b,b<M.H.size→¬qO M b→M'.H[b]? =M.H[b]?
 own:∀b,qO M' b→b<M.H.size→qO M b
 Gb:∀b,M'.G b→b<M.H.size→M.G b∨qO M b
 Fb:∀b,M'.F b→b<M.H.size→M.F b∨qO M b
theorem vG.grow {M M'}(s:vG M M'):ke M M':=⟨s.ext.F,s.ext.G,s.ext.same,s.ext.sameG,s.ext.bsz,s.size,s.frame,s.own,s.Gb,s.Fb⟩
theorem ke.trans {M M' mV}(x:ke M M')(y:ke M' mV):ke M mV where
 F b h:=y.F b (x.F b h)
 G b h:=y.G b (x.G b h)
 same b h:=(y.same b (x.F b h)).trans (x.same b h)
 sameG b h:=(y.sameG b (x.G b h)).trans (x.sameG b h)
 bsz b h:=(y.bsz b (by have:=x.size;omega)).trans (x.bsz b h)
 size:=Nat.le_trans x.size y.size
 frame b h hn:=by
  have:=x.size;rw[y.frame b (by omega) fun ho=>hn (x.own b ho h),x.frame b h hn]
 own b ho h:=x.own b (y.own b ho (by have:=x.size;omega)) h
 Gb b hg h:=by
  rcases y.Gb b hg (by have:=x.size;omega) with k|k
  ·exact x.Gb b k h
  ·exact .inr (x.own b k h)
 Fb b hg h:=by
  rcases y.Fb b hg (by have:=x.size;omega) with k|k
  ·exact x.Fb b k h
  ·exact .inr (x.own b k h)
def gf (M M':zK):Prop:=∀id C,M.κ id=some C→∃C',M'.κ id=some C'∧C'.blk=C.blk
structure ua (nl:Bool) (M M':zK):Prop where
 g:ke M M'
 k:nl=true→gf M M'
theorem ua.step {nl M M' mV}(x:ua nl M M')(s:vG M' mV):ua nl M mV:=
 ⟨x.g.trans s.grow,fun h id C hC=>by
  obtain⟨C1,h1,e1⟩:=x.k h id C hC;obtain⟨C2,h2,le⟩:=s.ext.κ id C1 h1;exact⟨C2,h2,le.blk.trans e1⟩⟩
theorem ua.trans {M M' mV}(x:ua false M M')(y:ke M' mV):ua false M mV:=⟨x.g.trans y,by simp⟩
structure wA (nl:Bool) (na nt:Nat) (a0:Nat→Value) (M0:zK) (w0:World) (st:St) (a:Act) (w:World):Prop where
 ex:∃M:zK,M.h=st.h∧M.H=w.heap∧Ok M∧ua nl M0 M∧∀t,zV M (st.t t) (a.tmps.getD t undef)
 defers:a.defers=[]
 size:a.tmps.size=nt
 os:w.os=w0.os
 tape:w.tape=w0.tape
 output:w.output=w0.output
 keep:∀t,t<na→a.tmps.getD t undef=a0 t
theorem ySp {M}{st:St}{a:Act}(h:∀t,zV M (st.t t) (a.tmps.getD t undef)) x:zV M (st.ev x) (a.eval x):=by
 cases x with
 |tmp t=>exact h t
 |const v=>exact vP8 M v
 |global g=>trivial
 |func f=>exact⟨#[],rfl,trivial⟩
theorem UM {t s v}(h:t s=v):eg t s v=t:=by
 funext n;unfold eg;cases e:Nat.beq n s with
 |false=>rfl
 |true=>
  simp_all
def DZ (ops:Array Oper)(o:Oper)(st:St):Option Bool:=match o.guard with
 |none=>some true
 |some (j,want)=>match Nl ops j with
  |none=>none
  |some s=>match st.t s with
   |.c (.bool b)=>some (b==want)
   |.skp=>some false
   |_=>none
theorem ySu {R ops o st yes no}{out:R}(h:Nm ops o st yes no=some out):
  ∃b,DZ ops o st=some b∧(if b=true then yes st else no st)=some out:=by
 unfold Nm at h;unfold DZ;cases hg:o.guard with
 |none=>simp_all
 |some p=>
  obtain⟨j,want⟩:=p;rw[hg] at h;dsimp only at h⊢;cases hs:Nl ops j with
  |none=>simp_all
  |some s=>
   rw[hs] at h;dsimp only at h⊢;split at h
   ·rename_i b hb;rw[hb];refine⟨b==want,rfl,?_⟩;cases b with
    |true=>
     simp[UM hb] at h;cases want<;>exact h
    |false=>
     simp[UM hb] at h;cases want<;>exact h
   all_goals simp_all
theorem getD_some {a:Array Value}{s v}(h:a.getD s undef=v)(hv:v≠undef):a[s]? =some v:=by
 by_cases hs:s<a.size
 all_goals simp_all
theorem yRg {ops o st b nl na nt a0 M0 w0 w a}(h:DZ ops o st=some b)(R:wA nl na nt a0 M0 w0 st a w):Region.wanted o (yielded ops a.tmps)=b:=by
 obtain⟨M,_,_,_,_,ht⟩:=R.ex;unfold DZ at h;unfold Region.wanted;split at h
 ·simp_all
 ·rename_i j want hg;rw[hg];split at h
  ·cases h
  ·rename_i s hs;have hv:=ht s;have ub:(ops[j]?).bind (·.dst)=some s:=hs;split at h
   ·rename_i b' hb;cases h;rw[hb] at hv;have:=getD_some hv (by nofun);simp only[yielded,ub,Option.bind_some,this];rfl
   ·rename_i hb;cases h;rw[hb] at hv;have hv:a.tmps.getD s undef=undef:=hv;have:∀x:Option Value,(x=none∨x=some undef)→((match x with|some (.bool b)=>some b|_=>none:Option Bool)==some want)=false:=fun x hx=>by
     rcases hx with rfl|rfl<;>cases want<;>rfl
    refine this _ ?_;by_cases bn:s<a.tmps.size
    all_goals simp_all
   ·cases h
theorem tX.rel {nl na nt a0 M0 M M' w0 w w' st a dst v u rv}(R:wA nl na nt a0 M0 w0 st a w)(hh:M.h=st.h)(hs:ua nl M0 M)(ht:∀t,zV M (st.t t) (a.tmps.getD t undef))
  (hd:∀d,dst=some d→na≤d∧d<nt) (hB:tX M w u M' w') (hv:zV M' v rv):wA nl na nt a0 M0 w0 {t:=j6 st.t dst v,h:=qK st.h u} (a.put dst rv) w' where
 ex:=by
  refine⟨M',by rw[hB.h,hh],hB.H,hB.ok,hs.step hB.step,fun t=>?_⟩;cases dst with
  |none=>exact(ht t).ext hB.step.ext
  |some d=>
   show zV M' (eg st.t d v t) ((a.tmps.setIfInBounds d rv).getD t undef);have bn:d<a.tmps.size:=by rw[R.size];simp_all
   unfold eg;cases e:Nat.beq t d with
   |true=>
    simp_all
   |false=>
    have e:t≠d:=fun e'=>by simp_all
    have:=(ht t).ext hB.step.ext;simp[Array.getElem?_setIfInBounds_ne (Ne.symm e)] at this⊢;exact this
 defers:=by cases dst<;>exact R.defers
 size:=by cases dst<;>simp[Act.put,R.size]
 os:=hB.os.trans R.os
 tape:=hB.tape.trans R.tape
 output:=hB.output.trans R.output
 keep t h:=by
  cases dst with
  |none=>exact R.keep t h
  |some d=>
   have bp:d≠t:=by grind
   rw[←R.keep t h];simp[Act.put,Array.getElem?_setIfInBounds_ne bp]
theorem wA.skip {nl na nt a0 M0 w0 w st a dst}(hd:∀d,dst=some d→na≤d)(R:wA nl na nt a0 M0 w0 st a w):wA nl na nt a0 M0 w0 {st with t:=j6 st.t dst .skp} (a.put dst undef) w where
 ex:=by
  obtain⟨M,h1,h2,h3,h4,ht⟩:=R.ex;refine⟨M,h1,h2,h3,h4,fun t=>?_⟩;cases dst with
  |none=>exact ht t
  |some d=>
   show zV M (eg st.t d .skp t) ((a.tmps.setIfInBounds d undef).getD t undef);unfold eg;cases e:Nat.beq t d with
   |true=>
    have e:t=d:=by simp_all
    subst e;show(a.tmps.setIfInBounds t undef).getD t undef=undef;simp
   |false=>
    have e:t≠d:=fun e'=>by simp_all
    have:=ht t;simp[Array.getElem?_setIfInBounds_ne (Ne.symm e)] at this⊢;exact this
 defers:=by cases dst<;>exact R.defers
 size:=by cases dst<;>simp[Act.put,R.size]
 os:=R.os
 tape:=R.tape
 output:=R.output
 keep t h:=by
  cases dst with
  |none=>exact R.keep t h
  |some d=>
   have bp:d≠t:=by grind
   rw[←R.keep t h];simp[Act.put,Array.getElem?_setIfInBounds_ne bp]
section
variable {E:Env} {A:zW} {nl:Bool} {k pre na nt:Nat} {a0:Nat→Value} {R:Type} {M0:zK} {w0:World} {Q:Exit→Act→World→Prop}
theorem wA.op (hE:gF E){st a w}{o:Oper}{v u next}(r:wA nl na nt a0 M0 w0 st a w)(hd:∀d,o.dst=some d→na≤d∧d<nt)(hy:yL (lB E A k pre o st.ev st.h) v u)
  (hn:∀a' w',wA nl na nt a0 M0 w0 {t:=j6 st.t o.dst v,h:=qK st.h u} a' w'→next a' w'):o.wp E.P a w next Q:=by
 obtain⟨M,h1,h2,h3,h4,ht⟩:=r.ex;rw[←h1] at hy;exact vQk hE h3 h2 (ySp ht) hy fun M' w' rv hB hv=>hn _ _ (hB.rel r h1 h4 ht hd hv)
theorem UN (hE:gF E){dst}(h:wc na nt dst=true):∀d,dst=some d→na≤d∧d<nt:=fun d hd=>by
 simp[wc] at h;simp_all
theorem yUy (hE:gF E){o st K}{out:R}(h:Nk E A k pre na nt o st K=some out):
  (∀d,o.dst=some d→na≤d∧d<nt)∧∃v u,yL (lB E A k pre o st.ev st.h) v u∧K v u {t:=j6 st.t o.dst v,h:=qK st.h u}=some out:=by
 unfold Nk at h;cases hc:wc na nt o.dst with
 |false=>simp_all
 |true=>
  rw[hc] at h;exact⟨UN hE hc,yU.elim_some h⟩
theorem yC2 (hE:gF E){ops}:∀l st K (out:R) a w,(∀p∈l,ops[p.1]? =some p.2)→Nn E A k pre na nt ops l st K=some out→wA nl na nt a0 M0 w0 st a w→
  (∀bP a' w',wA nl na nt a0 M0 w0 bP a' w'→K bP=some out→Q .normal a' w')→wpOps E.P ops Q (l.map (·.1)) a w
 |[],st,K,out,a,w,_,h,r,hK=>hK st a w r h
 |(i,o)::rest,st,K,out,a,w,hl,h,r,hK=>by
  have ho:ops[i]? =some o:=hl (i,o) (by simp);have ih:=fun st K out a w=>yC2 hE rest st K out a w fun p hp=>hl p (by grind)
  obtain⟨b,hb,h⟩:=ySu h;have hw:=yRg hb r;simp[wpOps,ho];cases b with
  |true=>
   rw[if_pos rfl] at h;rw[if_pos hw];obtain⟨hd,v,u,hy,h⟩:=yUy hE h;exact .inl (wA.op hE r hd hy (by grind))
  |false=>
   rw[if_neg (by simp[hw])];cases hc:wc na nt o.dst with
   |false=>simp_all
   |true=>
    rw[hc] at h;exact ih _ _ _ _ _ h (r.skip fun d hd=>(UN hE hc d hd).1) hK
end
def D4 (o:Oper)(acc:Array Nat):Nat:=o.after.foldl (fun s e=>if Region.binds .any e then s|||2^e.on|||acc.getD e.on 0 else s) 0
theorem yKt (acc:Array Nat) i:∀(l:List Edge) s,(l.foldl (fun s e=>if Region.binds .any e then s|||2^e.on|||acc.getD e.on 0 else s) s).testBit i=true→
  s.testBit i=true∨∃e∈l,Region.binds .any e=true∧(e.on=i∨(acc.getD e.on 0).testBit i=true)
 |[],s,h=>.inl h
 |e::l,s,h=>by
  rcases yKt acc i l _ h with h|⟨e',he,h⟩
  all_goals grind
def I7 (ops:Array Oper)(acc:Array Nat):Prop:=∀j,j<acc.size→∀i,(acc.getD j 0).testBit i=true→∃o,ops[j]? =some o∧∃e∈o.after.toList,Region.binds .any e=true∧(e.on=i∨(e.on<j∧(acc.getD e.on 0).testBit i=true))
theorem vRv {ops acc o}(h:I7 ops acc)(ho:ops[acc.size]? =some o):I7 ops (acc.push (D4 o acc)):=by
 have old:∀j,j<acc.size→(acc.push (D4 o acc)).getD j 0=acc.getD j 0:=fun j hj=>by
  simp[Array.getElem?_push,Nat.ne_of_lt hj]
 intro j hj i hb;simp  at hj;by_cases bn:j<acc.size
 ·rw[old j bn] at hb;obtain⟨o',h1,e,h2,h3,h4⟩:=h j bn i hb;grind
 ·have e:j=acc.size:=by omega
  subst e;rw[show(acc.push (D4 o acc)).getD acc.size 0=D4 o acc by simp] at hb;unfold D4 at hb;rw[←Array.foldl_toList] at hb;rcases yKt acc i _ _ hb with hb|⟨e,h2,h3,h4⟩
  all_goals grind
theorem vH9 ops:I7 ops (Region.before ops):=by
 have key:∀(l:List Oper) (acc:Array Nat),I7 ops acc→(∀m (hm:m<l.length),ops[acc.size+m]? =some l[m])→
   I7 ops (l.foldl (fun acc o=>acc.push (D4 o acc)) acc):=by
  intro l
  induction l with
  |nil=>simp
  |cons o l ih=>
   intro acc h ho;refine ih _ (vRv h (ho 0 (by simp))) fun m hm=>?_
   have:=ho (m+1) (by simp;omega);grind
 have:=key ops.toList #[] (nofun) (by simp);unfold Region.before;rw[←Array.foldl_toList];exact this
theorem yQr {ops i j}(h:nP (Region.before ops) i j=true):∃o,ops[j]? =some o∧∃e∈o.after.toList,Region.binds .any e=true∧(e.on=i∨(e.on<j∧nP (Region.before ops) i e.on=true)):=by
 unfold nP at h;by_cases hj:j<(Region.before ops).size
 ·exact vH9 ops j hj i h
 simp_all
def I8 (ops:Array Oper)(S:Nat→Bool):Prop:=∀j o,S j=true→ops[j]? =some o→∀e∈o.after.toList,Region.binds .any e=true→S e.on=true
theorem yKi {ops S}(hS:I8 ops S){i}:∀n j,j=n→nP (Region.before ops) i j=true→S j=true→S i=true:=by
 intro n
 induction n using Nat.strongRecOn with
 |_ n ih=>
  intro j hj h hs;obtain⟨o,ho,e,he,hb,h⟩:=yQr h;have hse:=hS j o hs ho e he hb;grind
theorem vVg {ops S}(hS:I8 ops S){i j}(h:nP (Region.before ops) i j=true)(hr:∀o,ops[j]? =some o→∀e∈o.after.toList,Region.binds .any e=true→S e.on=true):S i=true:=by
 obtain⟨o,ho,e,he,hb,h⟩:=yQr h;have hse:=hr o ho e he hb;rcases h with h|⟨h,hi⟩
 ·simp_all
 ·exact yKi hS _ _ rfl hi hse
structure It where
 i:Nat
 o:Oper
 v:zY
 u:vJ
 r:Option (List Nat)
 wt:Bool
def It.dn (pre:Nat)(it:It):Dt:=⟨it.i,rY pre it.o.dst,ft it.u,it.r⟩
def app (st:St)(it:It):St:={t:=j6 st.t it.o.dst it.v,h:=qK st.h it.u}
section
variable (E:Env) (A:zW) (k pre na nt:Nat) (ops:Array Oper)
structure fL (st:St) (it:It):Prop where
 w:DZ ops it.o st=some it.wt
 y:it.wt=true→(∀d,it.o.dst=some d→na≤d∧d<nt)∧yL (lB E A k pre it.o st.ev st.h) it.v it.u∧it.r=rZ st.ev it.o
 n:it.wt=false→it.v=.skp∧it.u=[]∧∀d,it.o.dst=some d→na≤d∧d<nt
def UO (b:Array Nat)(x y:It):Prop:=nP b x.i y.i=true∨(tJ ops x.i y.i=true∧(x.wt=true→y.wt=true→tI (x.dn pre) (y.dn pre)=false))
end
section
variable {E:Env} {A:zW} {k pre na nt:Nat} {R:Type} {ops:Array Oper} {b:Array Nat}
theorem UP (hE:gF E):∀rest done st K (out:R),Du E A k pre na nt ops b rest done st K=some out→
  ∃dP:List It,dP.map (fun it=>(it.i,it.o))=rest∧K (dP.foldl app st)=some out∧(∀bY it post,dP=bY++it::post→fL E A k pre na nt ops (bY.foldl app st) it)∧
   (∀d∈done,∀it∈dP,nP b d.i it.i=true∨(tJ ops d.i it.i=true∧(it.wt=true→tI d (it.dn pre)=false)))∧dP.Pairwise (UO pre ops b)
 |[],done,st,K,out,h=>⟨[],rfl,h,by simp,by simp,.nil⟩
 |(i,o)::rest,done,st,K,out,h=>by
  unfold Du at h;generalize hc:(done.all fun d=>nP b d.i i||tJ ops d.i i)=c at h;cases c with
  |false=>cases h
  |true=>
   have sw:∀d∈done,nP b d.i i=true∨tJ ops d.i i=true:=by grind
   rw[cond_true] at h;obtain⟨bw,hb,h⟩:=ySu h;cases bw with
   |true=>
    rw[if_pos rfl] at h;obtain⟨hd,v,u,hy,h⟩:=yUy hE h;dsimp only at h;generalize cQ:(done.all fun d=>nP b d.i i|| !tI d ⟨i,rY pre o.dst,ft u,rZ st.ev o⟩)=c2 at h;cases c2 with
    |false=>simp_all
    |true=>
     rw[cond_true] at h;have DO:∀d∈done,nP b d.i i=true∨tI d ⟨i,rY pre o.dst,ft u,rZ st.ev o⟩=false:=by grind
     obtain⟨dP,h1,h2,h3,h4,h5⟩:=UP hE rest _ _ K out h;let it:It:=⟨i,o,v,u,rZ st.ev o,true⟩;refine⟨it::dP,by grind,h2,fun bY I9 post e=>?_,fun d wy I9 o6=>?_,?_⟩
     ·cases bY with
      |nil=>
       obtain⟨rfl,rfl⟩:=e;exact⟨hb,by grind,by simp⟩
      |cons p bY=>
       simp only[List.cons_append,List.cons.injEq] at e;obtain⟨rfl,e⟩:=e;exact h3 bY I9 post e
     ·rcases List.mem_cons.1 o6 with rfl|o6
      ·rcases sw d wy with h|h
       ·grind
       ·rcases DO d wy with h'|h'
        ·grind
        ·exact .inr ⟨h,fun _=>h'⟩
      simp_all
     ·refine List.pairwise_cons.2 ⟨fun y A2=>?_,h5⟩;rcases h4 (it.dn pre) (List.mem_cons_self ..) y A2 with h|⟨h,h'⟩
      ·exact .inl h
      ·exact .inr ⟨h,by grind⟩
   |false=>
    rw[if_neg (by simp)] at h;have uc:wc na nt o.dst=true:=by
     grind
    rw[uc] at h;rw[cond_true] at h;obtain⟨dP,h1,h2,h3,h4,h5⟩:=UP hE rest _ _ K out h;let it:It:=⟨i,o,.skp,[],some [],false⟩;refine⟨it::dP,by grind,h2,fun bY I9 post e=>?_,fun d wy I9 o6=>?_,?_⟩
    ·cases bY with
     |nil=>
      obtain⟨rfl,rfl⟩:=e;exact⟨hb,by simp,fun _=>⟨rfl,rfl,UN hE uc⟩⟩
     |cons p bY=>
      simp  at e;obtain⟨rfl,e⟩:=e;exact h3 bY I9 post e
    ·grind
    ·refine List.pairwise_cons.2 ⟨fun y A2=>?_,h5⟩;rcases h4 (it.dn pre) (List.mem_cons_self ..) y A2 with h|⟨h,h'⟩
     ·exact .inl h
     ·exact .inr ⟨h,by simp⟩
end
theorem yGt {t t' d v x}(h:t x=t' x):j6 t d v x=j6 t' d v x:=by
 cases d with
 |none=>exact h
 |some d=>
  show eg t d v x=eg t' d v x;unfold eg;simp_all
theorem NY {t d v x}(h:d≠some x):j6 t d v x=t x:=by
 cases d with
 |none=>rfl
 |some d=>
  show eg t d v x=_;unfold eg;cases e:Nat.beq x d with
  |false=>rfl
  |true=>simp_all
theorem vZt {t t' v x}:j6 t (some x) v x=j6 t' (some x) v x:=by
 show eg t x v x=eg t' x v x;unfold eg;simp
theorem UQ {t d e v u}(h:∀x,d=some x→e≠some x):j6 (j6 t d v) e u=j6 (j6 t e u) d v:=by
 funext x;by_cases hd:d=some x
 ·subst hd;rw[NY (h x rfl)];exact vZt
 ·rw[NY hd];exact yGt (NY hd)
theorem A3 {n}:∀{u h h'},h n=h' n→qK h u n=qK h' u n
 |[],_,_,e=>e
 | (id, o) :: u, h, h', e => A3 (u := u) (by
   by_cases hn:n=id
   ·subst hn;rw[yQ,yQ]
   ·rw[yT _ _ hn,yT _ _ hn];exact e)
theorem yOs {n}:∀{u h h'},n∈ft u→qK h u n=qK h' u n
 |(id,o)::u,h,h',hm=>by
  by_cases hu:n∈ft u
  ·exact yOs (u:=u) hu
  ·have e:n=id:=by
    simp[ft] at hm hu;simp_all
   subst e;exact A3 (u:=u) (by rw[yQ,yQ])
theorem vSa {u v h}(hd:∀a∈ft u,a∉ft v):qK (qK h u) v=qK (qK h v) u:=by
 funext n;by_cases hu:n∈ft u
 ·rw[DT (hd n hu)];exact yOs hu
 ·rw[DT (u:=u) (h:=qK h v) hu];exact A3 (DT hu)
theorem UR {st x y}(hd:∀t,x.o.dst=some t→y.o.dst≠some t)(hu:∀a∈ft x.u,a∉ft y.u):app (app st x) y=app (app st y) x:=by
 unfold app;simp;exact⟨UQ hd,vSa hu⟩
theorem yTn {x}:∀{l:List It} {st},(∀y∈l,(∀t,x.o.dst=some t→y.o.dst≠some t)∧∀a∈ft x.u,a∉ft y.u)→app (l.foldl app st) x=l.foldl app (app st x)
 |[],_,_=>rfl
 |y::l,st,h=>by
  rw[List.foldl_cons,List.foldl_cons,UR (by grind) (by grind)];exact yTn (by grind)
theorem NZ t:∀(l:List It) st bP,st.t t=bP.t t→(l.foldl app st).t t=((l.filter fun it=>it.o.dst==some t).foldl app bP).t t
 |[],_,_,h=>h
 |y::l,st,bP,h=>by
  rw[List.foldl_cons,List.filter_cons];cases hy:y.o.dst==some t with
  |true=>
   exact NZ t l _ _ (yGt h)
  |false=>
   exact NZ t l _ _ (by
    show j6 st.t y.o.dst y.v t=_;rw[NY (by simp_all)];exact h)
theorem N0 n:∀(l:List It) st bP,st.h n=bP.h n→(l.foldl app st).h n=((l.filter fun it=>(ft it.u).contains n).foldl app bP).h n
 |[],_,_,h=>h
 |y::l,st,bP,h=>by
  rw[List.foldl_cons,List.filter_cons];cases hy:(ft y.u).contains n with
  |true=>
   exact N0 n l _ _ (A3 h)
  |false=>
   exact N0 n l _ _ (by
    show qK st.h y.u n=_;rw[DT (by simpa[ft] using hy)];exact h)
theorem yG2 {S W bY post}{it:It}(o6:S it=false)(h1:∀y∈bY,W y=true→S y=true)(h2:∀y∈post,W y=true→S y=false):((bY++it::post).filter S).filter W=bY.filter W:=by
 have e1:(bY.filter S).filter W=bY.filter W:=by
  rw[List.filter_filter];refine List.filter_congr fun y hy=>?_
  simp_all
 simp_all
def D5 (d:Dt)(a:Nat):Prop:=match d.refs with
 |none=>True
 |some l=>a∈l∨nO d.nm a=true
theorem US {x y}(h:tI x y=false):(∀a∈x.upd,¬D5 y a)∧(∀a∈y.upd,¬D5 x a)∧∀a∈x.upd,a∉y.upd:=by
 unfold tI at h;have key:∀(d e:Dt),Nj d.upd e.refs=false→d.upd.any (nO e.nm)=false→∀a∈d.upd,¬D5 e a:=by
  intro d e hm ho a ha hl;unfold Nj at hm;unfold D5 at hl;cases hr:e.refs with
  |none=>
   simp_all
  |some l=>
   simp_all
 refine⟨by grind,by grind,fun a ha hb=>?_⟩;simp_all
section
variable {E:Env} {A:zW} {k pre na nt:Nat} {R:Type} {ops:Array Oper}
theorem UT {i j x y}(hi:ops[i]? =some x)(hj:ops[j]? =some y)(h:tJ ops i j=true):
  (∀d,x.dst=some d→d∉y.looksAt ops)∧(∀d,x.dst=some d→y.dst≠some d)∧(∀d,y.dst=some d→d∉x.looksAt ops):=by
 unfold tJ at h;rw[hi,hj] at h;exact Oper.apart_spec h
theorem vV3 (hE:gF E)(hS:kb E.sums){S}(hC:I8 ops S){st bY post it}(gX:∀y∈bY++it::post,ops[y.i]? =some y.o)(hg:fL E A k pre na nt ops (bY.foldl app st) it)
  (hu:∀y∈bY++it::post,y.wt=false→y.u=[]) (hp:(bY++it::post).Pairwise (UO pre ops (Region.before ops))) (o6:S it.i=false)
  (hr:∀o,ops[it.i]? =some o→∀e∈o.after.toList,Region.binds .any e=true→S e.on=true):
  fL E A k pre na nt ops (((bY++it::post).filter fun y=>S y.i).foldl app st) it∧
   (∀y∈post,S y.i=true→(∀t,it.o.dst=some t→y.o.dst≠some t)∧∀a∈ft it.u,a∉ft y.u):=by
 have wz:ops[it.i]? =some it.o:=gX it (by simp);obtain⟨NR,I1,hp3⟩:=List.pairwise_append.1 hp;have before:∀y∈bY,S y.i=false→tJ ops y.i it.i=true∧(y.wt=true→it.wt=true→tI (y.dn pre) (it.dn pre)=false):=fun y hy hs=>by
  rcases hp3 y hy it (by simp) with h|h
  ·rw[vVg hC h hr] at hs;cases hs
  ·exact h
 have behind:∀y∈post,S y.i=true→tJ ops it.i y.i=true∧(it.wt=true→y.wt=true→tI (it.dn pre) (y.dn pre)=false):=fun y hy hs=>by
  rcases(List.pairwise_cons.1 I1).1 y hy with h|h
  ·rw[yKi hC _ _ rfl h hs] at o6;cases o6
  ·exact h
 have w6:∀t,t∈it.o.looksAt ops→(((bY++it::post).filter fun y=>S y.i).foldl app st).t t=(bY.foldl app st).t t:=fun t ht=>by
  rw[NZ t _ st st rfl,NZ t bY st st rfl,yG2 o6 (fun y hy hw=>?_) fun y hy hw=>?_]
  ·cases hs:S y.i with
   |true=>rfl
   |false=>
    have:=(UT (gX y (by simp[hy])) wz (before y hy hs).1).1 t (by simpa using hw);exact absurd ht this
  ·cases hs:S y.i with
   |false=>rfl
   |true=>
    have:=(UT wz (gX y (by simp[hy])) (behind y hy hs).1).2.2 t (by simpa using hw);simp_all
 have hEq:it.wt=true→∀n,D5 (it.dn pre) n→(((bY++it::post).filter fun y=>S y.i).foldl app st).h n=(bY.foldl app st).h n:=fun hw n hn=>by
  rw[N0 n _ st st rfl,N0 n bY st st rfl,yG2 o6 (fun y hy A2=>?_) fun y hy A2=>?_]
  ·cases hs:S y.i with
   |true=>rfl
   |false=>
    have hm:n∈ft y.u:=by simpa using A2
    have UU:y.wt=true:=by
     cases h:y.wt with
     |true=>rfl
     |false=>rw[hu y (by simp[hy]) h] at hm;simp[ft] at hm
    exact absurd hn ((US ((before y hy hs).2 UU hw)).1 n hm)
  ·cases hs:S y.i with
   |false=>rfl
   |true=>
    have hm:n∈ft y.u:=by simpa using A2
    have UU:y.wt=true:=by
     cases h:y.wt with
     |true=>rfl
     |false=>rw[hu y (by simp[hy]) h] at hm;simp[ft] at hm
    exact absurd hn ((US ((behind y hy hs).2 hw UU)).2.1 n hm)
 generalize hL:((bY++it::post).filter fun y=>S y.i).foldl app st=N1 at w6 hEq⊢;refine⟨⟨?_,fun hw=>?_,hg.n⟩,fun y hy hs=>?_⟩
 ·rw[←hg.w];unfold DZ;cases A4:it.o.guard with
  |none=>rfl
  |some p=>
   obtain⟨j,want⟩:=p;dsimp only;cases fa:Nl ops j with
   |none=>rfl
   |some s=>
    have:s∈it.o.looksAt ops:=by
     have fa:(ops[j]?).bind (·.dst)=some s:=fa;simp only[Oper.looksAt,A4,fa];simp
    simp_all
 ·obtain⟨hd,hy,hrf⟩:=hg.y hw;have aO:∀x∈it.o.op.operands,N1.ev x=(bY.foldl app st).ev x:=fun x hx=>by
   cases x with
   |tmp t=>exact w6 t (List.mem_append_left _ (List.mem_filterMap.2 ⟨.tmp t,by simpa using hx,rfl⟩))
   |_=>rfl
  have hrefs:rZ N1.ev it.o=rZ (bY.foldl app st).ev it.o:=by
   unfold rZ;have:it.o.op.operands.toList.map N1.ev=it.o.op.operands.toList.map (bY.foldl app st).ev:=List.map_congr_left (by grind);simp only[this]
  refine⟨hd,?_,by rw[hrf,hrefs]⟩;rw[UK aO];have hh : lB E A k pre it.o (bY.foldl app st).ev N1.h = lB E A k pre it.o (bY.foldl app st).ev (bY.foldl app st).h := UL hS (by
   rw[←hrf];have:=hEq hw;unfold D5 at this;have hdn:(it.dn pre).refs=it.r:=rfl;rw[hdn] at this;cases h:it.r with
   |none=>
    grind
   |some l=>
    rw[h] at this;exact this)
  rw[hh];exact hy
 ·obtain⟨h1,h2⟩:=behind y hy hs;refine⟨(UT wz (gX y (by simp[hy])) h1).2.1,fun a ha hb=>?_⟩;have hwi:it.wt=true:=by
   cases h:it.wt with
   |true=>rfl
   |false=>rw[hu it (by simp) h] at ha;simp[ft] at ha
  have hwy:y.wt=true:=by
   cases h:y.wt with
   |true=>rfl
   |false=>rw[hu y (by simp[hy]) h] at hb;simp[ft] at hb
  exact(US (h2 hwi hwy)).2.2 a ha hb
end
theorem UW {ops}(h:Iz ops=true){j o}(ho:ops[j]? =some o):∀e∈o.after.toList,Region.binds .any e=true→e.on<j:=by
 intro e he hb;have hm:(o,j)∈ops.toList.zipIdx:=by
  grind
 have:=List.all_eq_true.1 (List.all_eq_true.1 h _ hm) e he;simp_all
theorem N2 {L:Array Bool}{i}(hi:i<L.size) j:(L.setIfInBounds i true).getD j false=(L.getD j false||i==j):=by
 by_cases h:i=j
 all_goals simp_all
section
variable {E:Env} {A:zW} {nl:Bool} {k pre na nt:Nat} {a0:Nat→Value} {R:Type} {ops:Array Oper} {M0:zK} {w0:World} {Q:Exit→Act→World→Prop}
theorem vIe (hE:gF E)(hS:kb E.sums)(he:Iz ops=true){dP st}(hi:dP.map (·.i)=List.range ops.size)(gX:∀y∈dP,ops[y.i]? =some y.o)(hg:∀bY it post,dP=bY++it::post→fL E A k pre na nt ops (bY.foldl app st) it)
  (hp:dP.Pairwise (UO pre ops (Region.before ops))) (hQ:∀a w,wA nl na nt a0 M0 w0 (dP.foldl app st) a w→Q .normal a w):
  ∀fuel L a w,L.size=ops.size→(∃U:List Nat,U.length≤fuel∧∀j,j<ops.size→L.getD j false=false→j∈U)→I8 ops (fun j=>L.getD j false)→
   wA nl na nt a0 M0 w0 ((dP.filter fun y=>L.getD y.i false).foldl app st) a w→wpAny E.P .any ops Q fuel L a w:=by
 have hu:∀y∈dP,y.wt=false→y.u=[]:=fun y hy hw=>by
  obtain⟨bY,post,e⟩:=List.append_of_mem hy;exact((hg bY y post e).n hw).2.1
 have UX:∀y∈dP,y.i<ops.size:=fun y hy=>(Array.getElem?_eq_some_iff.1 (gX y hy)).1
 have dJ:(dP.map (·.i)).Nodup:=by rw[hi];exact List.nodup_range
 have full:∀(L:Array Bool) (a:Act) (w:World),(∀j,j<ops.size→L.getD j false=true)→wA nl na nt a0 M0 w0 ((dP.filter fun y=>L.getD y.i false).foldl app st) a w→Q .normal a w:=fun L a w hl r=>by
  rw[List.filter_eq_self.2 fun y hy=>hl y.i (UX y hy)] at r;exact hQ a w r
 have rdy:∀(L:Array Bool),L.size=ops.size→Region.ready .any ops L=[]→∀j,j<ops.size→L.getD j false=true:=fun L hL hr j=>by
  induction j using Nat.strongRecOn with
  |_ j ih=>
   intro hj;cases hb:L.getD j false with
   |true=>rfl
   |false=>
    have ho:ops[j]? =some ops[j]:=Array.getElem?_eq_getElem hj;have:j∈Region.ready .any ops L:=mem_ready.2 ⟨by
     have UY:j<L.size:=by omega
     simpa[Array.getD,UY] using hb,ops[j],ho,fun e he' bF=>by
      have bn:=UW he ho e (by simpa using he') bF;exact ih e.on bn (by omega)⟩
    rw[hr] at this;cases this
 intro fuel
 induction fuel with
 |zero=>
  intro L a w hL hU hC r;obtain⟨U,hUl,hU⟩:=hU;have hU0:U=[]:=List.eq_nil_of_length_eq_zero (by omega);have bj:∀j,j<ops.size→L.getD j false=true:=by grind
  refine⟨?_,full L a w bj r⟩;cases hr:Region.ready .any ops L with
  |nil=>rfl
  |cons j l=>
   have:j∈Region.ready .any ops L:=by rw[hr];exact List.mem_cons_self ..
   obtain⟨h0,o,ho,_⟩:=mem_ready.1 this;have hj:=(Array.getElem?_eq_some_iff.1 ho).1;have:=bj j hj;have UY:j<L.size:=by omega
   simp[Array.getD,UY] at this h0;rw[this] at h0;cases h0
 |succ fuel ih=>
  intro L a w hL hU hC r;refine⟨fun hr=>full L a w (rdy L hL hr) r,fun i hir=>?_⟩;obtain⟨h0,o,ho,A5⟩:=mem_ready.1 hir;have Ja:=(Array.getElem?_eq_some_iff.1 ho).1;have Jb:i<L.size:=by omega
  have Jc:L.getD i false=false:=by simpa[Array.getD,Jb] using h0
  obtain⟨it,o6,ud⟩:∃it∈dP,it.i=i:=by
   have:i∈dP.map (·.i):=by rw[hi];simpa using Ja
   obtain⟨it,h1,h2⟩:=List.mem_map.1 this;exact⟨it,h1,h2⟩
  obtain⟨bY,post,e⟩:=List.append_of_mem o6;have wz:ops[it.i]? =some it.o:=gX it o6;have iQ:o=it.o:=by rw[ud,ho] at wz;exact Option.some.inj wz
  subst iQ;have w7:=vV3 hE hS hC (by rw[←e];exact gX) (hg bY it post e) (by rw[←e];exact hu) (by rw[←e];exact hp) (by rw[ud];exact Jc) (by grind);rw[←e] at w7;obtain⟨A4,Jd⟩:=w7;have hw:=yRg A4.w r;have yJ:(dP.filter fun y=>(L.setIfInBounds i true).getD y.i false).foldl app st=app ((dP.filter fun y=>L.getD y.i false).foldl app st) it:=by
   have other:∀y∈bY++post,(L.setIfInBounds i true).getD y.i false=L.getD y.i false:=fun y hy=>by
    rw[N2 Jb];grind
   have e1:dP.filter (fun y=>L.getD y.i false)=bY.filter (fun y=>L.getD y.i false)++post.filter (fun y=>L.getD y.i false):=by
    conv=>lhs;rw[e]
    rw[List.filter_append,List.filter_cons,if_neg (by rw[ud,Jc];simp)]
   have e2:dP.filter (fun y=>(L.setIfInBounds i true).getD y.i false)=bY.filter (fun y=>L.getD y.i false)++it::post.filter (fun y=>L.getD y.i false):=by
    conv=>lhs;rw[e]
    rw[List.filter_append,List.filter_cons,if_pos (by rw[ud,N2 Jb];simp),List.filter_congr fun y hy=>other y (List.mem_append_left _ hy),List.filter_congr fun y hy=>other y (List.mem_append_right _ hy)]
   rw[e1,e2,List.foldl_append,List.foldl_append,List.foldl_cons];exact (yTn fun y hy=>by
    obtain⟨UZ,U0⟩:=List.mem_filter.1 hy;exact Jd y UZ U0).symm
  have aE:I8 ops fun j=>(L.setIfInBounds i true).getD j false:=fun j o' hj lU ed hed hb=>by
   dsimp only at hj⊢;rw[N2 Jb] at hj;refine getD_set_true ?_;rw[Bool.or_eq_true] at hj;rcases hj with hj|hj
   ·exact hC j o' hj lU ed hed hb
   ·have:i=j:=by simpa using hj
    subst this;rw[ho] at lU;cases lU;exact A5 ed (by simpa using hed) hb
  have hU':∃U:List Nat,U.length≤fuel∧∀j,j<ops.size→(L.setIfInBounds i true).getD j false=false→j∈U:=by
   obtain⟨U,hl,hU⟩:=hU;refine⟨U.erase i,?_,fun j hj hb=>?_⟩
   ·rw[List.length_erase_of_mem (hU i Ja Jc)];omega
   ·rw[N2 Jb,Bool.or_eq_false_iff] at hb;exact(List.mem_erase_of_ne (by have:=hb.2;simp at this;exact fun h=>this h.symm)).2 (hU j hj hb.1)
  unfold wpOp;rw[ho];dsimp only;cases A6:it.wt with
  |true=>
   rw[A6] at hw;rw[if_pos hw];obtain⟨hd,hy,_⟩:=A4.y A6;refine .inl (wA.op hE r hd hy fun a' w' r'=>?_);exact ih _ _ _ (by simpa using hL) hU' aE (by rw[yJ];exact r')
  |false=>
   rw[A6] at hw;rw[if_neg (by simp[hw])];obtain⟨hv,si,uc⟩:=A4.n A6;refine ih _ _ _ (by simpa using hL) hU' aE ?_;rw[yJ];have:=r.skip (dst:=it.o.dst) fun d hd=>(uc d hd).1
   unfold app;rw[hv,si];exact this
theorem vUe (hE:gF E)(hS:kb E.sums){id st K}{out:R}{a w}(hm:E.P.follows .mixedOrders=true)(he:Iz ops=true)
  (h:Du E A k pre na nt ops (Region.before ops) (ops.toList.zipIdx.map fun p=>(p.2,p.1)) [] st K=some out) (r:wA nl na nt a0 M0 w0 st a w)
  (hK:∀bP a' w',wA nl na nt a0 M0 w0 bP a' w'→K bP=some out→Q .normal a' w'):(Code.region id ops true).wp E.P Q a w:=by
 obtain⟨dP,h1,h2,h3,_,h5⟩:=UP hE _ _ _ _ _ h;have hi:dP.map (·.i)=List.range ops.size:=by
  have:=congrArg (List.map Prod.fst) h1;rw[List.map_map,List.map_map] at this;refine Eq.trans this ?_;have e:(Prod.fst∘fun p:Oper×Nat=>(p.2,p.1))=Prod.snd:=rfl;rw[e,List.zipIdx_map_snd,←List.range_eq_range'];simp
 have gX:∀y∈dP,ops[y.i]? =some y.o:=fun y hy=>by
  have:(y.i,y.o)∈ops.toList.zipIdx.map fun p=>(p.2,p.1):=by grind
  grind
 refine wp_region_any hm (vIe hE hS he (nt:=nt) (na:=na) (a0:=a0) (M0:=M0) (w0:=w0) hi gX h3 h5 (fun a w r=>hK _ a w r h2) _ _ _ _ (by simp) ⟨List.range ops.size,by simp,by grind⟩ (fun j o hj=>?_) ?_)
 ·by_cases h:j<ops.size<;>simp[h] at hj
 ·rw[List.filter_eq_nil_iff.2 fun y hy=>by
   by_cases h:y.i<ops.size<;>simp[h]]
  exact⟨r.ex,r.defers,r.size,r.os,r.tape,r.output,r.keep⟩
end
def zK.nilObj (M:zK)(nm:Nat)(o:Obj)(sz:Nat):zK:={M with κ:=κset M.κ nm ⟨none,0,sz,0,[]⟩,h:=yJ M.h nm o}
def kM (t:Ty)(rows:Bool):Obj:=bif rows then .mat 0 [] else .arr true t []
def l9 (t:Ty)(rows:Bool):Nat:=bif rows then 1 else t.size
theorem zK.nilObj_ok {M}(ok:Ok M){nm}(aT:M.h nm=none) t rows:
  Ok (M.nilObj nm (kM t rows) (l9 t rows))∧yO M (M.nilObj nm (kM t rows) (l9 t rows))∧(∀b,qO (M.nilObj nm (kM t rows) (l9 t rows)) b→qO M b):=by
 have hO:∀M':zK,yZ M' (kM t rows) ⟨none,0,l9 t rows,0,[]⟩:=fun M'=>by
  cases rows with
  |false=>exact⟨rfl,rfl,by simp,rfl⟩
  |true=>exact⟨rfl,rfl,rfl,rfl,by simp[qB.fp],rfl⟩
 have x:yO M (M.nilObj nm (kM t rows) (l9 t rows)):=⟨fun id C h=>by
  have bp:id≠nm:=fun e=>by rw[e,ok.non nm aT] at h;cases h
  exact⟨C,by show κset M.κ nm _ id=_;rw[κset_ne _ _ bp];exact h,C.le_refl⟩,fun _ h=>h,fun _ h=>h,fun _ _=>rfl,fun _ _=>rfl,fun _ _=>rfl⟩
 refine⟨Ok.build ok x (fun id=>id=nm) (fun id h=>yT _ _ h) (fun id h=>κset_ne _ _ h) (fun _ _ _ _ _ _ _ _ _=>rfl) (fun id o C h1 h2 h3 h4 b hb=>(ok.own b ⟨id,o,C,h2,h3,h4,hb⟩).1) (Nat.le_refl _)
  (fun id o e h=>?_) (fun id e h=>?_) (fun id o C b e h1 h2 h3 h4=>?_) ok.GF ok.Flt,x,fun b hb=>?_⟩
 ·subst e;have e1:(M.nilObj id (kM t rows) (l9 t rows)).h id=some (kM t rows):=yQ _ _ _;rw[e1] at h;cases h;exact⟨_,κset_same _ _ _,hO _⟩
 ·have e1:(M.nilObj id (kM t rows) (l9 t rows)).h id=some (kM t rows):=yQ _ _ _;simp_all
 ·subst e;have e1:(M.nilObj id (kM t rows) (l9 t rows)).κ id=some _:=κset_same _ _ _;rw[e1] at h3;cases h3;simp[qB.fp] at h4
 ·obtain⟨id,o,C,h1,h2,h3,h4⟩:=hb;by_cases e:id=nm
  ·subst e;have e1:(M.nilObj id (kM t rows) (l9 t rows)).κ id=some _:=κset_same _ _ _;rw[e1] at h3;cases h3;simp[qB.fp] at h4
  ·exact⟨id,o,C,by rw[←h1];exact(yT _ _ e).symm,h2,by rw[←h3];exact(κset_ne _ _ e).symm,h4⟩
theorem ke.same_mem {M M'}(hF:M'.F=M.F)(hG:M'.G=M.G)(hH:M'.H=M.H)(ho:∀b,qO M' b→qO M b):ke M M':=
 ⟨by grind,by grind,by grind,by grind,by grind,by simp_all,by grind,by grind,
  by grind,by grind⟩
theorem ke.refl M:ke M M:=.same_mem rfl rfl rfl (by simp)
section
variable {na nt:Nat} {a0:Nat→Value} {M0:zK} {w0 w:World} {a:Act}
theorem zM.set_left {α β R l}{m:List β}(h:zM R l m){j}{c:α}(hc:∀(h1:j<l.length) h2,R c m[j]):zM R (l.set j c) m:=by
 refine zM.of_get (by rw[List.length_set];exact h.length) fun i hi bK=>?_
 rw[List.length_set] at hi;by_cases e:j=i
 ·simp_all
 ·rw[List.getElem_set_ne e];exact h.get i hi bK
theorem vSg {st}{s j}(r:wA false na nt a0 M0 w0 st a w):wA false na nt a0 M0 w0 (Te st s j) a w:=by
 obtain⟨M,h1,h2,h3,h4,h5⟩:=r.ex;unfold Te;split
 ·split
  ·rename_i c hs;split
   ·rename_i c' u hf;have hv:=h5 s;rw[hs] at hv;rw[←h1] at hf;obtain⟨L,k1,k2,k3,k4,k5,_⟩:=IF h3 (jI.refl _) (show zX M c _ from hv) hf;refine⟨⟨L,by rw[k2,h1],k1.trans h2,k3,h4.trans k4.grow,fun t=>?_⟩,r.defers,r.size,r.os,r.tape,r.output,r.keep⟩;show zV _ (eg st.t s _ t) _;unfold eg;cases e:Nat.beq t s with
    |false=>exact(h5 t).ext k4.ext
    |true=>
     have e:t=s:=by simpa using e
     subst e;exact k5
   ·exact r
  ·exact r
 ·rename_i j;split
  ·rename_i id hs;split
   ·rename_i cells an;split
    ·rename_i c yS;split
     ·rename_i c' u hf;rw[←h1] at hf an;obtain⟨C0,sn,hO0⟩:=h3.obj id _ an;obtain⟨B0,w8,e0,b10,b20,b30,b40,b50⟩:=hO0;have hj:j<cells.length:=(List.getElem?_eq_some_iff.1 yS).1;have U1:j<w8.toList.length:=by rw[←b40.length];exact hj
      have lF:=b40.get j hj U1;have ec:cells[j]=c:=by grind
      rw[ec] at lF;obtain⟨L,k1,k2,k3,k4,k5,k6,_⟩:=IF h3 (jI.refl _) lF hf;have A7:L.h id=some (.box true cells):=by
       rcases k6 id with h|⟨own,t,xs,h,_⟩|⟨ver,xs,h,_⟩
       all_goals simp_all
      obtain⟨C,hC,hO⟩:=k3.obj id _ A7;obtain⟨B,vals,e,b1,b2,b3,b4,b5⟩:=hO;obtain⟨C1,iP,le⟩:=k4.ext.κ id C0 sn;rw[hC] at iP;cases iP;have eB:B=B0:=by rw[le.blk,b10] at b1;simp_all
      subst eB;rw[k1,b30] at b3;cases b3;have hx:=zK.write_ext (H':=L.H) k3 A7 rfl hC C.le_refl (by simp) (by simp) (.box true (cells.set j c'));have hw := zK.write_ok (H' := L.H) (o' := .box true (cells.set j c')) k3 A7 rfl hC C.le_refl (by simp) rfl (by simp) (by simp) (by
       refine⟨B,w8,e0,b1,b2,by show L.H[B]? =_;simp_all,?_,by simp⟩;exact(b4.mono fun _ _ h=>h.ext hx).set_left fun _ _=>k5.ext hx)
      refine⟨⟨L.write id (.box true (cells.set j c')) C L.H,?_,k1.trans h2,hw.1,(h4.trans k4.grow).trans hw.2.grow,fun t=>((h5 t).ext k4.ext).ext hx⟩,r.defers,r.size,r.os,r.tape,r.output,r.keep⟩;show yJ L.h id _=yJ (qK st.h u) id _;rw[k2,h1]
     ·exact r
    ·exact r
   ·exact r
  ·rename_i cells hs;split
   ·rename_i c yS;split
    ·rename_i c' u hf;have hv:=h5 s;rw[hs] at hv;obtain⟨vs,dI,bj⟩:=hv;rw[←h1] at hf;have hj:j<cells.length:=by grind
     have U1:j<vs.toList.length:=by rw[←bj.length];exact hj
     have lF:=bj.get j hj U1;have ec:cells[j]=c:=by grind
     rw[ec] at lF;obtain⟨L,k1,k2,k3,k4,k5,k6,_⟩:=IF h3 (jI.refl _) lF hf;refine⟨⟨L,by rw[k2,h1],k1.trans h2,k3,h4.trans k4.grow,fun t=>?_⟩,r.defers,r.size,r.os,r.tape,r.output,r.keep⟩;show zV _ (eg st.t s _ t) _;unfold eg;cases e:Nat.beq t s with
     |false=>exact(h5 t).ext k4.ext
     |true=>
      have e:t=s:=by simpa using e
      subst e;exact⟨vs,dI,(bj.mono fun _ _ h=>h.ext k4.ext).set_left (by grind)⟩
    ·exact r
   ·exact r
  ·exact r
theorem vPi {st nm g}(r:wA false na nt a0 M0 w0 st a w)(aT:st.h nm=none):wA false na nt a0 M0 w0 (Tf st nm g) a w:=by
 obtain⟨M,h1,h2,h3,h4,h5⟩:=r.ex;have hM:M.h nm=none:=by simp_all
 obtain⟨k1,k2,k3⟩:=M.nilObj_ok h3 hM g.2.2.1 g.2.2.2;have cP:zX (M.nilObj nm (kM g.2.2.1 g.2.2.2) (l9 g.2.2.1 g.2.2.2)) (.osl nm none) (.slice none 0 0):=⟨_,κset_same _ _ _,none,0,rfl,rfl,rfl,rfl⟩;have gr:ua false M0 (M.nilObj nm (kM g.2.2.1 g.2.2.2) (l9 g.2.2.1 g.2.2.2)):=h4.trans (.same_mem rfl rfl rfl k3);unfold Tf;cases adZ:g.2.2.2&&yO7 g.2.2.1 with
 |true=>exact vSg r
 |false=>
 split
 ·split
  ·rename_i hs;refine⟨⟨M.nilObj nm (kM g.2.2.1 g.2.2.2) (l9 g.2.2.1 g.2.2.2),?_,h2,k1,gr,fun t=>?_⟩,r.defers,r.size,r.os,r.tape,r.output,r.keep⟩
   ·show yJ M.h nm _=yJ st.h nm _;rw[h1];rfl
   ·show zV _ (eg st.t g.1 _ t) _;unfold eg;cases e:Nat.beq t g.1 with
    |false=>exact(h5 t).ext k2
    |true=>
     have e:t=g.1:=by simpa using e
     subst e;have hv:=h5 g.1;rw[hs] at hv;rw[hv];exact cP
  ·exact r
 ·rename_i j hj;split
  ·rename_i id hs;split
   ·rename_i cells an;split
    ·have bp:id≠nm:=by grind
     let M1:=M.nilObj nm (kM g.2.2.1 g.2.2.2) (l9 g.2.2.1 g.2.2.2);have pV:M1.h id=some (.box true cells):=by
      show yJ M.h nm _ id=_;rw[yT _ _ bp,h1];exact an
     obtain⟨C,hC,hO⟩:=k1.obj id _ pV;obtain⟨B,vals,e,b1,b2,b3,b4,b5⟩:=hO;have hx:=zK.write_ext (H':=M1.H) k1 pV rfl hC C.le_refl (by grind) (by grind) (.box true (cells.set j (.osl nm none)));have hw := zK.write_ok (H' := M1.H) (o' := .box true (cells.set j (.osl nm none))) k1 pV rfl hC C.le_refl (by simp) rfl (by grind) (by grind) (by
      refine⟨B,vals,e,b1,b2,b3,?_,by simp⟩;have hl:=b4.length;refine zM.of_get (by simp_all) fun i hi bK=>?_
      have hb:=b4.get i (by omega) bK;by_cases eij:j=i
      ·subst eij;rw[List.getElem_set_self];have ec:cells[j]=.nsl:=by
        grind
       rw[ec] at hb;rw[hb];exact cP.ext hx
      ·rw[List.getElem_set_ne eij];exact hb.ext hx)
     refine⟨⟨M1.write id (.box true (cells.set j (.osl nm none))) C M1.H,?_,h2,hw.1,gr.trans hw.2.grow,fun t=>((h5 t).ext k2).ext hx⟩,r.defers,r.size,r.os,r.tape,r.output,r.keep⟩;show yJ (yJ M.h nm _) id _=yJ (yJ st.h nm _) id _;rw[h1];rfl
    ·exact r
   ·exact r
  ·exact r
theorem yJf:∀{l st bP nm},wA false na nt a0 M0 w0 st a w→No st nm l=some bP→wA false na nt a0 M0 w0 bP a w
 |[],st,bP,nm,r,h=>by cases h;exact r
 |g::l,st,bP,nm,r,h=>by
  unfold No at h;split at h
  ·rename_i aT;exact yJf (vPi r aT) h
  ·cases h
theorem yXo {id}:∀{l n i},fH id l n=some i→n≤i∧l[i-n]? =some id
 |x::l,n,i,h=>by
  unfold fH at h;cases e:Nat.beq x id with
  |true=>
   simp_all
  |false=>
   rw[e] at h;obtain⟨h1,h2⟩:=yXo (l:=l) h;grind
theorem U2 {h}:∀n {todo seen},seen.Nodup→(Dv h n todo seen).Nodup
 |0,_,_,hs
 |n+1,[],_,hs=>hs
 |n+1,id::todo,seen,hs=>by
  unfold Dv;cases e:seen.any (Nat.beq id) with
  |true=>exact U2 n hs
  |false=>
   refine U2 n (List.nodup_append.2 ⟨hs,by simp,fun x hx y hy exy=>?_⟩);have:y=id:=by simp_all
   have:=List.any_eq_false.1 e x hx;simp_all
def qa (base : Nat) (κ : Nat → Option qB) (ids : List Nat) : Nat → Option qB := fun n => if base ≤ n then (match ids[n-base]? with
 |some id=>(κ id).map fun C=>{C with ver:=0}
 |none=>none) else none
def zK.ren (M:zK)(base:Nat)(ids:List Nat):zK:={M with κ:=qa base M.κ ids,h:=AB base M.h ids}
theorem vYd {base h ids n o}(e:AB base h ids n=some o):∃id o',base≤n∧ids[n-base]? =some id∧h id=some o'∧o=wh h (fun i=>(fH i ids 0).map (base+·)) o':=by
 unfold AB at e;cases hb:Nat.ble base n with
 |false=>simp_all
 |true=>
  rw[hb] at e;split at e
  ·obtain⟨o',h1,h2⟩:=Option.map_eq_some_iff.1 e;simp_all
  ·cases e
theorem vW6 {base κ ids id i C}(hi:fH id ids 0=some i)(hC:κ id=some C):qa base κ ids (base+i)=some {C with ver:=0}:=by
 obtain⟨_,h⟩:=yXo hi;unfold qa;simp_all
theorem U3 {M}(ok:Ok M){base ids c v}(h:zX M c v):zX (M.ren base ids) (wg M.h (fun i=>(fH i ids 0).map (base+·)) c) v:=by
 have h1:=h.one;have look:∀id C,M.κ id=some C→∀i,(fH id ids 0).map (base+·)=some i→(M.ren base ids).κ i=some {C with ver:=0}:=fun id C hC i hi=>by
  obtain⟨j,hj,rfl⟩:=Option.map_eq_some_iff.1 hi;exact vW6 hj hC
 unfold wg;cases c with
 |osl id r=>
  dsimp only;obtain⟨C,hC,h⟩:=h;cases e:(fH id ids 0).map (base+·) with
  |none=>exact h1
  |some i=>cases r with
   |none=>exact⟨_,look id C hC i e,h⟩
   |some p=>exact⟨_,look id C hC i e,h⟩
 |bsl id x y=>
  dsimp only;obtain⟨C,B,hC,h⟩:=h;cases e:(fH id ids 0).map (base+·) with
  |none=>exact h1
  |some i=>exact⟨_,B,look id C hC i e,h⟩
 |ptr id x=>
  dsimp only;obtain⟨C,B,hC,h⟩:=h;cases e:(fH id ids 0).map (base+·) with
  |none=>exact h1
  |some i=>exact⟨_,B,look id C hC i e,h⟩
 |eptr id x y=>
  dsimp only;obtain⟨C,B,hC,h⟩:=h;cases e:(fH id ids 0).map (base+·) with
  |none=>exact h1
  |some i=>exact⟨_,B,look id C hC i e,h⟩
 |mrow id x ver=>
  dsimp only;obtain⟨C,hC,ho,hle,h⟩:=h;cases e:(fH id ids 0).map (base+·) with
  |none=>exact h1
  |some i=>
   split
   ·rename_i i' v' xs ei an;cases ei;cases gd:Nat.beq v' ver with
    |false=>exact h1
    |true=>
     have iN:v'=ver:=by simpa using gd
     obtain⟨C',aE,hO⟩:=ok.obj id _ an;rw[hC] at aE;cases aE;exact⟨_,look id C hC i e,h1,Nat.le_refl _,fun _=>h (by rw[hO.1,iN])⟩
   ·exact h1
 |mptr id x=>
  dsimp only;obtain⟨C,B,hC,h⟩:=h;cases e:(fH id ids 0).map (base+·) with
  |none=>exact h1
  |some i=>exact⟨_,B,look id C hC i e,h⟩
 |meptr id x y ver=>
  dsimp only;obtain⟨C,hC,ho,hle,h⟩:=h;cases e:(fH id ids 0).map (base+·) with
  |none=>exact h1
  |some i=>
   split
   ·rename_i i' v' xs ei an;cases ei;cases gd:Nat.beq v' ver with
    |false=>exact h1
    |true=>
     have iN:v'=ver:=by simp_all
     obtain⟨C',aE,hO⟩:=ok.obj id _ an;rw[hC] at aE;cases aE;exact⟨_,look id C hC i e,h1,by simp,fun _=>h (by rw[hO.1,iN])⟩
   ·exact h1
 |map id=>
  dsimp only;obtain⟨C,B,hC,h⟩:=h;cases e:(fH id ids 0).map (base+·) with
  |none=>exact h1
  |some i=>exact⟨_,B,look id C hC i e,h⟩
 |fn f cap=>
  dsimp only;obtain⟨cv,rfl,h⟩:=h;split
  ·rename_i c hc;refine⟨cv,rfl,?_⟩;have:=I4 _ _ _ hc;generalize cv.toList=l at h;clear hc h1
   induction cap generalizing c l with
   |nil=>cases c with
    |nil=>cases l with
     |nil=>trivial
     |cons _ _=>exact h.elim
    |cons _ _=>exact this.elim
   |cons x cap ih=>cases c with
    |nil=>exact this.elim
    |cons y c=>cases l with
     |nil=>exact h.elim
     |cons u l=>
      obtain⟨⟨C,B,hC,hh⟩,h⟩:=h;exact⟨⟨_,B,look x C hC y this.1,hh⟩,ih c this.2 l h⟩
  rfl
 |fsl sh t xs=>exact h
 |fptr sh t x off=>exact h
 |_=>exact h
theorem Je {M}(ok:Ok M){base ids}:∀{cs vs},zM (zX M) cs vs→zM (zX (M.ren base ids)) (cs.map (wg M.h fun i=>(fH i ids 0).map (base+·))) vs
 |[],[],_=>trivial
 |_::_,_::_,h=>⟨U3 ok h.1,Je ok h.2⟩
theorem vS5 {M}(ok:Ok M){base ids x v}(h:zV M x v):zV (M.ren base ids) (vA4 M.h (fun i=>(fH i ids 0).map (base+·)) x) v:=by
 cases x with
 |undef=>trivial
 |skp=>exact h
 |c x=>exact U3 (c:=x) ok h
 |agg cs=>
  obtain⟨vs,h1,h2⟩:=h;exact⟨vs,h1,Je ok h2⟩
 |tup xs=>
  obtain⟨vs,h1,h2⟩:=h;refine⟨vs,h1,zM.map_left (h2.mono fun p u hp=>?_)⟩;obtain⟨b,cs⟩:=p;cases b with
  |true=>
   obtain⟨us,q1,q2⟩:=hp;exact⟨us,q1,Je ok q2⟩
  |false=>
   cases cs with
   |nil=>exact hp
   |cons c cs=>cases cs with
    |nil=>exact U3 (c:=c) ok hp
    |cons _ _=>exact hp
theorem yVg {M}(ok:Ok M){base ids o C}(h:yZ M o C):yZ (M.ren base ids) (wh M.h (fun i=>(fH i ids 0).map (base+·)) o) {C with ver:=0}:=by
 cases o with
 |box own cells=>
  obtain⟨B,vals,e,h1,h2,h3,h4,h5⟩:=h;exact⟨B,vals,e,h1,h2,h3,Je ok h4,h5⟩
 |robox cells=>
  obtain⟨B,vals,e,h1,h2,h3,h4,h5⟩:=h;exact⟨B,vals,e,h1,h2,h3,Je ok h4,h5⟩
 |arr own t xs=>exact h
 |mat ver xs=>
  obtain⟨h1,h2⟩:=h;exact⟨rfl,h2⟩
 |pmat ver xs n=>
  obtain⟨h1,h2⟩:=h;exact⟨rfl,h2⟩
 |imap di=>exact h
 |gone=>trivial
theorem U4 {h ρ} o:(wh h ρ o).owned=o.owned:=by cases o<;>rfl
theorem zK.ren_ok {M}(ok:Ok M){base ids}(dJ:ids.Nodup):Ok (M.ren base ids)∧∀b,qO (M.ren base ids) b→qO M b:=by
 have at':∀n o,(M.ren base ids).h n=some o→∃id o' C,base≤n∧ids[n-base]? =some id∧M.h id=some o'∧M.κ id=some C∧o=wh M.h (fun i=>(fH i ids 0).map (base+·)) o'∧yZ M o' C∧(M.ren base ids).κ n=some {C with ver:=0}:=fun n o h=>by
  obtain⟨id,o',h1,h2,h3,h4⟩:=vYd h;obtain⟨C,hC,hO⟩:=ok.obj id _ h3;refine⟨id,o',C,h1,h2,h3,hC,h4,hO,?_⟩;show qa base M.κ ids n=_;unfold qa;simp_all
 have nN:∀b,qO (M.ren base ids) b→qO M b:=fun b ⟨n,o,C,h1,h2,h3,h4⟩=>by
  obtain⟨id,o',C',k1,k2,k3,k4,k5,k6,k7⟩:=at' n o h1;rw[k7] at h3;cases h3;exact⟨id,o',C',k3,by rw[←h2,k5,U4],k4,h4⟩
 refine⟨⟨fun n o h=>?_,fun n h=>?_,fun i j oi oj Ci Cj b oS h1 h2 h3 h4 h5 h6 h7 h8=>?_,fun b h=>ok.own b (nN b h),ok.GF,ok.Flt⟩,nN⟩
 ·obtain⟨id,o',C,k1,k2,k3,k4,rfl,k6,k7⟩:=at' n o h;exact⟨_,k7,yVg ok k6⟩
 ·show qa base M.κ ids n=none;unfold qa;split
  ·rename_i hb;split
   ·rename_i id an;have:M.h id=none:=by
     cases e:M.h id with
     |none=>rfl
     |some o=>
      have:(M.ren base ids).h n=some (wh M.h (fun i=>(fH i ids 0).map (base+·)) o):=by
       show AB base M.h ids n=_;unfold AB;rw[show Nat.ble base n=true from Nat.ble_eq_true_of_le hb,an];simp[e]
      simp_all
    rw[ok.non id this];rfl
   ·rfl
  ·rfl
 ·obtain⟨id,o',C,k1,k2,k3,k4,k5,k6,k7⟩:=at' i oi h1;obtain⟨jd,p',D,q1,q2,q3,q4,q5,q6,q7⟩:=at' j oj h2;rw[k7] at h5;rw[q7] at h6;cases h5;cases h6;refine ok.disj id jd o' p' C D b (fun e=>?_) k3 q3 (by rw[←h3,k5,U4]) (by rw[←h4,q5,U4]) k4 q4 h7 h8;have hi:=(List.getElem?_eq_some_iff.1 k2);have hj:=(List.getElem?_eq_some_iff.1 q2);have:=(List.getElem_inj (h₀:=hi.1) (h₁:=hj.1) dJ).1 (by omega);omega
theorem yYd:∀{a b},Ng a b=true→a=b
 |[],[],_=>rfl
 |x::a,y::b,h=>by
  simp only[Ng,Bool.and_eq_true] at h;rw[Nat.eq_of_beq_eq_true h.1,yYd h.2]
theorem vY9 {c v}(h:S8 c v=true):c=.undef∨c=v:=by
 unfold S8 at h;split at h
 ·simp
 ·simp
 ·simp
 ·simp
 ·simp
 ·simp_all
 ·simp_all
 ·simp_all
 ·simp only[Bool.and_eq_true] at h;exact .inr (by rw[Nat.eq_of_beq_eq_true h.1,yYd h.2])
 all_goals simp_all
theorem nW {α:Type}{c x}{y:α}(h:(bif c then x else none)=some y):c=true∧x=some y:=by
 grind
theorem ue {M}(ok:Ok M):∀{l cs d vs},mS l cs=some d→zM (zX M) cs vs→zM (zX M) (pQ l d) vs
 |[],[],_,[],_,_=>trivial
 |.int k::l,c::cs,d,v::vs,h,hv=>by
  cases c<;>first|(cases h;done)|skip
  obtain⟨hk,h⟩:=nW h;split at h
  ·rename_i d' hd;cases h;refine⟨?_,ue ok hd hv.2⟩;rw[←tB hk];exact hv.1
  ·cases h
 |.bool::l,c::cs,d,v::vs,h,hv=>by
  cases c<;>first|(cases h)|skip
  unfold mS at h;split at h
  ·rename_i d' hd;cases h;exact⟨hv.1,ue ok hd hv.2⟩
  ·cases h
 |.dat sh t::l,c::cs,d,v::vs,h,hv=>by
  cases c<;>first|(cases h;done)|skip
  ·rename_i Iy s xs;obtain⟨hs,h⟩:=nW h;split at h
   ·rename_i ys d' hx hd;cases h;obtain⟨e,hx⟩:=lD hx;subst e;subst hx;refine⟨?_,ue ok hd hv.2⟩;have h1:qF M.H (bif Iy then M.G else M.F) (.sl s) xs (fun _=>some v):=hv.1;cases sh with
    |true=>
     have:Iy=true:=by simp_all
     subst this;exact h1
    |false=>cases Iy with
     |false=>exact h1
     |true=>exact vD ok.GF (by simp) _ _ _ _ (by simp) h1
   ·cases h
  ·unfold mS at h;split at h
   ·rename_i d' hd;cases h;refine⟨?_,ue ok hd hv.2⟩;rw[show v=.slice none 0 0 from hv.1];exact⟨none,0,0,rfl,rfl,by simp,by simp⟩
   ·cases h
 |.lit c::l,x::cs,d,v::vs,h,hv=>by
  obtain⟨he,h⟩:=nW h;refine⟨?_,ue ok h hv.2⟩;rcases vY9 he with rfl|rfl
  ·exact hv.1.one
  ·exact hv.1
theorem U5 {M}(ok:Ok M){v a d rv}(h:S9 v a=some d)(hv:zV M a rv):zV M (Ta v d) rv:=by
 cases v with
 |c x=>
  cases a with
  |c y=>
   have:=ue ok (vs:=[rv]) (show mS [x] [y]=some d from h) ⟨hv,trivial⟩;show zV M (match pQ [x] d with|c::_=>.c c|[]=>.undef) rv
   match hh:pQ [x] d,this with
   |[c],this=>exact this.1
  |_=>cases h
 |agg l=>
  cases a with
  |agg vs=>
   obtain⟨us,rfl,hx⟩:=hv;exact⟨us,rfl,ue ok (show mS l vs=some d from h) hx⟩
  |_=>cases h
theorem U6 {M}(ok:Ok M){o x d C}(h:Nh o x=some d)(hO:yZ M x C)(hv:C.ver=0):yZ M (Ni o d) C∧(Ni o d).owned=x.owned:=by
 unfold Nh at h;split at h
 ·obtain⟨he,h'⟩:=nW h;have he:=eq_of_beq he;subst he;clear h;obtain⟨B,vals,e,h1,h2,h3,h4,h5⟩:=hO;exact⟨⟨B,vals,e,h1,h2,h3,ue ok h' h4,h5⟩,rfl⟩
 ·obtain⟨B,vals,e,h1,h2,h3,h4,h5⟩:=hO;exact⟨⟨B,vals,e,h1,h2,h3,ue ok h h4,h5⟩,rfl⟩
 ·obtain⟨he,h'⟩:=nW h;have he:=eq_of_beq he;subst he;obtain⟨e,hx⟩:=lD h';subst e;subst hx;exact⟨hO,rfl⟩
 ·cases h;exact⟨⟨hv,hO.2⟩,rfl⟩
 ·cases h;exact⟨⟨hv,hO.2⟩,rfl⟩
 ·cases h;exact⟨hO,rfl⟩
 ·cases h
theorem yPu {f t}:∀{l d n v},Np f t l=some d→(Ds l d).lookup n=some v→∃(s:VS) (x:SL s.cells),S9 s (f (t n))=some x∧v=Ta s x
 |s::l,d,n,v,hr,h=>by
  unfold Np at hr;split at hr
  ·rename_i x ds h1 h2;cases hr;unfold Ds at h;rw[List.lookup_cons] at h;cases e:n==s.1 with
   |true=>
    grind
   |false=>
    rw[e] at h;exact yPu h2 h
  ·cases hr
theorem yY2 {f h0}:∀{l ids d},Nq f h0 l ids=some d→(tH l d).length=ids.length∧∀(i:Nat) o,(tH l d)[i]? =some o→∃(s:OS) (x:s.den) (id:Nat) (y:Obj),ids[i]? =some id∧h0 id=some y∧Nh s (f y)=some x∧o=Ni s x
 |[],[],d,_=>⟨rfl,nofun⟩
 |s::l,id::ids,d,h=>by
  unfold Nq at h;split at h
  ·rename_i x ds h1 h2;cases h;obtain⟨y,h3,h4⟩:=Option.bind_eq_some_iff.1 h1;obtain⟨k1,k2⟩:=yY2 h2;refine⟨by simp[tH,k1],fun i o hi=>?_⟩;cases i with
   |zero=>
    simp[tH] at hi;grind
   |succ i=>
    simp[tH] at hi;simp_all
  ·cases h
theorem vT8 {g0 base n:Nat}{S:zE}{st:St}{d:S.den}(r:wA false na nt a0 M0 w0 st a w)(h:Tg g0 base n S st=some d):wA false na nt a0 M0 w0 (zN base S d) a w:=by
 unfold Tg at h;split at h
 ·cases h
 rename_i st1 hg;have r:=yJf r hg;dsimp only at h;generalize kJ:Dv st1.h n _ []=ids at h;have dJ:ids.Nodup:=by rw[←kJ];exact U2 n List.nodup_nil
 split at h
 case h_2=>cases h
 rename_i da db ha hb;cases h;obtain⟨M,h1,h2,h3,h4,h5⟩:=r.ex;rw[←h1] at ha hb;obtain⟨k1,k2⟩:=M.ren_ok h3 (base:=base) dJ;obtain⟨ol,oa⟩:=yY2 hb;let M':zK:={M.ren base ids with h:=(zN base S (da,db)).h};have N3:∀n o',M'.h n=some o'→∃o C,(M.ren base ids).h n=some o∧M'.κ n=some C∧yZ (M.ren base ids) o' C∧o'.owned=o.owned:=fun m o' e=>by
  have e:(bif Nat.ble base m then(tH S.objs db)[m-base]? else none)=some o':=e;obtain⟨hle,e⟩:=nW e;obtain⟨s,x,id,y,q1,q2,q3,rfl⟩:=oa _ _ e;obtain⟨C,hC,hO⟩:=h3.obj id y q2;have hκ:(M.ren base ids).κ m=some {C with ver:=0}:=by
   show qa base M.κ ids m=_;unfold qa;simp_all
  have hh:(M.ren base ids).h m=some (wh M.h (fun i=>(fH i ids 0).map (base+·)) y):=by
   show AB base M.h ids m=_;unfold AB;grind
  obtain⟨p1,p2⟩:=U6 k1 q3 (yVg h3 hO) rfl;grind
 have x:yO (M.ren base ids) M':=⟨fun _ C h=>⟨C,h,C.le_refl⟩,fun _ h=>h,fun _ h=>h,fun _ _=>rfl,by grind,fun _ _=>rfl⟩;have aM:∀b,qO M' b→qO (M.ren base ids) b:=fun b ⟨id,o',C,q1,q2,q3,q4⟩=>by
  obtain⟨o,D,p1,p2,p3,p4⟩:=N3 id o' q1;exact⟨id,o,C,p1,by rw[←p4];exact q2,q3,q4⟩
 have kG:Ok M':=by
  refine⟨fun id o' q=>?_,fun id q=>?_,fun i j oi oj Ci Cj b oS q1 q2 q3 q4 q5 q6 q7 q8=>?_,fun b hb=>k1.own b (aM b hb),k1.GF,k1.Flt⟩
  ·obtain⟨o,C,p1,p2,p3,p4⟩:=N3 id o' q;exact⟨C,p2,p3.ext x (by grind)⟩
  ·have q:(bif Nat.ble base id then(tH S.objs db)[id-base]? else none)=none:=q;show qa base M.κ ids id=none;unfold qa;cases hle:Nat.ble base id with
   |false=>rw[if_neg fun h=>by rw[Nat.ble_eq_true_of_le h] at hle;cases hle]
   |true=>
    simp_all
  ·obtain⟨o1,C1,p1,p2,p3,p4⟩:=N3 i oi q1;obtain⟨o2,C2,p5,p6,p7,p8⟩:=N3 j oj q2;exact k1.disj i j o1 o2 Ci Cj b oS p1 p5 (by rw[←p4];exact q3) (by rw[←p8];exact q4) q5 q6 q7 q8
 refine⟨⟨M',rfl,h2,kG,h4.trans (.same_mem rfl rfl rfl (by grind)),fun m=>?_⟩,r.defers,r.size,r.os,r.tape,r.output,r.keep⟩;show zV M' (match(Ds S.slots da).lookup m with|some v=>v|none=>.undef) _;cases hl:(Ds S.slots da).lookup m with
 |none=>trivial
 |some v=>
  obtain⟨s,y,q1,rfl⟩:=yPu ha hl;exact(U5 k1 q1 (vS5 h3 (h5 m))).ext x
theorem N4 {pre S st d}(r:wA false na nt a0 M0 w0 st a w)(h:IA pre S st=some d):wA false na nt a0 M0 w0 (zN (pre+iz) S d) a w:=vT8 r h
end
end Go.Ab
