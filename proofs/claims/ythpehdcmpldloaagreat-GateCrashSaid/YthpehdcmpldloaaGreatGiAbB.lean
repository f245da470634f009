/- part 1 -/
import Derived.Test.YthpehdcmpldloaaGreatGiAbA
import Derived.Laws.BytesString
set_option linter.unusedVariables false
set_option linter.unusedSimpArgs false
namespace Go.Ab
theorem yVo off:∀l k cells,off+k+l.length≤cells.size→
  (l.zipIdx k).foldl (fun(cs:Array Value) (p:Value×Nat)=>cs.setIfInBounds (off+p.2) p.1) cells=yT cells (off+k) l
 |[],k,cells,h=>by
  apply Array.ext_getElem?;intro j;rw[jU h];simp_all
 |c::l,k,cells,h=>by
  simp;rw[yVo off l (k+1) _ (by grind)];apply Array.ext_getElem?;intro j;rw[jU (by grind),jU (by omega)];grind
theorem Sj place cells i v rest off size (h:place i=some (off,size))(h1:v.cells.size=size)(h2:off+size≤cells.size):
  Instr.fill place cells ((i,v)::rest)=Instr.fill place (yT cells off v.cells.toList) rest:=by
 have hc:¬(v.cells.size≠size||decide (off+v.cells.size>cells.size))=true:=by
  simp_all
 simp only[Instr.fill,h];rw[if_neg hc]
 congr 1
 rw[←Array.foldl_toList,Array.toList_zipIdx];have:=yVo off v.cells.toList 0 cells (by simp;omega);omega
def zg (M:zK):(Nat×zW)→(Nat×Value)→Prop:=fun p q=>p.1=q.1∧zT M p.2 q.2
theorem Sk {M place}:∀{parts aM cells out vals},zL (zX M) cells vals.toList→
  zL (zg M) parts aM→Hj place cells parts=some out→∃res,Instr.fill place vals aM=some res∧zL (zX M) out res.toList
 |[],[],cells,out,vals,hc,_,h=>by cases h;exact⟨vals,rfl,hc⟩
 |(i,v)::parts,(i',rv)::aM,cells,out,vals,hc,hp,h=>by
  obtain⟨⟨hi,hv⟩,hp⟩:=hp;subst hi;unfold Hj at h;split at h
  ·rename_i off size vs CT dE;cases hb:(Nat.beq vs.length size&&Nat.ble (off+size) cells.length) with
   |false=>simp_all
   |true=>
    rw[hb] at h;simp only[Bool.and_eq_true] at hb;have b1:=Nat.eq_of_beq_eq_true hb.1;have b2:=Nat.le_of_ble_eq_true hb.2;split at h
    ·rename_i bI Sl;obtain⟨p1,rfl⟩:=RI _ _ _ _ Sl;have dp:=L6 dE hv;have hl:=dp.length;have mE:=hc.length;simp  at hl mE;have yP:=RM (yL.refl M) hc dp (off:=off) (by simp_all);obtain⟨res,h1,h2⟩:=Sk yP hp h;exact⟨res,by rw[Sj place vals i rv aM off size CT (by omega) (by omega)];exact h1,h2⟩
    ·cases h
  ·cases h
theorem yNk {P} w:∀(l:List Field),l.all (fun f=>(P.info? f.type).isSome)=true→
  (l.mapM fun f=>(do pure (f.offset,←sizeOf f.type):Sem (Nat×Nat))).run P w=.ok (l.map fun f=>(f.offset,P.cellsOf f.type)) w
 |[],_=>by simp
 |f::l,h=>by
  simp only[List.all_cons,Bool.and_eq_true] at h;obtain⟨i,hi⟩:=Option.isSome_iff_exists.1 h.1;rw[List.mapM_cons];simp only[Sem.run_bind,iB w hi,Result.andThen_ok,Sem.run_pure,yNk w l h.2,List.map_cons]
theorem vGl {P M w}(ok:Ok M)(hM:M.H=w.heap){t parts aM v u}(hp:zL (zg M) parts aM)
  (h:yI (Rn P t parts) v u):qI P (Instr.build t aM.toArray) M w v u:=by
 unfold Rn at h;split at h
 ·exact h.elim
 ·rename_i zero hz;obtain⟨i,z,h1,h2,h3,h4,rfl⟩:=yUx hz;have hzero:=LY M h4;split at h
  ·rename_i fs hs;obtain⟨bn,h⟩:=gb h;split at h
   ·rename_i cells hf;obtain⟨rfl,rfl⟩:=wH h;have CT:(fun(j:Nat)=>(fs[j]?).map fun(f:Field)=>(f.offset,P.cellsOf f.type))=(fun(j:Nat)=>(fs.toList.map fun f=>(f.offset,P.cellsOf f.type)).toArray[j]?):=by
     simp
    obtain⟨res,k1,k2⟩:=Sk hzero hp hf;refine qI.pure ok hM (rv:=.agg res) ?_ ⟨res,rfl,k2⟩;have hm:=yNk (P:=P) w fs.toList bn;simp[Instr.build,zeroValue,RF w h1,run_underlying hs,Array.mapM_eq_mapM_toList];simp_all
   ·exact h.elim
  ·rename_i n e hs;obtain⟨bn,h⟩:=gb h;obtain⟨y,hy⟩:=Option.isSome_iff_exists.1 bn;split at h
   ·rename_i cells hf;obtain⟨rfl,rfl⟩:=wH h;obtain⟨res,k1,k2⟩:=Sk hzero hp hf;refine qI.pure ok hM (rv:=.agg res) ?_ ⟨res,rfl,k2⟩;simp[Instr.build,zeroValue,Sem.run_bind,RF w h1,Result.andThen_ok,h2,Sem.run_pure,run_underlying hs,iB w hy];simp_all
   ·exact h.elim
  ·exact h.elim
theorem qI.after {P s M M1 w v u1 u2}(h1:M1.h=qH M.h u1)(st:vC M M1)(h:qI P s M1 w v u2):qI P s M w v (u1++u2):=by
 obtain⟨rv,w',M',a1,a2,a3,a4,a5,a6,a7,a8,a9⟩:=h;exact⟨rv,w',M',a1,a2,a3,a4,a5,by rw[a6,h1,kX],a7,st.trans a8,a9⟩
theorem jC.fresh {h0 h}(hf:jC h0 h){n}(hn:h0 n=none):h n=none:=by
 rcases hf n with e|⟨o,t,xs,e1,_⟩|⟨o,xs,e1,_⟩
 all_goals simp_all
theorem yTf {t vs x}(h:Hg t vs=some x):vs.length=t.size∧sW t t.dflt 0 vs=some x:=by
 unfold Hg at h;cases hb:Nat.beq vs.length t.size with
 |false=>simp_all
 |true=>simp_all
theorem vS3 {M t vs us x}(h:Hg t vs=some x)(hv:zL (zX M) vs us){rd}(hr:∀i,i<us.length→rd i=us[i]?):qC M.H M.G t x rd:=by
 obtain⟨h1,h2⟩:=yTf h;have hl:=hv.length;refine RR t vs us t.dflt x 0 (fun j=>(gZ t)[j]?) rd (HF t _ (by simp)) h2 hv (by grind) (by grind)
theorem yVy {h0 t n}:∀{parts aM xs out vals u M},Ok M→jC h0 M.h→xs.length=n→vals.size=n*t.size→
  (∀k h,qC M.H M.G t xs[k] (fun j=>vals[k*t.size+j]?))→(∀p∈parts,p.1<n)→zL (zg M) parts aM→re h0 t xs parts=some (out,u)→
  ∃res M',Instr.fill (fun i=>some (i*t.size,t.size)) vals aM=some res∧M'.H=M.H∧M'.h=qH M.h u∧Ok M'∧vC M M'∧jC h0 M'.h∧out.length=n∧res.size=n*t.size∧
   (∀k h,qC M'.H M'.G t out[k] (fun j=>res[k*t.size+j]?))
 |[],[],xs,out,vals,u,M,ok,hf,hx,hs,hE,_,_,h=>by
  cases h;exact⟨vals,M,rfl,rfl,rfl,ok,vC.refl M,hf,hx,hs,hE⟩
 |(i,v)::parts,(i',rv)::aM,xs,out,vals,u,M,ok,hf,hx,hs,hE,bh,hp,h=>by
  obtain⟨⟨hi,hv⟩,hp⟩:=hp;dsimp only at hi hv;subst hi;unfold re at h;split at h
  ·rename_i vs dE;split at h
   ·rename_i R2 u1 CI;split at h
    ·rename_i x vn;split at h
     ·rename_i xs' us bb;cases h;have dp:=L6 dE hv;obtain⟨M1,a1,a2,a3,a4,a5,a6,a7⟩:=RO ok hf dp CI;have hl:=a5.length;simp  at hl;have zh:=(yTf vn).1;have fh:i<n:=bh (i,v) (by simp);have aW:=Nat.mul_le_mul_right t.size (show i+1≤n by omega);rw[Nat.add_mul] at aW;have aJ:i*t.size+rv.cells.toList.length≤vals.size:=by simp_all
      have hE1:∀k (h:k<(xs.set i x).length),qC M1.H M1.G t (xs.set i x)[k] (fun j=>(yT vals (i*t.size) rv.cells.toList)[k*t.size+j]?):=by
       intro k hk;rw[List.length_set] at hk;by_cases e:k=i
       ·subst e;rw[List.getElem_set_self];refine vS3 vn a5 fun j hj=>?_
        rw[jU aJ,if_neg (by omega),if_pos (by omega)];simp
       ·rw[List.getElem_set_ne (Ne.symm e)];refine vB a4.ext.G (by grind) t _ _ _ (fun j hj=>?_) (hE k hk);rw[jU aJ,Array.length_toList];rcases yL2 (Ne.symm e) hj with h|h
        all_goals grind
      obtain⟨res,M2,b1,b2,b3,b4,b5,b6,b7,b8,b9⟩:=yVy a3 a6 (by simp_all) (by rw[gz aJ];exact hs) hE1
       (fun p hp=>bh p (by grind)) (hp.mono fun p q hpq=>⟨hpq.1,by
        obtain⟨_,hq⟩:=hpq;exact zT.ext a4.ext hq⟩) bb
      exact⟨res,M2,by rw[Sj _ vals i rv aM (i*t.size) t.size rfl (by omega) (by omega)];exact b1,b2.trans a1,by rw[b3,a2,kX],b4,a4.trans b5,b6,b7,b8,b9⟩
     ·cases h
    ·cases h
   ·cases h
  ·cases h
theorem yZ0 {P w t e n aM}{ty:Ty}{i z res}(hu:P.underlying t=some (.slice e))(hi:P.info? e=some i)
  (hz:i.zero=some z) (hs:i.size=ty.size) (cO:n*P.cellsOf e≤16777216) (hf:Instr.fill (fun j=>some (j*ty.size,ty.size)) (madeCells z.cells (n*ty.size)) aM=some res):
  (Instr.buildSlice t n aM.toArray).run P w=.ok (.slice (some ⟨w.heap.size,0,none⟩) n n) (w.alloc (.cells res e)):=by
 have hc:P.cellsOf e=ty.size:=by rw[RD hi];exact hs
 rw[hc] at cO;have h1:¬2^24<n*ty.size:=by omega
 by_cases h0:n*ty.size=0
 ·have hm:madeCells z.cells (n*ty.size)=#[]:=by rw[h0];simp[madeCells]
  rw[hm] at hf;simp[Instr.buildSlice,run_underlying hu,iB w hi,hc,h0];simp[Array.range_zero',hf,newRow]
 ·simp[Instr.buildSlice,run_underlying hu,Result.andThen_ok,iB w hi,hc,h1,if_false,h0,Sem.run_pure,zeroValue,RF w hi,hz];rw[show(Array.range (n*ty.size)).map (z.cells[· %z.cells.size]!)=madeCells z.cells (n*ty.size) from rfl,hf];rfl
theorem yY2 {parts:List (Nat×zW)}{n}(h:parts.all (fun p=>Nat.blt p.1 n)=true):∀p∈parts,p.1<n:=by
 simp only[List.all_eq_true] at h;exact fun p hp=>RP (h p hp)
theorem vCp {P M w}(ok:Ok M)(hM:M.H=w.heap){nm t e n parts aM ty xs u}
  (hp:zL (zg M) parts aM) (hu:P.underlying t=some (.slice e)) (aS:M.h nm=none) (dG:kh P e=some ty) (cO:n*P.cellsOf e≤16777216) (bh:∀p∈parts,p.1<n)
  (hf:re M.h ty (List.replicate n ty.dflt) parts=some (xs,u)):
  qI P (Instr.buildSlice t n aM.toArray) M w (.c (.osl nm none)) (u++[(nm,.arr true ty xs)]):=by
 obtain⟨i,z,h1,h2,h3,h4,h5,h6,h7⟩:=rC dG;obtain⟨res,M',b1,b2,b3,b4,b5,b6,b7,b8,b9⟩:=yVy (n:=n) ok (jC.refl _) (by simp) (vals:=madeCells z.cells (n*ty.size)) (by rw[size_madeCells])
  (fun k hk=>by rw[yLg hk];exact yHf h4 h7 (by simp_all)) bh hp hf
 have hr:=yZ0 (P:=P) (w:=w) hu h1 h2 h3 cO b1;refine qI.after b3 b5 (yJf b4 (by grind) (b6.fresh aS) (c:=n) (us:=res) (e:=e) (by omega) (by omega) (by grind) ?_);simp_all
structure vp (M:zK) (J:List Nat) (n:Nat) (rows:List (List Int)) (vals:Array Value) (rc:List (Option Nat×Nat)):Prop where
 len:rows.length=n
 size:vals.size=n
 rlen:rc.length=n
 row:∀k (h:k<rows.length),∃rb v,rc[k]? =some (rb,rows[k].length)∧vals[k]? =some v∧mw M.H rb rows[k].length v∧
  (∀R,rb=some R→∃rv er,M.H[R]? =some (.cells rv er (0,0))∧∀j (h':j<rows[k].length),rv[j]? =some (.int .i64 rows[k][j]))
 nd:(rc.filterMap (·.1)).Nodup
 of:∀R∈rc.filterMap (·.1),∃j∈J,∃C,M.κ j=some C∧R∈C.fp
 js:∀j∈J,∃ys:List Int,M.h j=some (.arr true (.int .i64) ys)
theorem vp.put {M}(ok:Ok M){J n rows vals rc}(I:vp M J n rows vals rc){i}(hi:i<n){v rv r u}
  (hv:zT M v rv) (ht:yr M.h v=some (r,u)) (hJ:∀p∈u,p.1∉J):∃Mk,vp M (J++u.map (·.1)) n (rows.set i r) (yT vals i rv.cells.toList) Mk∧rv.cells.size=1∧(∀p∈u,p.2=.gone):=by
 have put:∀(rb:Option Nat) (J':List Nat),rv.one1=true→mw M.H rb r.length rv→(∀R,rb=some R→∃rv er,M.H[R]? =some (.cells rv er (0,0))∧∀j (h':j<r.length),rv[j]? =some (.int .i64 r[j]))→
   (∀R,rb=some R→R∉rc.filterMap (·.1))→(∀R,rb=some R→∃j∈J',∃C,M.κ j=some C∧R∈C.fp)→(∀j∈J',∃ys:List Int,M.h j=some (.arr true (.int .i64) ys))→
   vp M (J++J') n (rows.set i r) (yT vals i rv.cells.toList) (rc.set i (rb,r.length))∧rv.cells.size=1:=by
  intro rb J' h1 h2 h3 h4 h5 h6;have aF:rv.cells=#[rv]:=by cases rv<;>first|rfl|cases h1
  obtain⟨s1,s2⟩:=L9 (x:=(rb,r.length)) rc i I.nd h4;have aJ:i+rv.cells.toList.length≤vals.size:=by rw[aF,I.size];show i+1≤n;omega
  refine⟨⟨by rw[List.length_set];exact I.len,by rw[gz aJ];exact I.size,by rw[List.length_set];exact I.rlen,fun k hk=>?_,s1,fun R hR=>?_,fun j hj=>?_⟩,by rw[aF];rfl⟩
  ·rw[List.length_set] at hk;by_cases e:k=i
   ·subst e;rw[List.getElem_set_self];refine⟨rb,rv,?_,?_,h2,h3⟩
    ·rw[List.getElem?_set_self (by rw[I.rlen];exact hi)]
    ·rw[jU aJ,if_neg (by omega),if_pos (by rw[aF];show k<k+1;omega),aF];simp
   ·rw[List.getElem_set_ne (Ne.symm e)];obtain⟨pb,v',p1,p2,p3,p4⟩:=I.row k hk;refine⟨pb,v',by rw[List.getElem?_set_ne (Ne.symm e)];exact p1,?_,p3,p4⟩;rw[jU aJ,aF];grind
  ·rcases s2 R hR with h|h
   ·obtain⟨j,hj,hC⟩:=I.of R h;exact⟨j,by grind,hC⟩
   grind
  ·rcases List.mem_append.1 hj with h|h
   ·exact I.js j h
   ·exact h6 j h
 unfold yr at ht;split at ht
 ·rename_i jd;split at ht
  ·rename_i ys cZ;cases ht;obtain⟨Cj,eI,np⟩:=ok.obj jd _ cZ;obtain⟨jr,jf⟩:=Hw np;obtain⟨r1,r2⟩:=RZ eI np hv;have vl:∀j∈[jd],∃ys:List Int,M.h j=some (.arr true (.int .i64) ys):=by grind
   have:=put Cj.blk [jd] (zX.one (c:=.osl jd none) hv) r1 r2 (fun R hR hm=>?_) (by grind) (fun j hj=>vl j hj)
   ·exact(by grind)
   ·obtain⟨j,hj,C,hC,hRC⟩:=I.of R hm;obtain⟨ys',mB⟩:=I.js j hj;have bm:j≠jd:=fun e=>hJ (jd,.gone) (by simp) (e▸hj)
    exact ok.disj j jd _ _ C Cj R bm mB cZ rfl rfl hC eI hRC (fB hR)
  ·cases ht
 ·cases ht;have e:rv=.slice none 0 0:=hv;have:=put none [] (by rw[e];rfl) ⟨e,rfl⟩ (by simp) (by simp) (by simp) (by simp);exact by grind
 ·cases ht
theorem CU:∀{l},sY l=true→l.Nodup
 |[],_=>by simp
 |a::l,h=>by
  simp only[sY,Bool.and_eq_true] at h;refine List.nodup_cons.2 ⟨fun hm=>?_,CU h.2⟩;have:l.any (Nat.beq a)=true:=List.any_eq_true.2 ⟨a,hm,by simp⟩;simp_all
theorem yF0 {M}(ok:Ok M){n}:∀{parts aM J rows out vals rc u},vp M J n rows vals rc→
  (∀p∈parts,p.1<n)→zL (zg M) parts aM→yt M.h rows parts=some (out,u)→(J++u.map (·.1)).Nodup→
  ∃res Mk,Instr.fill (fun i=>some (i*1,1)) vals aM=some res∧vp M (J++u.map (·.1)) n out res Mk∧(∀p∈u,p.2=.gone)
 |[],[],J,rows,out,vals,rc,u,I,_,_,h,_=>by
  cases h;exact⟨vals,rc,rfl,by simp_all,by simp⟩
 |(i,v)::parts,(i',rv)::aM,J,rows,out,vals,rc,u,I,bh,hp,h,dF=>by
  obtain⟨⟨hi,hv⟩,hp⟩:=hp;subst hi;unfold yt at h;split at h
  ·rename_i r u1 ht;split at h
   ·rename_i ic us bb;cases h;rw[List.map_append,←List.append_assoc] at dF;have fh:i<n:=bh (i,v) (by simp);obtain⟨Mk,I',h1,hg⟩:=I.put ok fh hv ht (by grind);obtain⟨res,rc2,b1,b2,b3⟩:=yF0 ok I' (by grind) hp bb dF;refine⟨res,rc2,?_,by simp_all,fun p hp=>?_⟩
    ·rw[Sj _ vals i rv aM (i*1) 1 rfl h1 (by rw[I.size];omega),Nat.mul_one];exact b1
    grind
   ·cases h
  ·cases h
theorem Sm {j}:∀{u h},(∀p∈u,p.2=.gone)→j∈u.map (·.1)→qH h u j=some .gone
 |(id,o)::u,h,hg,hj=>by
  have ho:o=.gone:=hg (id,o) (by simp);subst ho;by_cases hm:j∈u.map (·.1)
  ·exact Sm (u:=u) (by grind) hm
  ·have e:j=id:=by
    simp_all
   subst e;show qH (yG h j .gone) u j=_;rw[Ma]
   ·exact yK _ _ _
   ·rw[Bool.eq_false_iff];simp_all
theorem CV {n u h}(hn:n∉u.map (·.1)):qH h u n=h n:=by
 refine Ma h ?_;rw[Bool.eq_false_iff];simp_all
theorem vLq {P:Program}{M:zK}{w}(ok:Ok M)(hM:M.H=w.heap){nm n c}{rows res rc J}{u:vG}{e s}
  (aS:M.h nm=none) (I:vp M J n rows (res.extract 0 n) rc) (hJ:∀j,j∈J→j∈u.map (·.1)) (hg:∀p∈u,p.2=.gone∧∃o,M.h p.1=some o∧o.owned=true) (hc:n≤c) (hs:c≤res.size)
  w' (hw:w'.heap=w.heap.push (.cells res e)∧w'.os=w.os∧w'.tape=w.tape∧w'.output=w.output)
  (hr:s.run P w=.ok (.slice (some ⟨w.heap.size,0,none⟩) n c) w'):qI P s M w (.c (.osl nm none)) (u++[(nm,.mat 0 rows)]):=by
 let C:qA:=⟨some M.H.size,n,1,0,rc⟩;have hnJ:nm∉u.map (·.1):=(by grind);have aW:∀R∈rc.filterMap (·.1),∃j C,(j∈u.map (·.1))∧M.κ j=some C∧R∈C.fp:=fun R hR=>by
  obtain⟨j,hj,C,hC,hm⟩:=I.of R hR;grind
 have abe:∀R∈rc.filterMap (·.1),R<M.H.size:=fun R hR=>by
  obtain⟨j,hj,C,hC,hm⟩:=I.of R hR;obtain⟨ys,hy⟩:=I.js j hj;exact(ok.own R ⟨j,_,C,hy,rfl,hC,hm⟩).2
 have hh:∀n',(qH M.h (u++[(nm,.mat 0 rows)])) n'=if n'=nm then some (.mat 0 rows) else qH M.h u n':=fun n'=>by
  rw[kX,RH];by_cases e:n'=nm
  ·rw[if_pos e,e,yK]
  ·rw[if_neg e,yO _ _ e]
 have:=zK.move_ok (M:=M) (nm:=nm) (o':=.mat 0 rows) (C':=C) (h':=qH M.h (u++[(nm,.mat 0 rows)])) (H':=M.H.push (.cells res e)) ok (fun j=>j∈u.map (·.1)) aS
  (fun j hj=>by
   obtain⟨p,hp,e⟩:=List.mem_map.1 hj;obtain⟨_,o,ho,iF⟩:=hg p hp;refine⟨o,by rw[←e];exact ho,iF,?_⟩;have bm:j≠nm:=by grind
   rw[hh,if_neg bm];exact Sm (by grind) hj)
  (by rw[hh,if_pos rfl]) (fun n' h1 h2=>by rw[hh,if_neg h2];exact CV h1) (by simp) (fun b hb _=>o6 hb) (fun b hb=>CA (o6 hb))
  (fun b hb=>by
   simp only[C,qA.fp,Option.toList_some,List.singleton_append,List.mem_cons] at hb;grind)
  (fun x=>by
   refine⟨rfl,I.len.symm,rfl,by rw[I.len];exact I.rlen,?_,res,e,yy,by rw[I.len];omega,fun k hk=>?_⟩
   ·simp only[C,qA.fp,Option.toList_some,List.singleton_append];exact List.nodup_cons.2 ⟨by grind,I.nd⟩
   ·obtain⟨rb,v,p1,p2,p3,p4⟩:=I.row k hk;refine⟨rb,v,p1,?_,p3.ext x,fun R hR=>?_⟩
    ·grind
    ·obtain⟨rv,er,p5,p6⟩:=p4 R hR;refine⟨rv,er,?_,p6⟩;have:R<M.H.size:=by grind
     show(M.H.push _)[R]? =_;grind)
 refine⟨_,_,_,hr,hw.2.1,hw.2.2.1,hw.2.2.2,by show M.H.push _=_;rw[hw.1,hM],rfl,this.1,this.2,C,κset_same _ _ _,_,c,rfl,?_⟩;refine⟨hc,0,by rw[hM],.inr (by simp),?_⟩;have:qT (M.H.push (.cells res e)) M.H.size=res.size:=by simp[qT]
 show(0+c)*1≤qT (M.H.push (.cells res e)) M.H.size;rw[this];omega
theorem vZv {P M w}(ok:Ok M)(hM:M.H=w.heap){mat nm t n parts aM v u}
  (hp:zL (zg M) parts aM) (h:yI (Ck P mat nm M.h t n parts) v u):qI P (Instr.buildSlice t n aM.toArray) M w v u:=by
 unfold Ck at h;split at h
 ·rename_i e hu aS;obtain⟨cO,h⟩:=gb h;have cO:=Nat.le_of_ble_eq_true cO;cases mat with
  |true=>
   split at h
   ·rename_i rows u' dG hf;obtain⟨hb,h⟩:=gb h;simp only[Bool.and_eq_true] at hb;obtain⟨_,rfl,rfl⟩:=gy h;obtain⟨i,z,h1,h2,h3,h4,h5,h6,h7⟩:=rC dG;have Mj:z.cells.toList=[.slice none 0 0]:=h4;have Si:z.cells.size=1:=h7;have I0:vp M [] n (List.replicate n []) (madeCells z.cells (n*1)) (List.replicate n (none,0)):=by
     refine⟨by simp,by rw[size_madeCells,Nat.mul_one],by simp,fun k hk=>?_,by simp,by simp,by simp⟩;have hkn:k<n:=by simp_all
     refine⟨none,.slice none 0 0,by simp[hkn],?_,⟨rfl,by simp⟩,by simp⟩;simp only[madeCells];have:z.cells.toList[0]'(by grind)=.slice none 0 0:=by grind
     grind
    obtain⟨res,rc,b1,b2,b3⟩:=yF0 ok I0 (yY2 hb.2) hp hf (by simpa using CU hb.1);have hr:=yZ0 (P:=P) (w:=w) (ty:=.sl (.int .i64)) hu h1 h2 h3 cO b1;have Sn:res.extract 0 n=res:=by
     have:=b2.size;simp_all
    refine vLq ok hM aS (by rw[Sn];exact b2) (by simp) (fun p hp=>⟨b3 p hp,?_⟩) (by simp) (by rw[b2.size];omega) (w.alloc (.cells res e)) ⟨rfl,rfl,rfl,rfl⟩ hr;obtain⟨ys,hy⟩:=b2.js p.1 (by grind);exact⟨_,hy,rfl⟩
   ·exact h.elim
  |false=>
   simp  at h;split at h
   ·rename_i ty dG;split at h
    ·rename_i xs u' hf;obtain⟨hb,h⟩:=gb h;obtain⟨_,rfl,rfl⟩:=gy h;exact vCp ok hM hp hu aS dG cO (yY2 hb) hf
    ·exact h.elim
   ·exact h.elim
 ·exact h.elim
theorem So {H F}:∀t x rd,qC H F t x rd→∀j,j<t.size→∃v,rd j=some v∧v.one1=true
 |.int k,x,rd,h,j,hj
 |.bool,x,rd,h,j,hj=>by
  simp[Ty.size] at hj;obtain rfl:j=0:=by omega
  exact⟨_,h,rfl⟩
 |.sl t,x,rd,h,j,hj=>by
  simp[Ty.size] at hj;obtain rfl:j=0:=by omega
  obtain⟨A,n,c,h1,_⟩:=h;exact⟨_,h1,rfl⟩
 |.pair a b,x,rd,h,j,hj=>by
  simp[Ty.size] at hj;by_cases bh:j<a.size
  ·exact So a _ _ h.1 j bh
  ·have:=So b _ _ h.2 (j-a.size) (by omega);simp_all
def Rd (H : Array Go.Obj) (v : Value) (n size : Nat) (news : List Value) : Prop := ∃ A c, v = .slice A n c ∧ news.length = n * size ∧ (∀ u ∈ news, u.one1 = true) ∧ (match A with
 |none=>n=0
 |some a=>n=0∨a.spot=none∧∀j u,news[j]? =some u→yP H a.block (a.off+j)=some u)
theorem Rd.first {P H v n size news}(h:Rd H v n size news) w (hw:w.heap=H):(Builtin.firstCells size n v).run P w=.ok news.toArray w:=by
 obtain⟨A,c,rfl,hl,_,h⟩:=h;cases A with
 |none=>
  have h0:n=0:=h;subst h0;have:news=[]:=by grind
  subst this;rfl
 |some a=>
  rcases h with h0|⟨hs,h⟩
  ·subst h0;have:news=[]:=by grind
   subst this;simp[Builtin.firstCells,loadCells,loadCellsFrom]
  ·obtain⟨B,o,sp⟩:=a;cases hs;exact run_firstCells_some w size n ⟨B,o,none⟩ n c news hl (fun j u hu=>by rw[Addr.add_lit,tg,hw];simp_all)
theorem Sp {H F t}{ys:List t.den}{B o c}(hc:ys.length≤c)(h:∀i hi,qC H F t ys[i] (fun j=>yP H B (o+i*t.size+j))):
  ∃news,Rd H (.slice (some ⟨B,o,none⟩) ys.length c) ys.length t.size news∧∀i hi,qC H F t ys[i] (fun j=>news[i*t.size+j]?):=by
 have tot:∀k,k<ys.length*t.size→∃v,yP H B (o+k)=some v∧v.one1=true:=by
  intro k hk;have hi:k/t.size<ys.length:=Nat.div_lt_of_lt_mul (by grind);obtain⟨v,h1,h2⟩:=So t _ _ (h _ hi) (k%t.size) (Nat.mod_lt _ t.size_pos);refine⟨v,?_,h2⟩;rw[Nat.add_assoc,Nat.mul_comm,Nat.div_add_mod] at h1;exact h1
 refine⟨(List.range (ys.length*t.size)).map fun k=>(yP H B (o+k)).getD undef,⟨_,c,rfl,by simp,fun u hu=>?_,.inr ⟨rfl,fun j u hu=>?_⟩⟩,fun i hi=>?_⟩
 ·grind
 ·grind
 ·refine vB (by simp) (by simp) t _ _ _ (fun j hj=>?_) (h i hi);have aW:=Nat.mul_le_mul_right t.size (show i+1≤ys.length by omega);grind
theorem HG {H F t A c}:∃news,Rd H (.slice A 0 c) 0 t.size news∧∀i hi,qC H F t ([]:List t.den)[i] (fun j=>news[i*t.size+j]?):=
 ⟨[],⟨A,c,rfl,by simp,by simp,by grind⟩,by simp⟩
theorem Sq {H F t}{ys:List t.den}{v}(h:qC H F (.sl t) ys (fun _=>some v)):
  ∃news,Rd H v ys.length t.size news∧∀i hi,qC H F t ys[i] (fun j=>news[i*t.size+j]?):=by
 simp[qC] at h;obtain⟨A,n,c,rfl,rfl,hc,h⟩:=h;rcases h with⟨rfl,_⟩|⟨B,o,rfl,hB,hE⟩
 ·exact HG
 ·exact Sp hc hE
theorem zi {M own t xs C id r v}(hC:M.κ id=some C)(hO:yW M (.arr own t xs) C)(hv:zX M (.osl id r) v):
  ∃news,Rd M.H v (jn xs r).length t.size news∧∀i hi,qC M.H M.G t (jn xs r)[i] (fun j=>news[i*t.size+j]?):=by
 obtain⟨h1,h2,h3,h4⟩:=hO;obtain⟨C',aD,hv⟩:=hv;rw[hC] at aD;cases aD;have key:∀lo n,lo+n≤C.len→jA M.H C lo n v→∃news,Rd M.H v (qR xs lo n).length t.size news∧∀i (hi:i<(qR xs lo n).length),qC M.H M.G t (qR xs lo n)[i] (fun j=>news[i*t.size+j]?):=by
  intro lo n hn hS;obtain⟨A,c,rfl,hS⟩:=hS;have hl:=CF (xs:=xs) (lo:=lo) (n:=n) (by omega);by_cases h0:n=0
  ·subst h0;have e:qR xs lo 0=[]:=by rfl
   exact HG
  ·cases hB:C.blk with
   |none=>simp_all
   |some B=>
    rw[hB] at hS h4;obtain⟨hc,a,rfl,ha,_⟩:=hS;obtain⟨vals,e,h5,h6,h7,h8⟩:=h4;have rq:a=lo*C.sz:=by omega
    have := Sp (H := M.H) (F := M.G) (ys := qR xs lo n) (B := B) (o := a) (c := c) (by omega) (fun i hi=>by
     obtain⟨bH,e1⟩:=L7 hi;rw[e1];refine vB (by simp) (by simp) t _ _ _ (fun j hj=>?_) (h8 (lo+i) bH);rw[rq,h2,←Nat.add_mul];simp[yP,h5])
    simp_all
 cases r with
 |none=>
  have:=key 0 C.len (by omega) hv;rw[h1,yDj] at this;exact this
 |some p=>exact key p.1 p.2 hv.1 hv.2.1
theorem rD {P w t e i A sLen sCap n size x news} T (hu:P.underlying t=some (.slice e))(hi:P.info? e=some i)(hs:i.size=size)
  (hx : Rd w.heap x n size news) (aO : sLen + n ≤ sCap) w' (hw:match A with
   |none=>w'=w
   |some a=>(storeCells (a.add (sLen*size)) news).run P w=.ok () w'):
  (Builtin.append_ #[t,t] T #[.slice A sLen sCap,x]).run P w=.ok (.slice A (sLen+n) sCap) w':=by
 have hf:=hx.first (P:=P) w rfl
 obtain⟨X,c,rfl,_⟩:=hx;subst hs;cases A with
 |none=>
  subst hw;simp[Builtin.append_,run_underlying hu,sizeOf,typeInfo,hi,Builtin.lenOf,aO,hf]
 |some a=>simp[Builtin.append_,run_underlying hu,sizeOf,typeInfo,hi,Builtin.lenOf,aO,hf,hw]
theorem Sr {P}{w}{t e}{i}{z}{A sLen sCap n size x olds news} T (hu:P.underlying t=some (.slice e))(hi:P.info? e=some i)(hz:i.zero=some z)
  (hs:i.size=size) (hb:Rd w.heap (.slice A sLen sCap) sLen size olds) (hx:Rd w.heap x n size news) (hg:sCap<sLen+n) (h46:(sLen+n)*i.bytes≤140737488355328) (abf:sLen+n≤140737488355328):
  (Builtin.append_ #[t,t] T #[.slice A sLen sCap,x]).run P w=
   .ok (.slice (some ⟨w.heap.size,0,none⟩) (sLen+n) (grownCap w (sLen+n) sCap e)) (w.drew.alloc (.cells (olds.toArray++news.toArray++Builtin.zeroCells z.cells (grownCap w (sLen+n) sCap e-(sLen+n))) e)):=by
 have hf:=hx.first (P:=P) w.drew rfl
 have hfo:=hb.first (P:=P) w.drew rfl
 obtain⟨X,c,rfl,_⟩:=hx;subst hs;have hn:¬(sLen+n≤sCap):=by omega
 have abg:¬(9223372036854775807<((sLen:Int)+(n:Int))):=by omega
 have abh:¬(281474976710656<Builtin.nextslicecap (sLen+n) sCap*i.bytes):=by
  have h1:=Nat.mul_le_mul_right i.bytes (nextslicecap_le hg);grind
 simp[Builtin.append_,run_underlying hu,sizeOf,typeInfo,zeroValue,hi,hz,Builtin.lenOf,Question.forced,hf,hfo,newRow,grownCap];grind
theorem CW z n:(Builtin.zeroCells z n).size=n*z.size:=by simp[Builtin.zeroCells]
theorem Ss {H F t}{xs ys:List t.den}{olds news:List Value}(hl:olds.length=xs.length*t.size)(hx:∀i h,qC H F t xs[i] (fun j=>olds[i*t.size+j]?))
  (hy:∀i h,qC H F t ys[i] (fun j=>news[i*t.size+j]?)):∀i h,qC H F t (xs++ys)[i] (fun j=>(olds++news)[i*t.size+j]?):=by
 intro i hi;by_cases h:i<xs.length
 ·rw[List.getElem_append_left h];refine vB (by simp) (by simp) t _ _ _ (fun j hj=>?_) (hx i h);have:=Nat.mul_le_mul_right t.size (show i+1≤xs.length by omega);grind
 ·rw[List.getElem_append_right (by omega)];refine vB (by simp) (by simp) t _ _ _ (fun j hj=>?_) (hy (i-xs.length) (by grind));have:=Nat.mul_le_mul_right t.size (show xs.length≤i by omega);rw[List.getElem?_append_right (by omega),hl]
  congr 1
  rw[Nat.sub_mul];omega
def HH (M:zK)(w:World)(v:zW)(u:vG)(rv:Value)(w':World):Prop:=
 ∃M',w'.os=w.os∧w'.tape=w.tape∧w'.output=w.output∧M'.H=w'.heap∧M'.h=qH M.h u∧Ok M'∧vC M M'∧zT M' v rv
theorem HH.runs {P s M w w' v u rv}(h:HH M w v u rv w')(hr:s.run P w=.ok rv w'):qI P s M w v u:=by
 obtain⟨M',h⟩:=h;exact⟨_,_,M',hr,h⟩
theorem yXs {M w}(ok:Ok M)(hM:M.H=w.heap){nm t zs us e c}{u:vG}(aS:M.h nm=none)
  (hg:∀p∈u,p.2=.gone∧∃o,M.h p.1=some o∧o.owned=true) (hc:zs.length≤c) (hs:c*t.size≤us.size) (hx:∀i h,qC M.H M.G t zs[i] (fun j=>us[i*t.size+j]?))
  {w':World} (hw:w'.heap=w.heap.push (.cells us e)∧w'.os=w.os∧w'.tape=w.tape∧w'.output=w.output):
  HH M w (.c (.osl nm none)) (u++[(nm,.arr true t zs)]) (.slice (some ⟨w.heap.size,0,none⟩) zs.length c) w':=by
 let C:qA:=⟨some M.H.size,zs.length,t.size,0,[]⟩;have hh:∀n',(qH M.h (u++[(nm,.arr true t zs)])) n'=if n'=nm then some (.arr true t zs) else qH M.h u n':=fun n'=>by
  rw[kX,RH];by_cases e:n'=nm
  ·rw[if_pos e,e,yK]
  ·rw[if_neg e,yO _ _ e]
 have hle:=Nat.mul_le_mul_right t.size hc;have:=zK.move_ok (M:=M) (nm:=nm) (o':=.arr true t zs) (C':=C) (h':=qH M.h (u++[(nm,.arr true t zs)])) (H':=M.H.push (.cells us e)) ok (fun j=>j∈u.map (·.1)) aS
  (fun j hj=>by
   obtain⟨p,hp,e⟩:=List.mem_map.1 hj;obtain⟨_,o,ho,iF⟩:=hg p hp;refine⟨o,by simp_all,iF,?_⟩;have bm:j≠nm:=by grind
   rw[hh,if_neg bm];exact Sm (by grind) hj)
  (by simp_all) (fun n' h1 h2=>by rw[hh,if_neg h2];exact CV h1) (by simp) (by grind) (fun b hb=>CA (o6 hb))
  (fun b hb=>by
   simp only[C,qA.fp] at hb;simp_all)
  (fun x=>⟨rfl,rfl,(by grind),us,e,yy,by simp,by omega,fun i hi=>vB x.G x.sameG t _ _ _ (by simp) (hx i hi)⟩)
 refine⟨_,hw.2.1,hw.2.2.1,hw.2.2.2,by show M.H.push _=_;simp_all,rfl,this.1,this.2,C,κset_same _ _ _,_,c,rfl,?_⟩;refine⟨hc,0,by rw[hM],by simp,?_⟩;have:qT (M.H.push (.cells us e)) M.H.size=us.size:=by simp[qT]
 show(0+c)*t.size≤qT (M.H.push (.cells us e)) M.H.size;simp_all
theorem vBt {P M w}(ok:Ok M)(hM:M.H=w.heap){nm t zs us e s c}{u:vG}(aS:M.h nm=none)
  (hg:∀p∈u,p.2=.gone∧∃o,M.h p.1=some o∧o.owned=true) (hc:zs.length≤c) (hs:c*t.size≤us.size) (hx:∀i h,qC M.H M.G t zs[i] (fun j=>us[i*t.size+j]?))
  {w'} (hr:s.run P w=.ok (.slice (some ⟨w.heap.size,0,none⟩) zs.length c) w') (hw:w'.heap=w.heap.push (.cells us e)∧w'.os=w.os∧w'.tape=w.tape∧w'.output=w.output):
  qI P s M w (.c (.osl nm none)) (u++[(nm,.arr true t zs)]):=
 (yXs ok hM aS hg hc hs hx hw).runs hr
theorem yHu {M:zK}{w:World}(ok:Ok M)(hM:M.H=w.heap){id nm:Nat}{t:Ty}{hY zs:List t.den}{C:qA}{H':Array Go.Obj}{c:Nat}{A:Option Addr}{w':World}
  (an:M.h id=some (.arr true t hY)) (hC:M.κ id=some C) (aS:M.h nm=none) (dV:H'.size=M.H.size) (hH:∀b,b∉C.fp→H'[b]? =M.H[b]?) (cN:∀b,qT H' b=qT M.H b)
  (hx:∀M',yL M M'→M'.H=H'→M'.G=M.G→match C.blk with
   |none=>zs=[]
   |some B=>∃vals e,H'[B]? =some (.cells vals e (0,0))∧zs.length*t.size≤vals.size∧∀i (h:i<zs.length),qC M'.H M'.G t zs[i] (fun j=>vals[i*t.size+j]?))
  (hA:match C.blk with
   |none=>A=none∧zs.length=0∧c=0
   |some B=>zs.length≤c∧∃a,A=some ⟨B,a,none⟩∧(c=0∨a=0)∧c*t.size≤qT M.H B)
  (hw:w'.heap=H'∧w'.os=w.os∧w'.tape=w.tape∧w'.output=w.output):
  HH M w (.c (.osl nm none)) [(id,.gone),(nm,.arr true t zs)] (.slice A zs.length c) w':=by
 obtain⟨C0,rE,hO⟩:=ok.obj id _ an;rw[hC] at rE;cases rE;obtain⟨fr,ff⟩:=Hw hO;have bm:id≠nm:=by grind
 let C':qA:=⟨C.blk,zs.length,t.size,0,[]⟩;have hh:∀n',(qH M.h [(id,.gone),(nm,.arr true t zs)]) n'=if n'=nm then some (.arr true t zs) else if n'=id then some .gone else M.h n':=fun n'=>by
  show(yG (yG M.h id .gone) nm _) n'=_;by_cases e:n'=nm
  ·rw[if_pos e,e,yK]
  ·rw[if_neg e,yO _ _ e];by_cases e2:n'=id
   ·rw[if_pos e2,e2,yK]
   ·rw[if_neg e2,yO _ _ e2]
 have:=zK.move_ok (M:=M) (nm:=nm) (o':=.arr true t zs) (C':=C') (h':=qH M.h [(id,.gone),(nm,.arr true t zs)]) (H':=H') ok (fun j=>j=id) aS
  (fun j hj=>⟨.arr true t hY,by rw[hj];exact an,rfl,by simp_all⟩)
  (by rw[hh,if_pos rfl]) (by grind) (by omega) (by grind) (fun b _=>cN b)
  (fun b hb=>.inr ⟨id,C,rfl,hC,by
   simp only[C',qA.fp,List.filterMap_nil,List.append_nil] at hb;rw[ff];exact hb⟩)
  (fun x=>by
   refine⟨rfl,rfl,(by grind),?_⟩;have:=hx _ x rfl rfl;show match C.blk with
    |none=>_
    |some B=>_
   cases hB:C.blk with
   |none=>simp_all
   |some B=>
    rw[hB] at this;obtain⟨vals,e,h1,h2,h3⟩:=this;exact⟨vals,e,h1,by simp,h2,h3⟩)
 refine⟨_,hw.2.1,hw.2.2.1,hw.2.2.2,by rw[hw.1];rfl,rfl,this.1,this.2,C',κset_same _ _ _,_,c,rfl,?_⟩;show match C.blk with
  |none=>_
  |some B=>_
 cases hB:C.blk with
 |none=>rw[hB] at hA;exact hA
 |some B=>
  rw[hB] at hA;obtain⟨h1,a,h2,h3,h4⟩:=hA;refine⟨h1,a,h2,by simpa using h3,?_⟩;show(0+c)*t.size≤qT H' B;simp_all
theorem Su {P M w}(ok:Ok M)(hM:M.H=w.heap){id nm t hY zs C H' s c A w'}
  (an:M.h id=some (.arr true t hY)) (hC:M.κ id=some C) (aS:M.h nm=none) (dV:H'.size=M.H.size) (hH:∀b,b∉C.fp→H'[b]? =M.H[b]?) (cN:∀b,qT H' b=qT M.H b)
  (hx:∀M',yL M M'→M'.H=H'→M'.G=M.G→match C.blk with
   |none=>zs=[]
   |some B=>∃vals e,H'[B]? =some (.cells vals e (0,0))∧zs.length*t.size≤vals.size∧∀i h,qC M'.H M'.G t zs[i] (fun j=>vals[i*t.size+j]?))
  (hA:match C.blk with
   |none=>A=none∧zs.length=0∧c=0
   |some B=>zs.length≤c∧∃a,A=some ⟨B,a,none⟩∧(c=0∨a=0)∧c*t.size≤qT M.H B)
  (hw:w'.heap=H'∧w'.os=w.os∧w'.tape=w.tape∧w'.output=w.output) (hr:s.run P w=.ok (.slice A zs.length c) w'):
  qI P s M w (.c (.osl nm none)) [(id,.gone),(nm,.arr true t zs)]:=
 (yHu ok hM an hC aS dV hH cN hx hA hw).runs hr
theorem HI {n b}(h:(Nat.ble (n*b) 140737488355328&&Nat.ble n 140737488355328)=true):n*b≤140737488355328∧n≤140737488355328:=by
 simp_all
theorem Sv {H H' F F'}:∀t x rd,t.flat=true→qC H F t x rd→qC H' F' t x rd
 |.int k,n,rd,_,h
 |.bool,n,rd,_,h=>h
 |.pair a b,p,rd,hf,h=>by
  simp[Ty.flat] at hf;exact⟨Sv a _ _ hf.1 h.1,Sv b _ _ hf.2 h.2⟩
theorem vA4 {M:zK}{sh s}{xs:List s.den}{v}(hs:(sh||s.flat)=true)(hv:qC M.H (bif sh then M.G else M.F) (.sl s) xs (fun _=>some v)):
  ∃news,Rd M.H v xs.length s.size news∧∀i hi,qC M.H M.G s xs[i] (fun j=>news[i*s.size+j]?):=by
 obtain⟨news,h1,h2⟩:=Sq hv;refine⟨news,h1,fun i hi=>?_⟩;cases sh with
 |true=>simp_all
 |false=>exact Sv _ _ _ hs (h2 i hi)
theorem yBt {M}(ok:Ok M){t x ys u v}(hv:zX M x v)(h:sZ M.h t x=some (ys,u)):
  u=[]∧∃news,Rd M.H v ys.length t.size news∧∀i hi,qC M.H M.G t ys[i] (fun j=>news[i*t.size+j]?):=by
 unfold sZ at h;split at h
 ·cases h;have e:v=.slice none 0 0:=hv;subst e;exact⟨rfl,HG⟩
 ·rename_i sh s xs;cases hs:(sh||s.flat) with
  |false=>simp_all
  |true=>
   rw[hs] at h;simp  at h;obtain⟨zs,hz,rfl,rfl⟩:=h;obtain⟨e,hz⟩:=kY hz;subst e;subst hz;exact⟨rfl,vA4 hs hv⟩
 ·rename_i sh s xs;cases hs:(sh||s.flat) with
  |false=>rw[hs] at h;cases h
  |true=>
   rw[hs] at h;simp  at h;obtain⟨zs,hz,rfl,rfl⟩:=h;obtain⟨e,hz⟩:=kY hz;subst e;subst hz;exact⟨rfl,vA4 hs hv.2⟩
 ·split at h
  ·rename_i own s xs an;simp  at h;obtain⟨zs,hz,rfl,rfl⟩:=h;obtain⟨e,hz⟩:=kY hz;subst e;subst hz;obtain⟨C,hC,hO⟩:=ok.obj _ _ an;exact⟨rfl,zi hC hO hv⟩
  ·cases h
 ·cases h
theorem vIw {P M w}(ok:Ok M)(hM:M.H=w.heap){nm t e T ty x ys news}(hu:P.underlying t=some (.slice e))(dG:kh P e=some ty)(aS:M.h nm=none)
  (hx:Rd M.H x ys.length ty.size news) (hE:∀i hi,qC M.H M.G ty ys[i] (fun j=>news[i*ty.size+j]?)) (aO:ys.length*P.bytesOf e≤140737488355328∧ys.length≤140737488355328):
  qI P (Builtin.append_ #[t,t] T #[.slice none 0 0,x]) M w (.c (.osl nm none)) [(nm,.arr true ty ys)]:=by
 obtain⟨i,z,h1,h2,h3,h4,h5,h6,h7⟩:=rC dG;by_cases h0:ys.length=0
 ·have hy:ys=[]:=by grind
  subst hy;have hr:=rD (P:=P) (w:=w) (A:=none) (sLen:=0) (sCap:=0) T hu h1 h3 (by rw[←hM];exact hx) (by simp) w rfl;let C:qA:=⟨none,0,ty.size,0,[]⟩;have:=zK.move_ok (M:=M) (nm:=nm) (o':=.arr true ty []) (C':=C) (h':=yG M.h nm (.arr true ty [])) (H':=M.H) ok (fun _=>False) aS (by simp) (yK _ _ _)
   (fun n' _ h2=>yO _ _ h2) (by simp) (by simp) (by simp) (nofun) (fun x=>⟨rfl,rfl,by grind,rfl⟩)
  exact⟨_,_,M.move nm C (yG M.h nm (.arr true ty [])) M.H,hr,rfl,rfl,rfl,hM,rfl,this.1,this.2,C,κset_same _ _ _,_,_,rfl,rfl,rfl,rfl⟩
 ·have hb:Rd w.heap (.slice none 0 0) 0 ty.size []:=⟨none,0,rfl,by simp,by simp,rfl⟩;have hr:=Sr (P:=P) (w:=w) T hu h1 h2 h3 hb (by rw[←hM];exact hx) (by omega) (by simp_all) (by omega);simp  at hr;have hlen:news.length=ys.length*ty.size:=hx.choose_spec.choose_spec.2.1;have og:=grownCap_ge w ys.length 0 e;refine vBt (u:=[]) ok hM aS (by simp) og ?_ (fun i hi=>?_) hr ⟨rfl,rfl,rfl,rfl⟩
  ·simp[CW,h7,hlen,←Nat.add_mul];simp_all
  ·refine vB (by simp) (by simp) ty _ _ _ (fun j hj=>?_) (hE i hi);have:=Nat.mul_le_mul_right ty.size (show i+1≤ys.length by omega);grind
theorem Sw {P}{M w}(ok:Ok M)(hM:M.H=w.heap){id nm t e T ty x b hY ys r news}(hu:P.underlying t=some (.slice e))(dG:kh P e=some ty)
  (aS:M.h nm=none) (an:M.h id=some (.arr true ty hY)) (hb:zX M (.osl id r) b) (tu:match r with|none=>True|some (lo,_)=>lo=0)
  (hx:Rd M.H x ys.length ty.size news) (hE:∀i hi,qC M.H M.G ty ys[i] (fun j=>news[i*ty.size+j]?))
  (aO:((jn hY r).length+ys.length)*P.bytesOf e≤140737488355328∧(jn hY r).length+ys.length≤140737488355328):
  qI P (Builtin.append_ #[t,t] T #[b,x]) M w (.c (.osl nm none)) [(id,.gone),(nm,.arr true ty (jn hY r++ys))]:=by
 obtain⟨i,z,h1,h2,h3,h4,h5,h6,h7⟩:=rC dG;obtain⟨C,hC,hO⟩:=ok.obj id _ an;obtain⟨olds,ho,hEo⟩:=zi hC hO hb;have hlen:news.length=ys.length*ty.size:=hx.choose_spec.choose_spec.2.1;have mF:olds.length=(jn hY r).length*ty.size:=ho.choose_spec.choose_spec.2.1;obtain⟨C',aD,hS⟩:=hb;rw[hC] at aD;cases aD;have ow:∃n,(jn hY r).length=n∧jA M.H C 0 n b:=by
  cases r with
  |none=>exact⟨C.len,by rw[hO.1];rfl,hS⟩
  |some p=>
   obtain⟨lo,n⟩:=p;have:lo=0:=tu;subst this;exact⟨n,CF (by have:=hO.1;have:=hS.1;omega),hS.2.1⟩
 obtain⟨n,hn,A,sCap,rfl,ow⟩:=ow;rw[hn] at mF ho aO;have bn:=Ss (H:=M.H) (F:=M.G) (t:=ty) (xs:=jn hY r) (ys:=ys) (olds:=olds) (news:=news) (by rw[hn];exact mF) hEo hE;have rF:(jn hY r++ys).length=n+ys.length:=by rw[List.length_append,hn]
 by_cases cP:n+ys.length≤sCap
 ·
  cases hB:C.blk with
  |none=>
   rw[hB] at ow;obtain⟨rfl,rfl,rfl⟩:=ow;have hr:=rD (P:=P) (w:=w) (A:=none) (sLen:=0) (sCap:=0) T hu h1 h3 (by rw[←hM];exact hx) cP w rfl;rw[←rF] at hr;refine Su (s:=Builtin.append_ #[t,t] T #[.slice none 0 0,x]) (H':=M.H) ok hM an hC aS rfl (fun _ _=>rfl) (fun _=>rfl) (fun M' _ _ _=>?_) ?_ ⟨hM.symm,rfl,rfl,rfl⟩ hr
   ·rw[hB];exact List.eq_nil_of_length_eq_zero (by omega)
   ·rw[hB];exact⟨rfl,by omega,rfl⟩
  |some B=>
   rw[hB] at ow;obtain⟨hc,a,rfl,ha,hs⟩:=ow;obtain⟨k1,k2,k3,k4⟩:=hO;rw[hB] at k4;obtain⟨vals,ev,k5,k6,k7,k8⟩:=k4;rw[Nat.zero_mul] at ha;rw[Nat.zero_add,k2] at hs;have cN:qT M.H B=vals.size:=by simp only[qT,k5]
   rw[cN] at hs;have jq:w.heap[B]? =some (.cells vals ev (0,0)):=by rw[←hM];exact k5
   by_cases h0:sCap=0
   ·
    have HJ:n=0:=by omega
    have Sx:ys.length=0:=by omega
    have hr := rD (P := P) (w := w) (A := some ⟨B, a, none⟩) (sLen := n) (sCap := sCap) T hu h1 h3 (by rw [← hM]; exact hx) cP w (by
     have:news=[]:=List.eq_nil_of_length_eq_zero (by rw[hlen,Sx,Nat.zero_mul]);rw[this];rfl)
    rw[←rF] at hr;have Mj:jn hY r++ys=[]:=List.eq_nil_of_length_eq_zero (by omega);refine Su (s:=Builtin.append_ #[t,t] T #[.slice (some ⟨B,a,none⟩) n sCap,x]) (H':=M.H) ok hM an hC aS rfl (fun _ _=>rfl) (fun _=>rfl) (fun M' _ _ _=>?_) ?_ ⟨hM.symm,rfl,rfl,rfl⟩ hr
    ·rw[hB];refine⟨vals,ev,k5,by rw[Mj];simp,fun i hi=>?_⟩;rw[Mj] at hi;simp at hi
    ·rw[hB];exact⟨by omega,a,rfl,.inl h0,by rw[h0];simp⟩
   ·have nn:a=0:=by rcases ha with ha|ha<;>omega
    subst nn;have hle:=Nat.mul_le_mul_right ty.size cP;rw[Nat.add_mul] at hle;have aJ:n*ty.size+news.length≤vals.size:=by omega
    have dD:=run_storeCells_at (P:=P) B (n*ty.size) ev news 0 vals w jq (by simpa using aJ) (fun v hv=>yz (hx.choose_spec.choose_spec.2.2.1 v hv));simp only[Nat.add_zero] at dD;have hr:=rD (P:=P) (w:=w) (A:=some ⟨B,0,none⟩) (sLen:=n) (sCap:=sCap) T hu h1 h3 (by rw[←hM];exact hx) cP (w.setRow B (yT vals (n*ty.size) news)) (by show(storeCells (Addr.add ⟨B,0,none⟩ (n*ty.size)) news).run P w=_;rw[Addr.add_lit,Nat.zero_add];exact dD);rw[←rF] at hr;obtain⟨f1,f2,f3,f4⟩:=om jq (new:=yT vals (n*ty.size) news) (gz aJ);refine Su (s:=Builtin.append_ #[t,t] T #[.slice (some ⟨B,0,none⟩) n sCap,x]) (H':=(w.setRow B (yT vals (n*ty.size) news)).heap) ok hM an hC aS (by rw[hM];exact f1)
     (fun b hb=>by rw[hM];exact f3 b fun e=>hb (e▸fB hB)) (fun b=>by rw[hM];exact f4 b) (fun M' xt hH hG=>?_) ?_ ⟨rfl,rfl,rfl,rfl⟩ hr
    ·rw[hB];refine⟨_,ev,f2,by rw[rF,gz aJ,Nat.add_mul];omega,fun i hi=>?_⟩;refine vB xt.G xt.sameG ty _ _ _ (fun j hj=>?_) (bn i hi);have aW:=Nat.mul_le_mul_right ty.size (show i+1≤n+ys.length by omega);rw[Nat.add_mul,Nat.add_mul] at aW;rw[jU aJ];by_cases bh:i*ty.size+j<n*ty.size
     ·rw[if_pos bh,List.getElem?_append_left (by omega)];obtain⟨A',c',e1,_,_,hold⟩:=ho;simp only[Value.slice.injEq] at e1;obtain⟨rfl,_,rfl⟩:=e1;rcases hold with HJ|⟨_,hold⟩
      ·rw[HJ] at bh;omega
      ·have rG:i*ty.size+j<olds.length:=by omega
       have:=hold (i*ty.size+j) olds[i*ty.size+j] (List.getElem?_eq_getElem rG);rw[List.getElem?_eq_getElem rG,←this];simp only[yP,k5,Nat.zero_add]
     ·rw[if_neg bh,if_pos (by omega),List.getElem?_append_right (by omega),mF]
    ·rw[hB];exact by grind
 ·
  have hr:=Sr (P:=P) (w:=w) T hu h1 h2 h3 (by rw[←hM];exact ho) (by rw[←hM];exact hx) (by omega) (by rw[h6] at aO;exact aO.1) aO.2;have og:=grownCap_ge w (n+ys.length) sCap e;rw[←rF] at hr og;refine vBt (s:=Builtin.append_ #[t,t] T #[.slice A n sCap,x]) (u:=[(id,.gone)]) ok hM aS (fun p hp=>?_) og ?_ (fun i hi=>?_) hr ⟨rfl,rfl,rfl,rfl⟩
  ·simp only[List.mem_singleton] at hp;subst hp;exact⟨rfl,_,an,rfl⟩
  ·simp only[Array.size_append,List.size_toArray,CW,h7,hlen,mF,←Nat.add_mul];exact Nat.le_of_eq (by congr 1;omega)
  ·refine vB (fun _ h=>h) (fun _ _=>rfl) ty _ _ _ (fun j hj=>?_) (bn i hi);have:=Nat.mul_le_mul_right ty.size (show i+1≤n+ys.length by omega);rw[Nat.add_mul,Nat.add_mul] at this;rw[Array.getElem?_append_left (by simp;omega)];simp
def CX (H:Array Go.Obj)(row:List Int)(m:Option (Option Nat×Nat))(c:Option Value):Prop:=∃rb v,m=some (rb,row.length)∧c=some v∧mw H rb row.length v∧
 (∀R,rb=some R→∃rv er,H[R]? =some (.cells rv er (0,0))∧∀j (h':j<row.length),rv[j]? =some (.int .i64 row[j]))
theorem yKy {M ver xs C}(h:yW M (.mat ver xs) C):C.len=xs.length∧C.sz=1∧C.rows.length=xs.length∧C.fp.Nodup∧
  ∃cG:List Value,cG.length=xs.length∧(∀k (h:k<xs.length),CX M.H xs[k] C.rows[k]? cG[k]?)∧
   (match C.blk with
    |none=>xs=[]
    |some B=>∃vals e,M.H[B]? =some (.cells vals e (0,0))∧xs.length≤vals.size∧∀k,k<xs.length→vals[k]? =cG[k]?):=by
 obtain⟨h1,h2,h3,h4,h5,h6⟩:=h;refine⟨h2,h3,h4,h5,?_⟩;cases hB:C.blk with
 |none=>
  simp_all
 |some B=>
  rw[hB] at h6;obtain⟨vals,e,h7,h8,h9⟩:=h6;refine⟨vals.toList.take xs.length,by simp;omega,fun k hk=>?_,vals,e,h7,h8,by grind⟩;obtain⟨rb,v,k1,k2,k3,k4⟩:=h9 k hk;exact⟨rb,v,k1,by grind,k3,k4⟩
theorem CX.one {H row m v}(h:CX H row m (some v)):v.one1=true:=by
 obtain⟨rb,v',_,e,h,_⟩:=h;cases e;exact h.one
theorem yK2 {M}{xs:List (List Int)}{C id v}(hC:M.κ id=some C)(hv:zX M (.osl id none) v){cG}(hl:cG.length=xs.length)(hlen:C.len=xs.length)(dV:C.sz=1)
  (cn : ∀ u ∈ cG, u.one1 = true) (hb:match C.blk with
    |none=>xs=[]
    |some B=>∃vals e,M.H[B]? =some (.cells vals e (0,0))∧xs.length≤vals.size∧∀k,k<xs.length→vals[k]? =cG[k]?):Rd M.H v xs.length 1 cG:=by
 obtain⟨C',aD,A,c,rfl,hS⟩:=hv;rw[hC] at aD;cases aD;rw[hlen];refine⟨A,c,rfl,by omega,cn,?_⟩;cases hB:C.blk with
 |none=>
  simp_all
 |some B=>
  rw[hB] at hS hb;obtain⟨hc,a,rfl,ha,_⟩:=hS;obtain⟨vals,e,h1,h2,h3⟩:=hb;by_cases h0:xs.length=0
  ·omega
  ·refine .inr ⟨rfl,fun j u hu=>?_⟩;have nn:a=0:=by omega
   have hj:j<xs.length:=by
    grind
   simp[yP];simp_all
theorem yUq {C D:qA}(hC:C.fp.Nodup)(hD:D.fp.Nodup)(dZ:∀b,b∈C.fp→b∉D.fp):((C.rows++D.rows).filterMap (·.1)).Nodup:=by
 rw[List.filterMap_append];refine List.nodup_append.2 ⟨(List.nodup_append.1 hC).2.1,(List.nodup_append.1 hD).2.1,fun a ha b hb e=>?_⟩;exact dZ a (by simp[qA.fp];simp_all) (by simp[qA.fp];simp_all)
theorem Mm {P M w w'}(ok:Ok M)(hM:M.H=w.heap){id jd nm v1 v2 xs ys C Cj C' s A c H'}
  (an:M.h id=some (.mat v1 xs)) (cZ:M.h jd=some (.mat v2 ys)) (bm:id≠jd) (hC:M.κ id=some C) (eI:M.κ jd=some Cj) (aS:M.h nm=none) (dV:M.H.size≤H'.size)
  (hH:∀b,b<M.H.size→C.blk≠some b→H'[b]? =M.H[b]?) (cN:∀b,b<M.H.size→qT H' b=qT M.H b)
  (hl:C'.len=(xs++ys).length) (CY:C'.sz=1) (zj:C'.ver=0) (mG:C'.rows=C.rows++Cj.rows) (Sy:∀B,C'.blk=some B→(M.H.size≤B∧B<H'.size)∨C.blk=some B)
  (hx:match C'.blk with
   |none=>xs++ys=[]
   |some B=>∃vals e,H'[B]? =some (.cells vals e (0,0))∧(xs++ys).length≤vals.size∧∀k (h:k<(xs++ys).length),CX M.H (xs++ys)[k] (C.rows++Cj.rows)[k]? vals[k]?)
  (hA:jA H' C' 0 C'.len (.slice A (xs++ys).length c))
  (hw:w'.heap=H'∧w'.os=w.os∧w'.tape=w.tape∧w'.output=w.output) (hr:s.run P w=.ok (.slice A (xs++ys).length c) w'):
  qI P s M w (.c (.osl nm none)) [(id,.gone),(jd,.gone),(nm,.mat 0 (xs++ys))]:=by
 obtain⟨C0,rE,hO⟩:=ok.obj id _ an;rw[hC] at rE;cases rE;obtain⟨C1,iE,np⟩:=ok.obj jd _ cZ;rw[eI] at iE;cases iE;have Sz:=hO.2.2.2.2.1;have ndD:=np.2.2.2.2.1;have dZ:∀b,b∈C.fp→b∉Cj.fp:=fun b h1 h2=>ok.disj id jd _ _ C Cj b bm an cZ rfl rfl hC eI h1 h2
 have Mn:id≠nm:=by grind
 have hnj:jd≠nm:=by grind
 have hh:∀n',(qH M.h [(id,.gone),(jd,.gone),(nm,.mat 0 (xs++ys))]) n'=if n'=nm then some (.mat 0 (xs++ys)) else if n'=jd then some .gone else if n'=id then some .gone else M.h n':=fun n'=>by
  show(yG (yG (yG M.h id .gone) jd .gone) nm _) n'=_;by_cases e:n'=nm
  ·rw[if_pos e,e,yK]
  ·rw[if_neg e,yO _ _ e];by_cases e2:n'=jd
   ·rw[if_pos e2,e2,yK]
   ·rw[if_neg e2,yO _ _ e2];by_cases e3:n'=id
    ·rw[if_pos e3,e3,yK]
    ·rw[if_neg e3,yO _ _ e3]
 have HK:∀b∈C.fp,b<M.H.size:=fun b hb=>(ok.own b ⟨id,_,C,an,rfl,hC,hb⟩).2
 have HL:∀b∈Cj.fp,b<M.H.size:=fun b hb=>(ok.own b ⟨jd,_,Cj,cZ,rfl,eI,hb⟩).2
 have bL:∀R∈(C.rows++Cj.rows).filterMap (·.1),R∈C.fp∧C.blk≠some R∨R∈Cj.fp:=fun R hR=>by
  rw[List.filterMap_append] at hR;rcases List.mem_append.1 hR with h|h
  ·refine .inl ⟨by simp only[qA.fp,List.mem_append];exact .inr h,fun e=>?_⟩;exact(List.nodup_append.1 Sz).2.2 R (by simp[e]) R h rfl
  ·exact .inr (by simp only[qA.fp,List.mem_append];exact .inr h)
 have HM:∀R∈(C.rows++Cj.rows).filterMap (·.1),R<M.H.size∧C.blk≠some R:=fun R hR=>by
  rcases bL R hR with⟨h1,h2⟩|h
  ·exact⟨HK R h1,h2⟩
  ·exact⟨HL R h,fun e=>dZ R (fB e) h⟩
 have nd':C'.fp.Nodup:=by
  simp only[qA.fp,mG];cases hB:C'.blk with
  |none=>simpa using yUq Sz ndD dZ
  |some B=>
   simp only[Option.toList_some,List.singleton_append];refine List.nodup_cons.2 ⟨fun hm=>?_,yUq Sz ndD dZ⟩;grind
 have:=zK.move_ok (M:=M) (nm:=nm) (o':=.mat 0 (xs++ys)) (C':=C') (h':=qH M.h [(id,.gone),(jd,.gone),(nm,.mat 0 (xs++ys))]) (H':=H') ok (fun j=>j=id∨j=jd) aS
  (fun j hj=>by
   rcases hj with rfl|rfl
   ·exact⟨_,an,rfl,by rw[hh,if_neg Mn,if_neg bm,if_pos rfl]⟩
   ·exact⟨_,cZ,rfl,by rw[hh,if_neg hnj,if_pos rfl]⟩)
  (by rw[hh,if_pos rfl]) (fun n' h1 h2=>by rw[hh,if_neg h2,if_neg (fun e=>h1 (.inr e)),if_neg (fun e=>h1 (.inl e))]) dV
  (fun b hb hn=>hH b hb fun e=>hn id C (.inl rfl) hC (fB e)) cN
  (fun b hb=>by
   simp only[qA.fp,mG,List.mem_append] at hb;rcases hb with hb|hb
   ·cases hB:C'.blk with
    |none=>rw[hB] at hb;simp at hb
    |some B=>
     rw[hB] at hb;simp at hb;subst hb;rcases Sy b hB with h|h
     ·exact .inl h
     ·exact .inr ⟨id,C,.inl rfl,hC,fB h⟩
   simp_all)
  (fun x=>by
   refine⟨zj,hl,CY,?_,nd',?_⟩
   ·rw[mG,List.length_append,hO.2.2.2.1,np.2.2.2.1,List.length_append]
   ·cases hB:C'.blk with
    |none=>rw[hB] at hx;exact hx
    |some B=>
     rw[hB] at hx;obtain⟨vals,e,k1,k2,k3⟩:=hx;refine⟨vals,e,k1,k2,fun k hk=>?_⟩;obtain⟨rb,v,q1,q2,q3,q4⟩:=k3 k hk;refine⟨rb,v,by rw[mG];exact q1,q2,q3.ext x,fun R hR=>?_⟩;obtain⟨rv,er,q5,q6⟩:=q4 R hR;have hRm:=HM R (List.mem_filterMap.2 ⟨_,List.mem_of_getElem? q1,hR⟩);exact⟨rv,er,by show H'[R]? =_;rw[hH R hRm.1 hRm.2];exact q5,q6⟩)
 exact⟨_,_,M.move nm C' (qH M.h [(id,.gone),(jd,.gone),(nm,.mat 0 (xs++ys))]) H',hr,hw.2.1,hw.2.2.1,hw.2.2.2,hw.1.symm,rfl,this.1,this.2,C',κset_same _ _ _,by rw[hl] at hA⊢;exact hA⟩
theorem SA {H}{xs:List (List Int)}{rc:List (Option Nat×Nat)}{cG:List Value}(hl:cG.length=xs.length)(h:∀k (h:k<xs.length),CX H xs[k] rc[k]? cG[k]?):∀u∈cG,u.one1=true:=by
 intro u hu;obtain⟨k,hk,rfl⟩:=List.getElem_of_mem hu;have:=h k (by omega);rw[List.getElem?_eq_getElem hk] at this;exact this.one
theorem vZr {P M w}(ok:Ok M)(hM:M.H=w.heap){id jd nm v1 v2 t e T x b xs ys}(hu:P.underlying t=some (.slice e))(dG:kh P e=some (.sl (.int .i64)))
  (aS:M.h nm=none) (an:M.h id=some (.mat v1 xs)) (cZ:M.h jd=some (.mat v2 ys)) (bm:id≠jd) (hb:zX M (.osl id none) b) (hx:zX M (.osl jd none) x)
  (aO:(xs.length+ys.length)*P.bytesOf e≤140737488355328∧xs.length+ys.length≤140737488355328):
  qI P (Builtin.append_ #[t,t] T #[b,x]) M w (.c (.osl nm none)) [(id,.gone),(jd,.gone),(nm,.mat 0 (xs++ys))]:=by
 obtain⟨i,z,h1,h2,h3,h4,h5,h6,h7⟩:=rC dG;obtain⟨C,hC,hO⟩:=ok.obj id _ an;obtain⟨Cj,eI,np⟩:=ok.obj jd _ cZ;obtain⟨a1,a2,a3,a4,olds,a5,a6,a7⟩:=yKy hO;obtain⟨b1,b2,b3,b4,news,b5,b6,b7⟩:=yKy np;have ho:=yK2 hC hb a5 a1 a2 (SA a5 a6) a7;have hn:=yK2 eI hx b5 b1 b2 (SA b5 b6) b7;have rF:(xs++ys).length=xs.length+ys.length:=List.length_append;have cn:=SA b5 b6;have bn:∀k (h:k<(xs++ys).length),CX M.H (xs++ys)[k] (C.rows++Cj.rows)[k]? (olds++news)[k]? :=by
  intro k hk;by_cases bh:k<xs.length
  ·rw[List.getElem_append_left bh,List.getElem?_append_left (by omega),List.getElem?_append_left (by omega)];exact a6 k bh
  ·rw[List.getElem_append_right (by omega),List.getElem?_append_right (by omega),List.getElem?_append_right (by omega),a3,a5];exact b6 _ (by omega)
 obtain⟨C',aD,A,sCap,rfl,ow⟩:=hb;rw[hC] at aD;cases aD;rw[a1] at ho ow;have tA:i.size=1:=h3;have Si:z.cells.size=1:=h7;by_cases cP:xs.length+ys.length≤sCap
 ·cases hB:C.blk with
  |none=>
   rw[hB] at ow;obtain⟨rfl,h0,rfl⟩:=ow;have hr:=rD (P:=P) (w:=w) (A:=none) (sLen:=xs.length) (sCap:=0) T hu h1 tA (by rw[←hM];exact hn) cP w rfl;rw[←rF] at hr;have cJ:xs++ys=[]:=List.eq_nil_of_length_eq_zero (by omega);rw[a1];refine Mm (C':=⟨none,(xs++ys).length,1,0,C.rows++Cj.rows⟩) (H':=M.H) ok hM an cZ bm hC eI aS (Nat.le_refl _) (fun _ _ _=>rfl) (fun _ _=>rfl) rfl rfl rfl rfl (fun B hB=>by cases hB) cJ ⟨none,0,rfl,rfl,(by show(xs++ys).length=0;omega),rfl⟩ ⟨hM.symm,rfl,rfl,rfl⟩ hr
  |some B=>
   rw[hB] at ow a7;obtain⟨hc,a,rfl,ha,hs⟩:=ow;obtain⟨vals,ev,k5,k6,k7⟩:=a7;rw[Nat.zero_mul] at ha;rw[Nat.zero_add,a2,Nat.mul_one] at hs;have cN:qT M.H B=vals.size:=by simp only[qT,k5]
   rw[cN] at hs;have jq:w.heap[B]? =some (.cells vals ev (0,0)):=by rw[←hM];exact k5
   by_cases h0:sCap=0
   ·have hr := rD (P := P) (w := w) (A := some ⟨B, a, none⟩) (sLen := xs.length) (sCap := sCap) T hu h1 tA (by rw [← hM]; exact hn) cP w (by
     have:news=[]:=List.eq_nil_of_length_eq_zero (by omega);rw[this];rfl)
    rw[←rF] at hr;have cJ:xs++ys=[]:=List.eq_nil_of_length_eq_zero (by omega);rw[a1];refine Mm (C':=⟨some B,(xs++ys).length,1,0,C.rows++Cj.rows⟩) (H':=M.H) ok hM an cZ bm hC eI aS (Nat.le_refl _) (fun _ _ _=>rfl) (fun _ _=>rfl) rfl rfl rfl rfl (fun B' kq=>.inr (by cases kq;exact hB))
     ⟨vals,ev,k5,by rw[cJ];simp,fun k hk=>by rw[cJ] at hk;simp at hk⟩ ⟨_,sCap,rfl,(by show(xs++ys).length≤sCap;omega),a,rfl,.inl h0,by rw[h0];simp⟩ ⟨hM.symm,rfl,rfl,rfl⟩ hr
   ·have nn:a=0:=by rcases ha with ha|ha<;>omega
    subst nn;have aJ:xs.length+news.length≤vals.size:=by omega
    have dD:=run_storeCells_at (P:=P) B xs.length ev news 0 vals w jq (by simpa using aJ) (fun v hv=>yz (cn v hv));simp only[Nat.add_zero] at dD;have hr:=rD (P:=P) (w:=w) (A:=some ⟨B,0,none⟩) (sLen:=xs.length) (sCap:=sCap) T hu h1 tA (by rw[←hM];exact hn) cP (w.setRow B (yT vals xs.length news))
     (by show(storeCells (Addr.add ⟨B,0,none⟩ (xs.length*1)) news).run P w=_;rw[Addr.add_lit,Nat.zero_add,Nat.mul_one];exact dD)
    rw[←rF] at hr;obtain⟨f1,f2,f3,f4⟩:=om jq (new:=yT vals xs.length news) (gz aJ);rw[a1];refine Mm (C':=⟨some B,(xs++ys).length,1,0,C.rows++Cj.rows⟩) (H':=(w.setRow B (yT vals xs.length news)).heap) ok hM an cZ bm hC eI aS (by rw[hM,f1];exact Nat.le_refl _) (fun b hb hn=>by rw[hM];exact f3 b fun e=>hn (e▸hB))
     (fun b _=>by rw[hM];exact f4 b) rfl rfl rfl rfl (fun B' kq=>.inr (by cases kq;exact hB)) ⟨_,ev,f2,by rw[gz aJ];omega,fun k hk=>?_⟩ ⟨_,sCap,rfl,(by show(xs++ys).length≤sCap;omega),0,rfl,.inr (by simp),by show(0+sCap)*1≤qT _ B;rw[f4,←hM,cN];omega⟩ ⟨rfl,rfl,rfl,rfl⟩ hr
    have:=bn k hk;rw[jU aJ];by_cases bh:k<xs.length
    ·rw[if_pos bh,k7 k bh];rw[List.getElem?_append_left (l₁:=olds) (by omega)] at this;exact this
    ·rw[if_neg bh,if_pos (by omega)];rw[List.getElem?_append_right (l₁:=olds) (by omega),a5] at this;exact this
 ·have hr:=Sr (P:=P) (w:=w) T hu h1 h2 tA (by rw[←hM];exact ho) (by rw[←hM];exact hn) (by omega) (by rw[h6] at aO;exact aO.1) aO.2;have og:=grownCap_ge w (xs.length+ys.length) sCap e;rw[←rF] at hr og;generalize oh:olds.toArray++news.toArray++Builtin.zeroCells z.cells (grownCap w (xs++ys).length sCap e-(xs++ys).length)=us at hr;have SB:us.size=grownCap w (xs++ys).length sCap e:=by
   rw[←oh];simp only[Array.size_append,List.size_toArray,CW,Si];omega
  have SC:∀k,k<(xs++ys).length→us[k]? =(olds++news)[k]? :=fun k hk=>by
   rw[←oh,Array.getElem?_append_left (by simp;omega)];simp
  have hbz:∀us:Array Value,qT (M.H.push (.cells us e)) M.H.size=us.size:=fun us=>by simp[qT]
  rw[a1];refine Mm (C':=⟨some M.H.size,(xs++ys).length,1,0,C.rows++Cj.rows⟩) (H':=M.H.push (.cells us e)) (w':=w.drew.alloc (.cells us e)) ok hM an cZ bm hC eI aS (by simp) (fun b hb _=>o6 hb) (fun b hb=>CA (o6 hb)) rfl rfl rfl rfl
   (fun B' kq=>.inl (by cases kq;exact⟨Nat.le_refl _,by simp⟩)) ⟨us,e,yy,by omega,fun k hk=>?_⟩ ⟨_,_,rfl,og,0,by rw[hM],.inr (by simp),(by rw[hbz,SB];show(0+_)*1≤_;omega)⟩ ⟨(by rw[hM];rfl),rfl,rfl,rfl⟩ hr
  rw[SC k hk];exact bn k hk
theorem zk {c s v u}(h:yI (bif c then s else .stuck) v u):c=true∧yI s v u:=by
 cases c with
 |true=>simp_all
 |false=>exact h.elim
theorem yZs {c a b v u}(h:yI (bif c then a else b) v u):(c=true∧yI a v u)∨(c=false∧yI b v u):=by
 grind
theorem vAn {z:Value}{t}(h:z.cells.toList=gZ t)(hs:z.cells.size=t.size){n i j}(hj:j<t.size)(hi:i<n):(Builtin.zeroCells z.cells n).toList[i*t.size+j]? =(gZ t)[j]? :=by
 have aW:=Nat.mul_le_mul_right t.size (show i+1≤n by omega);rw[List.getElem?_eq_getElem (l:=gZ t) (by grind),←yHy h hs (i:=i) hj];simp[Builtin.zeroCells];grind
theorem vUb {z:Value}{t}(h:z.cells.toList=gZ t)(hs:z.cells.size=t.size){n}:∀v∈(Builtin.zeroCells z.cells n).toList,v.one1=true:=by
 intro v hv;have hz:∀u∈gZ t,u.one1=true:=by
  clear h hs hv
  induction t with
  |pair a b CQ CR=>
   intro u hu;rcases List.mem_append.1 hu with hu|hu
   all_goals simp_all
  |_=>
   intro u hu;rw[List.mem_singleton.1 hu];rfl
 obtain⟨k,hk,rfl⟩:=List.getElem_of_mem hv;have tq:k<n*t.size:=by rw[Array.length_toList,CW,hs] at hk;exact hk
 have h0:=t.size_pos;have := vAn h hs (n := n) (i := k / t.size) (j := k % t.size) (Nat.mod_lt _ h0) (by
  rw[Nat.div_lt_iff_lt_mul h0];omega)
 rw[Nat.div_add_mod' k t.size,List.getElem?_eq_getElem hk,List.getElem?_eq_getElem (by grind),Option.some.injEq] at this;simp_all
theorem SD {P}{M:zK}{w:World}(ok:Ok M)(hM:M.H=w.heap){id nm n':Nat}{t:Ty}{hY zs}{C:qA}{H'}{s:Sem Value}{c:Nat}{A:Option Addr}{w':World}
  (an:M.h id=some (.arr true t hY)) (hC:M.κ id=some C) (aS:M.h nm=none) (dV:H'.size=M.H.size) (hH:∀b,b∉C.fp→H'[b]? =M.H[b]?) (cN:∀b,qT H' b=qT M.H b)
  (hx:∀M',yL M M'→M'.H=H'→M'.G=M.G→match C.blk with
   |none=>zs=[]
   |some B=>∃vals e,H'[B]? =some (.cells vals e (0,0))∧zs.length*t.size≤vals.size∧∀i (h:i<zs.length),qC M'.H M'.G t zs[i] (fun j=>vals[i*t.size+j]?))
  (hn : n' ≤ zs.length) (hc : zs.length ≤ c) (hA:match C.blk with
   |none=>A=none∧n'=0∧c=0
   |some B=>∃a,A=some ⟨B,a,none⟩∧(c=0∨a=0)∧c*t.size≤qT M.H B)
  (hw:w'.heap=H'∧w'.os=w.os∧w'.tape=w.tape∧w'.output=w.output) (hr:s.run P w=.ok (.slice A n' c) w'):
  qI P s M w (.c (.osl nm (some (0,n')))) [(id,.gone),(nm,.arr true t zs)]:=by
 obtain⟨C0,rE,hO⟩:=ok.obj id _ an;rw[hC] at rE;cases rE;obtain⟨fr,ff⟩:=Hw hO;have bm:id≠nm:=fun e=>by simp_all
 let C':qA:=⟨C.blk,zs.length,t.size,0,[]⟩;have hh:∀n',(qH M.h [(id,.gone),(nm,.arr true t zs)]) n'=if n'=nm then some (.arr true t zs) else if n'=id then some .gone else M.h n':=fun n'=>by
  show(yG (yG M.h id .gone) nm _) n'=_;by_cases e:n'=nm
  ·rw[if_pos e,e,yK]
  ·rw[if_neg e,yO _ _ e];by_cases e2:n'=id
   ·rw[if_pos e2,e2,yK]
   ·rw[if_neg e2,yO _ _ e2]
 have:=zK.move_ok (M:=M) (nm:=nm) (o':=.arr true t zs) (C':=C') (h':=qH M.h [(id,.gone),(nm,.arr true t zs)]) (H':=H') ok (fun j=>j=id) aS
  (fun j hj=>⟨.arr true t hY,by rw[hj];exact an,rfl,by simp_all⟩)
  (by rw[hh,if_pos rfl]) (by grind) (by omega) (fun b hb hn=>hH b (hn id C rfl hC)) (fun b _=>cN b)
  (fun b hb=>.inr ⟨id,C,rfl,hC,by
   simp only[C',qA.fp,List.filterMap_nil,List.append_nil] at hb;rw[ff];exact hb⟩)
  (fun x=>by
   refine⟨rfl,rfl,fun _=>rfl,?_⟩;have:=hx _ x rfl rfl;cases hB:C.blk with
   |none=>simp_all
   |some B=>
    rw[hB] at this;obtain⟨vals,e,h1,h2,h3⟩:=this;exact⟨vals,e,h1,by simp,h2,h3⟩)
 refine⟨_,_,_,hr,hw.2.1,hw.2.2.1,hw.2.2.2,by rw[hw.1];rfl,rfl,this.1,this.2,C',κset_same _ _ _,by grind,⟨_,c,rfl,?_⟩,_,_,_,rfl,by grind⟩;show match C.blk with
  |none=>_
  |some B=>_
 cases hB:C.blk with
 |none=>rw[hB] at hA;exact hA
 |some B=>
  rw[hB] at hA;obtain⟨a,h2,h3,h4⟩:=hA;refine⟨by omega,a,h2,by simpa using h3,?_⟩;show(0+c)*t.size≤qT H' B;simp_all
theorem vEd {P}{M w}(ok:Ok M)(hM:M.H=w.heap){id nm i j m t e T ty x b xs}(hu:P.underlying t=some (.slice e))(dG:kh P e=some ty)
  (aS:M.h nm=none) (an:M.h id=some (.arr true ty xs)) (hb:zX M (.osl id (some (0,i))) b) (hx:zX M (.osl id (some (j,m))) x) (od:i≤j):
  qI P (Builtin.append_ #[t,t] T #[b,x]) M w (.c (.osl nm (some (0,i+m)))) [(id,.gone),(nm,.arr true ty (xs.take i++qR xs j m++xs.drop (i+m)))]:=by
 obtain⟨inf,z,h1,h2,h3,h4,h5,h6,h7⟩:=rC dG;obtain⟨C,hC,hO⟩:=ok.obj id _ an;obtain⟨news,hR,hE⟩:=zi hC hO hx;obtain⟨C1,iE,dj,_⟩:=hx;rw[hC] at iE;cases iE;obtain⟨C1,iE,fg,⟨A,c,rfl,hS⟩,iD⟩:=hb;rw[hC] at iE;cases iE;obtain⟨_,_,_,iD,CP⟩:=iD;cases iD;have hlen:=hO.1;have oz:(jn xs (some (j,m))).length=m:=CF (by omega);rw[oz] at hR;have Mo:news.length=m*ty.size:=hR.choose_spec.choose_spec.2.1;have tB:(qR xs j m).length=m:=oz;have tC:(xs.take i).length=i:=by rw[List.length_take];omega
 have HN:(xs.take i++qR xs j m++xs.drop (i+m)).length=xs.length:=by
  rw[List.length_append,List.length_append,tB,tC,List.length_drop];omega
 have aO:i+m≤c:=by omega
 cases hB:C.blk with
 |none=>
  rw[hB] at hS;obtain⟨rfl,rfl,rfl⟩:=hS;have hr:=rD (P:=P) (w:=w) (A:=none) (sLen:=0) (sCap:=0) T hu h1 h3 (by rw[←hM];exact hR) aO w rfl;refine SD (s:=Builtin.append_ #[t,t] T #[.slice none 0 0,x]) (H':=M.H) ok hM an hC aS rfl (fun _ _=>rfl) (fun _=>rfl) (fun M' _ _ _=>?_) (by omega) (by omega) ?_ ⟨hM.symm,rfl,rfl,rfl⟩ hr
  ·rw[hB];exact List.eq_nil_of_length_eq_zero (by omega)
  ·rw[hB];exact⟨rfl,by omega,rfl⟩
 |some B=>
  rw[hB] at hS;obtain⟨hc,a,rfl,ha,hs⟩:=hS;obtain⟨k1,k2,k3,k4⟩:=hO;rw[hB] at k4;obtain⟨vals,ev,k5,k6,k7,k8⟩:=k4;rw[Nat.zero_mul] at ha;rw[Nat.zero_add,k2] at hs;have cN:qT M.H B=vals.size:=by simp only[qT,k5]
  have jq:w.heap[B]? =some (.cells vals ev (0,0)):=by rw[←hM];exact k5
  by_cases h0:c=0
  ·have hm0:m=0:=by omega
   have hr := rD (P := P) (w := w) (A := some ⟨B, a, none⟩) (sLen := i) (sCap := c) T hu h1 h3 (by rw [← hM]; exact hR) aO w (by
    have:news=[]:=List.eq_nil_of_length_eq_zero (by rw[Mo,hm0,Nat.zero_mul]);rw[this];rfl)
   refine SD (s:=Builtin.append_ #[t,t] T #[.slice (some ⟨B,a,none⟩) i c,x]) (H':=M.H) ok hM an hC aS rfl (fun _ _=>rfl) (fun _=>rfl) (fun M' _ _ _=>?_) (by omega) (by omega) ?_ ⟨hM.symm,rfl,rfl,rfl⟩ hr
   ·rw[hB];refine⟨vals,ev,k5,by rw[HN];exact k7,fun p hp=>?_⟩;rw[HN] at hp;omega
   ·rw[hB];exact⟨a,rfl,.inl h0,by rw[h0];simp⟩
  ·have nn:a=0:=by rcases ha with ha|ha<;>omega
   subst nn;have hle:=Nat.mul_le_mul_right ty.size (show i+m≤xs.length by omega);rw[Nat.add_mul] at hle;have aJ:i*ty.size+news.length≤vals.size:=by omega
   have dD:=run_storeCells_at (P:=P) B (i*ty.size) ev news 0 vals w jq (by simpa using aJ) (fun v hv=>yz (hR.choose_spec.choose_spec.2.2.1 v hv));simp only[Nat.add_zero] at dD;have hr:=rD (P:=P) (w:=w) (A:=some ⟨B,0,none⟩) (sLen:=i) (sCap:=c) T hu h1 h3 (by rw[←hM];exact hR) aO (w.setRow B (yT vals (i*ty.size) news)) (by show(storeCells (Addr.add ⟨B,0,none⟩ (i*ty.size)) news).run P w=_;rw[Addr.add_lit,Nat.zero_add];exact dD);obtain⟨f1,f2,f3,f4⟩:=om jq (new:=yT vals (i*ty.size) news) (gz aJ);refine SD (s:=Builtin.append_ #[t,t] T #[.slice (some ⟨B,0,none⟩) i c,x]) (H':=(w.setRow B (yT vals (i*ty.size) news)).heap) ok hM an hC aS (by rw[hM];exact f1)
    (fun b hb=>by rw[hM];exact f3 b fun e=>hb (e▸fB hB)) (fun b=>by rw[hM];exact f4 b) (fun M' xt hH hG=>?_) (by omega) (by omega) ?_ ⟨rfl,rfl,rfl,rfl⟩ hr
   ·rw[hB];refine⟨_,ev,f2,by rw[HN,gz aJ];exact k7,fun p hp=>?_⟩;rw[HN] at hp;have aW:=Nat.mul_le_mul_right ty.size (show p+1≤xs.length by omega);rw[Nat.add_mul] at aW;have old:(xs.take i++qR xs j m++xs.drop (i+m))[p]? =xs[p]? →(∀q,q<ty.size→(yT vals (i*ty.size) news)[p*ty.size+q]? =vals[p*ty.size+q]?)→qC M'.H M'.G ty ((xs.take i++qR xs j m++xs.drop (i+m))[p]'(by omega)) (fun q=>(yT vals (i*ty.size) news)[p*ty.size+q]?):=fun e1 e2=>by
     have e3:(xs.take i++qR xs j m++xs.drop (i+m))[p]'(by omega)=xs[p]:=by
      rw[List.getElem?_eq_getElem (by omega),List.getElem?_eq_getElem hp,Option.some.injEq] at e1;exact e1
     rw[e3];exact vB xt.G xt.sameG ty _ _ _ e2 (k8 p hp)
    by_cases Mp:p<i
    ·refine old ?_ fun q hq=>?_
     ·rw[List.append_assoc,List.getElem?_append_left (by omega),List.getElem?_take,if_pos Mp]
     ·have:=Nat.mul_le_mul_right ty.size (show p+1≤i by omega);rw[Nat.add_mul] at this;rw[jU aJ,if_pos (by omega)]
    ·by_cases HO:p<i+m
     ·have e3:(xs.take i++qR xs j m++xs.drop (i+m))[p]'(by omega)=(jn xs (some (j,m)))[p-i]'(by omega):=by
       rw[List.getElem_append_left (by rw[List.length_append,tC,tB];exact HO),List.getElem_append_right (by omega)];simp only[tC];rfl
      rw[e3];refine vB xt.G xt.sameG ty _ _ _ (fun q hq=>?_) (hE (p-i) (by omega));have q1:=Nat.mul_le_mul_right ty.size (show i≤p by omega);have q2:=Nat.mul_le_mul_right ty.size (show p-i+1≤m by omega);rw[Nat.add_mul] at q2;have q3:(p-i)*ty.size=p*ty.size-i*ty.size:=Nat.sub_mul ..
      rw[jU aJ,if_neg (by omega),if_pos (by omega)]
      congr 1;omega
     ·refine old ?_ fun q hq=>?_
      ·rw[List.getElem?_append_right (by rw[List.length_append,tC,tB];omega),List.getElem?_drop]
       congr 1
       rw[List.length_append,tC,tB];omega
      ·have:=Nat.mul_le_mul_right ty.size (show i+m≤p by omega);rw[Nat.add_mul] at this;rw[jU aJ,if_neg (by omega),if_neg (by omega)]
   ·rw[hB];exact⟨0,rfl,.inr rfl,by rw[←k2] at hs⊢;exact hs⟩
theorem vW2 {P M w}(ok:Ok M)(hM:M.H=w.heap){t T id lo n rx v u}(hx:zX M (.osl id (some (lo,n))) rx)
  (h:yI (LC P M.h t id lo n) v u):qI P (Builtin.clear_ #[t] T #[rx]) M w v u:=by
 unfold LC at h;split at h
 case h_2=>exact h.elim
 rename_i e s xs hu an;split at h
 case h_2=>exact h.elim
 rename_i ty dG;obtain⟨heq,h⟩:=zk h;have:=Hf heq;subst this;obtain⟨_,rfl,rfl⟩:=gy h;obtain⟨inf,z,h1,h2,h3,h4,h5,h6,h7⟩:=rC dG;obtain⟨C,hC,dj,⟨A,c,rfl,hS⟩,_⟩:=hx;obtain⟨C1,iE,hO⟩:=ok.obj id _ an;rw[hC] at iE;cases iE;by_cases HJ:n=0
 ·subst HJ;have e0:xs.take lo++List.replicate 0 ty.dflt++xs.drop (lo+0)=xs:=by simp
  rw[e0];refine⟨.tuple #[],w,M,?_,rfl,rfl,rfl,hM,?_,ok,vC.refl M,trivial⟩
  ·cases A with
   |none=>simp[Builtin.clear_,run_underlying hu]
   |some a=>simp[Builtin.clear_,run_underlying hu]
  ·rw[RH,CE an]
 ·obtain⟨k1,k2,k3,k4⟩:=hO;cases hB:C.blk with
  |none=>rw[hB] at hS;omega
  |some B=>
   rw[hB] at hS k4;obtain⟨hc,a,rfl,ha,hs⟩:=hS;obtain⟨vals,ev,k5,k6,k7,k8⟩:=k4;have rq:a=lo*ty.size:=by rw[←k2];rcases ha with ha|ha<;>omega
   subst rq;have jq:w.heap[B]? =some (.cells vals ev (0,0)):=by rw[←hM];exact k5
   have HN:(Builtin.zeroCells z.cells n).toList.length=n*ty.size:=by rw[Array.length_toList,CW,h7]
   have hle:=Nat.mul_le_mul_right ty.size (show lo+n≤xs.length by omega);rw[Nat.add_mul] at hle;have aJ:lo*ty.size+(Builtin.zeroCells z.cells n).toList.length≤vals.size:=by omega
   have cn:∀v∈(Builtin.zeroCells z.cells n).toList,v.one1=true:=vUb h4 h7;have dD:=run_storeCells_at (P:=P) B (lo*ty.size) ev (Builtin.zeroCells z.cells n).toList 0 vals w jq (by simpa using aJ) (fun v hv=>yz (cn v hv));simp only[Nat.add_zero] at dD;obtain⟨f1,f2,f3,f4⟩:=om jq (new:=yT vals (lo*ty.size) (Builtin.zeroCells z.cells n).toList) (gz aJ);have nv:(Builtin.clear_ #[t] T #[.slice (some ⟨B,lo*ty.size,none⟩) n c]).run P w=.ok (.tuple #[]) (w.setRow B (yT vals (lo*ty.size) (Builtin.zeroCells z.cells n).toList)):=by
    obtain⟨n',rfl⟩:∃n',n=n'+1:=⟨n-1,by omega⟩;have e:(storeCells ⟨B,lo*ty.size,none⟩ (Builtin.zeroCells z.cells (n'+1)).toList).run P w=.ok () (w.setRow B (yT vals (lo*ty.size) (Builtin.zeroCells z.cells (n'+1)).toList)):=dD;simp[Builtin.clear_,run_underlying hu,zeroValue,typeInfo,h1,h2,e]
   have hH:∀b,b∉C.fp→(w.setRow B (yT vals (lo*ty.size) (Builtin.zeroCells z.cells n).toList)).heap[b]? =M.H[b]? :=fun b tn=>by
    rw[hM];exact f3 b fun e=>tn (e▸fB hB)
   have cN:∀b,b<M.H.size→qT (w.setRow B (yT vals (lo*ty.size) (Builtin.zeroCells z.cells n).toList)).heap b=qT M.H b:=fun b _=>by rw[hM];exact f4 b
   have hol:(xs.take lo++List.replicate n ty.dflt++xs.drop (lo+n)).length=xs.length:=by
    simp only[List.length_append,List.length_take,List.length_replicate,List.length_drop];omega
   have x:=zK.write_ext ok an rfl hC C.le_refl hH cN (.arr true ty (xs.take lo++List.replicate n ty.dflt++xs.drop (lo+n)));have := zK.write_ok ok an rfl hC C.le_refl (fun _ h => h) (by rw [hM]; exact f1) hH cN (o' := .arr true ty (xs.take lo ++ List.replicate n ty.dflt ++ xs.drop (lo + n))) (by
    refine⟨by rw[hol];exact k1,k2,k3,?_⟩;rw[hB];refine⟨_,ev,f2,fun h=>(by cases h),by rw[hol,gz aJ];exact k7,fun p hp=>?_⟩;rw[hol] at hp;have aW:=Nat.mul_le_mul_right ty.size (show p+1≤xs.length by omega);rw[Nat.add_mul] at aW;have ph:(xs.take lo).length=lo:=by rw[List.length_take];omega
    have old:(xs.take lo++List.replicate n ty.dflt++xs.drop (lo+n))[p]? =xs[p]? →(∀q,q<ty.size→(yT vals (lo*ty.size) (Builtin.zeroCells z.cells n).toList)[p*ty.size+q]? =vals[p*ty.size+q]?)→
      qC (M.write id (.arr true ty (xs.take lo++List.replicate n ty.dflt++xs.drop (lo+n))) C (w.setRow B (yT vals (lo*ty.size) (Builtin.zeroCells z.cells n).toList)).heap).H (M.write id (.arr true ty (xs.take lo++List.replicate n ty.dflt++xs.drop (lo+n))) C (w.setRow B (yT vals (lo*ty.size) (Builtin.zeroCells z.cells n).toList)).heap).G ty ((xs.take lo++List.replicate n ty.dflt++xs.drop (lo+n))[p]'(by omega)) (fun q=>(yT vals (lo*ty.size) (Builtin.zeroCells z.cells n).toList)[p*ty.size+q]?):=fun e1 e2=>by
     have e3:(xs.take lo++List.replicate n ty.dflt++xs.drop (lo+n))[p]'(by omega)=xs[p]:=by
      rw[List.getElem?_eq_getElem (by omega),List.getElem?_eq_getElem hp,Option.some.injEq] at e1;exact e1
     rw[e3];exact vB x.G x.sameG ty _ _ _ e2 (k8 p hp)
    by_cases Mp:p<lo
    ·refine old ?_ fun q hq=>?_
     ·rw[List.append_assoc,List.getElem?_append_left (by omega),List.getElem?_take,if_pos Mp]
     ·have:=Nat.mul_le_mul_right ty.size (show p+1≤lo by omega);rw[Nat.add_mul] at this;rw[jU aJ,if_pos (by omega)]
    ·by_cases HO:p<lo+n
     ·have e3:(xs.take lo++List.replicate n ty.dflt++xs.drop (lo+n))[p]'(by omega)=ty.dflt:=by
       rw[List.getElem_append_left (by rw[List.length_append,ph,List.length_replicate];exact HO),List.getElem_append_right (by omega)];simp
      rw[e3];refine HF ty _ fun q hq=>?_
      have q1:=Nat.mul_le_mul_right ty.size (show lo≤p by omega);have q2:=Nat.mul_le_mul_right ty.size (show p-lo+1≤n by omega);rw[Nat.add_mul] at q2;have q3:(p-lo)*ty.size=p*ty.size-lo*ty.size:=Nat.sub_mul ..
      rw[jU aJ,if_neg (by omega),if_pos (by omega),show p*ty.size+q-lo*ty.size=(p-lo)*ty.size+q by omega,vAn h4 h7 hq (by omega)]
     ·refine old ?_ fun q hq=>?_
      ·rw[List.getElem?_append_right (by rw[List.length_append,ph,List.length_replicate];omega),List.getElem?_drop]
       congr 1
       rw[List.length_append,ph,List.length_replicate];omega
      ·have:=Nat.mul_le_mul_right ty.size (show lo+n≤p by omega);rw[Nat.add_mul] at this;rw[jU aJ,if_neg (by omega),if_neg (by omega)])
   exact⟨_,_,_,nv,rfl,rfl,rfl,rfl,rfl,this.1,this.2,trivial⟩
theorem vWz {P M w}(ok:Ok M)(hM:M.H=w.heap){mat nm t T b x v u rb rx}
  (hb:zT M b rb) (hx:zT M x rx) (h:yI (Cq P mat nm M.h t b x) v u):qI P (Builtin.append_ #[t,t] T #[rb,rx]) M w v u:=by
 unfold Cq at h;split at h
 case h_2=>exact h.elim
 rename_i e b x hu aS;split at h
 ·exact h.elim
 rename_i ty dG;cases mat with
 |true=>
  split at h
  ·rename_i id jd;split at h
   ·rename_i v1 xs v2 ys an cZ;cases bm:Nat.beq id jd with
    |true=>rw[bm] at h;exact h.elim
    |false=>
     rw[bm] at h;obtain⟨hr,rfl,rfl⟩:=gy h;exact vZr ok hM hu dG aS an cZ (fun e=>by subst e;simp at bm) hb hx (HI hr)
   ·exact h.elim
  ·exact h.elim
 |false=>
  simp only[cond_false] at h;split at h
  ·split at h
   ·rename_i ys u1 ht;obtain⟨hr,rfl,rfl⟩:=gy h;obtain⟨rfl,news,h1,h2⟩:=yBt ok hx ht;rw[show rb=.slice none 0 0 from hb];exact vIw ok hM hu dG aS h1 h2 (HI hr)
   ·exact h.elim
  ·split at h
   ·rename_i s xs an;split at h
    ·rename_i zs ys u1 hz ht;obtain⟨e1,hz⟩:=kY hz;subst e1;subst hz;obtain⟨rfl,news,h1,h2⟩:=yBt ok hx ht;split at h
     ·rcases yZs h with⟨hc,h⟩|⟨_,h⟩
      ·split at h
       ·rename_i i' jd j m zs e1 e2 _;cases e1;have:=Nat.eq_of_beq_eq_true hc;subst this;obtain⟨_,hz⟩:=kY e2;subst hz;obtain⟨hr,rfl,rfl⟩:=gy h;exact vEd ok hM hu dG aS an hb hx (Nat.le_of_ble_eq_true hr)
       ·exact h.elim
      ·obtain⟨hr,rfl,rfl⟩:=gy h;exact Sw ok hM hu dG aS an hb rfl h1 h2 (HI hr)
     ·rcases yZs h with⟨hc,h⟩|⟨_,h⟩
      ·exact h.elim
      ·obtain⟨hr,rfl,rfl⟩:=gy h;exact Sw ok hM hu dG aS an hb trivial h1 h2 (HI hr)
     ·exact h.elim
    ·exact h.elim
   ·exact h.elim
  ·exact h.elim
theorem SE {M}(ok:Ok M){c v t ys}(hv:zX M c v)(h:ki M.h c=some ⟨t,ys⟩){kd}(ht:t=.int kd):
  ∃news,Rd M.H v ys.length t.size news∧∃F,∀i hi,qC M.H F t ys[i] (fun j=>news[i*t.size+j]?):=by
 unfold ki at h;split at h
 ·cases h;obtain⟨news,h1,h2⟩:=Sq hv;exact⟨news,h1,_,h2⟩
 ·split at h
  ·rename_i own s xs an;cases h;obtain⟨C,hC,hO⟩:=ok.obj _ _ an;obtain⟨news,h1,h2⟩:=zi hC hO hv;exact⟨news,h1,_,h2⟩
  all_goals grind
 ·rename_i id i ver;split at h
  ·rename_i v' xs an;cases fE:Nat.beq v' ver with
   |false=>simp_all
   |true=>
    rw[fE] at h;cases h;have e:v'=ver:=by simp_all
    subst e;obtain⟨C,hC,hO⟩:=ok.obj _ _ an;obtain⟨C',aD,cn,_,aW⟩:=hv;rw[hC] at aD;cases aD;obtain⟨rb,rl,vq,rH⟩:=aW hO.1;by_cases hi:i<xs.length
    ·obtain⟨B,pb,v2,k1,k2,k3,k4,k5,k6⟩:=CD hO hi;rw[vq] at k3;cases k3;rw[show xs.getD i []=xs[i] by simp_all];cases rb with
     |none=>
      obtain⟨rfl,h0⟩:=rH;have cJ:xs[i]=[]:=by grind
      rw[cJ];obtain⟨news,q1,q2⟩:=HG (H:=M.H) (F:=M.G) (t:=.int .i64) (A:=none) (c:=0);exact⟨news,q1,_,q2⟩
     |some R=>
      obtain⟨a,c,rfl,h1,h2,h3⟩:=rH;by_cases h0:xs[i].length=0
      ·have cJ:xs[i]=[]:=by grind
       rw[cJ];obtain⟨news,q1,q2⟩:=HG (H:=M.H) (F:=M.G) (t:=.int .i64) (A:=some ⟨R,a,none⟩) (c:=c);exact⟨news,q1,_,q2⟩
      ·have ha:a=0:=by omega
       subst ha;obtain ⟨news, q1, q2⟩ := Sp (H := M.H) (F := fun _ => True) (t := .int .i64) (ys := xs[i]) (B := R) (o := 0) (c := c) h1 (fun j hj=>by
        simp[qC,Ty.size];simp_all)
       exact⟨news,q1,_,q2⟩
    ·have:C.rows[i]? =none:=List.getElem?_eq_none (by have:=hO.2.2.2.1;omega);simp_all
  ·cases h
 ·cases h
theorem vK8 {M}(ok:Ok M){c v t ys}(hv:zX M c v)(h:ki M.h c=some ⟨t,ys⟩):∃A k,v=.slice A ys.length k:=by
 by_cases ht:t=.int .i64
 ·obtain⟨news,⟨A,k,e,_⟩,_⟩:=SE ok hv h ht;simp_all
 unfold ki at h;split at h
 ·cases h;obtain⟨news,⟨A,k,e,_⟩,_⟩:=Sq hv;simp_all
 ·rename_i id r;split at h
  ·rename_i own s xs an;cases h;obtain⟨C,hC,hO⟩:=ok.obj _ _ an;obtain⟨news,⟨A,k,e,_⟩,_⟩:=zi hC hO hv;simp_all
  ·rename_i ver xs an;cases r with
   |none=>
    cases h;obtain⟨C,hC,hO⟩:=ok.obj _ _ an;obtain⟨C',aD,A,k,e,_⟩:=hv;rw[hC] at aD;cases aD;exact⟨A,k,by rw[e,hO.2.1]⟩
   |some p=>cases h
  ·cases h
 all_goals grind
theorem vQo {M}(ok:Ok M){c v n}(hv:zX M c v)(h:Cc M.h c=some n):∃A k,v=.slice A n k:=by
 unfold Cc at h;split at h
 ·cases h;exact⟨none,0,hv⟩
 ·obtain⟨C,B,_,_,e⟩:=hv;simp_all
 ·split at h
  ·rename_i t xs hr;cases h;exact vK8 ok hv hr
  ·cases h
theorem vHw {P w t e A n k T ts}(h0:ts[0]? =some t)(hu:P.underlying t=some (.slice e)):
  (Builtin.len_ ts T #[.slice A n k]).run P w=.ok (.int .i64 n) w:=by
 have hr:(underlying t).run P w=.ok (.slice e) w:=by simp[underlying,hu]
 simp[Builtin.len_,h0,hr,goInt]
theorem yE5 {P M w}(ok:Ok M)(hM:M.H=w.heap){lt l rl v u ts T}(hl:zL (zT M) l rl.toList)
  (h:yI (LD lt l) v u):qI P (bif lt then Builtin.min_ ts T rl else Builtin.max_ ts T rl) M w v u:=by
 unfold LD at h;split at h
 ·rename_i k x j y;obtain⟨rfl,rfl⟩:=wH h;obtain⟨rl⟩:=rl
  match rl,hl with
  |[a,b],⟨h1,h2,_⟩=>
   rw[show a=.int k x from h1,show b=.int j y from h2];refine .pure (rv:=.int k (bif lt then(bif decide (y<x) then y else x) else(bif decide (y>x) then y else x))) ok hM ?_ rfl;cases lt<;>simp[Builtin.min_,Builtin.max_,Builtin.min2,Builtin.max2,Bool.cond_decide]
 ·rename_i k x j y i z;obtain⟨rfl,rfl⟩:=wH h;obtain⟨rl⟩:=rl
  match rl,hl with
  |[a,b,c],⟨h1,h2,h3,_⟩=>
   rw[show a=.int k x from h1,show b=.int j y from h2,show c=.int i z from h3];refine .pure (rv:=_) ok hM ?_ rfl;cases lt<;>simp[Builtin.min_,Builtin.max_,Builtin.min2,Builtin.max2,Bool.cond_decide]
 ·exact h.elim
theorem qZ6 {M:zK}:∀{cs ns},yu cs=some ns→cs=ns.map (.int .i64)
 |[],ns,h=>by cases h;rfl
 |.int .i64 n::l,ns,h=>by
  unfold yu at h;split at h
  ·rename_i r hr;cases h;rw[qZ6 (M:=M) hr];rfl
  ·cases h
theorem yHc xs:∀(ns:List Int) i,yv xs i (ns.map (.int .i64))=(((xs.drop i).take ns.length)++ns.drop ((xs.drop i).take ns.length).length).map (.int .i64)
 |[],i=>by rfl
 |n::ns,i=>by
  simp only[List.map_cons,yv,yHc xs ns (i+1)];by_cases hi:i<xs.length
  ·have hb:Nat.blt i xs.length=true:=by simp_all
   rw[hb,List.drop_eq_getElem_cons hi];grind
  ·have hb:Nat.blt i xs.length=false:=by
    cases h:Nat.blt i xs.length with
    |false=>rfl
    |true=>exact absurd (by simp_all) hi
   have e1:xs.drop i=[]:=List.drop_eq_nil_of_le (by omega);grind
theorem vGh {P M w}(ok:Ok M)(hM:M.H=w.heap){t e ts T d s v u rd rs}(h0:ts[0]? =some t)(hu:P.underlying t=some (.slice e))(he:P.cellsOf e=1)
  (hd:zT M d rd) (hs:zT M s rs) (h:yI (Cr M.h d s) v u):qI P (Builtin.copy_ ts T #[rd,rs]) M w v u:=by
 unfold Cr at h;split at h
 case h_2=>exact h.elim
 rename_i id off n s;split at h
 case h_2=>exact h.elim
 rename_i cells ys an pj;split at h
 case h_2=>exact h.elim
 rename_i vs eM;split at h
 case h_2=>exact h.elim
 rename_i ns Sf;obtain⟨_,rfl,rfl⟩:=gy h;clear h;obtain⟨C,B,hC,hB,rfl⟩:=hd;obtain⟨C',aD,B',vals,ev,k1,k2,k3,k4,k5⟩:=ok.obj id _ an;rw[hC] at aD;cases aD;rw[hB] at k1;cases k1;obtain⟨c1,c2,c3⟩:=Hs eM;obtain⟨i,hi⟩:=oe (P:=P) (t:=e) (by omega);obtain⟨A,k,rfl,ko⟩:∃A k,rs=.slice A ys.length k∧∃news,Rd M.H (.slice A ys.length k) ys.length 1 news∧news=ys.map (.int .i64):=by
  split at pj
  ·cases pj;exact⟨none,0,hs,[],⟨none,0,rfl,rfl,by simp,rfl⟩,rfl⟩
  ·obtain⟨news,hR,F,hE⟩:=SE ok hs pj rfl;obtain⟨A,k,e,hl,r⟩:=hR;refine⟨A,k,e,news,⟨A,k,rfl,hl,r⟩,?_⟩;refine List.ext_getElem (by simpa[Ty.size] using hl) fun j h1 h2=>?_
   have:=hE j (by simpa using h2);simp only[qC,Ty.size,Nat.mul_one,Nat.add_zero] at this;rw[List.getElem?_eq_getElem h1,Option.some.injEq] at this;rw[this];simp
 obtain⟨news,⟨A',k',e',hl,cn,ko⟩,HP⟩:=ko;cases e';let m:=min ys.length n;have hm:Nat.min ys.length n=m:=rfl;have zl:(Builtin.firstCells 1 m (.slice A ys.length k)).run P w=.ok (news.take m).toArray w:=by
  have:Rd M.H (.slice A m k) m 1 (news.take m):=by
   refine⟨A,k,rfl,?_,fun u hu=>cn u (List.mem_of_mem_take hu),?_⟩;all_goals grind
  have:=this.first (P:=P) w hM.symm
  cases A<;>exact this
 have Mq:w.heap[B]? =some (.cells vals ev (0,0)):=by rw[←hM];exact k3
 have bN:=k4.length;have Mo:(news.take m).length=m:=by rw[List.length_take,hl];omega
 have aJ:off+(news.take m).length≤vals.size:=by
  rw[Mo];simp at bN;omega
 have dD:=run_storeCells_at (P:=P) B off ev (news.take m) 0 vals w Mq (by simpa using aJ) (fun v hv=>yz (cn v (List.mem_of_mem_take hv)));simp only[Nat.add_zero] at dD;have nv:(Builtin.copy_ ts T #[.slice (some ⟨B,off,none⟩) n n,.slice A ys.length k]).run P w=.ok (.int .i64 (m:Nat)) (w.setRow B (yT vals off (news.take m))):=by
  simp[Builtin.copy_,h0,run_underlying hu,Builtin.lenOf,iB w hi,he,hm,zl,goInt];have e:(storeCells ⟨B,off,none⟩ (news.take m)).run P w=.ok () (w.setRow B (yT vals off (news.take m))):=dD;rw[e];rfl
 obtain⟨f1,f2,f3,f4⟩:=om Mq (new:=yT vals off (news.take m)) (gz aJ);have hH:∀b,b∉C.fp→(w.setRow B (yT vals off (news.take m))).heap[b]? =M.H[b]? :=fun b tn=>by
  rw[hM];exact f3 b fun e=>tn (e▸fB hB)
 have cN:∀b,b<M.H.size→qT (w.setRow B (yT vals off (news.take m))).heap b=qT M.H b:=fun b _=>by rw[hM];exact f4 b
 let o':Obj:=.box true (cells.take off++yv ys 0 vs++cells.drop (off+n));have x:=zK.write_ext ok an rfl hC C.le_refl hH cN o';have aF:cells.take off++yv ys 0 vs++cells.drop (off+n)=cells.take off++(ys.take m).map (.int .i64)++cells.drop (off+((ys.take m).map (zY.int .i64)).length):=by
  have hv:=qZ6 (M:=M) Sf;have hnn:ns.length=n:=by rw[←c3,hv];simp
  have HQ:(ys.drop 0).take ns.length=ys.take m:=by
   grind
  rw[hv,yHc,HQ,List.map_append,List.map_drop,←hv,List.append_assoc,List.append_assoc,List.append_assoc]
  congr 2
  have Mr:(ys.take m).length=m:=by rw[List.length_take];omega
  have e1:cells.drop (off+n)=(cells.drop (off+m)).drop (n-m):=by
   rw[List.drop_drop];congr 1;omega
  rw[List.length_map,Mr,c2,List.drop_take,List.drop_drop,e1,List.take_append_drop]
 have := zK.write_ok ok an rfl hC C.le_refl (fun _ h => h) (by rw [hM]; exact f1) hH cN (o' := o') (by
  refine⟨B,_,ev,hB,k2,f2,?_,fun h=>(by cases h)⟩;rw[aF];refine RM x k4 (us:=news.take m) ?_ (by simpa using aJ);rw[HP];refine zL.of_get (by simp) fun j h1 h2=>?_
  simp[zX])
 exact⟨_,_,_,nv,rfl,rfl,rfl,rfl,rfl,this.1,this.2,rfl⟩
theorem yNl {P t}(h:Hk P t=true):∃k e i,P.underlying t=some (.map k e)∧P.underlying k=some (.int .i64)∧P.info? e=some i∧i.zero=some (.bool false):=by
 unfold Hk at h;split at h
 ·split at h
  ·rename_i hk hz;obtain⟨i,h1,h2⟩:=Option.bind_eq_some_iff.1 hz;grind
  ·cases h
 ·cases h
theorem vT1 {P M w}(ok:Ok M)(hM:M.H=w.heap){nm t v u}(h:yI (Cm P nm M.h t) v u):qI P (Instr.makeMap t none) M w v u:=by
 unfold Cm at h;split at h
 case h_2=>exact h.elim
 rename_i aS;obtain⟨_,h⟩:=zk h;obtain⟨_,rfl,rfl⟩:=gy h;let C:qA:=⟨some M.H.size,0,0,0,[]⟩;have := zK.new_ok ok aS (.imap []) C (.map #[] 0) (by simp [C, qA.fp]) (by
  refine⟨M.H.size,#[],0,rfl,rfl,yy,by simp,fun n=>rfl⟩)
 refine⟨.map (some w.heap.size),w.alloc (.map #[] 0),_,?_,rfl,rfl,rfl,?_,rfl,this.1,this.2,C,M.H.size,κset_same _ _ _,rfl,by rw[hM]⟩
 ·rfl
 ·show M.H.push _=w.heap.push _;rw[hM]
theorem SF {n}:∀{es i},(∀e∈es,∃m b,e.key=.int .i64 m∧e.val=.bool b)→
  (fe n es=none∧Instr.findNow (.int .i64) (.int .i64 n) es i=some none)∨
  (∃j b e,fe n es=some (.bool b)∧Instr.findNow (.int .i64) (.int .i64 n) es i=some (some (i+j,.bool b))∧es[j]? =some e∧e.key=.int .i64 n∧
   ∀f:MapEntry→MapEntry,(∀e,(f e).key=.int .i64 n)→fe n (es.modify j f)=some (f e).val∧(∀m,m≠n→fe m (es.modify j f)=fe m es)∧∀e'∈es.modify j f,e'∈es∨e'=f e)
 |[],i,_=>.inl ⟨rfl,rfl⟩
 |e::es,i,h=>by
  obtain⟨m,b,h1,h2⟩:=h e (by simp);by_cases hm:n=m
  ·subst hm;refine .inr ⟨0,b,e,?_,?_,rfl,h1,fun f hf=>⟨?_,fun m bm=>?_,fun e' he=>?_⟩⟩
   ·simp[fe,h1,h2]
   ·simp[Instr.findNow,Instr.sameNow,h1,h2]
   ·simp[fe,hf]
   ·simp[fe,hf,h1,bm]
   grind
  ·have hs:Instr.findNow (.int .i64) (.int .i64 n) (e::es) i=Instr.findNow (.int .i64) (.int .i64 n) es (i+1):=by
    have hb:(n==m)=false:=by simp[hm]
    simp[Instr.findNow,Instr.sameNow,h1,hb]
   have hf:fe n (e::es)=fe n es:=by simp[fe,h1,hm]
   rcases SF (es:=es) (i:=i+1) (by grind) with⟨k1,k2⟩|⟨j,b',e',k1,k2,k3,k4,k5⟩
   ·exact .inl ⟨hf.trans k1,hs.trans k2⟩
   ·refine .inr ⟨j+1,b',e',hf.trans k1,by grind,by simp_all,k4,fun f hfk=>?_⟩;obtain⟨q1,q2,q3⟩:=k5 f hfk;refine⟨by simp[fe,h1,hm,q1],fun m' bm=>?_,fun e'' he=>?_⟩
    ·rw[List.modify_succ_cons];simp[fe,q2 m' bm]
    grind
theorem Ms {P w r es ck}(h:w.heap[r]? =some (.map es ck)):(getObj r).run P w=.ok (.map es ck) w:=by
 simp[getObj,Sem.run,h]
theorem yP2 {P w r es ck} o (h:w.heap[r]? =some (.map es ck)):(setObj r o).run P w=.ok () {w with heap:=w.heap.setIfInBounds r o}:=by
 simp[setObj,Sem.run,h]
theorem Mt {P w k b n}(h:P.underlying k=some (.int .i64)):(Instr.checkKey b 10000 k (.int .i64 n)).run P w=.ok () w:=by
 unfold Instr.checkKey;simp[run_underlying h]
theorem Mu {P w k n es r}(h:P.underlying k=some (.int .i64))(hf:Instr.findNow (.int .i64) (.int .i64 n) es 0=some r):(Instr.findKey k (.int .i64 n) es).run P w=.ok r w:=by
 unfold Instr.findKey;simp[run_underlying h,hf]
theorem vR4 {P M w}(ok:Ok M)(hM:M.H=w.heap){t x i v u rx ri}(hx:zT M x rx)(hi:zT M i ri)(h:yI (Cn P M.h t x i) v u):qI P (Instr.lookup t rx ri false) M w v u:=by
 unfold Cn at h;split at h
 case h_2=>exact h.elim
 rename_i id n;split at h
 case h_2=>exact h.elim
 rename_i cY an;obtain⟨hb,h⟩:=zk h;obtain⟨rfl,rfl⟩:=wH h;obtain⟨k,e,inf,h1,h2,h3,h4⟩:=yNl hb;obtain⟨C,B,hC,hB,rfl⟩:=hx;obtain⟨C',aD,B',es,ck,k1,k2,k3,k4,k5⟩:=ok.obj id _ an;rw[hC] at aD;cases aD;rw[hB] at k1;cases k1;have nq:ri=.int .i64 n:=hi;subst nq;rw[hM] at k3;refine .pure (rv:=.bool ((cY.lookup n).getD false)) ok hM ?_ rfl;have h5:=k5 n;unfold Instr.lookup;rcases SF (n:=n) (i:=0) k4 with⟨q1,q2⟩|⟨j,b,e',q1,q2,q3,q4,q5⟩
 ·have:cY.lookup n=none:=by cases hl:cY.lookup n with|none=>rfl|some b=>simp_all
  simp[run_underlying h1,Ms k3,Mt h2,Mu h2 q2,zeroValue,typeInfo,h3,h4,this]
 ·have:cY.lookup n=some b:=by cases hl:cY.lookup n with|none=>simp_all|some b=>simp_all
  simp[run_underlying h1,Ms k3,Mt h2,Mu h2 q2,this]
theorem SG {n b c}:∀{es},fe n es=none→∀m,fe m (es++[⟨.int .i64 n,.bool b,c⟩])=if m=n then some (.bool b) else fe m es
 |[],_,m=>by rfl
 |e::es,h,m=>by
  rw[List.cons_append];have aK:∀(m:Int) (l:List MapEntry),fe m (e::l)=match e.key with|.int .i64 k=>if m=k then some e.val else fe m l|_=>fe m l:=fun m l=>rfl
  rw[aK] at h;rw[aK,aK];split at h
  ·rename_i k hk;split at h
   ·cases h
   ·by_cases hm:m=k
    ·grind
    ·rw[if_neg hm,SG h m,if_neg hm]
  ·exact SG h m
theorem vZo {P M w}(ok:Ok M)(hM:M.H=w.heap){t x i y v u rx ri ry}(hx:zT M x rx)(hi:zT M i ri)(hy:zT M y ry)(h:yI (Co P M.h t x i y) v u):
  v=.undef∧mC P (Instr.mapUpdate t rx ri ry) M w u:=by
 unfold Co at h;split at h
 case h_2=>exact h.elim
 rename_i id n b;split at h
 case h_2=>exact h.elim
 rename_i cY an;obtain⟨hb,h⟩:=zk h;obtain⟨_,rfl,rfl⟩:=gy h;obtain⟨k,e,inf,h1,h2,h3,h4⟩:=yNl hb;obtain⟨C,B,hC,hB,rfl⟩:=hx;obtain⟨C',aD,B',es,ck,k1,k2,k3,k4,k5⟩:=ok.obj id _ an;rw[hC] at aD;cases aD;rw[hB] at k1;cases k1;have nq:ri=.int .i64 n:=hi;subst nq;have hry:ry=.bool b:=hy;subst hry;have k3':=k3;rw[hM] at k3;have write:∀(rI:Array MapEntry) (vr:Nat),(Instr.mapUpdate t (.map (some B)) (.int .i64 n) (.bool b)).run P w=.ok () {w with heap:=w.heap.setIfInBounds B (.map rI vr)}→
   (∀e∈rI.toList,∃m b,e.key=.int .i64 m∧e.val=.bool b)→(∀m,fe m rI.toList=if m=n then some (.bool b) else fe m es.toList)→mC P (Instr.mapUpdate t (.map (some B)) (.int .i64 n) (.bool b)) M w [(id,.imap ((n,b)::cY))]:=by
  intro rI vr hr he hf;have zm:∀c,(w.heap.setIfInBounds B (.map rI vr))[c]? =if c=B then some (.map rI vr) else w.heap[c]? :=by grind
  have hH:∀c,c∉C.fp→(w.heap.setIfInBounds B (.map rI vr))[c]? =M.H[c]? :=fun c hc=>by
   rw[zm,if_neg (fun(e:c=B)=>hc (by rw[e];exact fB hB)),hM]
  have cN:∀c,c<M.H.size→qT (w.heap.setIfInBounds B (.map rI vr)) c=qT M.H c:=fun c _=>by
   unfold qT;grind
  have := zK.write_ok ok an rfl hC C.le_refl (by simp) (by rw [hM]; simp) hH cN (o' := .imap ((n, b) :: cY)) (by
   refine⟨B,rI,vr,hB,k2,?_,he,fun m=>?_⟩
   ·show(w.heap.setIfInBounds B (.map rI vr))[B]? =_;rw[zm,if_pos rfl]
   grind)
  exact⟨_,_,hr,rfl,rfl,rfl,rfl,rfl,this.1,this.2⟩
 refine⟨rfl,?_⟩;rcases SF (n:=n) (i:=0) k4 with⟨q1,q2⟩|⟨j,b',e',q1,q2,q3,q4,q5⟩
 ·refine write (es.push ⟨.int .i64 n,.bool b,ck⟩) (ck+1) ?_ (fun e he=>?_) fun m=>?_
  ·unfold Instr.mapUpdate;simp[run_underlying h1,Ms k3,Mt h2,Mu h2 q2,yP2 _ k3]
  ·grind
  ·rw[Array.toList_push];exact SG q1 m
 ·refine write (es.modify j fun e=>{e with key:=.int .i64 n,val:=.bool b}) ck ?_ (by grind) fun m=>?_
  ·unfold Instr.mapUpdate;rw[Nat.zero_add] at q2;simp only[Array.getElem?_toList] at q3;simp[run_underlying h1,Ms k3,Mt h2,Mu h2 q2,yP2 _ k3,q3,q4,Instr.keyThatStays,Instr.sameBits]
  all_goals grind
theorem yEq:∀(ns:List Int) (b:ByteArray),ns.foldl (fun r n=>r.push (UInt8.ofNat n.toNat)) b=⟨(b.data.toList++n9 ns).toArray⟩
 |[],b=>by simp[n9]
 |n::ns,b=>by
  rw[List.foldl_cons,yEq ns];simp[n9]
theorem vH2 {P M}(ok:Ok M){c v xs}(hv:zX M c v)(h:Cb M.h c=some xs){w}(hM:M.H=w.heap):
  ∃A n k,v=.slice A n k∧(Conv.bytesToString v).run P w=.ok (.string ⟨(n9 xs).toArray⟩) w:=by
 unfold Cb at h;split at h
 ·cases h;refine⟨none,0,0,hv,?_⟩;rw[show v=.slice none 0 0 from hv];rfl
 ·split at h
  ·rename_i ys hr;obtain rfl:ys=xs:=by simp_all
   obtain⟨news,⟨A,k,e,hl,cn,ko⟩,F,hE⟩:=SE ok hv hr rfl;refine⟨A,_,k,e,?_⟩;have hn:news=ys.map (Value.int .u8):=by
    refine List.ext_getElem (by simpa[Ty.size] using hl) fun j h1 h2=>?_
    have:=hE j (by simp_all);simp[qC,Ty.size] at this;grind
   subst e;cases A with
   |none=>
    have h1:ys=[]:=by grind
    subst h1;rfl
   |some a=>
    have mA:(loadCells a ys.length).run P w=.ok (ys.map (Value.int .u8)).toArray w:=by
     rcases ko with h0|⟨h1,h2⟩
     ·have h1:ys=[]:=by grind
      subst h1;rfl
     ·have:=Rd.first (P:=P) (H:=M.H) (v:=.slice (some a) ys.length k) (n:=ys.length) (size:=1) (news:=news) ⟨_,k,rfl,by grind,cn,by grind⟩ w hM.symm
      rw[hn] at this
      simpa[Builtin.firstCells] using this
    rw[run_bytesToString w a _ k ys mA,yEq];rfl
  ·cases h
structure tD (M:zK) (w:World) (u:vG) (M':zK) (w':World):Prop where
 os:w'.os=w.os
 tape:w'.tape=w.tape
 output:w'.output=w.output
 H:M'.H=w'.heap
 h:M'.h=qH M.h u
 ok:Ok M'
 step:vC M M'
def tE (P:Program)(f:Nat)(args:List zW)(h:Hp)(v:zW)(u:vG):Prop:=
 ∀(M:zK) (w:World) (vs:Array Value),M.h=h→M.H=w.heap→Ok M→zL (zT M) args vs.toList→
  ((callFunc f vs).run P w=.ok (.enter f vs) w∧Calls P f vs w fun
   |.returned rv,w'=>∃M',tD M w u M' w'∧zT M' v rv
   |_,_=>False)∨∃rv w' M',(callFunc f vs).run P w=.ok (.value rv) w'∧tD M w u M' w'∧zT M' v rv
def yYo (P:Program)(S:LF):Prop:=∀k nm f args h v u,yI (S k nm f args h) v u→tE P f args h v u
structure gd (E:Env):Prop where
 eq:HA E.P E.eqT
 sums:yYo E.P E.sums
section
variable {P:Program} {Q:Exit→Act→World→Prop} {o:Oper} {a:Act} {w:World} {M:zK} {next:Act→World→Prop} {v:zW} {u:vG}
theorem gA {s}(hr:qI P s M w v u)(he:execOp a.eval o=(do pure (.value (←s)):Sem Next))(hn:∀M' w' rv,tD M w u M' w'→zT M' v rv→next (a.put o.dst rv) w'):
  o.wp P a w next Q:=by
 obtain⟨rv,w',M',h1,h2,h3,h4,h5,h6,h7,h8,h9⟩:=hr;unfold Oper.wp;rw[he];simp[h1];exact hn M' w' rv ⟨h2,h3,h4,h5,h6,h7,h8⟩ h9
theorem yEe {s}(hr:mC P s M w u)(he:execOp a.eval o=(do s;pure .skip:Sem Next))(hn:∀M' w' rv,tD M w u M' w'→zT M' .undef rv→next (a.put o.dst rv) w'):
  o.wp P a w next Q:=by
 obtain⟨w',M',h1,h2,h3,h4,h5,h6,h7,h8⟩:=hr;unfold Oper.wp;rw[he];simp[h1];exact hn M' w' undef ⟨h2,h3,h4,h5,h6,h7,h8⟩ trivial
theorem pn (ok:Ok M)(hM:M.H=w.heap){rv}(hu:u=[])(hv:zT M v rv)(he:(execOp a.eval o).run P w=.ok (.value rv) w)(hn:∀M' w' rv,tD M w u M' w'→zT M' v rv→next (a.put o.dst rv) w'):
  o.wp P a w next Q:=by
 unfold Oper.wp;rw[he];subst hu;exact hn M w rv ⟨rfl,rfl,rfl,hM,rfl,ok,.refl M⟩ hv
end
theorem HR {α β} f:∀(l:List α) (r:List β),l.mapM f=some r→zL (fun a b=>f a=some b) l r
 |[],r,h=>by simp at h;subst h;trivial
 |a::l,r,h=>by
  simp[Option.bind_eq_some_iff] at h;obtain⟨b,h1,bs,h2,h3⟩:=h;cases h3;exact⟨h1,HR f l bs h2⟩
theorem zL.map_left {α β γ R}{f:α→γ}:∀{l} {m:List β},zL (fun a b=>R (f a) b) l m→zL R (l.map f) m
 |[],[],_=>trivial
 |_::_,_::_,h=>⟨h.1,zL.map_left h.2⟩
def _root_.Go.Operand.lit:Operand→Value
 |.const c=>c
 |_=>undef
theorem vLj {P:Program}{M:zK}{w:World}{t:TypeId}{d}{y:Operand}{x:zY}{rx ry:Value}{b:Bool}(hu:P.underlying t=some d)(hx:zX M x rx)(hy:ry=y.lit)
  (h:Rf d y x=some b) op (rJ:op=.eql∨op=.neq) ox oy:
  (eqGuard op t ox oy rx ry).run P w=.ok () w∧(binOp op t rx ry).run P w=.ok (.bool (qz op b)) w:=by
 have key:∀n,(Op.equalIn (n+1) t rx ry).run P w=.ok b w→(eqGuard op t ox oy rx ry).run P w=.ok () w→(binOp op t rx ry=match op with|.eql=>(do pure (.bool (←Op.equal t rx ry)))|_=>(do pure (.bool (!(←Op.equal t rx ry)))))→
   n=9999→(eqGuard op t ox oy rx ry).run P w=.ok () w∧(binOp op t rx ry).run P w=.ok (.bool (qz op b)) w:=by
  intro n h1 h2 h3 hn;have ga:(Op.equal t rx ry).run P w=.ok b w:=by subst hn;exact h1
  refine⟨h2,?_⟩;rw[h3];rcases rJ with rfl|rfl<;>simp[ga,qz]
 unfold Rf at h;split at h<;>cases h<;>simp only[Operand.lit] at hy<;>subst hy;all_goals (try obtain rfl:rx=_:=hx)
 all_goals (try obtain⟨C,B,_,_,_,rfl⟩:=hx)
 all_goals (try obtain⟨B,o,rfl,_⟩:=hx)
 all_goals (try obtain⟨cv,rfl,_⟩:=hx)
 all_goals (try obtain⟨⟨_,_,_,rfl⟩,_⟩:=hx)
 all_goals
  refine key 9999 ?_ ?_ ?_ rfl
  ·generalize 9999=n;unfold Op.equalIn;simp[run_underlying hu]
  ·rcases rJ with rfl|rfl<;>simp[eqGuard]
  ·rcases rJ with rfl|rfl<;>rfl
theorem vU2 {M}(ok:Ok M){c v n}(hv:zX M c v)(h:Cd M.h c=some n)(hn:0<n):∃a k,v=.slice (some a) n k:=by
 unfold Cd at h;split at h
 ·rename_i sh t xs;cases h;have hv:qC M.H (bif sh then M.G else M.F) (.sl t) xs (fun _=>some v):=hv;simp[qC] at hv;obtain⟨A,m,c,rfl,rfl,hc,h⟩:=hv;rcases h with⟨rfl,_⟩|⟨B,o,rfl,_⟩
  ·simp at hn
  ·exact⟨_,_,rfl⟩
 ·rename_i id;split at h
  ·rename_i own t xs an;cases h;obtain⟨C,hC,hO⟩:=ok.obj _ _ an;obtain⟨C',aD,A,k,e,hS⟩:=hv;rw[hC] at aD;cases aD;have hl:C.len=xs.length:=hO.1;rw[e,hl];cases hB:C.blk with
   |none=>rw[hB] at hS;omega
   |some B=>
    rw[hB] at hS;obtain⟨_,a,rfl,_⟩:=hS;exact⟨_,_,rfl⟩
  ·cases h
 ·cases h
theorem vG2 {P:Program}{w:World}{t e}{a n k}(hu:P.underlying t=some (.slice e)) op (rJ:op=.eql∨op=.neq) ox oy:
  (eqGuard op t ox oy (.slice (some a) n k) (.slice none 0 0)).run P w=.ok () w∧(binOp op t (.slice (some a) n k) (.slice none 0 0)).run P w=.ok (.bool (qz op false)) w:=by
 have key:∀m,(Op.equalIn (m+1) t (.slice (some a) n k) (.slice none 0 0)).run P w=.ok false w:=fun m=>by
  unfold Op.equalIn;simp[run_underlying hu]
 have h1:(Op.equal t (.slice (some a) n k) (.slice none 0 0)).run P w=.ok false w:=key 9999;rcases rJ with rfl|rfl
 ·refine⟨by simp[eqGuard],?_⟩;rw[show binOp .eql t (.slice (some a) n k) (.slice none 0 0)=(do pure (.bool (←Op.equal t (.slice (some a) n k) (.slice none 0 0)))) from rfl];simp[h1,qz]
 ·refine⟨by simp[eqGuard],?_⟩;rw[show binOp .neq t (.slice (some a) n k) (.slice none 0 0)=(do pure (.bool (!(←Op.equal t (.slice (some a) n k) (.slice none 0 0))))) from rfl];simp[h1,qz]
theorem SH {M}{ev:Operand→zW}{ρ:Operand→Value}(aQ:∀x,zT M (ev x) (ρ x)):∀(l:List (Nat×Operand)),zL (zg M) (l.map fun p=>(p.1,ev p.2)) (l.map fun p=>(p.1,ρ p.2))
 |[]=>trivial
 |p::l=>⟨⟨rfl,aQ p.2⟩,SH aQ l⟩
theorem yWb {f:Operand→Value}(parts:Array (Nat×Operand)):(parts.map fun(i,x)=>(i,f x))=(parts.toList.map fun p=>(p.1,f p.2)).toArray:=by
 grind
theorem yCe {M}{ev:Operand→zW}{ρ}(aQ:∀x,zT M (ev x) (ρ x)):∀{l ids},zL (fun x id=>u9 (ev x)=some id) l ids→
  zL (fun id u=>∃C B,M.κ id=some C∧C.blk=some B∧u=.pointer (some ⟨B,0,none⟩)) ids (l.map ρ)
 |[],[],_=>trivial
 |x::l,id::ids,h=>by
  refine⟨?_,yCe aQ h.2⟩;have h1:u9 (ev x)=some id:=h.1;have hx:=aQ x;unfold u9 at h1;split at h1
  ·rename_i CZ hc;cases h1;rw[hc] at hx;exact hx
  ·cases h1
theorem yIy {M ev ρ}(aQ:∀x,zT M (ev x) (ρ x)):∀(l:List Operand),zL (zT M) (l.map ev) (l.map ρ)
 |[]=>trivial
 |x::l=>⟨aQ x,yIy aQ l⟩
theorem vW0 {E}(hE:gd E){A}{k pre}{Q}{o}{a}{w}{M}{next}{v}{u ev}(ok:Ok M)(hM:M.H=w.heap)
  (aQ:∀x,zT M (ev x) (a.eval x)) (h:yI (kW E A k pre o ev M.h) v u) (hn:∀M' w' rv,tD M w u M' w'→zT M' v rv→next (a.put o.dst rv) w'):o.wp E.P a w next Q:=by
 unfold kW at h;dsimp only at h;split at h
 ·rename_i x ho;obtain⟨rfl,rfl⟩:=wH h;exact pn ok hM rfl (aQ x) (by cases o;cases ho;rfl) hn
 ·rename_i x ho;obtain⟨rfl,rfl⟩:=wH h;exact pn ok hM rfl (aQ x) (by cases o;cases ho;rfl) hn
 ·rename_i c x y ho;split at h
  ·rename_i cb hc;have la:=aQ c;rw[hc] at la;have la:a.eval c=.bool cb:=la;split at h
   ·rename_i xb yb hx hy;obtain⟨rfl,rfl⟩:=wH h;have h1:=aQ x;have h2:=aQ y;rw[hx] at h1;rw[hy] at h2;refine pn (rv:=.bool (bif cb then xb else yb)) ok hM rfl (show zT M (.c (.bool _)) (.bool _) from rfl) ?_ hn;have h1:a.eval x=.bool xb:=h1;have h2:a.eval y=.bool yb:=h2;cases o;cases ho;show(do pure (.value (if←asBool (a.eval c) then a.eval x else a.eval y)):Sem Next).run E.P w=_;cases cb<;>simp[la,asBool,h1,h2]
   ·refine pn (rv:=if cb then a.eval x else a.eval y) ok hM ?_ ?_ ?_ hn
    ·rcases h with⟨_,_,rfl⟩|⟨_,⟨_,_,rfl⟩|⟨_,h⟩⟩
     ·rfl
     ·rfl
     ·exact h.elim
    ·rcases h with⟨rfl,rfl,_⟩|⟨rfl,⟨_,rfl,_⟩|⟨_,h⟩⟩
     ·exact aQ x
     ·exact aQ y
     ·exact h.elim
    ·cases o;cases ho;show(do pure (.value (if←asBool (a.eval c) then a.eval x else a.eval y)):Sem Next).run E.P w=_;cases cb<;>simp[la,asBool]
  ·exact h.elim
 ·rename_i t ho;split at h
  ·rename_i zs aS hz;obtain⟨_,rfl,rfl⟩:=gy h;exact gA (Sh ok hM aS hz) (by cases o;cases ho;rfl) hn
  ·exact h.elim
 ·rename_i t x ho;split at h
  ·rename_i vs aS hv;obtain⟨_,rfl,rfl⟩:=gy h;exact gA (vIv ok hM aS (aQ x) hv _) (by cases o;cases ho;rfl) hn
  ·exact h.elim
 ·rename_i t parts ho;have hp:=SH aQ parts.toList;have:=vGl ok hM hp h;exact gA this (by cases o;cases ho;rw[←yWb];rfl) hn
 ·rename_i t n parts ho;have hp:=SH aQ parts.toList;exact gA (vZv ok hM hp h) (by cases o;cases ho;rw[←yWb];rfl) hn
 ·rename_i t x ho;exact gA (vNl ok hM (aQ x) h) (by cases o;cases ho;rfl) hn
 ·rename_i t x y ho;obtain⟨rfl,hr⟩:=vZ8 ok hM (aQ x) (aQ y) h;exact yEe hr (by cases o;cases ho;rfl) hn
 ·rename_i x ho;have hx:=aQ x;have key:∀c,ev x=.c c→v=.c c→u=[]→(match a.eval x with|.pointer none|.nilIface|.nilFunc=>False|.func (.method _) _ _=>False|_=>True)→o.wp E.P a w next Q:=by
   intro c hc hv hu hm;rw[hc] at hx;refine pn (rv:=a.eval x) ok hM hu (by rw[hv];exact hx) ?_ hn;cases o;cases ho;simp only[execOp];generalize a.eval x=r at*
   split<;>first|rfl|exact hm.elim
  split at h
  ·rename_i i j hc;obtain⟨rfl,rfl⟩:=wH h;refine key _ hc rfl rfl ?_;rw[hc] at hx;obtain⟨C,B,_,_,e⟩:=hx;rw[e];trivial
  ·rename_i i j k hc;obtain⟨rfl,rfl⟩:=wH h;refine key _ hc rfl rfl ?_;rw[hc] at hx;obtain⟨C,B,_,_,_,e⟩:=hx;rw[e];trivial
  ·rename_i i j k l hc;obtain⟨rfl,rfl⟩:=wH h;refine key _ hc rfl rfl ?_;rw[hc] at hx;obtain⟨B,o,e,_⟩:=hx;rw[e];trivial
  ·rename_i i j hc;obtain⟨rfl,rfl⟩:=wH h;refine key _ hc rfl rfl ?_;rw[hc] at hx;obtain⟨cv,e,_⟩:=hx;rw[e];trivial
  ·exact h.elim
 ·rename_i op t x y _ ho;cases hc:(Rh y&&Rg op) with
  |false=>
   rw[hc] at h;exact gA (vFf hE.eq ok hM (aQ x) (aQ y) h) (by cases o;cases ho;rfl) hn
  |true=>
   rw[hc] at h;rw[Bool.and_eq_true] at hc;have rJ:op=.eql∨op=.neq:=by cases op<;>first|(left;rfl)|(right;rfl)|(cases hc.2)
   split at h
   ·rename_i d cv hu la;split at h
    ·rename_i b hb;obtain⟨rfl,rfl⟩:=wH h;have hx:=aQ x;rw[la] at hx;have hy:a.eval y=y.lit:=by
      cases y<;>first|rfl|(cases hc.1)
     obtain⟨h1,h2⟩:=vLj (w:=w) hu hx hy hb op rJ x y;refine pn (rv:=.bool (qz op b)) ok hM rfl (show zT M (.c (.bool _)) (.bool _) from rfl) ?_ hn;cases o;cases ho;show(do pure (.value (←(do eqGuard op t x y (a.eval x) (a.eval y);binOp op t (a.eval x) (a.eval y)))):Sem Next).run E.P w=_;simp only[Sem.run_bind,h1,Result.andThen_ok,h2,Sem.run_pure]
    ·split at h
     ·rename_i n hln aaZ;obtain⟨lE,rfl,rfl⟩:=mz h;have hx:=aQ x;rw[la] at hx;obtain⟨a',k',hx⟩:=vU2 ok hx hln (by simpa using lE);obtain⟨h1,h2⟩:=vG2 (P:=E.P) (w:=w) (a:=a') (n:=n) (k:=k') hu op rJ x (.const (.slice none 0 0));have hy:a.eval (.const (.slice none 0 0))=.slice none 0 0:=rfl;refine pn (rv:=.bool (qz op false)) ok hM rfl (show zT M (.c (.bool _)) (.bool _) from rfl) ?_ hn;cases o;cases ho;show(do pure (.value (←(do eqGuard op t x (.const (.slice none 0 0)) (a.eval x) (a.eval (.const (.slice none 0 0)));binOp op t (a.eval x) (a.eval (.const (.slice none 0 0)))))):Sem Next).run E.P w=_;rw[hx,hy];simp only[Sem.run_bind,h1,Result.andThen_ok,h2,Sem.run_pure]
     ·exact h.elim
   ·exact h.elim
 ·rename_i op t x ho;exact gA (vZh ok hM (aQ x) h) (by cases o;cases ho;rfl) hn
 ·rename_i s d x ho;split at h
  ·rename_i k1 k k2 n hs hd hx;obtain⟨rfl,rfl⟩:=wH h;have lF:=aQ x;rw[hx] at lF;have lF:a.eval x=.int k2 n:=lF;refine pn (rv:=.int k (k.wrap n)) ok hM rfl (show zT M (.c (.int _ _)) (.int _ _) from rfl) ?_ hn;cases o;cases ho;show(do pure (.value (←convert s d (a.eval x))):Sem Next).run E.P w=_;simp[convert,run_underlying hs,run_underlying hd,lF,Conv.intToInt]
  ·rename_i e c hs hd hx;split at h
   ·rename_i xs he HS;obtain⟨rfl,rfl⟩:=wH h;have lF:=aQ x;rw[hx] at lF;obtain⟨A,n,k,e1,e2⟩:=vH2 (P:=E.P) (w:=w) ok lF HS hM;refine pn (rv:=.string ⟨(n9 xs).toArray⟩) ok hM rfl (show zT M (.c (.str xs)) _ from rfl) ?_ hn;cases o;cases ho;show(do pure (.value (←convert s d (a.eval x))):Sem Next).run E.P w=_;rw[e1] at e2⊢;simp only[Sem.run_bind,run_convert_bytes_string w s d e A n k hs he hd,e2,Result.andThen_ok,Sem.run_pure]
   ·exact h.elim
  ·exact h.elim
 ·rename_i f first captured ho
  cases hf:Nat.beq first.size 0 with
  |false=>rw[hf] at h;exact h.elim
  |true=>
   rw[hf] at h;simp only[cond_true] at h;split at h
   ·rename_i ids lG;obtain⟨rfl,rfl⟩:=wH h;have h0:first=#[]:=Array.eq_empty_of_size_eq_zero (by simpa using hf)
    refine pn (rv:=.func (.func f) #[] (captured.map a.eval)) ok hM rfl ?_ ?_ hn
    case refine_2=>
     cases o;cases ho;show(do pure (.value (←Instr.makeFunc (.func f) (first.map a.eval) (captured.map a.eval))):Sem Next).run E.P w=_;subst h0;simp[Instr.makeFunc]
    refine⟨_,rfl,?_⟩;rw[Array.toList_map];exact yCe aQ (HR _ _ _ lG)
   ·exact h.elim
 ·rename_i t l c ho;exact gA (vEe ok hM (aQ l) (aQ c) h) (by cases o;cases ho;rfl) hn
 ·rename_i t ho;exact gA (vT1 ok hM h) (by cases o;cases ho;rfl) hn
 ·rename_i t x i ho;exact gA (vR4 ok hM (aQ x) (aQ i) h) (by cases o;cases ho;rfl) hn
 ·rename_i t x i y ho;obtain⟨rfl,hr⟩:=vZo ok hM (aQ x) (aQ i) (aQ y) h;exact yEe hr (by cases o;cases ho;rfl) hn
 ·rename_i t x lo hi mx ho;have hO:∀y:Option Operand,CM M (y.map ev) (y.map a.eval):=fun y=>by
   cases y with
   |none=>trivial
   |some y=>exact aQ y
  exact gA (vO9 ok hM (aQ x) (hO lo) (hO hi) (hO mx) h) (by cases o;cases ho;rfl) hn
 ·rename_i t x f ho;exact gA (vN4 ok hM (aQ x) h) (by cases o;cases ho;rfl) hn
 ·rename_i t x f ho;exact gA (vXb ok hM (aQ x) h) (by cases o;cases ho;rfl) hn
 ·rename_i t x i ho;exact gA (vWh ok hM (aQ x) (aQ i) h) (by cases o;cases ho;rfl) hn
 ·rename_i t x i ho;exact gA (vT3 ok hM (aQ x) (aQ i) h) (by cases o;cases ho;rfl) hn
 ·rename_i t i ho;have ht:=aQ t;split at h
  ·rename_i xs HS;rw[HS] at ht;obtain⟨vs,dE,bn⟩:=ht;split at h
   ·rename_i g cs hi;obtain⟨hp,rfl⟩:=RB h;have hl:=bn.length;have bh:i<xs.length:=by
     rcases Nat.lt_or_ge i xs.length with h|h
     ·exact h
     ·rw[List.getElem?_eq_none h] at hi;cases hi
    have kl:i<vs.size:=by simp at hl;omega
    have hc:=bn.get i bh (by simpa using kl);rw[List.getElem?_eq_getElem bh,Option.some.injEq] at hi;rw[hi] at hc;refine pn (rv:=vs[i]) ok hM rfl ?_ ?_ hn
    ·rcases RG hp with⟨e1,rfl⟩|⟨e1,c,rfl,rfl⟩
     ·cases e1;exact hc
     ·cases e1;exact hc
    ·cases o;cases ho;show(do pure (.value (←Instr.extract (a.eval t) i)):Sem Next).run E.P w=_;rw[dE];simp[Instr.extract,kl]
   ·exact h.elim
  ·exact h.elim
 ·rename_i c ho;have cH:=yIy aQ c.args.toList;have exec:∀b,c.callee=.builtin b→∀s:Sem Value,(∀C,Go.builtin b c.argTypes o.type C (c.args.map a.eval)=(do pure (.value (←s)):Sem Next))→execOp a.eval o=(do pure (.value (←s)):Sem Next):=fun b hb s hs=>by
   cases o;cases ho;show(do let d←resolve a.eval c _;invoke d.target d.args:Sem Next)=_;unfold resolve;rw[hb];exact hs _
  have ky:c.args.map a.eval=(c.args.toList.map a.eval).toArray:=by cases c.args;simp
  split at h
  ·rename_i b kz;unfold Rt at h;split at h
   ·split at h
    case h_2=>exact h.elim
    rename_i x hx;have h1:∃rx,(c.args.toList.map a.eval).toArray=#[rx]∧zX M x rx:=by
     rw[hx] at cH
     match hl:c.args.toList.map a.eval,cH with
     |[rx],hh=>exact⟨rx,rfl,hh.1⟩
    obtain⟨rx,zn,lF⟩:=h1;split at h
    ·rename_i e hu;split at h
     ·rename_i n hlen;obtain⟨rfl,rfl⟩:=wH h;obtain⟨t,ht,hu⟩:=Option.bind_eq_some_iff.1 hu;obtain⟨A,k,rfl⟩:=vQo ok lF hlen;refine gA (s:=Builtin.len_ c.argTypes o.type (c.args.map a.eval)) ?_ (exec _ kz _ fun _=>rfl) hn;rw[ky,zn];exact .pure ok hM (vHw ht hu) rfl
     ·exact h.elim
    ·exact h.elim
   ·split at h
    case h_2=>exact h.elim
    rename_i b x hx;have h1:∃rb rx,(c.args.toList.map a.eval).toArray=#[rb,rx]∧zT M b rb∧zT M x rx:=by
     rw[hx] at cH
     match hl:c.args.toList.map a.eval,cH with
     |[rb,rx],hh=>exact⟨rb,rx,rfl,hh.1,hh.2.1⟩
    obtain⟨rb,rx,zn,SI,lF⟩:=h1;split at h
    ·rename_i t t' hts;obtain⟨htt,h'⟩:=zk h;have:t=t':=by simpa using htt
     subst this;refine gA (s:=Builtin.append_ c.argTypes o.type (c.args.map a.eval)) ?_ (exec _ kz _ fun _=>rfl) hn;have ht:c.argTypes=#[t,t]:=by
      have:=congrArg List.toArray hts
      simpa using this
     rw[ky,zn,ht];exact vWz ok hM SI lF h'
    ·exact h.elim
   ·split at h
    case h_2=>exact h.elim
    rename_i d s hx;have h1:∃rb rx,(c.args.toList.map a.eval).toArray=#[rb,rx]∧zT M d rb∧zT M s rx:=by
     rw[hx] at cH
     match hl:c.args.toList.map a.eval,cH with
     |[rb,rx],hh=>exact⟨rb,rx,rfl,hh.1,hh.2.1⟩
    obtain⟨rb,rx,zn,SI,lF⟩:=h1;split at h
    ·rename_i e hu;obtain⟨SJ,h⟩:=zk h;obtain⟨t,ht,hu⟩:=Option.bind_eq_some_iff.1 hu;refine gA (s:=Builtin.copy_ c.argTypes o.type (c.args.map a.eval)) ?_ (exec _ kz _ fun _=>rfl) hn;rw[ky,zn];exact vGh ok hM ht hu (by simpa using SJ) SI lF h
    ·exact h.elim
   ·split at h
    case h_2=>exact h.elim
    rename_i id lo n hx;have h1:∃rx,(c.args.toList.map a.eval).toArray=#[rx]∧zX M (.osl id (some (lo,n))) rx:=by
     rw[hx] at cH
     match hl:c.args.toList.map a.eval,cH with
     |[rx],hh=>exact⟨rx,rfl,hh.1⟩
    obtain⟨rx,zn,lF⟩:=h1;split at h
    ·rename_i t ht;refine gA (s:=Builtin.clear_ c.argTypes o.type (c.args.map a.eval)) ?_ (exec _ kz _ fun _=>rfl) hn;rw[ky,zn];obtain⟨rv,w',M',q1,q2⟩:=vW2 (T:=o.type) ok hM lF h;refine⟨rv,w',M',?_,q2⟩;have e:(Builtin.clear_ c.argTypes o.type #[rx]).run E.P w=(Builtin.clear_ #[t] o.type #[rx]).run E.P w:=by
      simp only[Builtin.clear_,ht];rfl
     rw[e];exact q1
    ·exact h.elim
   ·refine gA (s:=Builtin.max_ c.argTypes o.type (c.args.map a.eval)) ?_ (exec _ kz _ fun _=>rfl) hn;rw[ky];exact yE5 (lt:=false) (ts:=c.argTypes) (T:=o.type) ok hM cH h
   ·refine gA (s:=Builtin.min_ c.argTypes o.type (c.args.map a.eval)) ?_ (exec _ kz _ fun _=>rfl) hn;rw[ky];exact yE5 (lt:=true) (ts:=c.argTypes) (T:=o.type) ok hM cH h
   ·exact h.elim
  ·rename_i f kz;split at h
   ·rename_i SK cap hf;have hfv:=aQ f;rw[hf] at hfv;obtain⟨cv,la,HT⟩:=hfv;have bn:zL (zT M) (c.args.toList.map ev++cap.map fun id=>.c (.ptr id 0)) (c.args.map a.eval++cv).toList:=by
     rw[Array.toList_append,Array.toList_map];exact cH.append (zL.map_left HT)
    have tu:(execOp a.eval o).run E.P w=(callFunc SK (c.args.map a.eval++cv)).run E.P w:=by
     cases o;cases ho;show(do let d←resolve a.eval c _;invoke d.target d.args:Sem Next).run E.P w=_;unfold resolve;rw[kz];simp only[la,Deferred.ofValue,Sem.run_bind,Sem.run_pure,Result.andThen_ok,invoke,Array.empty_append]
    rcases hE.sums k _ SK _ M.h v u h M w _ rfl hM ok bn with⟨h1,h2⟩|⟨rv,w',M',h1,hB,hv⟩
    case inr=>
     unfold Oper.wp;rw[tu,h1];exact hn M' w' rv hB hv
    unfold Oper.wp;rw[tu,h1,Oper.upon_enter];refine Calls.mono h2 fun e w' he=>?_
    cases e with
    |returned rv=>
     obtain⟨M',hB,hv⟩:=he;exact hn M' w' rv hB hv
    |panicked _=>exact he.elim
    |outgrown=>exact he.elim
   ·exact h.elim
  ·exact h.elim
 ·exact h.elim
section
variable {P:Program} {h h':Hp}
theorem vVw {t a}(hh:∀id∈yN a,h id=h' id):Cf P h t a=Cf P h' t a:=by
 unfold Cf;cases a with
 |c v=>cases v<;>first|rfl|(have:=hh _ (List.mem_singleton.2 rfl);simp_all)
 |_=>rfl
theorem yJx {v}(hh:∀id∈vL v,h id=h' id):oc h v=oc h' v:=by
 unfold oc;cases v<;>first|rfl|(have:=hh _ (List.mem_singleton.2 rfl);simp_all)
theorem SM:∀{vs},(∀id∈vs.flatMap vL,h id=h' id)→nh h vs=nh h' vs
 |[],_=>rfl
 |v::vs,hh=>by
  simp  at hh;unfold nh;rw[yJx fun id hi=>hh id (.inl hi),SM (by grind)]
theorem yWt {v vs}(e:nZ v=some vs):vs.flatMap vL=yN v:=by
 unfold nZ at e;split at e
 ·cases e;simp[yN]
 ·cases e;rfl
 ·cases e
theorem vFt {t a v}(ha:∀id∈yN a,h id=h' id)(hv:∀id∈yN v,h id=h' id):Cg P h t a v=Cg P h' t a v:=by
 unfold Cg;cases e:nZ v with
 |none=>rfl
 |some vs=>
  have hf:nh h vs=nh h' vs:=SM (by rw[yWt e];exact hv);cases a with
  |c x=>
   cases x with
   |mptr id i=>
    have h1:=ha _ (List.mem_singleton.2 rfl);simp only[h1];generalize h' id=ob;rcases ob with _|(_|_|_|_|_|_|_)<;>first|rfl|skip
    all_goals cases v with
    |c y=>cases y with
     |osl jd r=>cases r with
      |none=>
       have h2:=hv _ (List.mem_singleton.2 rfl);simp_all
      |some _=>rfl
     |_=>rfl
    |_=>rfl
   |ptr id off=>
    have h1:=ha _ (List.mem_singleton.2 rfl);simp_all
   |eptr id i off=>
    have h1:=ha _ (List.mem_singleton.2 rfl);simp_all
   |meptr id i j ver=>
    have h1:=ha _ (List.mem_singleton.2 rfl);simp[h1]
   |_=>rfl
  |_=>rfl
theorem Mv {v}(hh:∀id∈vL v,h id=h' id):ki h v=ki h' v:=by
 unfold ki;cases v<;>first|rfl|(have:=hh _ (List.mem_singleton.2 rfl);simp_all)
theorem SN {v}(hh:∀id∈vL v,h id=h' id):Cc h v=Cc h' v:=by
 have e:=Mv hh;unfold Cc;grind
theorem vS9 {t x i}(hh:∀id∈yN x,h id=h' id):Ch P h t x i=Ch P h' t x i:=by
 unfold Ch;generalize P.underlying t=d;rcases d with _|d
 ·rfl
 ·cases d with
  |slice e=>
   cases x with
   |c v=>
    cases i with
    |c iv=>
     cases iv with
     |int k n=>cases v<;>first|rfl|(have:=hh _ (List.mem_singleton.2 rfl);simp_all)
     |_=>cases v<;>rfl
    |_=>rfl
   |_=>rfl
  |array n e=>
   grind
  |_=>rfl
theorem vR8 {nm t}(h0:h nm=h' nm):Cm P nm h t=Cm P nm h' t:=by
 unfold Cm;rw[h0]
theorem vRn {t x i}(hh:∀id∈yN x,h id=h' id):Cn P h t x i=Cn P h' t x i:=by
 unfold Cn;split
 ·rename_i id n;rw[hh id (by simp[yN,vL])]
 ·rfl
theorem vGr {t x i y}(hh:∀id∈yN x,h id=h' id):Co P h t x i y=Co P h' t x i y:=by
 unfold Co;split
 ·rename_i id n b;rw[hh id (by simp[yN,vL])]
 ·rfl
theorem SO {t x lo hi mx}(hh:∀id∈yN x,h id=h' id):Cp P h t x lo hi mx=Cp P h' t x lo hi mx:=by
 unfold Cp;split
 ·rfl
 ·rename_i id r _;rw[hh id (by simp[yN,vL])]
 ·rename_i id _;rw[hh id (by simp[yN,vL])]
 ·rename_i id off _;rw[hh id (by simp[yN,vL])]
 ·rfl
theorem vXq {v}(hh:∀id∈yN v,h id=h' id):yr h v=yr h' v:=by
 unfold yr;cases v with
 |c v=>cases v with
  |osl jd r=>cases r with
   |none=>
    have h2:=hh _ (List.mem_singleton.2 rfl);simp_all
   |some _=>rfl
  |_=>rfl
 |_=>rfl
theorem yFl:∀{parts rows},(∀id∈(parts.map (·.2)).flatMap yN,h id=h' id)→yt h rows parts=yt h' rows parts
 |[],_,_=>rfl
 |(i,v)::rest,rows,hh=>by
  simp only[List.map_cons,List.flatMap_cons,List.mem_append] at hh;unfold yt;rw[vXq fun id hi=>hh id (.inl hi)];cases yr h' v with
  |none=>rfl
  |some p=>simp[yFl fun id hi=>hh id (.inr hi)]
theorem yFd {t}:∀{parts xs},(∀id∈(parts.map (·.2)).flatMap yN,h id=h' id)→re h t xs parts=re h' t xs parts
 |[],_,_=>rfl
 |(i,v)::rest,xs,hh=>by
  simp only[List.map_cons,List.flatMap_cons,List.mem_append] at hh;unfold re;cases e:nZ v with
  |none=>rfl
  |some vs=>
   have hf:nh h vs=nh h' vs:=SM (by rw[yWt e];simp_all);simp[hf];cases nh h' vs with
   |none=>rfl
   |some p=>
    dsimp only;cases Hg t p.1 with
    |none=>rfl
    |some x=>simp[yFd fun id hi=>hh id (.inr hi)]
theorem vL3 {mat nm t n parts}(h0:h nm=h' nm)(hh:∀id∈(parts.map (·.2)).flatMap yN,h id=h' id):
  Ck P mat nm h t n parts=Ck P mat nm h' t n parts:=by
 have e':∀ty:Ty,re h ty (List.replicate n ty.dflt) parts=re h' ty (List.replicate n ty.dflt) parts:=fun ty=>yFd hh
 unfold Ck;rw[h0,yFl hh];simp_all
theorem vEr {mat nm t l c}(h0:h nm=h' nm):Cl P mat nm h t l c=Cl P mat nm h' t l c:=by
 unfold Cl;rw[h0]
theorem vN3 {t v}(hh:∀id∈vL v,h id=h' id):sZ h t v=sZ h' t v:=by
 unfold sZ;cases v with
 |osl id r=>
  have:=hh _ (List.mem_singleton.2 rfl);simp_all
 |_=>rfl
theorem vLv {mat:Bool}{nm:Nat}{t:TypeId}{b x:zW}(h0:h nm=h' nm)(hb:∀id∈yN b,h id=h' id)(hx:∀id∈yN x,h id=h' id):Cq P mat nm h t b x=Cq P mat nm h' t b x:=by
 unfold Cq;rw[h0];generalize P.underlying t=d;rcases d with _|d
 ·rfl
 cases d with
 |slice e=>
  generalize h' nm=on;cases on with
  |some _=>rfl
  |none=>
   cases b with
   |c b=>
    cases x with
    |c x=>
     have ht:∀ty,sZ h ty x=sZ h' ty x:=fun ty=>vN3 hx
     simp only[ht];cases b with
     |osl id r=>
      have h1:=hb _ (List.mem_singleton.2 rfl);simp only[h1];cases x with
      |osl jd r2=>
       have h2:=hx _ (List.mem_singleton.2 rfl);grind
      |_=>cases mat with
       |false=>rfl
       |true=>
        generalize kh P e=et;rcases et with _|(_|_|_|_)<;>first|rfl|skip
        rename_i t2;cases t2<;>first|rfl|skip
        rename_i k;cases k<;>cases r<;>rfl
     |_=>cases mat with
      |false=>rfl
      |true=>
       generalize kh P e=et;rcases et with _|(_|_|_|_)<;>first|rfl|skip
       rename_i t2;cases t2<;>first|rfl|skip
       rename_i k;cases k<;>rfl
    |_=>rfl
   |_=>rfl
 |_=>rfl
theorem vV6 {d s}(hd:∀id∈yN d,h id=h' id)(hs:∀id∈yN s,h id=h' id):Cr h d s=Cr h' d s:=by
 unfold Cr;cases d with
 |c d=>
  cases s with
  |c s=>
   cases d with
   |bsl id off n=>
    have h1:=hd _ (List.mem_singleton.2 rfl);have h2:ki h s=ki h' s:=Mv hs;grind
   |_=>rfl
  |_=>simp
 |_=>rfl
end
theorem vOf {E}{A}{k pre}{o}{ev tF}{h}(he:∀x∈o.op.operands,ev x=tF x):kW E A k pre o ev h=kW E A k pre o tF h:=by
 obtain⟨dst,op,type,pos,after,guard⟩:=o;have fz:∀ps:Array (Nat×Operand),(∀x∈ps.map (·.2),ev x=tF x)→(ps.toList.map fun p=>(p.1,ev p.2))=(ps.toList.map fun p=>(p.1,tF p.2)):=fun ps hp=>
  List.map_congr_left (by grind)
 have maps:∀xs:Array Operand,(∀x∈xs,ev x=tF x)→xs.toList.map ev=xs.toList.map tF:=by simp
 cases op<;>simp only[Op.operands] at he<;>simp only[kW]
 case build t ps=>rw[fz ps fun x hx=>he x (by simpa using hx)]
 case buildSlice t n ps=>rw[fz ps fun x hx=>he x (by simpa using hx)]
 case makeFunc fn first captured=>
  cases fn<;>first|rfl|skip
  have:captured.toList.mapM (fun x=>u9 (ev x))=captured.toList.mapM (fun x=>u9 (tF x)):=by
   have h2:∀l:List Operand,(∀x∈l,ev x=tF x)→l.mapM (fun x=>u9 (ev x))=l.mapM (fun x=>u9 (tF x)):=fun l=>by
    induction l with
    |nil=>exact fun _=>rfl
    |cons y l ih=>simp_all
   exact by grind
  simp only[this]
 case call c=>
  obtain⟨callee,args,ats⟩:=c;have ha:=maps args fun x hx=>he x (by simp[Call.operands,hx])
  cases callee with
  |value f=>
   have hf:=he f (by simp[Call.operands]);simp only[hf,ha]
  |builtin b=>simp only[ha]
  |invoke _ _=>rfl
 case makeMap t r=>cases r<;>rfl
 case lookup t x i ok=>cases ok<;>simp_all
 case slice t x lo hi mx=>
  have h1:=he x (by simp);cases lo<;>cases hi<;>cases mx<;>simp_all
 all_goals (first|rfl|(simp only[he _ (by simp:_∈#[_])];done)|(simp_all;done))
def jt (S:LF):Prop:=∀k nm f (args:List zW) h h',(args.any wQ=false→∀id,(id∈args.flatMap yN∨nj nm id=true)→h id=h' id)→(args.any wQ=true→h=h')→S k nm f args h=S k nm f args h'
theorem vCq nm:nj nm nm=true:=by
 simp[nj]
theorem vT8 {E}(hS:jt E.sums){A k pre o ev h h'}
  (hh:match rj ev o with|none=>h=h'|some l=>∀id,(id∈l∨nj (rf pre o.dst) id=true)→h id=h' id):kW E A k pre o ev h=kW E A k pre o ev h':=by
 have full:h=h'→kW E A k pre o ev h=kW E A k pre o ev h':=fun e=>by rw[e]
 unfold rj at hh;dsimp only at hh;cases hq:yTs o.op with
 |true=>
  obtain⟨dst,op,type,pos,after,guard⟩:=o;cases op<;>first|rfl|cases hq
 |false=>
 rw[hq] at hh;simp only[cond_false] at hh;cases hc:(Ru o.op&&(o.op.operands.toList.map ev).any wQ) with
 |true=>rw[hc] at hh;exact full hh
 |false=>
  rw[hc] at hh;replace hh:∀id,(id∈(o.op.operands.toList.map ev).flatMap yN∨nj (rf pre o.dst) id=true)→h id=h' id:=hh;have h0:h (rf pre o.dst)=h' (rf pre o.dst):=hh _ (.inr (vCq _));have hx:∀x∈o.op.operands,∀id∈yN (ev x),h id=h' id:=by grind
  obtain⟨dst,op,type,pos,after,guard⟩:=o;dsimp only at h0 hx hc;cases op<;>simp only[Op.operands] at hx<;>simp only[kW]
  case alloc t=>rw[h0]
  case box t x=>rw[h0]
  case buildSlice t n ps=>
   exact vL3 h0 (by grind)
  case load t x=>exact vVw (hx x (by simp))
  case store t x y=>exact vFt (hx x (by simp)) (hx y (by simp))
  case makeSlice t l c=>exact vEr h0
  case slice t x lo hi mx=>exact SO (hx x (by simp))
  case makeMap t r=>cases r<;>first|rfl|exact vR8 h0
  case lookup t x i ok=>cases ok<;>first|rfl|exact vRn (hx x (by simp))
  case mapUpdate t x i y=>exact vGr (hx x (by simp))
  case indexAddr t x i=>exact vS9 (hx x (by simp))
  case binOp op t x y p=>
   have hx:=hx x (by simp);have hl:∀v,ev x=.c v→Cd h v=Cd h' v:=fun v e=>by
    cases v with
    |osl id r=>cases r with
     |none=>simp only[Cd,hx id (by rw[e];simp[yN,vL])]
     |some p=>rfl
    |_=>rfl
   split
   ·cases Rh y&&Rg op with
    |false=>rfl
    |true=>
     rename_i d v hu hv;simp only[hl v hv]
   ·rfl
  case convert s d x=>
   have hx:=hx x (by simp);have hs:∀v,ev x=.c v→Cb h v=Cb h' v:=fun v e=>by
    have:=Mv (h:=h) (h':=h') (v:=v) fun id an=>hx id (by rw[e];exact an)
    unfold Cb;cases v<;>first|rfl|simp only[this]
   split
   ·rfl
   ·rename_i e c _ _ hc;rw[hs c hc]
   ·rfl
  case call c=>
   obtain⟨callee,args,ats⟩:=c;have ha:∀v∈args.toList.map ev,∀id∈yN v,h id=h' id:=fun v hv=>by
    obtain⟨x,zo,rfl⟩:=List.mem_map.1 hv;exact hx x (by simp at zo;simp[Call.operands,zo])
   cases callee with
   |value f=>
    dsimp only;cases hf:ev f with
    |c fv=>cases fv with
     |fn SK cap=>
      dsimp only;simp only[Ru,Bool.true_and] at hc;have iD:cap=[]:=by
       have hm:ev f∈(Op.call ⟨.value f,args,ats⟩).operands.toList.map ev:=List.mem_map_of_mem (by simp[Op.operands,Call.operands]);have:=List.any_eq_false.1 hc _ hm;rw[hf] at this
       simpa[wQ] using this
      subst iD;simp only[List.map_nil,List.append_nil];have hb:(args.toList.map ev).any wQ=false:=by
       refine List.any_eq_false.2 fun v hv=>?_
       obtain⟨x,zo,rfl⟩:=List.mem_map.1 hv;exact List.any_eq_false.1 hc _ (List.mem_map_of_mem (by simp at zo;simp[Op.operands,Call.operands,zo]))
      refine hS _ _ _ _ _ _ (fun _ id an=>?_) fun ht=>?_
      ·rcases an with an|an
       ·obtain⟨v,hv,an⟩:=List.mem_flatMap.1 an;exact ha v hv id an
       ·exact hh id (.inr an)
      ·rw[hb] at ht;cases ht
     |_=>rfl
    |_=>rfl
   |invoke _ _=>rfl
   |builtin b=>
    generalize hl:args.toList.map ev=l at ha;unfold Rt;cases b<;>first|rfl|skip
    case len=>
     match l,ha with
     |[],_=>rfl
     |[v],ha=>cases v with
      |c v=>
       have:=SN (ha (.c v) (by simp));simp only[this]
      |_=>rfl
     |v::_::_,_=>cases v<;>rfl
    case append=>
     match l,ha with
     |[],_|[_],_|_::_::_::_,_=>rfl
     |[b,x],ha=>
      have:=fun mat t=>vLv (P:=E.P) (mat:=mat) (t:=t) h0 (ha b (by simp)) (ha x (by simp))
      simp only[this]
    case clear=>
     match l,ha with
     |[],_=>rfl
     |[v],ha=>cases v with
      |c v=>cases v with
       |osl id r=>cases r with
        |none=>rfl
        |some p=>
         have e:=ha (.c (.osl id (some p))) (by simp) id (by simp[yN,vL]);dsimp only;split
         ·unfold LC;rw[e]
         ·rfl
       |_=>rfl
      |_=>rfl
     |v::_::_,_=>cases v with
      |c v=>cases v with
       |osl id r=>cases r<;>rfl
       |_=>rfl
      |_=>rfl
    case copy=>
     match l,ha with
     |[],_|[_],_|_::_::_::_,_=>rfl
     |[b,x],ha=>
      have:=vV6 (ha b (by simp)) (ha x (by simp));simp only[this]
  case makeFunc fn first captured=>cases fn<;>rfl
  all_goals rfl
end Go.Ab
set_option linter.unusedSectionVars false
namespace Go.Ab
structure ju (M M':zK):Prop where
 F:∀b,M.F b→M'.F b
 G:∀b,M.G b→M'.G b
 same:∀b,M.F b→M'.H[b]? =M.H[b]?
 sameG:∀b,M.G b→M'.H[b]? =M.H[b]?
 bsz:∀b,b<M.H.size→qT M'.H b=qT M.H b
 size:M.H.size≤M'.H.size
 frame:∀b,b<M.H.size→¬qM M b→M'.H[b]? =M.H[b]?
 own:∀b,qM M' b→b<M.H.size→qM M b
 Gb:∀b,M'.G b→b<M.H.size→M.G b∨qM M b
 Fb:∀b,M'.F b→b<M.H.size→M.F b∨qM M b
theorem vC.grow {M M'}(s:vC M M'):ju M M':=⟨s.ext.F,s.ext.G,s.ext.same,s.ext.sameG,s.ext.bsz,s.size,s.frame,s.own,s.Gb,s.Fb⟩
theorem ju.trans {M M' my}(x:ju M M')(y:ju M' my):ju M my where
 F b h:=y.F b (x.F b h)
 G b h:=y.G b (x.G b h)
 same b h:=(y.same b (x.F b h)).trans (x.same b h)
 sameG b h:=(y.sameG b (x.G b h)).trans (x.sameG b h)
 bsz b h:=(y.bsz b (by have:=x.size;omega)).trans (x.bsz b h)
 size:=Nat.le_trans x.size y.size
 frame b h hn:=by
  have:=x.size;rw[y.frame b (by omega) fun ho=>hn (x.own b ho h),x.frame b h hn]
 own b ho h:=x.own b (y.own b ho (by have:=x.size;omega)) h
 Gb b hg h:=by
  rcases y.Gb b hg (by have:=x.size;omega) with k|k
  ·exact x.Gb b k h
  ·exact .inr (x.own b k h)
 Fb b hg h:=by
  rcases y.Fb b hg (by have:=x.size;omega) with k|k
  ·exact x.Fb b k h
  ·exact .inr (x.own b k h)
def fF (M M':zK):Prop:=∀id C,M.κ id=some C→∃C',M'.κ id=some C'∧C'.blk=C.blk
structure tG (nl:Bool) (M M':zK):Prop where
 g:ju M M'
 k:nl=true→fF M M'
theorem tG.step {nl M M' my}(x:tG nl M M')(s:vC M' my):tG nl M my:=
 ⟨x.g.trans s.grow,fun h id C hC=>by
  obtain⟨C1,h1,e1⟩:=x.k h id C hC;obtain⟨C2,h2,le⟩:=s.ext.κ id C1 h1;exact⟨C2,h2,le.blk.trans e1⟩⟩
theorem tG.trans {M M' my}(x:tG false M M')(y:ju M' my):tG false M my:=⟨x.g.trans y,by simp⟩
structure vV (nl:Bool) (na nt:Nat) (a0:Nat→Value) (M0:zK) (w0:World) (st:St) (a:Act) (w:World):Prop where
 ex:∃M:zK,M.h=st.h∧M.H=w.heap∧Ok M∧tG nl M0 M∧∀t,zT M (st.t t) (a.tmps.getD t undef)
 defers:a.defers=[]
 size:a.tmps.size=nt
 os:w.os=w0.os
 tape:w.tape=w0.tape
 output:w.output=w0.output
 keep:∀t,t<na→a.tmps.getD t undef=a0 t
theorem yNg {M}{st:St}{a:Act}(h:∀t,zT M (st.t t) (a.tmps.getD t undef)) x:zT M (st.ev x) (a.eval x):=by
 cases x with
 |tmp t=>exact h t
 |const v=>exact vJ6 M v
 |global g=>trivial
 |func f=>exact⟨#[],rfl,trivial⟩
theorem SP {t s v}(h:t s=v):jS t s v=t:=by
 funext n;unfold jS;cases e:Nat.beq n s with
 |false=>rfl
 |true=>
  simp_all
def C3 (ops:Array Oper)(o:Oper)(st:St):Option Bool:=match o.guard with
 |none=>some true
 |some (j,want)=>match LL ops j with
  |none=>none
  |some s=>match st.t s with
   |.c (.bool b)=>some (b==want)
   |.skp=>some false
   |_=>none
theorem yDs {R ops o st yes no}{out:R}(h:LM ops o st yes no=some out):
  ∃b,C3 ops o st=some b∧(if b=true then yes st else no st)=some out:=by
 unfold LM at h;unfold C3;cases hg:o.guard with
 |none=>simp_all
 |some p=>
  obtain⟨j,want⟩:=p;rw[hg] at h;dsimp only at h⊢;cases hs:LL ops j with
  |none=>simp_all
  |some s=>
   rw[hs] at h;dsimp only at h⊢;split at h
   ·rename_i b hb;rw[hb];refine⟨b==want,rfl,?_⟩;cases b with
    |true=>
     simp[SP hb] at h;cases want<;>exact h
    |false=>
     simp[SP hb] at h;cases want<;>exact h
   all_goals simp_all
theorem getD_some {a:Array Value}{s v}(h:a.getD s undef=v)(hv:v≠undef):a[s]? =some v:=by
 by_cases hs:s<a.size
 all_goals simp_all
theorem yC0 {ops o st b nl na nt a0 M0 w0 w a}(h:C3 ops o st=some b)(R:vV nl na nt a0 M0 w0 st a w):Region.wanted o (yielded ops a.tmps)=b:=by
 obtain⟨M,_,_,_,_,ht⟩:=R.ex;unfold C3 at h;unfold Region.wanted;split at h
 ·simp_all
 ·rename_i j want hg;rw[hg];split at h
  ·cases h
  ·rename_i s hs;have hv:=ht s;have rK:(ops[j]?).bind (·.dst)=some s:=hs;split at h
   ·rename_i b' hb;cases h;rw[hb] at hv;have:=getD_some hv (by nofun);simp only[yielded,rK,Option.bind_some,this];rfl
   ·rename_i hb;cases h;rw[hb] at hv;have hv:a.tmps.getD s undef=undef:=hv;have:∀x:Option Value,(x=none∨x=some undef)→((match x with|some (.bool b)=>some b|_=>none:Option Bool)==some want)=false:=fun x hx=>by
     rcases hx with rfl|rfl<;>cases want<;>rfl
    refine this _ ?_;by_cases bh:s<a.tmps.size
    all_goals simp_all
   ·cases h
theorem tD.rel {nl na nt a0 M0 M M' w0 w w' st a dst v u rv}(R:vV nl na nt a0 M0 w0 st a w)(hh:M.h=st.h)(hs:tG nl M0 M)(ht:∀t,zT M (st.t t) (a.tmps.getD t undef))
  (hd:∀d,dst=some d→na≤d∧d<nt) (hB:tD M w u M' w') (hv:zT M' v rv):vV nl na nt a0 M0 w0 {t:=jm st.t dst v,h:=qH st.h u} (a.put dst rv) w' where
 ex:=by
  refine⟨M',by rw[hB.h,hh],hB.H,hB.ok,hs.step hB.step,fun t=>?_⟩;cases dst with
  |none=>exact(ht t).ext hB.step.ext
  |some d=>
   show zT M' (jS st.t d v t) ((a.tmps.setIfInBounds d rv).getD t undef);have bh:d<a.tmps.size:=by rw[R.size];simp_all
   unfold jS;cases e:Nat.beq t d with
   |true=>
    simp_all
   |false=>
    have e:t≠d:=fun e'=>by simp_all
    have:=(ht t).ext hB.step.ext;simp[Array.getElem?_setIfInBounds_ne (Ne.symm e)] at this⊢;exact this
 defers:=by cases dst<;>exact R.defers
 size:=by cases dst<;>simp[Act.put,R.size]
 os:=hB.os.trans R.os
 tape:=hB.tape.trans R.tape
 output:=hB.output.trans R.output
 keep t h:=by
  cases dst with
  |none=>exact R.keep t h
  |some d=>
   have bm:d≠t:=by grind
   rw[←R.keep t h];simp[Act.put,Array.getElem?_setIfInBounds_ne bm]
theorem vV.skip {nl na nt a0 M0 w0 w st a dst}(hd:∀d,dst=some d→na≤d)(R:vV nl na nt a0 M0 w0 st a w):vV nl na nt a0 M0 w0 {st with t:=jm st.t dst .skp} (a.put dst undef) w where
 ex:=by
  obtain⟨M,h1,h2,h3,h4,ht⟩:=R.ex;refine⟨M,h1,h2,h3,h4,fun t=>?_⟩;cases dst with
  |none=>exact ht t
  |some d=>
   show zT M (jS st.t d .skp t) ((a.tmps.setIfInBounds d undef).getD t undef);unfold jS;cases e:Nat.beq t d with
   |true=>
    have e:t=d:=by simp_all
    subst e;show(a.tmps.setIfInBounds t undef).getD t undef=undef;simp
   |false=>
    have e:t≠d:=fun e'=>by simp_all
    have:=ht t;simp[Array.getElem?_setIfInBounds_ne (Ne.symm e)] at this⊢;exact this
 defers:=by cases dst<;>exact R.defers
 size:=by cases dst<;>simp[Act.put,R.size]
 os:=R.os
 tape:=R.tape
 output:=R.output
 keep t h:=by
  cases dst with
  |none=>exact R.keep t h
  |some d=>
   have bm:d≠t:=by grind
   rw[←R.keep t h];simp[Act.put,Array.getElem?_setIfInBounds_ne bm]
section
variable {E:Env} {A:zZ} {nl:Bool} {k pre na nt:Nat} {a0:Nat→Value} {R:Type} {M0:zK} {w0:World} {Q:Exit→Act→World→Prop}
theorem vV.op (hE:gd E){st a w}{o:Oper}{v u next}(r:vV nl na nt a0 M0 w0 st a w)(hd:∀d,o.dst=some d→na≤d∧d<nt)(hy:yI (kW E A k pre o st.ev st.h) v u)
  (hn:∀a' w',vV nl na nt a0 M0 w0 {t:=jm st.t o.dst v,h:=qH st.h u} a' w'→next a' w'):o.wp E.P a w next Q:=by
 obtain⟨M,h1,h2,h3,h4,ht⟩:=r.ex;rw[←h1] at hy;exact vW0 hE h3 h2 (yNg ht) hy fun M' w' rv hB hv=>hn _ _ (hB.rel r h1 h4 ht hd hv)
theorem SQ (hE:gd E){dst}(h:vd na nt dst=true):∀d,dst=some d→na≤d∧d<nt:=fun d hd=>by
 simp[vd] at h;simp_all
theorem yN0 (hE:gd E){o st K}{out:R}(h:LK E A k pre na nt o st K=some out):
  (∀d,o.dst=some d→na≤d∧d<nt)∧∃v u,yI (kW E A k pre o st.ev st.h) v u∧K v u {t:=jm st.t o.dst v,h:=qH st.h u}=some out:=by
 unfold LK at h;cases hc:vd na nt o.dst with
 |false=>simp_all
 |true=>
  rw[hc] at h;exact⟨SQ hE hc,yQ.elim_some h⟩
theorem yBz (hE:gd E){ops}:∀l st K (out:R) a w,(∀p∈l,ops[p.1]? =some p.2)→LN E A k pre na nt ops l st K=some out→vV nl na nt a0 M0 w0 st a w→
  (∀bK a' w',vV nl na nt a0 M0 w0 bK a' w'→K bK=some out→Q .normal a' w')→wpOps E.P ops Q (l.map (·.1)) a w
 |[],st,K,out,a,w,_,h,r,hK=>hK st a w r h
 |(i,o)::rest,st,K,out,a,w,hl,h,r,hK=>by
  have ho:ops[i]? =some o:=hl (i,o) (by simp);have ih:=fun st K out a w=>yBz hE rest st K out a w fun p hp=>hl p (by grind)
  obtain⟨b,hb,h⟩:=yDs h;have hw:=yC0 hb r;simp[wpOps,ho];cases b with
  |true=>
   rw[if_pos rfl] at h;rw[if_pos hw];obtain⟨hd,v,u,hy,h⟩:=yN0 hE h;exact .inl (vV.op hE r hd hy (by grind))
  |false=>
   rw[if_neg (by simp[hw])];cases hc:vd na nt o.dst with
   |false=>simp_all
   |true=>
    rw[hc] at h;exact ih _ _ _ _ _ h (r.skip fun d hd=>(SQ hE hc d hd).1) hK
end
def C4 (o:Oper)(acc:Array Nat):Nat:=o.after.foldl (fun s e=>if Region.binds .any e then s|||2^e.on|||acc.getD e.on 0 else s) 0
theorem yKu (acc:Array Nat) i:∀(l:List Edge) s,(l.foldl (fun s e=>if Region.binds .any e then s|||2^e.on|||acc.getD e.on 0 else s) s).testBit i=true→
  s.testBit i=true∨∃e∈l,Region.binds .any e=true∧(e.on=i∨(acc.getD e.on 0).testBit i=true)
 |[],s,h=>.inl h
 |e::l,s,h=>by
  rcases yKu acc i l _ h with h|⟨e',he,h⟩
  all_goals grind
def HU (ops:Array Oper)(acc:Array Nat):Prop:=∀j,j<acc.size→∀i,(acc.getD j 0).testBit i=true→∃o,ops[j]? =some o∧∃e∈o.after.toList,Region.binds .any e=true∧(e.on=i∨(e.on<j∧(acc.getD e.on 0).testBit i=true))
theorem vJi {ops acc o}(h:HU ops acc)(ho:ops[acc.size]? =some o):HU ops (acc.push (C4 o acc)):=by
 have old:∀j,j<acc.size→(acc.push (C4 o acc)).getD j 0=acc.getD j 0:=fun j hj=>by
  simp[Array.getElem?_push,Nat.ne_of_lt hj]
 intro j hj i hb;simp  at hj;by_cases bh:j<acc.size
 ·rw[old j bh] at hb;obtain⟨o',h1,e,h2,h3,h4⟩:=h j bh i hb;grind
 ·have e:j=acc.size:=by omega
  subst e;rw[show(acc.push (C4 o acc)).getD acc.size 0=C4 o acc by simp] at hb;unfold C4 at hb;rw[←Array.foldl_toList] at hb;rcases yKu acc i _ _ hb with hb|⟨e,h2,h3,h4⟩
  all_goals grind
theorem vDg ops:HU ops (Region.before ops):=by
 have key:∀(l:List Oper) (acc:Array Nat),HU ops acc→(∀m (hm:m<l.length),ops[acc.size+m]? =some l[m])→
   HU ops (l.foldl (fun acc o=>acc.push (C4 o acc)) acc):=by
  intro l
  induction l with
  |nil=>simp
  |cons o l ih=>
   intro acc h ho;refine ih _ (vJi h (ho 0 (by simp))) fun m hm=>?_
   have:=ho (m+1) (by simp;omega);grind
 have:=key ops.toList #[] (nofun) (by simp);unfold Region.before;rw[←Array.foldl_toList];exact this
theorem yBd {ops i j}(h:nk (Region.before ops) i j=true):∃o,ops[j]? =some o∧∃e∈o.after.toList,Region.binds .any e=true∧(e.on=i∨(e.on<j∧nk (Region.before ops) i e.on=true)):=by
 unfold nk at h;by_cases hj:j<(Region.before ops).size
 ·exact vDg ops j hj i h
 simp_all
def HV (ops:Array Oper)(S:Nat→Bool):Prop:=∀j o,S j=true→ops[j]? =some o→∀e∈o.after.toList,Region.binds .any e=true→S e.on=true
theorem yU6 {ops S}(hS:HV ops S){i}:∀n j,j=n→nk (Region.before ops) i j=true→S j=true→S i=true:=by
 intro n
 induction n using Nat.strongRecOn with
 |_ n ih=>
  intro j hj h hs;obtain⟨o,ho,e,he,hb,h⟩:=yBd h;have hse:=hS j o hs ho e he hb;grind
theorem SR {ops S}(hS:HV ops S){i j}(h:nk (Region.before ops) i j=true)(hr:∀o,ops[j]? =some o→∀e∈o.after.toList,Region.binds .any e=true→S e.on=true):S i=true:=by
 obtain⟨o,ho,e,he,hb,h⟩:=yBd h;have hse:=hr o ho e he hb;rcases h with h|⟨h,hi⟩
 ·simp_all
 ·exact yU6 hS _ _ rfl hi hse
structure It where
 i:Nat
 o:Oper
 v:zW
 u:vG
 r:Option (List Nat)
 wt:Bool
def It.dn (pre:Nat)(it:It):Cu:=⟨it.i,rf pre it.o.dst,eL it.u,it.r⟩
def app (st:St)(it:It):St:={t:=jm st.t it.o.dst it.v,h:=qH st.h it.u}
section
variable (E:Env) (A:zZ) (k pre na nt:Nat) (ops:Array Oper)
structure kA (st:St) (it:It):Prop where
 w:C3 ops it.o st=some it.wt
 y:it.wt=true→(∀d,it.o.dst=some d→na≤d∧d<nt)∧yI (kW E A k pre it.o st.ev st.h) it.v it.u∧it.r=rj st.ev it.o
 n:it.wt=false→it.v=.skp∧it.u=[]∧∀d,it.o.dst=some d→na≤d∧d<nt
def SS (b:Array Nat)(x y:It):Prop:=nk b x.i y.i=true∨(tf ops x.i y.i=true∧(x.wt=true→y.wt=true→td (x.dn pre) (y.dn pre)=false))
end
section
variable {E:Env} {A:zZ} {k pre na nt:Nat} {R:Type} {ops:Array Oper} {b:Array Nat}
theorem SU (hE:gd E):∀rest done st K (out:R),Cv E A k pre na nt ops b rest done st K=some out→
  ∃dL:List It,dL.map (fun it=>(it.i,it.o))=rest∧K (dL.foldl app st)=some out∧(∀bU it post,dL=bU++it::post→kA E A k pre na nt ops (bU.foldl app st) it)∧
   (∀d∈done,∀it∈dL,nk b d.i it.i=true∨(tf ops d.i it.i=true∧(it.wt=true→td d (it.dn pre)=false)))∧dL.Pairwise (SS pre ops b)
 |[],done,st,K,out,h=>⟨[],rfl,h,by simp,by simp,.nil⟩
 |(i,o)::rest,done,st,K,out,h=>by
  unfold Cv at h;generalize hc:(done.all fun d=>nk b d.i i||tf ops d.i i)=c at h;cases c with
  |false=>cases h
  |true=>
   have rL:∀d∈done,nk b d.i i=true∨tf ops d.i i=true:=by grind
   rw[cond_true] at h;obtain⟨bw,hb,h⟩:=yDs h;cases bw with
   |true=>
    rw[if_pos rfl] at h;obtain⟨hd,v,u,hy,h⟩:=yN0 hE h;dsimp only at h;generalize cL:(done.all fun d=>nk b d.i i|| !td d ⟨i,rf pre o.dst,eL u,rj st.ev o⟩)=c2 at h;cases c2 with
    |false=>simp_all
    |true=>
     rw[cond_true] at h;have CP:∀d∈done,nk b d.i i=true∨td d ⟨i,rf pre o.dst,eL u,rj st.ev o⟩=false:=by grind
     obtain⟨dL,h1,h2,h3,h4,h5⟩:=SU hE rest _ _ K out h;let it:It:=⟨i,o,v,u,rj st.ev o,true⟩;refine⟨it::dL,by grind,h2,fun bU HW post e=>?_,fun d vt HW oC=>?_,?_⟩
     ·cases bU with
      |nil=>
       obtain⟨rfl,rfl⟩:=e;exact⟨hb,by grind,by simp⟩
      |cons p bU=>
       simp only[List.cons_append,List.cons.injEq] at e;obtain⟨rfl,e⟩:=e;exact h3 bU HW post e
     ·rcases List.mem_cons.1 oC with rfl|oC
      ·rcases rL d vt with h|h
       ·grind
       ·rcases CP d vt with h'|h'
        ·grind
        ·exact .inr ⟨h,fun _=>h'⟩
      simp_all
     ·refine List.pairwise_cons.2 ⟨fun y zp=>?_,h5⟩;rcases h4 (it.dn pre) (List.mem_cons_self ..) y zp with h|⟨h,h'⟩
      ·exact .inl h
      ·exact .inr ⟨h,by grind⟩
   |false=>
    rw[if_neg (by simp)] at h;have tH:vd na nt o.dst=true:=by
     grind
    rw[tH] at h;rw[cond_true] at h;obtain⟨dL,h1,h2,h3,h4,h5⟩:=SU hE rest _ _ K out h;let it:It:=⟨i,o,.skp,[],some [],false⟩;refine⟨it::dL,by grind,h2,fun bU HW post e=>?_,fun d vt HW oC=>?_,?_⟩
    ·cases bU with
     |nil=>
      obtain⟨rfl,rfl⟩:=e;exact⟨hb,by simp,fun _=>⟨rfl,rfl,SQ hE tH⟩⟩
     |cons p bU=>
      simp  at e;obtain⟨rfl,e⟩:=e;exact h3 bU HW post e
    ·grind
    ·refine List.pairwise_cons.2 ⟨fun y zp=>?_,h5⟩;rcases h4 (it.dn pre) (List.mem_cons_self ..) y zp with h|⟨h,h'⟩
     ·exact .inl h
     ·exact .inr ⟨h,by simp⟩
end
theorem yA2 {t t' d v x}(h:t x=t' x):jm t d v x=jm t' d v x:=by
 cases d with
 |none=>exact h
 |some d=>
  show jS t d v x=jS t' d v x;unfold jS;simp_all
theorem Mw {t d v x}(h:d≠some x):jm t d v x=t x:=by
 cases d with
 |none=>rfl
 |some d=>
  show jS t d v x=_;unfold jS;cases e:Nat.beq x d with
  |false=>rfl
  |true=>simp_all
theorem vYh {t t' v x}:jm t (some x) v x=jm t' (some x) v x:=by
 show jS t x v x=jS t' x v x;unfold jS;simp
theorem vLl {t d e v u}(h:∀x,d=some x→e≠some x):jm (jm t d v) e u=jm (jm t e u) d v:=by
 funext x;by_cases hd:d=some x
 ·subst hd;rw[Mw (h x rfl)];exact vYh
 ·rw[Mw hd];exact yA2 (Mw hd)
theorem zq {n}:∀{u h h'},h n=h' n→qH h u n=qH h' u n
 |[],_,_,e=>e
 | (id, o) :: u, h, h', e => zq (u := u) (by
   by_cases hn:n=id
   ·subst hn;rw[yK,yK]
   ·rw[yO _ _ hn,yO _ _ hn];exact e)
theorem yUr {n}:∀{u h h'},n∈eL u→qH h u n=qH h' u n
 |(id,o)::u,h,h',hm=>by
  by_cases hu:n∈eL u
  ·exact yUr (u:=u) hu
  ·have e:n=id:=by
    simp[eL] at hm hu;simp_all
   subst e;exact zq (u:=u) (by rw[yK,yK])
theorem vY5 {u v h}(hd:∀a∈eL u,a∉eL v):qH (qH h u) v=qH (qH h v) u:=by
 funext n;by_cases hu:n∈eL u
 ·rw[CV (hd n hu)];exact yUr hu
 ·rw[CV (u:=u) (h:=qH h v) hu];exact zq (CV hu)
theorem vR0 {st x y}(hd:∀t,x.o.dst=some t→y.o.dst≠some t)(hu:∀a∈eL x.u,a∉eL y.u):app (app st x) y=app (app st y) x:=by
 unfold app;simp;exact⟨vLl hd,vY5 hu⟩
theorem yO9 {x}:∀{l:List It} {st},(∀y∈l,(∀t,x.o.dst=some t→y.o.dst≠some t)∧∀a∈eL x.u,a∉eL y.u)→app (l.foldl app st) x=l.foldl app (app st x)
 |[],_,_=>rfl
 |y::l,st,h=>by
  rw[List.foldl_cons,List.foldl_cons,vR0 (by grind) (by grind)];exact yO9 (by grind)
theorem Mx t:∀(l:List It) st bK,st.t t=bK.t t→(l.foldl app st).t t=((l.filter fun it=>it.o.dst==some t).foldl app bK).t t
 |[],_,_,h=>h
 |y::l,st,bK,h=>by
  rw[List.foldl_cons,List.filter_cons];cases hy:y.o.dst==some t with
  |true=>
   exact Mx t l _ _ (yA2 h)
  |false=>
   exact Mx t l _ _ (by
    show jm st.t y.o.dst y.v t=_;rw[Mw (by simp_all)];exact h)
theorem My n:∀(l:List It) st bK,st.h n=bK.h n→(l.foldl app st).h n=((l.filter fun it=>(eL it.u).contains n).foldl app bK).h n
 |[],_,_,h=>h
 |y::l,st,bK,h=>by
  rw[List.foldl_cons,List.filter_cons];cases hy:(eL y.u).contains n with
  |true=>
   exact My n l _ _ (zq h)
  |false=>
   exact My n l _ _ (by
    show qH st.h y.u n=_;rw[CV (by simpa[eL] using hy)];exact h)
theorem yZu {S W bU post}{it:It}(oC:S it=false)(h1:∀y∈bU,W y=true→S y=true)(h2:∀y∈post,W y=true→S y=false):((bU++it::post).filter S).filter W=bU.filter W:=by
 have e1:(bU.filter S).filter W=bU.filter W:=by
  rw[List.filter_filter];refine List.filter_congr fun y hy=>?_
  simp_all
 simp_all
def C5 (d:Cu)(a:Nat):Prop:=match d.refs with
 |none=>True
 |some l=>a∈l∨nj d.nm a=true
theorem SW {x y}(h:td x y=false):(∀a∈x.upd,¬C5 y a)∧(∀a∈y.upd,¬C5 x a)∧∀a∈x.upd,a∉y.upd:=by
 unfold td at h;have key:∀(d e:Cu),LJ d.upd e.refs=false→d.upd.any (nj e.nm)=false→∀a∈d.upd,¬C5 e a:=by
  intro d e hm ho a ha hl;unfold LJ at hm;unfold C5 at hl;cases hr:e.refs with
  |none=>
   simp_all
  |some l=>
   simp_all
 refine⟨by grind,by grind,fun a ha hb=>?_⟩;simp_all
section
variable {E:Env} {A:zZ} {k pre na nt:Nat} {R:Type} {ops:Array Oper}
theorem SX {i j x y}(hi:ops[i]? =some x)(hj:ops[j]? =some y)(h:tf ops i j=true):
  (∀d,x.dst=some d→d∉y.looksAt ops)∧(∀d,x.dst=some d→y.dst≠some d)∧(∀d,y.dst=some d→d∉x.looksAt ops):=by
 unfold tf at h;rw[hi,hj] at h;exact Oper.apart_spec h
theorem vMs (hE:gd E)(hS:jt E.sums){S}(hC:HV ops S){st bU post it}(gC:∀y∈bU++it::post,ops[y.i]? =some y.o)(hg:kA E A k pre na nt ops (bU.foldl app st) it)
  (hu:∀y∈bU++it::post,y.wt=false→y.u=[]) (hp:(bU++it::post).Pairwise (SS pre ops (Region.before ops))) (oC:S it.i=false)
  (hr:∀o,ops[it.i]? =some o→∀e∈o.after.toList,Region.binds .any e=true→S e.on=true):
  kA E A k pre na nt ops (((bU++it::post).filter fun y=>S y.i).foldl app st) it∧
   (∀y∈post,S y.i=true→(∀t,it.o.dst=some t→y.o.dst≠some t)∧∀a∈eL it.u,a∉eL y.u):=by
 have vu:ops[it.i]? =some it.o:=gC it (by simp);obtain⟨Mp,HO,hp3⟩:=List.pairwise_append.1 hp;have before:∀y∈bU,S y.i=false→tf ops y.i it.i=true∧(y.wt=true→it.wt=true→td (y.dn pre) (it.dn pre)=false):=fun y hy hs=>by
  rcases hp3 y hy it (by simp) with h|h
  ·rw[SR hC h hr] at hs;cases hs
  ·exact h
 have behind:∀y∈post,S y.i=true→tf ops it.i y.i=true∧(it.wt=true→y.wt=true→td (it.dn pre) (y.dn pre)=false):=fun y hy hs=>by
  rcases(List.pairwise_cons.1 HO).1 y hy with h|h
  ·rw[yU6 hC _ _ rfl h hs] at oC;cases oC
  ·exact h
 have vv:∀t,t∈it.o.looksAt ops→(((bU++it::post).filter fun y=>S y.i).foldl app st).t t=(bU.foldl app st).t t:=fun t ht=>by
  rw[Mx t _ st st rfl,Mx t bU st st rfl,yZu oC (fun y hy hw=>?_) fun y hy hw=>?_]
  ·cases hs:S y.i with
   |true=>rfl
   |false=>
    have:=(SX (gC y (by simp[hy])) vu (before y hy hs).1).1 t (by simpa using hw);exact absurd ht this
  ·cases hs:S y.i with
   |false=>rfl
   |true=>
    have:=(SX vu (gC y (by simp[hy])) (behind y hy hs).1).2.2 t (by simpa using hw);simp_all
 have hEq:it.wt=true→∀n,C5 (it.dn pre) n→(((bU++it::post).filter fun y=>S y.i).foldl app st).h n=(bU.foldl app st).h n:=fun hw n hn=>by
  rw[My n _ st st rfl,My n bU st st rfl,yZu oC (fun y hy zp=>?_) fun y hy zp=>?_]
  ·cases hs:S y.i with
   |true=>rfl
   |false=>
    have hm:n∈eL y.u:=by simpa using zp
    have SY:y.wt=true:=by
     cases h:y.wt with
     |true=>rfl
     |false=>rw[hu y (by simp[hy]) h] at hm;simp[eL] at hm
    exact absurd hn ((SW ((before y hy hs).2 SY hw)).1 n hm)
  ·cases hs:S y.i with
   |false=>rfl
   |true=>
    have hm:n∈eL y.u:=by simpa using zp
    have SY:y.wt=true:=by
     cases h:y.wt with
     |true=>rfl
     |false=>rw[hu y (by simp[hy]) h] at hm;simp[eL] at hm
    exact absurd hn ((SW ((behind y hy hs).2 hw SY)).2.1 n hm)
 generalize hL:((bU++it::post).filter fun y=>S y.i).foldl app st=Mz at vv hEq⊢;refine⟨⟨?_,fun hw=>?_,hg.n⟩,fun y hy hs=>?_⟩
 ·rw[←hg.w];unfold C3;cases zr:it.o.guard with
  |none=>rfl
  |some p=>
   obtain⟨j,want⟩:=p;dsimp only;cases dW:LL ops j with
   |none=>rfl
   |some s=>
    have:s∈it.o.looksAt ops:=by
     have dW:(ops[j]?).bind (·.dst)=some s:=dW;simp only[Oper.looksAt,zr,dW];simp
    simp_all
 ·obtain⟨hd,hy,hrf⟩:=hg.y hw;have aQ:∀x∈it.o.op.operands,Mz.ev x=(bU.foldl app st).ev x:=fun x hx=>by
   cases x with
   |tmp t=>exact vv t (List.mem_append_left _ (List.mem_filterMap.2 ⟨.tmp t,by simpa using hx,rfl⟩))
   |_=>rfl
  have hrefs:rj Mz.ev it.o=rj (bU.foldl app st).ev it.o:=by
   unfold rj;have:it.o.op.operands.toList.map Mz.ev=it.o.op.operands.toList.map (bU.foldl app st).ev:=List.map_congr_left (by grind);simp only[this]
  refine⟨hd,?_,by rw[hrf,hrefs]⟩;rw[vOf aQ];have hh : kW E A k pre it.o (bU.foldl app st).ev Mz.h = kW E A k pre it.o (bU.foldl app st).ev (bU.foldl app st).h := vT8 hS (by
   rw[←hrf];have:=hEq hw;unfold C5 at this;have MA:(it.dn pre).refs=it.r:=rfl;rw[MA] at this;cases h:it.r with
   |none=>
    grind
   |some l=>
    rw[h] at this;exact this)
  rw[hh];exact hy
 ·obtain⟨h1,h2⟩:=behind y hy hs;refine⟨(SX vu (gC y (by simp[hy])) h1).2.1,fun a ha hb=>?_⟩;have hwi:it.wt=true:=by
   cases h:it.wt with
   |true=>rfl
   |false=>rw[hu it (by simp) h] at ha;simp[eL] at ha
  have hwy:y.wt=true:=by
   cases h:y.wt with
   |true=>rfl
   |false=>rw[hu y (by simp[hy]) h] at hb;simp[eL] at hb
  exact(SW (h2 hwi hwy)).2.2 a ha hb
end
theorem vQk {ops}(h:Hm ops=true){j o}(ho:ops[j]? =some o):∀e∈o.after.toList,Region.binds .any e=true→e.on<j:=by
 intro e he hb;have hm:(o,j)∈ops.toList.zipIdx:=by
  grind
 have:=List.all_eq_true.1 (List.all_eq_true.1 h _ hm) e he;simp_all
theorem MB {L:Array Bool}{i}(hi:i<L.size) j:(L.setIfInBounds i true).getD j false=(L.getD j false||i==j):=by
 by_cases h:i=j
 all_goals simp_all
section
variable {E:Env} {A:zZ} {nl:Bool} {k pre na nt:Nat} {a0:Nat→Value} {R:Type} {ops:Array Oper} {M0:zK} {w0:World} {Q:Exit→Act→World→Prop}
theorem vUg (hE:gd E)(hS:jt E.sums)(he:Hm ops=true){dL st}(hi:dL.map (·.i)=List.range ops.size)(gC:∀y∈dL,ops[y.i]? =some y.o)(hg:∀bU it post,dL=bU++it::post→kA E A k pre na nt ops (bU.foldl app st) it)
  (hp:dL.Pairwise (SS pre ops (Region.before ops))) (hQ:∀a w,vV nl na nt a0 M0 w0 (dL.foldl app st) a w→Q .normal a w):
  ∀fuel L a w,L.size=ops.size→(∃U:List Nat,U.length≤fuel∧∀j,j<ops.size→L.getD j false=false→j∈U)→HV ops (fun j=>L.getD j false)→
   vV nl na nt a0 M0 w0 ((dL.filter fun y=>L.getD y.i false).foldl app st) a w→wpAny E.P .any ops Q fuel L a w:=by
 have hu:∀y∈dL,y.wt=false→y.u=[]:=fun y hy hw=>by
  obtain⟨bU,post,e⟩:=List.append_of_mem hy;exact((hg bU y post e).n hw).2.1
 have SZ:∀y∈dL,y.i<ops.size:=fun y hy=>(Array.getElem?_eq_some_iff.1 (gC y hy)).1
 have dF:(dL.map (·.i)).Nodup:=by rw[hi];exact List.nodup_range
 have full:∀(L:Array Bool) (a:Act) (w:World),(∀j,j<ops.size→L.getD j false=true)→vV nl na nt a0 M0 w0 ((dL.filter fun y=>L.getD y.i false).foldl app st) a w→Q .normal a w:=fun L a w hl r=>by
  rw[List.filter_eq_self.2 fun y hy=>hl y.i (SZ y hy)] at r;exact hQ a w r
 have rdy:∀(L:Array Bool),L.size=ops.size→Region.ready .any ops L=[]→∀j,j<ops.size→L.getD j false=true:=fun L hL hr j=>by
  induction j using Nat.strongRecOn with
  |_ j ih=>
   intro hj;cases hb:L.getD j false with
   |true=>rfl
   |false=>
    have ho:ops[j]? =some ops[j]:=Array.getElem?_eq_getElem hj;have:j∈Region.ready .any ops L:=mem_ready.2 ⟨by
     have S0:j<L.size:=by omega
     simpa[Array.getD,S0] using hb,ops[j],ho,fun e he' bF=>by
      have bh:=vQk he ho e (by simpa using he') bF;exact ih e.on bh (by omega)⟩
    rw[hr] at this;cases this
 intro fuel
 induction fuel with
 |zero=>
  intro L a w hL hU hC r;obtain⟨U,hUl,hU⟩:=hU;have hU0:U=[]:=List.eq_nil_of_length_eq_zero (by omega);have bn:∀j,j<ops.size→L.getD j false=true:=by grind
  refine⟨?_,full L a w bn r⟩;cases hr:Region.ready .any ops L with
  |nil=>rfl
  |cons j l=>
   have:j∈Region.ready .any ops L:=by rw[hr];exact List.mem_cons_self ..
   obtain⟨h0,o,ho,_⟩:=mem_ready.1 this;have hj:=(Array.getElem?_eq_some_iff.1 ho).1;have:=bn j hj;have S0:j<L.size:=by omega
   simp[Array.getD,S0] at this h0;rw[this] at h0;cases h0
 |succ fuel ih=>
  intro L a w hL hU hC r;refine⟨fun hr=>full L a w (rdy L hL hr) r,fun i hir=>?_⟩;obtain⟨h0,o,ho,zt⟩:=mem_ready.1 hir;have HX:=(Array.getElem?_eq_some_iff.1 ho).1;have HY:i<L.size:=by omega
  have HZ:L.getD i false=false:=by simpa[Array.getD,HY] using h0
  obtain⟨it,oC,tI⟩:∃it∈dL,it.i=i:=by
   have:i∈dL.map (·.i):=by rw[hi];simpa using HX
   obtain⟨it,h1,h2⟩:=List.mem_map.1 this;exact⟨it,h1,h2⟩
  obtain⟨bU,post,e⟩:=List.append_of_mem oC;have vu:ops[it.i]? =some it.o:=gC it oC;have iF:o=it.o:=by rw[tI,ho] at vu;exact Option.some.inj vu
  subst iF;have vw:=vMs hE hS hC (by rw[←e];exact gC) (hg bU it post e) (by rw[←e];exact hu) (by rw[←e];exact hp) (by rw[tI];exact HZ) (by grind);rw[←e] at vw;obtain⟨zr,H0⟩:=vw;have hw:=yC0 zr.w r;have yG:(dL.filter fun y=>(L.setIfInBounds i true).getD y.i false).foldl app st=app ((dL.filter fun y=>L.getD y.i false).foldl app st) it:=by
   have other:∀y∈bU++post,(L.setIfInBounds i true).getD y.i false=L.getD y.i false:=fun y hy=>by
    rw[MB HY];grind
   have e1:dL.filter (fun y=>L.getD y.i false)=bU.filter (fun y=>L.getD y.i false)++post.filter (fun y=>L.getD y.i false):=by
    conv=>lhs;rw[e]
    rw[List.filter_append,List.filter_cons,if_neg (by rw[tI,HZ];simp)]
   have e2:dL.filter (fun y=>(L.setIfInBounds i true).getD y.i false)=bU.filter (fun y=>L.getD y.i false)++it::post.filter (fun y=>L.getD y.i false):=by
    conv=>lhs;rw[e]
    rw[List.filter_append,List.filter_cons,if_pos (by rw[tI,MB HY];simp),List.filter_congr fun y hy=>other y (List.mem_append_left _ hy),List.filter_congr fun y hy=>other y (List.mem_append_right _ hy)]
   rw[e1,e2,List.foldl_append,List.foldl_append,List.foldl_cons];exact (yO9 fun y hy=>by
    obtain⟨S1,S2⟩:=List.mem_filter.1 hy;exact H0 y S1 S2).symm
  have aD:HV ops fun j=>(L.setIfInBounds i true).getD j false:=fun j o' hj lA ed hed hb=>by
   dsimp only at hj⊢;rw[MB HY] at hj;refine getD_set_true ?_;rw[Bool.or_eq_true] at hj;rcases hj with hj|hj
   ·exact hC j o' hj lA ed hed hb
   ·have:i=j:=by simpa using hj
    subst this;rw[ho] at lA;cases lA;exact zt ed (by simpa using hed) hb
  have hU':∃U:List Nat,U.length≤fuel∧∀j,j<ops.size→(L.setIfInBounds i true).getD j false=false→j∈U:=by
   obtain⟨U,hl,hU⟩:=hU;refine⟨U.erase i,?_,fun j hj hb=>?_⟩
   ·rw[List.length_erase_of_mem (hU i HX HZ)];omega
   ·rw[MB HY,Bool.or_eq_false_iff] at hb;exact(List.mem_erase_of_ne (by have:=hb.2;simp at this;exact fun h=>this h.symm)).2 (hU j hj hb.1)
  unfold wpOp;rw[ho];dsimp only;cases zu:it.wt with
  |true=>
   rw[zu] at hw;rw[if_pos hw];obtain⟨hd,hy,_⟩:=zr.y zu;refine .inl (vV.op hE r hd hy fun a' w' r'=>?_);exact ih _ _ _ (by simpa using hL) hU' aD (by rw[yG];exact r')
  |false=>
   rw[zu] at hw;rw[if_neg (by simp[hw])];obtain⟨hv,rA,tH⟩:=zr.n zu;refine ih _ _ _ (by simpa using hL) hU' aD ?_;rw[yG];have:=r.skip (dst:=it.o.dst) fun d hd=>(tH d hd).1
   unfold app;rw[hv,rA];exact this
theorem vV0 (hE:gd E)(hS:jt E.sums){id st K}{out:R}{a w}(hm:E.P.follows .mixedOrders=true)(he:Hm ops=true)
  (h:Cv E A k pre na nt ops (Region.before ops) (ops.toList.zipIdx.map fun p=>(p.2,p.1)) [] st K=some out) (r:vV nl na nt a0 M0 w0 st a w)
  (hK:∀bK a' w',vV nl na nt a0 M0 w0 bK a' w'→K bK=some out→Q .normal a' w'):(Code.region id ops true).wp E.P Q a w:=by
 obtain⟨dL,h1,h2,h3,_,h5⟩:=SU hE _ _ _ _ _ h;have hi:dL.map (·.i)=List.range ops.size:=by
  have:=congrArg (List.map Prod.fst) h1;rw[List.map_map,List.map_map] at this;refine Eq.trans this ?_;have e:(Prod.fst∘fun p:Oper×Nat=>(p.2,p.1))=Prod.snd:=rfl;rw[e,List.zipIdx_map_snd,←List.range_eq_range'];simp
 have gC:∀y∈dL,ops[y.i]? =some y.o:=fun y hy=>by
  have:(y.i,y.o)∈ops.toList.zipIdx.map fun p=>(p.2,p.1):=by grind
  grind
 refine wp_region_any hm (vUg hE hS he (nt:=nt) (na:=na) (a0:=a0) (M0:=M0) (w0:=w0) hi gC h3 h5 (fun a w r=>hK _ a w r h2) _ _ _ _ (by simp) ⟨List.range ops.size,by simp,by grind⟩ (fun j o hj=>?_) ?_)
 ·by_cases h:j<ops.size<;>simp[h] at hj
 ·rw[List.filter_eq_nil_iff.2 fun y hy=>by
   by_cases h:y.i<ops.size<;>simp[h]]
  exact⟨r.ex,r.defers,r.size,r.os,r.tape,r.output,r.keep⟩
end
def zK.nilObj (M:zK)(nm:Nat)(o:Obj)(sz:Nat):zK:={M with κ:=κset M.κ nm ⟨none,0,sz,0,[]⟩,h:=yG M.h nm o}
def kB (t:Ty)(rows:Bool):Obj:=bif rows then .mat 0 [] else .arr true t []
def lH (t:Ty)(rows:Bool):Nat:=bif rows then 1 else t.size
theorem zK.nilObj_ok {M}(ok:Ok M){nm}(aS:M.h nm=none) t rows:
  Ok (M.nilObj nm (kB t rows) (lH t rows))∧yL M (M.nilObj nm (kB t rows) (lH t rows))∧(∀b,qM (M.nilObj nm (kB t rows) (lH t rows)) b→qM M b):=by
 have hO:∀M':zK,yW M' (kB t rows) ⟨none,0,lH t rows,0,[]⟩:=fun M'=>by
  cases rows with
  |false=>exact⟨rfl,rfl,by simp,rfl⟩
  |true=>exact⟨rfl,rfl,rfl,rfl,by simp[qA.fp],rfl⟩
 have x:yL M (M.nilObj nm (kB t rows) (lH t rows)):=⟨fun id C h=>by
  have bm:id≠nm:=fun e=>by rw[e,ok.non nm aS] at h;cases h
  exact⟨C,by show κset M.κ nm _ id=_;rw[κset_ne _ _ bm];exact h,C.le_refl⟩,fun _ h=>h,fun _ h=>h,fun _ _=>rfl,fun _ _=>rfl,fun _ _=>rfl⟩
 refine⟨Ok.build ok x (fun id=>id=nm) (fun id h=>yO _ _ h) (fun id h=>κset_ne _ _ h) (fun _ _ _ _ _ _ _ _ _=>rfl) (fun id o C h1 h2 h3 h4 b hb=>(ok.own b ⟨id,o,C,h2,h3,h4,hb⟩).1) (Nat.le_refl _)
  (fun id o e h=>?_) (fun id e h=>?_) (fun id o C b e h1 h2 h3 h4=>?_) ok.GF ok.Flt,x,fun b hb=>?_⟩
 ·subst e;have e1:(M.nilObj id (kB t rows) (lH t rows)).h id=some (kB t rows):=yK _ _ _;rw[e1] at h;cases h;exact⟨_,κset_same _ _ _,hO _⟩
 ·have e1:(M.nilObj id (kB t rows) (lH t rows)).h id=some (kB t rows):=yK _ _ _;simp_all
 ·subst e;have e1:(M.nilObj id (kB t rows) (lH t rows)).κ id=some _:=κset_same _ _ _;rw[e1] at h3;cases h3;simp[qA.fp] at h4
 ·obtain⟨id,o,C,h1,h2,h3,h4⟩:=hb;by_cases e:id=nm
  ·subst e;have e1:(M.nilObj id (kB t rows) (lH t rows)).κ id=some _:=κset_same _ _ _;rw[e1] at h3;cases h3;simp[qA.fp] at h4
  ·exact⟨id,o,C,by rw[←h1];exact(yO _ _ e).symm,h2,by rw[←h3];exact(κset_ne _ _ e).symm,h4⟩
theorem ju.same_mem {M M'}(hF:M'.F=M.F)(hG:M'.G=M.G)(hH:M'.H=M.H)(ho:∀b,qM M' b→qM M b):ju M M':=
 ⟨by grind,by grind,by grind,by grind,by grind,by simp_all,by grind,by grind,
  by grind,by grind⟩
theorem ju.refl M:ju M M:=.same_mem rfl rfl rfl (by simp)
section
variable {na nt:Nat} {a0:Nat→Value} {M0:zK} {w0 w:World} {a:Act}
theorem zL.set_left {α β R l}{m:List β}(h:zL R l m){j}{c:α}(hc:∀(h1:j<l.length) h2,R c m[j]):zL R (l.set j c) m:=by
 refine zL.of_get (by rw[List.length_set];exact h.length) fun i hi bH=>?_
 rw[List.length_set] at hi;by_cases e:j=i
 ·simp_all
 ·rw[List.getElem_set_ne e];exact h.get i hi bH
theorem vHt {st}{s j}(r:vV false na nt a0 M0 w0 st a w):vV false na nt a0 M0 w0 (Rv st s j) a w:=by
 obtain⟨M,h1,h2,h3,h4,h5⟩:=r.ex;unfold Rv;split
 ·split
  ·rename_i c hs;split
   ·rename_i c' u hf;have hv:=h5 s;rw[hs] at hv;rw[←h1] at hf;obtain⟨L,k1,k2,k3,k4,k5,_⟩:=Ht h3 (jC.refl _) (show zX M c _ from hv) hf;refine⟨⟨L,by rw[k2,h1],k1.trans h2,k3,h4.trans k4.grow,fun t=>?_⟩,r.defers,r.size,r.os,r.tape,r.output,r.keep⟩;show zT _ (jS st.t s _ t) _;unfold jS;cases e:Nat.beq t s with
    |false=>exact(h5 t).ext k4.ext
    |true=>
     have e:t=s:=by simpa using e
     subst e;exact k5
   ·exact r
  ·exact r
 ·rename_i j;split
  ·rename_i id hs;split
   ·rename_i cells an;split
    ·rename_i c yP;split
     ·rename_i c' u hf;rw[←h1] at hf an;obtain⟨C0,rE,hO0⟩:=h3.obj id _ an;obtain⟨B0,vx,e0,b10,b20,b30,b40,b50⟩:=hO0;have hj:j<cells.length:=(List.getElem?_eq_some_iff.1 yP).1;have S3:j<vx.toList.length:=by rw[←b40.length];exact hj
      have la:=b40.get j hj S3;have ec:cells[j]=c:=by grind
      rw[ec] at la;obtain⟨L,k1,k2,k3,k4,k5,k6,_⟩:=Ht h3 (jC.refl _) la hf;have zv:L.h id=some (.box true cells):=by
       rcases k6 id with h|⟨own,t,xs,h,_⟩|⟨ver,xs,h,_⟩
       all_goals simp_all
      obtain⟨C,hC,hO⟩:=k3.obj id _ zv;obtain⟨B,vals,e,b1,b2,b3,b4,b5⟩:=hO;obtain⟨C1,iE,le⟩:=k4.ext.κ id C0 rE;rw[hC] at iE;cases iE;have eB:B=B0:=by rw[le.blk,b10] at b1;simp_all
      subst eB;rw[k1,b30] at b3;cases b3;have hx:=zK.write_ext (H':=L.H) k3 zv rfl hC C.le_refl (by simp) (by simp) (.box true (cells.set j c'));have hw := zK.write_ok (H' := L.H) (o' := .box true (cells.set j c')) k3 zv rfl hC C.le_refl (by simp) rfl (by simp) (by simp) (by
       refine⟨B,vx,e0,b1,b2,by show L.H[B]? =_;simp_all,?_,by simp⟩;exact(b4.mono fun _ _ h=>h.ext hx).set_left fun _ _=>k5.ext hx)
      refine⟨⟨L.write id (.box true (cells.set j c')) C L.H,?_,k1.trans h2,hw.1,(h4.trans k4.grow).trans hw.2.grow,fun t=>((h5 t).ext k4.ext).ext hx⟩,r.defers,r.size,r.os,r.tape,r.output,r.keep⟩;show yG L.h id _=yG (qH st.h u) id _;rw[k2,h1]
     ·exact r
    ·exact r
   ·exact r
  ·rename_i cells hs;split
   ·rename_i c yP;split
    ·rename_i c' u hf;have hv:=h5 s;rw[hs] at hv;obtain⟨vs,dE,bn⟩:=hv;rw[←h1] at hf;have hj:j<cells.length:=by grind
     have S3:j<vs.toList.length:=by rw[←bn.length];exact hj
     have la:=bn.get j hj S3;have ec:cells[j]=c:=by grind
     rw[ec] at la;obtain⟨L,k1,k2,k3,k4,k5,k6,_⟩:=Ht h3 (jC.refl _) la hf;refine⟨⟨L,by rw[k2,h1],k1.trans h2,k3,h4.trans k4.grow,fun t=>?_⟩,r.defers,r.size,r.os,r.tape,r.output,r.keep⟩;show zT _ (jS st.t s _ t) _;unfold jS;cases e:Nat.beq t s with
     |false=>exact(h5 t).ext k4.ext
     |true=>
      have e:t=s:=by simpa using e
      subst e;exact⟨vs,dE,(bn.mono fun _ _ h=>h.ext k4.ext).set_left (by grind)⟩
    ·exact r
   ·exact r
  ·exact r
theorem vNy {st nm g}(r:vV false na nt a0 M0 w0 st a w)(aS:st.h nm=none):vV false na nt a0 M0 w0 (Rw st nm g) a w:=by
 obtain⟨M,h1,h2,h3,h4,h5⟩:=r.ex;have hM:M.h nm=none:=by simp_all
 obtain⟨k1,k2,k3⟩:=M.nilObj_ok h3 hM g.2.2.1 g.2.2.2;have cJ:zX (M.nilObj nm (kB g.2.2.1 g.2.2.2) (lH g.2.2.1 g.2.2.2)) (.osl nm none) (.slice none 0 0):=⟨_,κset_same _ _ _,none,0,rfl,rfl,rfl,rfl⟩;have gr:tG false M0 (M.nilObj nm (kB g.2.2.1 g.2.2.2) (lH g.2.2.1 g.2.2.2)):=h4.trans (.same_mem rfl rfl rfl k3);unfold Rw;cases aa0:g.2.2.2&&yLd g.2.2.1 with
 |true=>exact vHt r
 |false=>
 split
 ·split
  ·rename_i hs;refine⟨⟨M.nilObj nm (kB g.2.2.1 g.2.2.2) (lH g.2.2.1 g.2.2.2),?_,h2,k1,gr,fun t=>?_⟩,r.defers,r.size,r.os,r.tape,r.output,r.keep⟩
   ·show yG M.h nm _=yG st.h nm _;rw[h1];rfl
   ·show zT _ (jS st.t g.1 _ t) _;unfold jS;cases e:Nat.beq t g.1 with
    |false=>exact(h5 t).ext k2
    |true=>
     have e:t=g.1:=by simpa using e
     subst e;have hv:=h5 g.1;rw[hs] at hv;rw[hv];exact cJ
  ·exact r
 ·rename_i j hj;split
  ·rename_i id hs;split
   ·rename_i cells an;split
    ·have bm:id≠nm:=by grind
     let M1:=M.nilObj nm (kB g.2.2.1 g.2.2.2) (lH g.2.2.1 g.2.2.2);have pc:M1.h id=some (.box true cells):=by
      show yG M.h nm _ id=_;rw[yO _ _ bm,h1];exact an
     obtain⟨C,hC,hO⟩:=k1.obj id _ pc;obtain⟨B,vals,e,b1,b2,b3,b4,b5⟩:=hO;have hx:=zK.write_ext (H':=M1.H) k1 pc rfl hC C.le_refl (by grind) (by grind) (.box true (cells.set j (.osl nm none)));have hw := zK.write_ok (H' := M1.H) (o' := .box true (cells.set j (.osl nm none))) k1 pc rfl hC C.le_refl (by simp) rfl (by grind) (by grind) (by
      refine⟨B,vals,e,b1,b2,b3,?_,by simp⟩;have hl:=b4.length;refine zL.of_get (by simp_all) fun i hi bH=>?_
      have hb:=b4.get i (by omega) bH;by_cases eij:j=i
      ·subst eij;rw[List.getElem_set_self];have ec:cells[j]=.nsl:=by
        grind
       rw[ec] at hb;rw[hb];exact cJ.ext hx
      ·rw[List.getElem_set_ne eij];exact hb.ext hx)
     refine⟨⟨M1.write id (.box true (cells.set j (.osl nm none))) C M1.H,?_,h2,hw.1,gr.trans hw.2.grow,fun t=>((h5 t).ext k2).ext hx⟩,r.defers,r.size,r.os,r.tape,r.output,r.keep⟩;show yG (yG M.h nm _) id _=yG (yG st.h nm _) id _;rw[h1];rfl
    ·exact r
   ·exact r
  ·exact r
theorem yLh:∀{l st bK nm},vV false na nt a0 M0 w0 st a w→LO st nm l=some bK→vV false na nt a0 M0 w0 bK a w
 |[],st,bK,nm,r,h=>by cases h;exact r
 |g::l,st,bK,nm,r,h=>by
  unfold LO at h;split at h
  ·rename_i aS;exact yLh (vNy r aS) h
  ·cases h
theorem yKj {id}:∀{l n i},fc id l n=some i→n≤i∧l[i-n]? =some id
 |x::l,n,i,h=>by
  unfold fc at h;cases e:Nat.beq x id with
  |true=>
   simp_all
  |false=>
   rw[e] at h;obtain⟨h1,h2⟩:=yKj (l:=l) h;grind
theorem S4 {h}:∀n {todo seen},seen.Nodup→(Cw h n todo seen).Nodup
 |0,_,_,hs
 |n+1,[],_,hs=>hs
 |n+1,id::todo,seen,hs=>by
  unfold Cw;cases e:seen.any (Nat.beq id) with
  |true=>exact S4 n hs
  |false=>
   refine S4 n (List.nodup_append.2 ⟨hs,by simp,fun x hx y hy exy=>?_⟩);have:y=id:=by simp_all
   have:=List.any_eq_false.1 e x hx;simp_all
def pq (base : Nat) (κ : Nat → Option qA) (ids : List Nat) : Nat → Option qA := fun n => if base ≤ n then (match ids[n-base]? with
 |some id=>(κ id).map fun C=>{C with ver:=0}
 |none=>none) else none
def zK.ren (M:zK)(base:Nat)(ids:List Nat):zK:={M with κ:=pq base M.κ ids,h:=yw base M.h ids}
theorem vXw {base h ids n o}(e:yw base h ids n=some o):∃id o',base≤n∧ids[n-base]? =some id∧h id=some o'∧o=vg h (fun i=>(fc i ids 0).map (base+·)) o':=by
 unfold yw at e;cases hb:Nat.ble base n with
 |false=>simp_all
 |true=>
  rw[hb] at e;split at e
  ·obtain⟨o',h1,h2⟩:=Option.map_eq_some_iff.1 e;simp_all
  ·cases e
theorem vQf {base κ ids id i C}(hi:fc id ids 0=some i)(hC:κ id=some C):pq base κ ids (base+i)=some {C with ver:=0}:=by
 obtain⟨_,h⟩:=yKj hi;unfold pq;simp_all
theorem S5 {M}(ok:Ok M){base ids c v}(h:zX M c v):zX (M.ren base ids) (vf M.h (fun i=>(fc i ids 0).map (base+·)) c) v:=by
 have h1:=h.one;have look:∀id C,M.κ id=some C→∀i,(fc id ids 0).map (base+·)=some i→(M.ren base ids).κ i=some {C with ver:=0}:=fun id C hC i hi=>by
  obtain⟨j,hj,rfl⟩:=Option.map_eq_some_iff.1 hi;exact vQf hj hC
 unfold vf;cases c with
 |osl id r=>
  dsimp only;obtain⟨C,hC,h⟩:=h;cases e:(fc id ids 0).map (base+·) with
  |none=>exact h1
  |some i=>cases r with
   |none=>exact⟨_,look id C hC i e,h⟩
   |some p=>exact⟨_,look id C hC i e,h⟩
 |bsl id x y=>
  dsimp only;obtain⟨C,B,hC,h⟩:=h;cases e:(fc id ids 0).map (base+·) with
  |none=>exact h1
  |some i=>exact⟨_,B,look id C hC i e,h⟩
 |ptr id x=>
  dsimp only;obtain⟨C,B,hC,h⟩:=h;cases e:(fc id ids 0).map (base+·) with
  |none=>exact h1
  |some i=>exact⟨_,B,look id C hC i e,h⟩
 |eptr id x y=>
  dsimp only;obtain⟨C,B,hC,h⟩:=h;cases e:(fc id ids 0).map (base+·) with
  |none=>exact h1
  |some i=>exact⟨_,B,look id C hC i e,h⟩
 |mrow id x ver=>
  dsimp only;obtain⟨C,hC,ho,hle,h⟩:=h;cases e:(fc id ids 0).map (base+·) with
  |none=>exact h1
  |some i=>
   split
   ·rename_i i' v' xs ei an;cases ei;cases fE:Nat.beq v' ver with
    |false=>exact h1
    |true=>
     have iC:v'=ver:=by simpa using fE
     obtain⟨C',aD,hO⟩:=ok.obj id _ an;rw[hC] at aD;cases aD;exact⟨_,look id C hC i e,h1,Nat.le_refl _,fun _=>h (by rw[hO.1,iC])⟩
   ·exact h1
 |mptr id x=>
  dsimp only;obtain⟨C,B,hC,h⟩:=h;cases e:(fc id ids 0).map (base+·) with
  |none=>exact h1
  |some i=>exact⟨_,B,look id C hC i e,h⟩
 |meptr id x y ver=>
  dsimp only;obtain⟨C,hC,ho,hle,h⟩:=h;cases e:(fc id ids 0).map (base+·) with
  |none=>exact h1
  |some i=>
   split
   ·rename_i i' v' xs ei an;cases ei;cases fE:Nat.beq v' ver with
    |false=>exact h1
    |true=>
     have iC:v'=ver:=by simp_all
     obtain⟨C',aD,hO⟩:=ok.obj id _ an;rw[hC] at aD;cases aD;exact⟨_,look id C hC i e,h1,by simp,fun _=>h (by rw[hO.1,iC])⟩
   ·exact h1
 |map id=>
  dsimp only;obtain⟨C,B,hC,h⟩:=h;cases e:(fc id ids 0).map (base+·) with
  |none=>exact h1
  |some i=>exact⟨_,B,look id C hC i e,h⟩
 |fn f cap=>
  dsimp only;obtain⟨cv,rfl,h⟩:=h;split
  ·rename_i c hc;refine⟨cv,rfl,?_⟩;have:=HR _ _ _ hc;generalize cv.toList=l at h;clear hc h1
   induction cap generalizing c l with
   |nil=>cases c with
    |nil=>cases l with
     |nil=>trivial
     |cons _ _=>exact h.elim
    |cons _ _=>exact this.elim
   |cons x cap ih=>cases c with
    |nil=>exact this.elim
    |cons y c=>cases l with
     |nil=>exact h.elim
     |cons u l=>
      obtain⟨⟨C,B,hC,hh⟩,h⟩:=h;exact⟨⟨_,B,look x C hC y this.1,hh⟩,ih c this.2 l h⟩
  rfl
 |fsl sh t xs=>exact h
 |fptr sh t x off=>exact h
 |_=>exact h
theorem H2 {M}(ok:Ok M){base ids}:∀{cs vs},zL (zX M) cs vs→zL (zX (M.ren base ids)) (cs.map (vf M.h fun i=>(fc i ids 0).map (base+·))) vs
 |[],[],_=>trivial
 |_::_,_::_,h=>⟨S5 ok h.1,H2 ok h.2⟩
theorem vVz {M}(ok:Ok M){base ids x v}(h:zT M x v):zT (M.ren base ids) (yRz M.h (fun i=>(fc i ids 0).map (base+·)) x) v:=by
 cases x with
 |undef=>trivial
 |skp=>exact h
 |c x=>exact S5 (c:=x) ok h
 |agg cs=>
  obtain⟨vs,h1,h2⟩:=h;exact⟨vs,h1,H2 ok h2⟩
 |tup xs=>
  obtain⟨vs,h1,h2⟩:=h;refine⟨vs,h1,zL.map_left (h2.mono fun p u hp=>?_)⟩;obtain⟨b,cs⟩:=p;cases b with
  |true=>
   obtain⟨us,q1,q2⟩:=hp;exact⟨us,q1,H2 ok q2⟩
  |false=>
   cases cs with
   |nil=>exact hp
   |cons c cs=>cases cs with
    |nil=>exact S5 (c:=c) ok hp
    |cons _ _=>exact hp
theorem yW6 {M}(ok:Ok M){base ids o C}(h:yW M o C):yW (M.ren base ids) (vg M.h (fun i=>(fc i ids 0).map (base+·)) o) {C with ver:=0}:=by
 cases o with
 |box own cells=>
  obtain⟨B,vals,e,h1,h2,h3,h4,h5⟩:=h;exact⟨B,vals,e,h1,h2,h3,H2 ok h4,h5⟩
 |robox cells=>
  obtain⟨B,vals,e,h1,h2,h3,h4,h5⟩:=h;exact⟨B,vals,e,h1,h2,h3,H2 ok h4,h5⟩
 |arr own t xs=>exact h
 |mat ver xs=>
  obtain⟨h1,h2⟩:=h;exact⟨rfl,h2⟩
 |pmat ver xs n=>
  obtain⟨h1,h2⟩:=h;exact⟨rfl,h2⟩
 |imap cY=>exact h
 |gone=>trivial
theorem S6 {h ρ} o:(vg h ρ o).owned=o.owned:=by cases o<;>rfl
theorem zK.ren_ok {M}(ok:Ok M){base ids}(dF:ids.Nodup):Ok (M.ren base ids)∧∀b,qM (M.ren base ids) b→qM M b:=by
 have at':∀n o,(M.ren base ids).h n=some o→∃id o' C,base≤n∧ids[n-base]? =some id∧M.h id=some o'∧M.κ id=some C∧o=vg M.h (fun i=>(fc i ids 0).map (base+·)) o'∧yW M o' C∧(M.ren base ids).κ n=some {C with ver:=0}:=fun n o h=>by
  obtain⟨id,o',h1,h2,h3,h4⟩:=vXw h;obtain⟨C,hC,hO⟩:=ok.obj id _ h3;refine⟨id,o',C,h1,h2,h3,hC,h4,hO,?_⟩;show pq base M.κ ids n=_;unfold pq;simp_all
 have ni:∀b,qM (M.ren base ids) b→qM M b:=fun b ⟨n,o,C,h1,h2,h3,h4⟩=>by
  obtain⟨id,o',C',k1,k2,k3,k4,k5,k6,k7⟩:=at' n o h1;rw[k7] at h3;cases h3;exact⟨id,o',C',k3,by rw[←h2,k5,S6],k4,h4⟩
 refine⟨⟨fun n o h=>?_,fun n h=>?_,fun i j oi oj Ci Cj b od h1 h2 h3 h4 h5 h6 h7 h8=>?_,fun b h=>ok.own b (ni b h),ok.GF,ok.Flt⟩,ni⟩
 ·obtain⟨id,o',C,k1,k2,k3,k4,rfl,k6,k7⟩:=at' n o h;exact⟨_,k7,yW6 ok k6⟩
 ·show pq base M.κ ids n=none;unfold pq;split
  ·rename_i hb;split
   ·rename_i id an;have:M.h id=none:=by
     cases e:M.h id with
     |none=>rfl
     |some o=>
      have:(M.ren base ids).h n=some (vg M.h (fun i=>(fc i ids 0).map (base+·)) o):=by
       show yw base M.h ids n=_;unfold yw;rw[show Nat.ble base n=true from Nat.ble_eq_true_of_le hb,an];simp[e]
      simp_all
    rw[ok.non id this];rfl
   ·rfl
  ·rfl
 ·obtain⟨id,o',C,k1,k2,k3,k4,k5,k6,k7⟩:=at' i oi h1;obtain⟨jd,p',D,q1,q2,q3,q4,q5,q6,q7⟩:=at' j oj h2;rw[k7] at h5;rw[q7] at h6;cases h5;cases h6;refine ok.disj id jd o' p' C D b (fun e=>?_) k3 q3 (by rw[←h3,k5,S6]) (by rw[←h4,q5,S6]) k4 q4 h7 h8;have hi:=(List.getElem?_eq_some_iff.1 k2);have hj:=(List.getElem?_eq_some_iff.1 q2);have:=(List.getElem_inj (h₀:=hi.1) (h₁:=hj.1) dF).1 (by omega);omega
theorem yQ0:∀{a b},LG a b=true→a=b
 |[],[],_=>rfl
 |x::a,y::b,h=>by
  simp only[LG,Bool.and_eq_true] at h;rw[Nat.eq_of_beq_eq_true h.1,yQ0 h.2]
theorem vD7 {c v}(h:Rp c v=true):c=.undef∨c=v:=by
 unfold Rp at h;split at h
 ·simp
 ·simp
 ·simp
 ·simp
 ·simp
 ·simp_all
 ·simp_all
 ·simp_all
 ·simp only[Bool.and_eq_true] at h;exact .inr (by rw[Nat.eq_of_beq_eq_true h.1,yQ0 h.2])
 all_goals simp_all
theorem ny {α:Type}{c x}{y:α}(h:(bif c then x else none)=some y):c=true∧x=some y:=by
 grind
theorem tJ {M}(ok:Ok M):∀{l cs d vs},mr l cs=some d→zL (zX M) cs vs→zL (zX M) (o0 l d) vs
 |[],[],_,[],_,_=>trivial
 |.int k::l,c::cs,d,v::vs,h,hv=>by
  cases c<;>first|(cases h;done)|skip
  obtain⟨hk,h⟩:=ny h;split at h
  ·rename_i d' hd;cases h;refine⟨?_,tJ ok hd hv.2⟩;rw[←sU hk];exact hv.1
  ·cases h
 |.bool::l,c::cs,d,v::vs,h,hv=>by
  cases c<;>first|(cases h)|skip
  unfold mr at h;split at h
  ·rename_i d' hd;cases h;exact⟨hv.1,tJ ok hd hv.2⟩
  ·cases h
 |.dat sh t::l,c::cs,d,v::vs,h,hv=>by
  cases c<;>first|(cases h;done)|skip
  ·rename_i Hl s xs;obtain⟨hs,h⟩:=ny h;split at h
   ·rename_i ys d' hx hd;cases h;obtain⟨e,hx⟩:=kY hx;subst e;subst hx;refine⟨?_,tJ ok hd hv.2⟩;have h1:qC M.H (bif Hl then M.G else M.F) (.sl s) xs (fun _=>some v):=hv.1;cases sh with
    |true=>
     have:Hl=true:=by simp_all
     subst this;exact h1
    |false=>cases Hl with
     |false=>exact h1
     |true=>exact vB ok.GF (by simp) _ _ _ _ (by simp) h1
   ·cases h
  ·unfold mr at h;split at h
   ·rename_i d' hd;cases h;refine⟨?_,tJ ok hd hv.2⟩;rw[show v=.slice none 0 0 from hv.1];exact⟨none,0,0,rfl,rfl,by simp,by simp⟩
   ·cases h
 |.lit c::l,x::cs,d,v::vs,h,hv=>by
  obtain⟨he,h⟩:=ny h;refine⟨?_,tJ ok h hv.2⟩;rcases vD7 he with rfl|rfl
  ·exact hv.1.one
  ·exact hv.1
theorem vKa {M}(ok:Ok M){v a d rv}(h:Rq v a=some d)(hv:zT M a rv):zT M (Rr v d) rv:=by
 cases v with
 |c x=>
  cases a with
  |c y=>
   have:=tJ ok (vs:=[rv]) (show mr [x] [y]=some d from h) ⟨hv,trivial⟩;show zT M (match o0 [x] d with|c::_=>.c c|[]=>.undef) rv
   match hh:o0 [x] d,this with
   |[c],this=>exact this.1
  |_=>cases h
 |agg l=>
  cases a with
  |agg vs=>
   obtain⟨us,rfl,hx⟩:=hv;exact⟨us,rfl,tJ ok (show mr l vs=some d from h) hx⟩
  |_=>cases h
theorem vYt {M}(ok:Ok M){o x d C}(h:LH o x=some d)(hO:yW M x C)(hv:C.ver=0):yW M (LI o d) C∧(LI o d).owned=x.owned:=by
 unfold LH at h;split at h
 ·obtain⟨he,h'⟩:=ny h;have he:=eq_of_beq he;subst he;clear h;obtain⟨B,vals,e,h1,h2,h3,h4,h5⟩:=hO;exact⟨⟨B,vals,e,h1,h2,h3,tJ ok h' h4,h5⟩,rfl⟩
 ·obtain⟨B,vals,e,h1,h2,h3,h4,h5⟩:=hO;exact⟨⟨B,vals,e,h1,h2,h3,tJ ok h h4,h5⟩,rfl⟩
 ·obtain⟨he,h'⟩:=ny h;have he:=eq_of_beq he;subst he;obtain⟨e,hx⟩:=kY h';subst e;subst hx;exact⟨hO,rfl⟩
 ·cases h;exact⟨⟨hv,hO.2⟩,rfl⟩
 ·cases h;exact⟨⟨hv,hO.2⟩,rfl⟩
 ·cases h;exact⟨hO,rfl⟩
 ·cases h
theorem yXe {f t}:∀{l d n v},LP f t l=some d→(Ct l d).lookup n=some v→∃(s:VS) (x:SL s.cells),Rq s (f (t n))=some x∧v=Rr s x
 |s::l,d,n,v,hr,h=>by
  unfold LP at hr;split at hr
  ·rename_i x ds h1 h2;cases hr;unfold Ct at h;rw[List.lookup_cons] at h;cases e:n==s.1 with
   |true=>
    grind
   |false=>
    rw[e] at h;exact yXe h2 h
  ·cases hr
theorem yV9 {f h0}:∀{l ids d},LQ f h0 l ids=some d→(ta l d).length=ids.length∧∀(i:Nat) o,(ta l d)[i]? =some o→∃(s:OS) (x:s.den) (id:Nat) (y:Obj),ids[i]? =some id∧h0 id=some y∧LH s (f y)=some x∧o=LI s x
 |[],[],d,_=>⟨rfl,nofun⟩
 |s::l,id::ids,d,h=>by
  unfold LQ at h;split at h
  ·rename_i x ds h1 h2;cases h;obtain⟨y,h3,h4⟩:=Option.bind_eq_some_iff.1 h1;obtain⟨k1,k2⟩:=yV9 h2;refine⟨by simp[ta,k1],fun i o hi=>?_⟩;cases i with
   |zero=>
    simp[ta] at hi;grind
   |succ i=>
    simp[ta] at hi;simp_all
  ·cases h
theorem S7 {g0 base n:Nat}{S:zE}{st:St}{d:S.den}(r:vV false na nt a0 M0 w0 st a w)(h:Rx g0 base n S st=some d):vV false na nt a0 M0 w0 (zM base S d) a w:=by
 unfold Rx at h;split at h
 ·cases h
 rename_i st1 hg;have r:=yLh r hg;dsimp only at h;generalize lG:Cw st1.h n _ []=ids at h;have dF:ids.Nodup:=by rw[←lG];exact S4 n List.nodup_nil
 split at h
 case h_2=>cases h
 rename_i da db ha hb;cases h;obtain⟨M,h1,h2,h3,h4,h5⟩:=r.ex;rw[←h1] at ha hb;obtain⟨k1,k2⟩:=M.ren_ok h3 (base:=base) dF;obtain⟨ol,oa⟩:=yV9 hb;let M':zK:={M.ren base ids with h:=(zM base S (da,db)).h};have MC:∀n o',M'.h n=some o'→∃o C,(M.ren base ids).h n=some o∧M'.κ n=some C∧yW (M.ren base ids) o' C∧o'.owned=o.owned:=fun m o' e=>by
  have e:(bif Nat.ble base m then(ta S.objs db)[m-base]? else none)=some o':=e;obtain⟨hle,e⟩:=ny e;obtain⟨s,x,id,y,q1,q2,q3,rfl⟩:=oa _ _ e;obtain⟨C,hC,hO⟩:=h3.obj id y q2;have hκ:(M.ren base ids).κ m=some {C with ver:=0}:=by
   show pq base M.κ ids m=_;unfold pq;simp_all
  have hh:(M.ren base ids).h m=some (vg M.h (fun i=>(fc i ids 0).map (base+·)) y):=by
   show yw base M.h ids m=_;unfold yw;grind
  obtain⟨p1,p2⟩:=vYt k1 q3 (yW6 h3 hO) rfl;grind
 have x:yL (M.ren base ids) M':=⟨fun _ C h=>⟨C,h,C.le_refl⟩,fun _ h=>h,fun _ h=>h,fun _ _=>rfl,by grind,fun _ _=>rfl⟩;have aL:∀b,qM M' b→qM (M.ren base ids) b:=fun b ⟨id,o',C,q1,q2,q3,q4⟩=>by
  obtain⟨o,D,p1,p2,p3,p4⟩:=MC id o' q1;exact⟨id,o,C,p1,by rw[←p4];exact q2,q3,q4⟩
 have kt:Ok M':=by
  refine⟨fun id o' q=>?_,fun id q=>?_,fun i j oi oj Ci Cj b od q1 q2 q3 q4 q5 q6 q7 q8=>?_,fun b hb=>k1.own b (aL b hb),k1.GF,k1.Flt⟩
  ·obtain⟨o,C,p1,p2,p3,p4⟩:=MC id o' q;exact⟨C,p2,p3.ext x (by grind)⟩
  ·have q:(bif Nat.ble base id then(ta S.objs db)[id-base]? else none)=none:=q;show pq base M.κ ids id=none;unfold pq;cases hle:Nat.ble base id with
   |false=>rw[if_neg fun h=>by rw[Nat.ble_eq_true_of_le h] at hle;cases hle]
   |true=>
    simp_all
  ·obtain⟨o1,C1,p1,p2,p3,p4⟩:=MC i oi q1;obtain⟨o2,C2,p5,p6,p7,p8⟩:=MC j oj q2;exact k1.disj i j o1 o2 Ci Cj b od p1 p5 (by rw[←p4];exact q3) (by rw[←p8];exact q4) q5 q6 q7 q8
 refine⟨⟨M',rfl,h2,kt,h4.trans (.same_mem rfl rfl rfl (by grind)),fun m=>?_⟩,r.defers,r.size,r.os,r.tape,r.output,r.keep⟩;show zT M' (match(Ct S.slots da).lookup m with|some v=>v|none=>.undef) _;cases hl:(Ct S.slots da).lookup m with
 |none=>trivial
 |some v=>
  obtain⟨s,y,q1,rfl⟩:=yXe ha hl;exact(vKa k1 q1 (vVz h3 (h5 m))).ext x
theorem MD {pre S st d}(r:vV false na nt a0 M0 w0 st a w)(h:Hn pre S st=some d):vV false na nt a0 M0 w0 (zM (pre+hZ) S d) a w:=S7 r h
end
end Go.Ab
