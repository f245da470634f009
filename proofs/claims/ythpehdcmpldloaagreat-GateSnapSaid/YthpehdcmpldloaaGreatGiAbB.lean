/- part 1 -/
import Derived.Test.YthpehdcmpldloaaGreatGiAbA
import Derived.Laws.BytesString
set_option linter.unusedVariables false
set_option linter.unusedSimpArgs false
namespace Go.Ab
theorem yYn off:∀l k cells,off+k+l.length≤cells.size→
  (l.zipIdx k).foldl (fun(cs:Array Value) (p:Value×Nat)=>cs.setIfInBounds (off+p.2) p.1) cells=yV cells (off+k) l
 |[],k,cells,h=>by
  apply Array.ext_getElem?;intro j;rw[jR h];simp_all
 |c::l,k,cells,h=>by
  simp;rw[yYn off l (k+1) _ (by grind)];apply Array.ext_getElem?;intro j;rw[jR (by grind),jR (by omega)];grind
theorem Sp place cells i v rest off size (h:place i=some (off,size))(h1:v.cells.size=size)(h2:off+size≤cells.size):
  Instr.fill place cells ((i,v)::rest)=Instr.fill place (yV cells off v.cells.toList) rest:=by
 have hc:¬(v.cells.size≠size||decide (off+v.cells.size>cells.size))=true:=by
  simp_all
 simp only[Instr.fill,h];rw[if_neg hc]
 congr 1
 rw[←Array.foldl_toList,Array.toList_zipIdx];have:=yYn off v.cells.toList 0 cells (by simp;omega);omega
def yo (M:zK):(Nat×zV)→(Nat×Value)→Prop:=fun p q=>p.1=q.1∧zU M p.2 q.2
theorem Sq {M place}:∀{parts aM cells out vals},zL (zW M) cells vals.toList→
  zL (yo M) parts aM→Hb place cells parts=some out→∃res,Instr.fill place vals aM=some res∧zL (zW M) out res.toList
 |[],[],cells,out,vals,hc,_,h=>by cases h;exact⟨vals,rfl,hc⟩
 |(i,v)::parts,(i',rv)::aM,cells,out,vals,hc,hp,h=>by
  obtain⟨⟨hi,hv⟩,hp⟩:=hp;subst hi;unfold Hb at h;split at h
  ·rename_i off size vs CC dD;cases hb:(Nat.beq vs.length size&&Nat.ble (off+size) cells.length) with
   |false=>simp_all
   |true=>
    rw[hb] at h;simp only[Bool.and_eq_true] at hb;have b1:=Nat.eq_of_beq_eq_true hb.1;have b2:=Nat.le_of_ble_eq_true hb.2;split at h
    ·rename_i bH Sr;obtain⟨p1,rfl⟩:=RK _ _ _ _ Sr;have dm:=L5 dD hv;have hl:=dm.length;have mR:=hc.length;simp  at hl mR;have yQ:=RO (yM.refl M) hc dm (off:=off) (by simp_all);obtain⟨res,h1,h2⟩:=Sq yQ hp h;exact⟨res,by rw[Sp place vals i rv aM off size CC (by omega) (by omega)];exact h1,h2⟩
    ·cases h
  ·cases h
theorem yS9 {P} w:∀(l:List Field),l.all (fun f=>(P.info? f.type).isSome)=true→
  (l.mapM fun f=>(do pure (f.offset,←sizeOf f.type):Sem (Nat×Nat))).run P w=.ok (l.map fun f=>(f.offset,P.cellsOf f.type)) w
 |[],_=>by simp
 |f::l,h=>by
  simp only[List.all_cons,Bool.and_eq_true] at h;obtain⟨i,hi⟩:=Option.isSome_iff_exists.1 h.1;rw[List.mapM_cons];simp only[Sem.run_bind,im w hi,Result.andThen_ok,Sem.run_pure,yS9 w l h.2,List.map_cons]
theorem vDl {P M w}(ok:Ok M)(hM:M.H=w.heap){t parts aM v u}(hp:zL (yo M) parts aM)
  (h:yG (Rp P t parts) v u):qK P (Instr.build t aM.toArray) M w v u:=by
 unfold Rp at h;split at h
 ·exact h.elim
 ·rename_i zero hz;obtain⟨i,z,h1,h2,h3,h4,rfl⟩:=yIy hz;have hzero:=LZ M h4;split at h
  ·rename_i fs hs;obtain⟨bg,h⟩:=fY h;split at h
   ·rename_i cells hf;obtain⟨rfl,rfl⟩:=wH h;have CC:(fun(j:Nat)=>(fs[j]?).map fun(f:Field)=>(f.offset,P.cellsOf f.type))=(fun(j:Nat)=>(fs.toList.map fun f=>(f.offset,P.cellsOf f.type)).toArray[j]?):=by
     simp
    obtain⟨res,k1,k2⟩:=Sq hzero hp hf;refine qK.pure ok hM (rv:=.agg res) ?_ ⟨res,rfl,k2⟩;have hm:=yS9 (P:=P) w fs.toList bg;simp[Instr.build,zeroValue,RG w h1,run_underlying hs,Array.mapM_eq_mapM_toList];simp_all
   ·exact h.elim
  ·rename_i n e hs;obtain⟨bg,h⟩:=fY h;obtain⟨y,hy⟩:=Option.isSome_iff_exists.1 bg;split at h
   ·rename_i cells hf;obtain⟨rfl,rfl⟩:=wH h;obtain⟨res,k1,k2⟩:=Sq hzero hp hf;refine qK.pure ok hM (rv:=.agg res) ?_ ⟨res,rfl,k2⟩;simp[Instr.build,zeroValue,Sem.run_bind,RG w h1,Result.andThen_ok,h2,Sem.run_pure,run_underlying hs,im w hy];simp_all
   ·exact h.elim
  ·exact h.elim
theorem qK.after {P s M M1 w v u1 u2}(h1:M1.h=qJ M.h u1)(st:vA M M1)(h:qK P s M1 w v u2):qK P s M w v (u1++u2):=by
 obtain⟨rv,w',M',a1,a2,a3,a4,a5,a6,a7,a8,a9⟩:=h;exact⟨rv,w',M',a1,a2,a3,a4,a5,by rw[a6,h1,kM],a7,st.trans a8,a9⟩
theorem wY.fresh {h0 h}(hf:wY h0 h){n}(hn:h0 n=none):h n=none:=by
 rcases hf n with e|⟨o,t,xs,e1,_⟩|⟨o,xs,e1,_⟩
 all_goals simp_all
theorem yTc {t vs x}(h:G8 t vs=some x):vs.length=t.size∧sm t t.dflt 0 vs=some x:=by
 unfold G8 at h;cases hb:Nat.beq vs.length t.size with
 |false=>simp_all
 |true=>simp_all
theorem vUj {M t vs us x}(h:G8 t vs=some x)(hv:zL (zW M) vs us){rd}(hr:∀i,i<us.length→rd i=us[i]?):qF M.H M.G t x rd:=by
 obtain⟨h1,h2⟩:=yTc h;have hl:=hv.length;refine RV t vs us t.dflt x 0 (fun j=>(gO t)[j]?) rd (Hw t _ (by simp)) h2 hv (by grind) (by grind)
theorem yUj {h0 t n}:∀{parts aM xs out vals u M},Ok M→wY h0 M.h→xs.length=n→vals.size=n*t.size→
  (∀k h,qF M.H M.G t xs[k] (fun j=>vals[k*t.size+j]?))→(∀p∈parts,p.1<n)→zL (yo M) parts aM→qb h0 t xs parts=some (out,u)→
  ∃res M',Instr.fill (fun i=>some (i*t.size,t.size)) vals aM=some res∧M'.H=M.H∧M'.h=qJ M.h u∧Ok M'∧vA M M'∧wY h0 M'.h∧out.length=n∧res.size=n*t.size∧
   (∀k h,qF M'.H M'.G t out[k] (fun j=>res[k*t.size+j]?))
 |[],[],xs,out,vals,u,M,ok,hf,hx,hs,hE,_,_,h=>by
  cases h;exact⟨vals,M,rfl,rfl,rfl,ok,vA.refl M,hf,hx,hs,hE⟩
 |(i,v)::parts,(i',rv)::aM,xs,out,vals,u,M,ok,hf,hx,hs,hE,bj,hp,h=>by
  obtain⟨⟨hi,hv⟩,hp⟩:=hp;dsimp only at hi hv;subst hi;unfold qb at h;split at h
  ·rename_i vs dD;split at h
   ·rename_i R6 u1 Cr;split at h
    ·rename_i x uJ;split at h
     ·rename_i xs' us bY;cases h;have dm:=L5 dD hv;obtain⟨M1,a1,a2,a3,a4,a5,a6,a7⟩:=RQ ok hf dm Cr;have hl:=a5.length;simp  at hl;have Mj:=(yTc uJ).1;have eZ:i<n:=bj (i,v) (by simp);have aR:=Nat.mul_le_mul_right t.size (show i+1≤n by omega);rw[Nat.add_mul] at aR;have aJ:i*t.size+rv.cells.toList.length≤vals.size:=by simp_all
      have hE1:∀k (h:k<(xs.set i x).length),qF M1.H M1.G t (xs.set i x)[k] (fun j=>(yV vals (i*t.size) rv.cells.toList)[k*t.size+j]?):=by
       intro k hk;rw[List.length_set] at hk;by_cases e:k=i
       ·subst e;rw[List.getElem_set_self];refine vUj uJ a5 fun j hj=>?_
        rw[jR aJ,if_neg (by omega),if_pos (by omega)];simp
       ·rw[List.getElem_set_ne (Ne.symm e)];refine vB a4.ext.G (by grind) t _ _ _ (fun j hj=>?_) (hE k hk);rw[jR aJ,Array.length_toList];rcases yFy (Ne.symm e) hj with h|h
        all_goals grind
      obtain⟨res,M2,b1,b2,b3,b4,b5,b6,b7,b8,b9⟩:=yUj a3 a6 (by simp_all) (by rw[gn aJ];exact hs) hE1
       (fun p hp=>bj p (by grind)) (hp.mono fun p q hpq=>⟨hpq.1,by
        obtain⟨_,hq⟩:=hpq;exact zU.ext a4.ext hq⟩) bY
      exact⟨res,M2,by rw[Sp _ vals i rv aM (i*t.size) t.size rfl (by omega) (by omega)];exact b1,b2.trans a1,by rw[b3,a2,kM],b4,a4.trans b5,b6,b7,b8,b9⟩
     ·cases h
    ·cases h
   ·cases h
  ·cases h
theorem yIs {P w t e n aM}{ty:Ty}{i z res}(hu:P.underlying t=some (.slice e))(hi:P.info? e=some i)
  (hz:i.zero=some z) (hs:i.size=ty.size) (cP:n*P.cellsOf e≤16777216) (hf:Instr.fill (fun j=>some (j*ty.size,ty.size)) (madeCells z.cells (n*ty.size)) aM=some res):
  (Instr.buildSlice t n aM.toArray).run P w=.ok (.slice (some ⟨w.heap.size,0,none⟩) n n) (w.alloc (.cells res e)):=by
 have hc:P.cellsOf e=ty.size:=by rw[RF hi];exact hs
 rw[hc] at cP;have h1:¬2^24<n*ty.size:=by omega
 by_cases h0:n*ty.size=0
 ·have hm:madeCells z.cells (n*ty.size)=#[]:=by rw[h0];simp[madeCells]
  rw[hm] at hf;simp[Instr.buildSlice,run_underlying hu,im w hi,hc,h0];simp[Array.range_zero',hf,newRow]
 ·simp[Instr.buildSlice,run_underlying hu,Result.andThen_ok,im w hi,hc,h1,if_false,h0,Sem.run_pure,zeroValue,RG w hi,hz];rw[show(Array.range (n*ty.size)).map (z.cells[· %z.cells.size]!)=madeCells z.cells (n*ty.size) from rfl,hf];rfl
theorem yRe {parts:List (Nat×zV)}{n}(h:parts.all (fun p=>Nat.blt p.1 n)=true):∀p∈parts,p.1<n:=by
 simp only[List.all_eq_true] at h;exact fun p hp=>RR (h p hp)
theorem vMx {P M w}(ok:Ok M)(hM:M.H=w.heap){nm t e n parts aM ty xs u}
  (hp:zL (yo M) parts aM) (hu:P.underlying t=some (.slice e)) (aS:M.h nm=none) (dF:jz P e=some ty) (cP:n*P.cellsOf e≤16777216) (bj:∀p∈parts,p.1<n)
  (hf:qb M.h ty (List.replicate n ty.dflt) parts=some (xs,u)):
  qK P (Instr.buildSlice t n aM.toArray) M w (.c (.osl nm none)) (u++[(nm,.arr true ty xs)]):=by
 obtain⟨i,z,h1,h2,h3,h4,h5,h6,h7⟩:=qn dF;obtain⟨res,M',b1,b2,b3,b4,b5,b6,b7,b8,b9⟩:=yUj (n:=n) ok (wY.refl _) (by simp) (vals:=madeCells z.cells (n*ty.size)) (by rw[size_madeCells])
  (fun k hk=>by rw[yCu hk];exact yE8 h4 h7 (by simp_all)) bj hp hf
 have hr:=yIs (P:=P) (w:=w) hu h1 h2 h3 cP b1;refine qK.after b3 b5 (yMg b4 (by grind) (b6.fresh aS) (c:=n) (us:=res) (e:=e) (by omega) (by omega) (by grind) ?_);simp_all
structure uK (M:zK) (J:List Nat) (n:Nat) (rows:List (List Int)) (vals:Array Value) (rc:List (Option Nat×Nat)):Prop where
 len:rows.length=n
 size:vals.size=n
 rlen:rc.length=n
 row:∀k (h:k<rows.length),∃rb v,rc[k]? =some (rb,rows[k].length)∧vals[k]? =some v∧lW M.H rb rows[k].length v∧
  (∀R,rb=some R→∃rv er,M.H[R]? =some (.cells rv er (0,0))∧∀j (h':j<rows[k].length),rv[j]? =some (.int .i64 rows[k][j]))
 nd:(rc.filterMap (·.1)).Nodup
 of:∀R∈rc.filterMap (·.1),∃j∈J,∃C,M.κ j=some C∧R∈C.fp
 js:∀j∈J,∃ys:List Int,M.h j=some (.arr true (.int .i64) ys)
theorem uK.put {M}(ok:Ok M){J n rows vals rc}(I:uK M J n rows vals rc){i}(hi:i<n){v rv r u}
  (hv:zU M v rv) (ht:xW M.h v=some (r,u)) (hJ:∀p∈u,p.1∉J):∃Mk,uK M (J++u.map (·.1)) n (rows.set i r) (yV vals i rv.cells.toList) Mk∧rv.cells.size=1∧(∀p∈u,p.2=.gone):=by
 have put:∀(rb:Option Nat) (J':List Nat),rv.one1=true→lW M.H rb r.length rv→(∀R,rb=some R→∃rv er,M.H[R]? =some (.cells rv er (0,0))∧∀j (h':j<r.length),rv[j]? =some (.int .i64 r[j]))→
   (∀R,rb=some R→R∉rc.filterMap (·.1))→(∀R,rb=some R→∃j∈J',∃C,M.κ j=some C∧R∈C.fp)→(∀j∈J',∃ys:List Int,M.h j=some (.arr true (.int .i64) ys))→
   uK M (J++J') n (rows.set i r) (yV vals i rv.cells.toList) (rc.set i (rb,r.length))∧rv.cells.size=1:=by
  intro rb J' h1 h2 h3 h4 h5 h6;have aF:rv.cells=#[rv]:=by cases rv<;>first|rfl|cases h1
  obtain⟨s1,s2⟩:=L8 (x:=(rb,r.length)) rc i I.nd h4;have aJ:i+rv.cells.toList.length≤vals.size:=by rw[aF,I.size];show i+1≤n;omega
  refine⟨⟨by rw[List.length_set];exact I.len,by rw[gn aJ];exact I.size,by rw[List.length_set];exact I.rlen,fun k hk=>?_,s1,fun R hR=>?_,fun j hj=>?_⟩,by rw[aF];rfl⟩
  ·rw[List.length_set] at hk;by_cases e:k=i
   ·subst e;rw[List.getElem_set_self];refine⟨rb,rv,?_,?_,h2,h3⟩
    ·rw[List.getElem?_set_self (by rw[I.rlen];exact hi)]
    ·rw[jR aJ,if_neg (by omega),if_pos (by rw[aF];show k<k+1;omega),aF];simp
   ·rw[List.getElem_set_ne (Ne.symm e)];obtain⟨oP,v',p1,p2,p3,p4⟩:=I.row k hk;refine⟨oP,v',by rw[List.getElem?_set_ne (Ne.symm e)];exact p1,?_,p3,p4⟩;rw[jR aJ,aF];grind
  ·rcases s2 R hR with h|h
   ·obtain⟨j,hj,hC⟩:=I.of R h;exact⟨j,by grind,hC⟩
   grind
  ·rcases List.mem_append.1 hj with h|h
   ·exact I.js j h
   ·exact h6 j h
 unfold xW at ht;split at ht
 ·rename_i jd;split at ht
  ·rename_i ys cZ;cases ht;obtain⟨Cj,eE,mQ⟩:=ok.obj jd _ cZ;obtain⟨jr,jf⟩:=Hn mQ;obtain⟨r1,r2⟩:=R2 eE mQ hv;have mc:∀j∈[jd],∃ys:List Int,M.h j=some (.arr true (.int .i64) ys):=by grind
   have:=put Cj.blk [jd] (zW.one (c:=.osl jd none) hv) r1 r2 (fun R hR hm=>?_) (by grind) (fun j hj=>mc j hj)
   ·exact(by grind)
   ·obtain⟨j,hj,C,hC,hRC⟩:=I.of R hm;obtain⟨ys',l9⟩:=I.js j hj;have bp:j≠jd:=fun e=>hJ (jd,.gone) (by simp) (e▸hj)
    exact ok.disj j jd _ _ C Cj R bp l9 cZ rfl rfl hC eE hRC (fy hR)
  ·cases ht
 ·cases ht;have e:rv=.slice none 0 0:=hv;have:=put none [] (by rw[e];rfl) ⟨e,rfl⟩ (by simp) (by simp) (by simp) (by simp);exact by grind
 ·cases ht
theorem CD:∀{l},so l=true→l.Nodup
 |[],_=>by simp
 |a::l,h=>by
  simp only[so,Bool.and_eq_true] at h;refine List.nodup_cons.2 ⟨fun hm=>?_,CD h.2⟩;have:l.any (Nat.beq a)=true:=List.any_eq_true.2 ⟨a,hm,by simp⟩;simp_all
theorem yD8 {M}(ok:Ok M){n}:∀{parts aM J rows out vals rc u},uK M J n rows vals rc→
  (∀p∈parts,p.1<n)→zL (yo M) parts aM→xX M.h rows parts=some (out,u)→(J++u.map (·.1)).Nodup→
  ∃res Mk,Instr.fill (fun i=>some (i*1,1)) vals aM=some res∧uK M (J++u.map (·.1)) n out res Mk∧(∀p∈u,p.2=.gone)
 |[],[],J,rows,out,vals,rc,u,I,_,_,h,_=>by
  cases h;exact⟨vals,rc,rfl,by simp_all,by simp⟩
 |(i,v)::parts,(i',rv)::aM,J,rows,out,vals,rc,u,I,bj,hp,h,dE=>by
  obtain⟨⟨hi,hv⟩,hp⟩:=hp;subst hi;unfold xX at h;split at h
  ·rename_i r u1 ht;split at h
   ·rename_i gV us bY;cases h;rw[List.map_append,←List.append_assoc] at dE;have eZ:i<n:=bj (i,v) (by simp);obtain⟨Mk,I',h1,hg⟩:=I.put ok eZ hv ht (by grind);obtain⟨res,rc2,b1,b2,b3⟩:=yD8 ok I' (by grind) hp bY dE;refine⟨res,rc2,?_,by simp_all,fun p hp=>?_⟩
    ·rw[Sp _ vals i rv aM (i*1) 1 rfl h1 (by rw[I.size];omega),Nat.mul_one];exact b1
    grind
   ·cases h
  ·cases h
theorem Ss {j}:∀{u h},(∀p∈u,p.2=.gone)→j∈u.map (·.1)→qJ h u j=some .gone
 |(id,o)::u,h,hg,hj=>by
  have ho:o=.gone:=hg (id,o) (by simp);subst ho;by_cases hm:j∈u.map (·.1)
  ·exact Ss (u:=u) (by grind) hm
  ·have e:j=id:=by
    simp_all
   subst e;show qJ (yD h j .gone) u j=_;rw[L9]
   ·exact yO _ _ _
   ·rw[Bool.eq_false_iff];simp_all
theorem CE {n u h}(hn:n∉u.map (·.1)):qJ h u n=h n:=by
 refine L9 h ?_;rw[Bool.eq_false_iff];simp_all
theorem vXj {P:Program}{M:zK}{w}(ok:Ok M)(hM:M.H=w.heap){nm n c}{rows res rc J}{u:vG}{e s}
  (aS:M.h nm=none) (I:uK M J n rows (res.extract 0 n) rc) (hJ:∀j,j∈J→j∈u.map (·.1)) (hg:∀p∈u,p.2=.gone∧∃o,M.h p.1=some o∧o.owned=true) (hc:n≤c) (hs:c≤res.size)
  w' (hw:w'.heap=w.heap.push (.cells res e)∧w'.os=w.os∧w'.tape=w.tape∧w'.output=w.output)
  (hr:s.run P w=.ok (.slice (some ⟨w.heap.size,0,none⟩) n c) w'):qK P s M w (.c (.osl nm none)) (u++[(nm,.mat 0 rows)]):=by
 let C:qB:=⟨some M.H.size,n,1,0,rc⟩;have hnJ:nm∉u.map (·.1):=(by grind);have aR:∀R∈rc.filterMap (·.1),∃j C,(j∈u.map (·.1))∧M.κ j=some C∧R∈C.fp:=fun R hR=>by
  obtain⟨j,hj,C,hC,hm⟩:=I.of R hR;grind
 have abR:∀R∈rc.filterMap (·.1),R<M.H.size:=fun R hR=>by
  obtain⟨j,hj,C,hC,hm⟩:=I.of R hR;obtain⟨ys,hy⟩:=I.js j hj;exact(ok.own R ⟨j,_,C,hy,rfl,hC,hm⟩).2
 have hh:∀n',(qJ M.h (u++[(nm,.mat 0 rows)])) n'=if n'=nm then some (.mat 0 rows) else qJ M.h u n':=fun n'=>by
  rw[kM,RJ];by_cases e:n'=nm
  ·rw[if_pos e,e,yO]
  ·rw[if_neg e,yP _ _ e]
 have:=zK.move_ok (M:=M) (nm:=nm) (o':=.mat 0 rows) (C':=C) (h':=qJ M.h (u++[(nm,.mat 0 rows)])) (H':=M.H.push (.cells res e)) ok (fun j=>j∈u.map (·.1)) aS
  (fun j hj=>by
   obtain⟨p,hp,e⟩:=List.mem_map.1 hj;obtain⟨_,o,ho,iw⟩:=hg p hp;refine⟨o,by rw[←e];exact ho,iw,?_⟩;have bp:j≠nm:=by grind
   rw[hh,if_neg bp];exact Ss (by grind) hj)
  (by rw[hh,if_pos rfl]) (fun n' h1 h2=>by rw[hh,if_neg h2];exact CE h1) (by simp) (fun b hb _=>oN hb) (fun b hb=>Ch (oN hb))
  (fun b hb=>by
   simp only[C,qB.fp,Option.toList_some,List.singleton_append,List.mem_cons] at hb;grind)
  (fun x=>by
   refine⟨rfl,I.len.symm,rfl,by rw[I.len];exact I.rlen,?_,res,e,yd,by rw[I.len];omega,fun k hk=>?_⟩
   ·simp only[C,qB.fp,Option.toList_some,List.singleton_append];exact List.nodup_cons.2 ⟨by grind,I.nd⟩
   ·obtain⟨rb,v,p1,p2,p3,p4⟩:=I.row k hk;refine⟨rb,v,p1,?_,p3.ext x,fun R hR=>?_⟩
    ·grind
    ·obtain⟨rv,er,p5,p6⟩:=p4 R hR;refine⟨rv,er,?_,p6⟩;have:R<M.H.size:=by grind
     show(M.H.push _)[R]? =_;grind)
 refine⟨_,_,_,hr,hw.2.1,hw.2.2.1,hw.2.2.2,by show M.H.push _=_;rw[hw.1,hM],rfl,this.1,this.2,C,κset_same _ _ _,_,c,rfl,?_⟩;refine⟨hc,0,by rw[hM],.inr (by simp),?_⟩;have:qW (M.H.push (.cells res e)) M.H.size=res.size:=by simp[qW]
 show(0+c)*1≤qW (M.H.push (.cells res e)) M.H.size;rw[this];omega
theorem vNi {P M w}(ok:Ok M)(hM:M.H=w.heap){mat nm t n parts aM v u}
  (hp:zL (yo M) parts aM) (h:yG (B2 P mat nm M.h t n parts) v u):qK P (Instr.buildSlice t n aM.toArray) M w v u:=by
 unfold B2 at h;split at h
 ·rename_i e hu aS;obtain⟨cP,h⟩:=fY h;have cP:=Nat.le_of_ble_eq_true cP;cases mat with
  |true=>
   split at h
   ·rename_i rows u' dF hf;obtain⟨hb,h⟩:=fY h;simp only[Bool.and_eq_true] at hb;obtain⟨_,rfl,rfl⟩:=gm h;obtain⟨i,z,h1,h2,h3,h4,h5,h6,h7⟩:=qn dF;have Mi:z.cells.toList=[.slice none 0 0]:=h4;have So:z.cells.size=1:=h7;have I0:uK M [] n (List.replicate n []) (madeCells z.cells (n*1)) (List.replicate n (none,0)):=by
     refine⟨by simp,by rw[size_madeCells,Nat.mul_one],by simp,fun k hk=>?_,by simp,by simp,by simp⟩;have hkn:k<n:=by simp_all
     refine⟨none,.slice none 0 0,by simp[hkn],?_,⟨rfl,by simp⟩,by simp⟩;simp only[madeCells];have:z.cells.toList[0]'(by grind)=.slice none 0 0:=by grind
     grind
    obtain⟨res,rc,b1,b2,b3⟩:=yD8 ok I0 (yRe hb.2) hp hf (by simpa using CD hb.1);have hr:=yIs (P:=P) (w:=w) (ty:=.sl (.int .i64)) hu h1 h2 h3 cP b1;have Su:res.extract 0 n=res:=by
     have:=b2.size;simp_all
    refine vXj ok hM aS (by rw[Su];exact b2) (by simp) (fun p hp=>⟨b3 p hp,?_⟩) (by simp) (by rw[b2.size];omega) (w.alloc (.cells res e)) ⟨rfl,rfl,rfl,rfl⟩ hr;obtain⟨ys,hy⟩:=b2.js p.1 (by grind);exact⟨_,hy,rfl⟩
   ·exact h.elim
  |false=>
   simp  at h;split at h
   ·rename_i ty dF;split at h
    ·rename_i xs u' hf;obtain⟨hb,h⟩:=fY h;obtain⟨_,rfl,rfl⟩:=gm h;exact vMx ok hM hp hu aS dF cP (yRe hb) hf
    ·exact h.elim
   ·exact h.elim
 ·exact h.elim
theorem Sv {H F}:∀t x rd,qF H F t x rd→∀j,j<t.size→∃v,rd j=some v∧v.one1=true
 |.int k,x,rd,h,j,hj
 |.bool,x,rd,h,j,hj=>by
  simp[Ty.size] at hj;obtain rfl:j=0:=by omega
  exact⟨_,h,rfl⟩
 |.sl t,x,rd,h,j,hj=>by
  simp[Ty.size] at hj;obtain rfl:j=0:=by omega
  obtain⟨A,n,c,h1,_⟩:=h;exact⟨_,h1,rfl⟩
 |.pair a b,x,rd,h,j,hj=>by
  simp[Ty.size] at hj;by_cases bj:j<a.size
  ·exact Sv a _ _ h.1 j bj
  ·have:=Sv b _ _ h.2 (j-a.size) (by omega);simp_all
def Rd (H : Array Go.Obj) (v : Value) (n size : Nat) (news : List Value) : Prop := ∃ A c, v = .slice A n c ∧ news.length = n * size ∧ (∀ u ∈ news, u.one1 = true) ∧ (match A with
 |none=>n=0
 |some a=>n=0∨a.spot=none∧∀j u,news[j]? =some u→yQ H a.block (a.off+j)=some u)
theorem Rd.first {P H v n size news}(h:Rd H v n size news) w (hw:w.heap=H):(Builtin.firstCells size n v).run P w=.ok news.toArray w:=by
 obtain⟨A,c,rfl,hl,_,h⟩:=h;cases A with
 |none=>
  have h0:n=0:=h;subst h0;have:news=[]:=by grind
  subst this;rfl
 |some a=>
  rcases h with h0|⟨hs,h⟩
  ·subst h0;have:news=[]:=by grind
   subst this;simp[Builtin.firstCells,loadCells,loadCellsFrom]
  ·obtain⟨B,o,sp⟩:=a;cases hs;exact run_firstCells_some w size n ⟨B,o,none⟩ n c news hl (fun j u hu=>by rw[Addr.add_lit,sA,hw];simp_all)
theorem Sw {H F t}{ys:List t.den}{B o c}(hc:ys.length≤c)(h:∀i hi,qF H F t ys[i] (fun j=>yQ H B (o+i*t.size+j))):
  ∃news,Rd H (.slice (some ⟨B,o,none⟩) ys.length c) ys.length t.size news∧∀i hi,qF H F t ys[i] (fun j=>news[i*t.size+j]?):=by
 have tot:∀k,k<ys.length*t.size→∃v,yQ H B (o+k)=some v∧v.one1=true:=by
  intro k hk;have hi:k/t.size<ys.length:=Nat.div_lt_of_lt_mul (by grind);obtain⟨v,h1,h2⟩:=Sv t _ _ (h _ hi) (k%t.size) (Nat.mod_lt _ t.size_pos);refine⟨v,?_,h2⟩;rw[Nat.add_assoc,Nat.mul_comm,Nat.div_add_mod] at h1;exact h1
 refine⟨(List.range (ys.length*t.size)).map fun k=>(yQ H B (o+k)).getD undef,⟨_,c,rfl,by simp,fun u hu=>?_,.inr ⟨rfl,fun j u hu=>?_⟩⟩,fun i hi=>?_⟩
 ·grind
 ·grind
 ·refine vB (by simp) (by simp) t _ _ _ (fun j hj=>?_) (h i hi);have aR:=Nat.mul_le_mul_right t.size (show i+1≤ys.length by omega);grind
theorem Hy {H F t A c}:∃news,Rd H (.slice A 0 c) 0 t.size news∧∀i hi,qF H F t ([]:List t.den)[i] (fun j=>news[i*t.size+j]?):=
 ⟨[],⟨A,c,rfl,by simp,by simp,by grind⟩,by simp⟩
theorem Sx {H F t}{ys:List t.den}{v}(h:qF H F (.sl t) ys (fun _=>some v)):
  ∃news,Rd H v ys.length t.size news∧∀i hi,qF H F t ys[i] (fun j=>news[i*t.size+j]?):=by
 simp[qF] at h;obtain⟨A,n,c,rfl,rfl,hc,h⟩:=h;rcases h with⟨rfl,_⟩|⟨B,o,rfl,hB,hE⟩
 ·exact Hy
 ·exact Sw hc hE
theorem yp {M own t xs C id r v}(hC:M.κ id=some C)(hO:yY M (.arr own t xs) C)(hv:zW M (.osl id r) v):
  ∃news,Rd M.H v (iY xs r).length t.size news∧∀i hi,qF M.H M.G t (iY xs r)[i] (fun j=>news[i*t.size+j]?):=by
 obtain⟨h1,h2,h3,h4⟩:=hO;obtain⟨C',aC,hv⟩:=hv;rw[hC] at aC;cases aC;have key:∀lo n,lo+n≤C.len→jA M.H C lo n v→∃news,Rd M.H v (qR xs lo n).length t.size news∧∀i (hi:i<(qR xs lo n).length),qF M.H M.G t (qR xs lo n)[i] (fun j=>news[i*t.size+j]?):=by
  intro lo n hn hS;obtain⟨A,c,rfl,hS⟩:=hS;have hl:=Co (xs:=xs) (lo:=lo) (n:=n) (by omega);by_cases h0:n=0
  ·subst h0;have e:qR xs lo 0=[]:=by rfl
   exact Hy
  ·cases hB:C.blk with
   |none=>simp_all
   |some B=>
    rw[hB] at hS h4;obtain⟨hc,a,rfl,ha,_⟩:=hS;obtain⟨vals,e,h5,h6,h7,h8⟩:=h4;have qf:a=lo*C.sz:=by omega
    have := Sw (H := M.H) (F := M.G) (ys := qR xs lo n) (B := B) (o := a) (c := c) (by omega) (fun i hi=>by
     obtain⟨bG,e1⟩:=L6 hi;rw[e1];refine vB (by simp) (by simp) t _ _ _ (fun j hj=>?_) (h8 (lo+i) bG);rw[qf,h2,←Nat.add_mul];simp[yQ,h5])
    simp_all
 cases r with
 |none=>
  have:=key 0 C.len (by omega) hv;rw[h1,yWx] at this;exact this
 |some p=>exact key p.1 p.2 hv.1 hv.2.1
theorem qo {P w t e i A sLen sCap n size x news} T (hu:P.underlying t=some (.slice e))(hi:P.info? e=some i)(hs:i.size=size)
  (hx : Rd w.heap x n size news) (aQ : sLen + n ≤ sCap) w' (hw:match A with
   |none=>w'=w
   |some a=>(storeCells (a.add (sLen*size)) news).run P w=.ok () w'):
  (Builtin.append_ #[t,t] T #[.slice A sLen sCap,x]).run P w=.ok (.slice A (sLen+n) sCap) w':=by
 have hf:=hx.first (P:=P) w rfl
 obtain⟨X,c,rfl,_⟩:=hx;subst hs;cases A with
 |none=>
  subst hw;simp[Builtin.append_,run_underlying hu,sizeOf,typeInfo,hi,Builtin.lenOf,aQ,hf]
 |some a=>simp[Builtin.append_,run_underlying hu,sizeOf,typeInfo,hi,Builtin.lenOf,aQ,hf,hw]
theorem Sy {P}{w}{t e}{i}{z}{A sLen sCap n size x olds news} T (hu:P.underlying t=some (.slice e))(hi:P.info? e=some i)(hz:i.zero=some z)
  (hs:i.size=size) (hb:Rd w.heap (.slice A sLen sCap) sLen size olds) (hx:Rd w.heap x n size news) (hg:sCap<sLen+n) (h46:(sLen+n)*i.bytes≤140737488355328) (abS:sLen+n≤140737488355328):
  (Builtin.append_ #[t,t] T #[.slice A sLen sCap,x]).run P w=
   .ok (.slice (some ⟨w.heap.size,0,none⟩) (sLen+n) (grownCap w (sLen+n) sCap e)) (w.drew.alloc (.cells (olds.toArray++news.toArray++Builtin.zeroCells z.cells (grownCap w (sLen+n) sCap e-(sLen+n))) e)):=by
 have hf:=hx.first (P:=P) w.drew rfl
 have hfo:=hb.first (P:=P) w.drew rfl
 obtain⟨X,c,rfl,_⟩:=hx;subst hs;have hn:¬(sLen+n≤sCap):=by omega
 have abT:¬(9223372036854775807<((sLen:Int)+(n:Int))):=by omega
 have abU:¬(281474976710656<Builtin.nextslicecap (sLen+n) sCap*i.bytes):=by
  have h1:=Nat.mul_le_mul_right i.bytes (nextslicecap_le hg);grind
 simp[Builtin.append_,run_underlying hu,sizeOf,typeInfo,zeroValue,hi,hz,Builtin.lenOf,Question.forced,hf,hfo,newRow,grownCap];grind
theorem CF z n:(Builtin.zeroCells z n).size=n*z.size:=by simp[Builtin.zeroCells]
theorem Sz {H F t}{xs ys:List t.den}{olds news:List Value}(hl:olds.length=xs.length*t.size)(hx:∀i h,qF H F t xs[i] (fun j=>olds[i*t.size+j]?))
  (hy:∀i h,qF H F t ys[i] (fun j=>news[i*t.size+j]?)):∀i h,qF H F t (xs++ys)[i] (fun j=>(olds++news)[i*t.size+j]?):=by
 intro i hi;by_cases h:i<xs.length
 ·rw[List.getElem_append_left h];refine vB (by simp) (by simp) t _ _ _ (fun j hj=>?_) (hx i h);have:=Nat.mul_le_mul_right t.size (show i+1≤xs.length by omega);grind
 ·rw[List.getElem_append_right (by omega)];refine vB (by simp) (by simp) t _ _ _ (fun j hj=>?_) (hy (i-xs.length) (by grind));have:=Nat.mul_le_mul_right t.size (show xs.length≤i by omega);rw[List.getElem?_append_right (by omega),hl]
  congr 1
  rw[Nat.sub_mul];omega
def Hz (M:zK)(w:World)(v:zV)(u:vG)(rv:Value)(w':World):Prop:=
 ∃M',w'.os=w.os∧w'.tape=w.tape∧w'.output=w.output∧M'.H=w'.heap∧M'.h=qJ M.h u∧Ok M'∧vA M M'∧zU M' v rv
theorem Hz.runs {P s M w w' v u rv}(h:Hz M w v u rv w')(hr:s.run P w=.ok rv w'):qK P s M w v u:=by
 obtain⟨M',h⟩:=h;exact⟨_,_,M',hr,h⟩
theorem yKf {M w}(ok:Ok M)(hM:M.H=w.heap){nm t zs us e c}{u:vG}(aS:M.h nm=none)
  (hg:∀p∈u,p.2=.gone∧∃o,M.h p.1=some o∧o.owned=true) (hc:zs.length≤c) (hs:c*t.size≤us.size) (hx:∀i h,qF M.H M.G t zs[i] (fun j=>us[i*t.size+j]?))
  {w':World} (hw:w'.heap=w.heap.push (.cells us e)∧w'.os=w.os∧w'.tape=w.tape∧w'.output=w.output):
  Hz M w (.c (.osl nm none)) (u++[(nm,.arr true t zs)]) (.slice (some ⟨w.heap.size,0,none⟩) zs.length c) w':=by
 let C:qB:=⟨some M.H.size,zs.length,t.size,0,[]⟩;have hh:∀n',(qJ M.h (u++[(nm,.arr true t zs)])) n'=if n'=nm then some (.arr true t zs) else qJ M.h u n':=fun n'=>by
  rw[kM,RJ];by_cases e:n'=nm
  ·rw[if_pos e,e,yO]
  ·rw[if_neg e,yP _ _ e]
 have hle:=Nat.mul_le_mul_right t.size hc;have:=zK.move_ok (M:=M) (nm:=nm) (o':=.arr true t zs) (C':=C) (h':=qJ M.h (u++[(nm,.arr true t zs)])) (H':=M.H.push (.cells us e)) ok (fun j=>j∈u.map (·.1)) aS
  (fun j hj=>by
   obtain⟨p,hp,e⟩:=List.mem_map.1 hj;obtain⟨_,o,ho,iw⟩:=hg p hp;refine⟨o,by simp_all,iw,?_⟩;have bp:j≠nm:=by grind
   rw[hh,if_neg bp];exact Ss (by grind) hj)
  (by simp_all) (fun n' h1 h2=>by rw[hh,if_neg h2];exact CE h1) (by simp) (by grind) (fun b hb=>Ch (oN hb))
  (fun b hb=>by
   simp only[C,qB.fp] at hb;simp_all)
  (fun x=>⟨rfl,rfl,(by grind),us,e,yd,by simp,by omega,fun i hi=>vB x.G x.sameG t _ _ _ (by simp) (hx i hi)⟩)
 refine⟨_,hw.2.1,hw.2.2.1,hw.2.2.2,by show M.H.push _=_;simp_all,rfl,this.1,this.2,C,κset_same _ _ _,_,c,rfl,?_⟩;refine⟨hc,0,by rw[hM],by simp,?_⟩;have:qW (M.H.push (.cells us e)) M.H.size=us.size:=by simp[qW]
 show(0+c)*t.size≤qW (M.H.push (.cells us e)) M.H.size;simp_all
theorem vBh {P M w}(ok:Ok M)(hM:M.H=w.heap){nm t zs us e s c}{u:vG}(aS:M.h nm=none)
  (hg:∀p∈u,p.2=.gone∧∃o,M.h p.1=some o∧o.owned=true) (hc:zs.length≤c) (hs:c*t.size≤us.size) (hx:∀i h,qF M.H M.G t zs[i] (fun j=>us[i*t.size+j]?))
  {w'} (hr:s.run P w=.ok (.slice (some ⟨w.heap.size,0,none⟩) zs.length c) w') (hw:w'.heap=w.heap.push (.cells us e)∧w'.os=w.os∧w'.tape=w.tape∧w'.output=w.output):
  qK P s M w (.c (.osl nm none)) (u++[(nm,.arr true t zs)]):=
 (yKf ok hM aS hg hc hs hx hw).runs hr
theorem yBd {M:zK}{w:World}(ok:Ok M)(hM:M.H=w.heap){id nm:Nat}{t:Ty}{gQ zs:List t.den}{C:qB}{H':Array Go.Obj}{c:Nat}{A:Option Addr}{w':World}
  (ak:M.h id=some (.arr true t gQ)) (hC:M.κ id=some C) (aS:M.h nm=none) (dR:H'.size=M.H.size) (hH:∀b,b∉C.fp→H'[b]? =M.H[b]?) (cO:∀b,qW H' b=qW M.H b)
  (hx:∀M',yM M M'→M'.H=H'→M'.G=M.G→match C.blk with
   |none=>zs=[]
   |some B=>∃vals e,H'[B]? =some (.cells vals e (0,0))∧zs.length*t.size≤vals.size∧∀i (h:i<zs.length),qF M'.H M'.G t zs[i] (fun j=>vals[i*t.size+j]?))
  (hA:match C.blk with
   |none=>A=none∧zs.length=0∧c=0
   |some B=>zs.length≤c∧∃a,A=some ⟨B,a,none⟩∧(c=0∨a=0)∧c*t.size≤qW M.H B)
  (hw:w'.heap=H'∧w'.os=w.os∧w'.tape=w.tape∧w'.output=w.output):
  Hz M w (.c (.osl nm none)) [(id,.gone),(nm,.arr true t zs)] (.slice A zs.length c) w':=by
 obtain⟨C0,qp,hO⟩:=ok.obj id _ ak;rw[hC] at qp;cases qp;obtain⟨fr,ff⟩:=Hn hO;have bp:id≠nm:=by grind
 let C':qB:=⟨C.blk,zs.length,t.size,0,[]⟩;have hh:∀n',(qJ M.h [(id,.gone),(nm,.arr true t zs)]) n'=if n'=nm then some (.arr true t zs) else if n'=id then some .gone else M.h n':=fun n'=>by
  show(yD (yD M.h id .gone) nm _) n'=_;by_cases e:n'=nm
  ·rw[if_pos e,e,yO]
  ·rw[if_neg e,yP _ _ e];by_cases e2:n'=id
   ·rw[if_pos e2,e2,yO]
   ·rw[if_neg e2,yP _ _ e2]
 have:=zK.move_ok (M:=M) (nm:=nm) (o':=.arr true t zs) (C':=C') (h':=qJ M.h [(id,.gone),(nm,.arr true t zs)]) (H':=H') ok (fun j=>j=id) aS
  (fun j hj=>⟨.arr true t gQ,by rw[hj];exact ak,rfl,by simp_all⟩)
  (by rw[hh,if_pos rfl]) (by grind) (by omega) (by grind) (fun b _=>cO b)
  (fun b hb=>.inr ⟨id,C,rfl,hC,by
   simp only[C',qB.fp,List.filterMap_nil,List.append_nil] at hb;rw[ff];exact hb⟩)
  (fun x=>by
   refine⟨rfl,rfl,(by grind),?_⟩;have:=hx _ x rfl rfl;show match C.blk with
    |none=>_
    |some B=>_
   cases hB:C.blk with
   |none=>simp_all
   |some B=>
    rw[hB] at this;obtain⟨vals,e,h1,h2,h3⟩:=this;exact⟨vals,e,h1,by simp,h2,h3⟩)
 refine⟨_,hw.2.1,hw.2.2.1,hw.2.2.2,by rw[hw.1];rfl,rfl,this.1,this.2,C',κset_same _ _ _,_,c,rfl,?_⟩;show match C.blk with
  |none=>_
  |some B=>_
 cases hB:C.blk with
 |none=>rw[hB] at hA;exact hA
 |some B=>
  rw[hB] at hA;obtain⟨h1,a,h2,h3,h4⟩:=hA;refine⟨h1,a,h2,by simpa using h3,?_⟩;show(0+c)*t.size≤qW H' B;simp_all
theorem SA {P M w}(ok:Ok M)(hM:M.H=w.heap){id nm t gQ zs C H' s c A w'}
  (ak:M.h id=some (.arr true t gQ)) (hC:M.κ id=some C) (aS:M.h nm=none) (dR:H'.size=M.H.size) (hH:∀b,b∉C.fp→H'[b]? =M.H[b]?) (cO:∀b,qW H' b=qW M.H b)
  (hx:∀M',yM M M'→M'.H=H'→M'.G=M.G→match C.blk with
   |none=>zs=[]
   |some B=>∃vals e,H'[B]? =some (.cells vals e (0,0))∧zs.length*t.size≤vals.size∧∀i h,qF M'.H M'.G t zs[i] (fun j=>vals[i*t.size+j]?))
  (hA:match C.blk with
   |none=>A=none∧zs.length=0∧c=0
   |some B=>zs.length≤c∧∃a,A=some ⟨B,a,none⟩∧(c=0∨a=0)∧c*t.size≤qW M.H B)
  (hw:w'.heap=H'∧w'.os=w.os∧w'.tape=w.tape∧w'.output=w.output) (hr:s.run P w=.ok (.slice A zs.length c) w'):
  qK P s M w (.c (.osl nm none)) [(id,.gone),(nm,.arr true t zs)]:=
 (yBd ok hM ak hC aS dR hH cO hx hA hw).runs hr
theorem HA {n b}(h:(Nat.ble (n*b) 140737488355328&&Nat.ble n 140737488355328)=true):n*b≤140737488355328∧n≤140737488355328:=by
 simp_all
theorem SB {H H' F F'}:∀t x rd,t.flat=true→qF H F t x rd→qF H' F' t x rd
 |.int k,n,rd,_,h
 |.bool,n,rd,_,h=>h
 |.pair a b,p,rd,hf,h=>by
  simp[Ty.flat] at hf;exact⟨SB a _ _ hf.1 h.1,SB b _ _ hf.2 h.2⟩
theorem yFg {M:zK}{sh s}{xs:List s.den}{v}(hs:(sh||s.flat)=true)(hv:qF M.H (bif sh then M.G else M.F) (.sl s) xs (fun _=>some v)):
  ∃news,Rd M.H v xs.length s.size news∧∀i hi,qF M.H M.G s xs[i] (fun j=>news[i*s.size+j]?):=by
 obtain⟨news,h1,h2⟩:=Sx hv;refine⟨news,h1,fun i hi=>?_⟩;cases sh with
 |true=>simp_all
 |false=>exact SB _ _ _ hs (h2 i hi)
theorem yPz {M}(ok:Ok M){t x ys u v}(hv:zW M x v)(h:sr M.h t x=some (ys,u)):
  u=[]∧∃news,Rd M.H v ys.length t.size news∧∀i hi,qF M.H M.G t ys[i] (fun j=>news[i*t.size+j]?):=by
 unfold sr at h;split at h
 ·cases h;have e:v=.slice none 0 0:=hv;subst e;exact⟨rfl,Hy⟩
 ·rename_i sh s xs;cases hs:(sh||s.flat) with
  |false=>simp_all
  |true=>
   rw[hs] at h;simp  at h;obtain⟨zs,hz,rfl,rfl⟩:=h;obtain⟨e,hz⟩:=kN hz;subst e;subst hz;exact⟨rfl,yFg hs hv⟩
 ·rename_i sh s xs;cases hs:(sh||s.flat) with
  |false=>rw[hs] at h;cases h
  |true=>
   rw[hs] at h;simp  at h;obtain⟨zs,hz,rfl,rfl⟩:=h;obtain⟨e,hz⟩:=kN hz;subst e;subst hz;exact⟨rfl,yFg hs hv.2⟩
 ·split at h
  ·rename_i own s xs ak;simp  at h;obtain⟨zs,hz,rfl,rfl⟩:=h;obtain⟨e,hz⟩:=kN hz;subst e;subst hz;obtain⟨C,hC,hO⟩:=ok.obj _ _ ak;exact⟨rfl,yp hC hO hv⟩
  ·cases h
 ·cases h
theorem vHh {P M w}(ok:Ok M)(hM:M.H=w.heap){nm t e T ty x ys news}(hu:P.underlying t=some (.slice e))(dF:jz P e=some ty)(aS:M.h nm=none)
  (hx:Rd M.H x ys.length ty.size news) (hE:∀i hi,qF M.H M.G ty ys[i] (fun j=>news[i*ty.size+j]?)) (aQ:ys.length*P.bytesOf e≤140737488355328∧ys.length≤140737488355328):
  qK P (Builtin.append_ #[t,t] T #[.slice none 0 0,x]) M w (.c (.osl nm none)) [(nm,.arr true ty ys)]:=by
 obtain⟨i,z,h1,h2,h3,h4,h5,h6,h7⟩:=qn dF;by_cases h0:ys.length=0
 ·have hy:ys=[]:=by grind
  subst hy;have hr:=qo (P:=P) (w:=w) (A:=none) (sLen:=0) (sCap:=0) T hu h1 h3 (by rw[←hM];exact hx) (by simp) w rfl;let C:qB:=⟨none,0,ty.size,0,[]⟩;have:=zK.move_ok (M:=M) (nm:=nm) (o':=.arr true ty []) (C':=C) (h':=yD M.h nm (.arr true ty [])) (H':=M.H) ok (fun _=>False) aS (by simp) (yO _ _ _)
   (fun n' _ h2=>yP _ _ h2) (by simp) (by simp) (by simp) (nofun) (fun x=>⟨rfl,rfl,by grind,rfl⟩)
  exact⟨_,_,M.move nm C (yD M.h nm (.arr true ty [])) M.H,hr,rfl,rfl,rfl,hM,rfl,this.1,this.2,C,κset_same _ _ _,_,_,rfl,rfl,rfl,rfl⟩
 ·have hb:Rd w.heap (.slice none 0 0) 0 ty.size []:=⟨none,0,rfl,by simp,by simp,rfl⟩;have hr:=Sy (P:=P) (w:=w) T hu h1 h2 h3 hb (by rw[←hM];exact hx) (by omega) (by simp_all) (by omega);simp  at hr;have hlen:news.length=ys.length*ty.size:=hx.choose_spec.choose_spec.2.1;have nM:=grownCap_ge w ys.length 0 e;refine vBh (u:=[]) ok hM aS (by simp) nM ?_ (fun i hi=>?_) hr ⟨rfl,rfl,rfl,rfl⟩
  ·simp[CF,h7,hlen,←Nat.add_mul];simp_all
  ·refine vB (by simp) (by simp) ty _ _ _ (fun j hj=>?_) (hE i hi);have:=Nat.mul_le_mul_right ty.size (show i+1≤ys.length by omega);grind
theorem SC {P}{M w}(ok:Ok M)(hM:M.H=w.heap){id nm t e T ty x b gQ ys r news}(hu:P.underlying t=some (.slice e))(dF:jz P e=some ty)
  (aS:M.h nm=none) (ak:M.h id=some (.arr true ty gQ)) (hb:zW M (.osl id r) b) (sH:match r with|none=>True|some (lo,_)=>lo=0)
  (hx:Rd M.H x ys.length ty.size news) (hE:∀i hi,qF M.H M.G ty ys[i] (fun j=>news[i*ty.size+j]?))
  (aQ:((iY gQ r).length+ys.length)*P.bytesOf e≤140737488355328∧(iY gQ r).length+ys.length≤140737488355328):
  qK P (Builtin.append_ #[t,t] T #[b,x]) M w (.c (.osl nm none)) [(id,.gone),(nm,.arr true ty (iY gQ r++ys))]:=by
 obtain⟨i,z,h1,h2,h3,h4,h5,h6,h7⟩:=qn dF;obtain⟨C,hC,hO⟩:=ok.obj id _ ak;obtain⟨olds,ho,hEo⟩:=yp hC hO hb;have hlen:news.length=ys.length*ty.size:=hx.choose_spec.choose_spec.2.1;have me:olds.length=(iY gQ r).length*ty.size:=ho.choose_spec.choose_spec.2.1;obtain⟨C',aC,hS⟩:=hb;rw[hC] at aC;cases aC;have nR:∃n,(iY gQ r).length=n∧jA M.H C 0 n b:=by
  cases r with
  |none=>exact⟨C.len,by rw[hO.1];rfl,hS⟩
  |some p=>
   obtain⟨lo,n⟩:=p;have:lo=0:=sH;subst this;exact⟨n,Co (by have:=hO.1;have:=hS.1;omega),hS.2.1⟩
 obtain⟨n,hn,A,sCap,rfl,nR⟩:=nR;rw[hn] at me ho aQ;have bg:=Sz (H:=M.H) (F:=M.G) (t:=ty) (xs:=iY gQ r) (ys:=ys) (olds:=olds) (news:=news) (by rw[hn];exact me) hEo hE;have qq:(iY gQ r++ys).length=n+ys.length:=by rw[List.length_append,hn]
 by_cases cQ:n+ys.length≤sCap
 ·
  cases hB:C.blk with
  |none=>
   rw[hB] at nR;obtain⟨rfl,rfl,rfl⟩:=nR;have hr:=qo (P:=P) (w:=w) (A:=none) (sLen:=0) (sCap:=0) T hu h1 h3 (by rw[←hM];exact hx) cQ w rfl;rw[←qq] at hr;refine SA (s:=Builtin.append_ #[t,t] T #[.slice none 0 0,x]) (H':=M.H) ok hM ak hC aS rfl (fun _ _=>rfl) (fun _=>rfl) (fun M' _ _ _=>?_) ?_ ⟨hM.symm,rfl,rfl,rfl⟩ hr
   ·rw[hB];exact List.eq_nil_of_length_eq_zero (by omega)
   ·rw[hB];exact⟨rfl,by omega,rfl⟩
  |some B=>
   rw[hB] at nR;obtain⟨hc,a,rfl,ha,hs⟩:=nR;obtain⟨k1,k2,k3,k4⟩:=hO;rw[hB] at k4;obtain⟨vals,ev,k5,k6,k7,k8⟩:=k4;rw[Nat.zero_mul] at ha;rw[Nat.zero_add,k2] at hs;have cO:qW M.H B=vals.size:=by simp only[qW,k5]
   rw[cO] at hs;have ja:w.heap[B]? =some (.cells vals ev (0,0)):=by rw[←hM];exact k5
   by_cases h0:sCap=0
   ·
    have CG:n=0:=by omega
    have SD:ys.length=0:=by omega
    have hr := qo (P := P) (w := w) (A := some ⟨B, a, none⟩) (sLen := n) (sCap := sCap) T hu h1 h3 (by rw [← hM]; exact hx) cQ w (by
     have:news=[]:=List.eq_nil_of_length_eq_zero (by rw[hlen,SD,Nat.zero_mul]);rw[this];rfl)
    rw[←qq] at hr;have Mi:iY gQ r++ys=[]:=List.eq_nil_of_length_eq_zero (by omega);refine SA (s:=Builtin.append_ #[t,t] T #[.slice (some ⟨B,a,none⟩) n sCap,x]) (H':=M.H) ok hM ak hC aS rfl (fun _ _=>rfl) (fun _=>rfl) (fun M' _ _ _=>?_) ?_ ⟨hM.symm,rfl,rfl,rfl⟩ hr
    ·rw[hB];refine⟨vals,ev,k5,by rw[Mi];simp,fun i hi=>?_⟩;rw[Mi] at hi;simp at hi
    ·rw[hB];exact⟨by omega,a,rfl,.inl h0,by rw[h0];simp⟩
   ·have mP:a=0:=by rcases ha with ha|ha<;>omega
    subst mP;have hle:=Nat.mul_le_mul_right ty.size cQ;rw[Nat.add_mul] at hle;have aJ:n*ty.size+news.length≤vals.size:=by omega
    have gU:=run_storeCells_at (P:=P) B (n*ty.size) ev news 0 vals w ja (by simpa using aJ) (fun v hv=>ye (hx.choose_spec.choose_spec.2.2.1 v hv));simp only[Nat.add_zero] at gU;have hr:=qo (P:=P) (w:=w) (A:=some ⟨B,0,none⟩) (sLen:=n) (sCap:=sCap) T hu h1 h3 (by rw[←hM];exact hx) cQ (w.setRow B (yV vals (n*ty.size) news)) (by show(storeCells (Addr.add ⟨B,0,none⟩ (n*ty.size)) news).run P w=_;rw[Addr.add_lit,Nat.zero_add];exact gU);rw[←qq] at hr;obtain⟨f1,f2,f3,f4⟩:=nO ja (new:=yV vals (n*ty.size) news) (gn aJ);refine SA (s:=Builtin.append_ #[t,t] T #[.slice (some ⟨B,0,none⟩) n sCap,x]) (H':=(w.setRow B (yV vals (n*ty.size) news)).heap) ok hM ak hC aS (by rw[hM];exact f1)
     (fun b hb=>by rw[hM];exact f3 b fun e=>hb (e▸fy hB)) (fun b=>by rw[hM];exact f4 b) (fun M' xt hH hG=>?_) ?_ ⟨rfl,rfl,rfl,rfl⟩ hr
    ·rw[hB];refine⟨_,ev,f2,by rw[qq,gn aJ,Nat.add_mul];omega,fun i hi=>?_⟩;refine vB xt.G xt.sameG ty _ _ _ (fun j hj=>?_) (bg i hi);have aR:=Nat.mul_le_mul_right ty.size (show i+1≤n+ys.length by omega);rw[Nat.add_mul,Nat.add_mul] at aR;rw[jR aJ];by_cases bj:i*ty.size+j<n*ty.size
     ·rw[if_pos bj,List.getElem?_append_left (by omega)];obtain⟨A',c',e1,_,_,hold⟩:=ho;simp only[Value.slice.injEq] at e1;obtain⟨rfl,_,rfl⟩:=e1;rcases hold with CG|⟨_,hold⟩
      ·rw[CG] at bj;omega
      ·have yq:i*ty.size+j<olds.length:=by omega
       have:=hold (i*ty.size+j) olds[i*ty.size+j] (List.getElem?_eq_getElem yq);rw[List.getElem?_eq_getElem yq,←this];simp only[yQ,k5,Nat.zero_add]
     ·rw[if_neg bj,if_pos (by omega),List.getElem?_append_right (by omega),me]
    ·rw[hB];exact by grind
 ·
  have hr:=Sy (P:=P) (w:=w) T hu h1 h2 h3 (by rw[←hM];exact ho) (by rw[←hM];exact hx) (by omega) (by rw[h6] at aQ;exact aQ.1) aQ.2;have nM:=grownCap_ge w (n+ys.length) sCap e;rw[←qq] at hr nM;refine vBh (s:=Builtin.append_ #[t,t] T #[.slice A n sCap,x]) (u:=[(id,.gone)]) ok hM aS (fun p hp=>?_) nM ?_ (fun i hi=>?_) hr ⟨rfl,rfl,rfl,rfl⟩
  ·simp only[List.mem_singleton] at hp;subst hp;exact⟨rfl,_,ak,rfl⟩
  ·simp only[Array.size_append,List.size_toArray,CF,h7,hlen,me,←Nat.add_mul];exact Nat.le_of_eq (by congr 1;omega)
  ·refine vB (fun _ h=>h) (fun _ _=>rfl) ty _ _ _ (fun j hj=>?_) (bg i hi);have:=Nat.mul_le_mul_right ty.size (show i+1≤n+ys.length by omega);rw[Nat.add_mul,Nat.add_mul] at this;rw[Array.getElem?_append_left (by simp;omega)];simp
def CH (H:Array Go.Obj)(row:List Int)(m:Option (Option Nat×Nat))(c:Option Value):Prop:=∃rb v,m=some (rb,row.length)∧c=some v∧lW H rb row.length v∧
 (∀R,rb=some R→∃rv er,H[R]? =some (.cells rv er (0,0))∧∀j (h':j<row.length),rv[j]? =some (.int .i64 row[j]))
theorem yCo {M ver xs C}(h:yY M (.mat ver xs) C):C.len=xs.length∧C.sz=1∧C.rows.length=xs.length∧C.fp.Nodup∧
  ∃cH:List Value,cH.length=xs.length∧(∀k (h:k<xs.length),CH M.H xs[k] C.rows[k]? cH[k]?)∧
   (match C.blk with
    |none=>xs=[]
    |some B=>∃vals e,M.H[B]? =some (.cells vals e (0,0))∧xs.length≤vals.size∧∀k,k<xs.length→vals[k]? =cH[k]?):=by
 obtain⟨h1,h2,h3,h4,h5,h6⟩:=h;refine⟨h2,h3,h4,h5,?_⟩;cases hB:C.blk with
 |none=>
  simp_all
 |some B=>
  rw[hB] at h6;obtain⟨vals,e,h7,h8,h9⟩:=h6;refine⟨vals.toList.take xs.length,by simp;omega,fun k hk=>?_,vals,e,h7,h8,by grind⟩;obtain⟨rb,v,k1,k2,k3,k4⟩:=h9 k hk;exact⟨rb,v,k1,by grind,k3,k4⟩
theorem CH.one {H row m v}(h:CH H row m (some v)):v.one1=true:=by
 obtain⟨rb,v',_,e,h,_⟩:=h;cases e;exact h.one
theorem yRy {M}{xs:List (List Int)}{C id v}(hC:M.κ id=some C)(hv:zW M (.osl id none) v){cH}(hl:cH.length=xs.length)(hlen:C.len=xs.length)(dR:C.sz=1)
  (cn : ∀ u ∈ cH, u.one1 = true) (hb:match C.blk with
    |none=>xs=[]
    |some B=>∃vals e,M.H[B]? =some (.cells vals e (0,0))∧xs.length≤vals.size∧∀k,k<xs.length→vals[k]? =cH[k]?):Rd M.H v xs.length 1 cH:=by
 obtain⟨C',aC,A,c,rfl,hS⟩:=hv;rw[hC] at aC;cases aC;rw[hlen];refine⟨A,c,rfl,by omega,cn,?_⟩;cases hB:C.blk with
 |none=>
  simp_all
 |some B=>
  rw[hB] at hS hb;obtain⟨hc,a,rfl,ha,_⟩:=hS;obtain⟨vals,e,h1,h2,h3⟩:=hb;by_cases h0:xs.length=0
  ·omega
  ·refine .inr ⟨rfl,fun j u hu=>?_⟩;have mP:a=0:=by omega
   have hj:j<xs.length:=by
    grind
   simp[yQ];simp_all
theorem yRo {C D:qB}(hC:C.fp.Nodup)(hD:D.fp.Nodup)(dW:∀b,b∈C.fp→b∉D.fp):((C.rows++D.rows).filterMap (·.1)).Nodup:=by
 rw[List.filterMap_append];refine List.nodup_append.2 ⟨(List.nodup_append.1 hC).2.1,(List.nodup_append.1 hD).2.1,fun a ha b hb e=>?_⟩;exact dW a (by simp[qB.fp];simp_all) (by simp[qB.fp];simp_all)
theorem Mm {P M w w'}(ok:Ok M)(hM:M.H=w.heap){id jd nm v1 v2 xs ys C Cj C' s A c H'}
  (ak:M.h id=some (.mat v1 xs)) (cZ:M.h jd=some (.mat v2 ys)) (bp:id≠jd) (hC:M.κ id=some C) (eE:M.κ jd=some Cj) (aS:M.h nm=none) (dR:M.H.size≤H'.size)
  (hH:∀b,b<M.H.size→C.blk≠some b→H'[b]? =M.H[b]?) (cO:∀b,b<M.H.size→qW H' b=qW M.H b)
  (hl:C'.len=(xs++ys).length) (CI:C'.sz=1) (yr:C'.ver=0) (mf:C'.rows=C.rows++Cj.rows) (SE:∀B,C'.blk=some B→(M.H.size≤B∧B<H'.size)∨C.blk=some B)
  (hx:match C'.blk with
   |none=>xs++ys=[]
   |some B=>∃vals e,H'[B]? =some (.cells vals e (0,0))∧(xs++ys).length≤vals.size∧∀k (h:k<(xs++ys).length),CH M.H (xs++ys)[k] (C.rows++Cj.rows)[k]? vals[k]?)
  (hA:jA H' C' 0 C'.len (.slice A (xs++ys).length c))
  (hw:w'.heap=H'∧w'.os=w.os∧w'.tape=w.tape∧w'.output=w.output) (hr:s.run P w=.ok (.slice A (xs++ys).length c) w'):
  qK P s M w (.c (.osl nm none)) [(id,.gone),(jd,.gone),(nm,.mat 0 (xs++ys))]:=by
 obtain⟨C0,qp,hO⟩:=ok.obj id _ ak;rw[hC] at qp;cases qp;obtain⟨C1,iu,mQ⟩:=ok.obj jd _ cZ;rw[eE] at iu;cases iu;have SF:=hO.2.2.2.2.1;have ndD:=mQ.2.2.2.2.1;have dW:∀b,b∈C.fp→b∉Cj.fp:=fun b h1 h2=>ok.disj id jd _ _ C Cj b bp ak cZ rfl rfl hC eE h1 h2
 have Mn:id≠nm:=by grind
 have hnj:jd≠nm:=by grind
 have hh:∀n',(qJ M.h [(id,.gone),(jd,.gone),(nm,.mat 0 (xs++ys))]) n'=if n'=nm then some (.mat 0 (xs++ys)) else if n'=jd then some .gone else if n'=id then some .gone else M.h n':=fun n'=>by
  show(yD (yD (yD M.h id .gone) jd .gone) nm _) n'=_;by_cases e:n'=nm
  ·rw[if_pos e,e,yO]
  ·rw[if_neg e,yP _ _ e];by_cases e2:n'=jd
   ·rw[if_pos e2,e2,yO]
   ·rw[if_neg e2,yP _ _ e2];by_cases e3:n'=id
    ·rw[if_pos e3,e3,yO]
    ·rw[if_neg e3,yP _ _ e3]
 have HB:∀b∈C.fp,b<M.H.size:=fun b hb=>(ok.own b ⟨id,_,C,ak,rfl,hC,hb⟩).2
 have HC:∀b∈Cj.fp,b<M.H.size:=fun b hb=>(ok.own b ⟨jd,_,Cj,cZ,rfl,eE,hb⟩).2
 have aX:∀R∈(C.rows++Cj.rows).filterMap (·.1),R∈C.fp∧C.blk≠some R∨R∈Cj.fp:=fun R hR=>by
  rw[List.filterMap_append] at hR;rcases List.mem_append.1 hR with h|h
  ·refine .inl ⟨by simp only[qB.fp,List.mem_append];exact .inr h,fun e=>?_⟩;exact(List.nodup_append.1 SF).2.2 R (by simp[e]) R h rfl
  ·exact .inr (by simp only[qB.fp,List.mem_append];exact .inr h)
 have HD:∀R∈(C.rows++Cj.rows).filterMap (·.1),R<M.H.size∧C.blk≠some R:=fun R hR=>by
  rcases aX R hR with⟨h1,h2⟩|h
  ·exact⟨HB R h1,h2⟩
  ·exact⟨HC R h,fun e=>dW R (fy e) h⟩
 have nd':C'.fp.Nodup:=by
  simp only[qB.fp,mf];cases hB:C'.blk with
  |none=>simpa using yRo SF ndD dW
  |some B=>
   simp only[Option.toList_some,List.singleton_append];refine List.nodup_cons.2 ⟨fun hm=>?_,yRo SF ndD dW⟩;grind
 have:=zK.move_ok (M:=M) (nm:=nm) (o':=.mat 0 (xs++ys)) (C':=C') (h':=qJ M.h [(id,.gone),(jd,.gone),(nm,.mat 0 (xs++ys))]) (H':=H') ok (fun j=>j=id∨j=jd) aS
  (fun j hj=>by
   rcases hj with rfl|rfl
   ·exact⟨_,ak,rfl,by rw[hh,if_neg Mn,if_neg bp,if_pos rfl]⟩
   ·exact⟨_,cZ,rfl,by rw[hh,if_neg hnj,if_pos rfl]⟩)
  (by rw[hh,if_pos rfl]) (fun n' h1 h2=>by rw[hh,if_neg h2,if_neg (fun e=>h1 (.inr e)),if_neg (fun e=>h1 (.inl e))]) dR
  (fun b hb hn=>hH b hb fun e=>hn id C (.inl rfl) hC (fy e)) cO
  (fun b hb=>by
   simp only[qB.fp,mf,List.mem_append] at hb;rcases hb with hb|hb
   ·cases hB:C'.blk with
    |none=>rw[hB] at hb;simp at hb
    |some B=>
     rw[hB] at hb;simp at hb;subst hb;rcases SE b hB with h|h
     ·exact .inl h
     ·exact .inr ⟨id,C,.inl rfl,hC,fy h⟩
   simp_all)
  (fun x=>by
   refine⟨yr,hl,CI,?_,nd',?_⟩
   ·rw[mf,List.length_append,hO.2.2.2.1,mQ.2.2.2.1,List.length_append]
   ·cases hB:C'.blk with
    |none=>rw[hB] at hx;exact hx
    |some B=>
     rw[hB] at hx;obtain⟨vals,e,k1,k2,k3⟩:=hx;refine⟨vals,e,k1,k2,fun k hk=>?_⟩;obtain⟨rb,v,q1,q2,q3,q4⟩:=k3 k hk;refine⟨rb,v,by rw[mf];exact q1,q2,q3.ext x,fun R hR=>?_⟩;obtain⟨rv,er,q5,q6⟩:=q4 R hR;have hRm:=HD R (List.mem_filterMap.2 ⟨_,List.mem_of_getElem? q1,hR⟩);exact⟨rv,er,by show H'[R]? =_;rw[hH R hRm.1 hRm.2];exact q5,q6⟩)
 exact⟨_,_,M.move nm C' (qJ M.h [(id,.gone),(jd,.gone),(nm,.mat 0 (xs++ys))]) H',hr,hw.2.1,hw.2.2.1,hw.2.2.2,hw.1.symm,rfl,this.1,this.2,C',κset_same _ _ _,by rw[hl] at hA⊢;exact hA⟩
theorem SG {H}{xs:List (List Int)}{rc:List (Option Nat×Nat)}{cH:List Value}(hl:cH.length=xs.length)(h:∀k (h:k<xs.length),CH H xs[k] rc[k]? cH[k]?):∀u∈cH,u.one1=true:=by
 intro u hu;obtain⟨k,hk,rfl⟩:=List.getElem_of_mem hu;have:=h k (by omega);rw[List.getElem?_eq_getElem hk] at this;exact this.one
theorem vZp {P M w}(ok:Ok M)(hM:M.H=w.heap){id jd nm v1 v2 t e T x b xs ys}(hu:P.underlying t=some (.slice e))(dF:jz P e=some (.sl (.int .i64)))
  (aS:M.h nm=none) (ak:M.h id=some (.mat v1 xs)) (cZ:M.h jd=some (.mat v2 ys)) (bp:id≠jd) (hb:zW M (.osl id none) b) (hx:zW M (.osl jd none) x)
  (aQ:(xs.length+ys.length)*P.bytesOf e≤140737488355328∧xs.length+ys.length≤140737488355328):
  qK P (Builtin.append_ #[t,t] T #[b,x]) M w (.c (.osl nm none)) [(id,.gone),(jd,.gone),(nm,.mat 0 (xs++ys))]:=by
 obtain⟨i,z,h1,h2,h3,h4,h5,h6,h7⟩:=qn dF;obtain⟨C,hC,hO⟩:=ok.obj id _ ak;obtain⟨Cj,eE,mQ⟩:=ok.obj jd _ cZ;obtain⟨a1,a2,a3,a4,olds,a5,a6,a7⟩:=yCo hO;obtain⟨b1,b2,b3,b4,news,b5,b6,b7⟩:=yCo mQ;have ho:=yRy hC hb a5 a1 a2 (SG a5 a6) a7;have hn:=yRy eE hx b5 b1 b2 (SG b5 b6) b7;have qq:(xs++ys).length=xs.length+ys.length:=List.length_append;have cn:=SG b5 b6;have bg:∀k (h:k<(xs++ys).length),CH M.H (xs++ys)[k] (C.rows++Cj.rows)[k]? (olds++news)[k]? :=by
  intro k hk;by_cases bj:k<xs.length
  ·rw[List.getElem_append_left bj,List.getElem?_append_left (by omega),List.getElem?_append_left (by omega)];exact a6 k bj
  ·rw[List.getElem_append_right (by omega),List.getElem?_append_right (by omega),List.getElem?_append_right (by omega),a3,a5];exact b6 _ (by omega)
 obtain⟨C',aC,A,sCap,rfl,nR⟩:=hb;rw[hC] at aC;cases aC;rw[a1] at ho nR;have sL:i.size=1:=h3;have So:z.cells.size=1:=h7;by_cases cQ:xs.length+ys.length≤sCap
 ·cases hB:C.blk with
  |none=>
   rw[hB] at nR;obtain⟨rfl,h0,rfl⟩:=nR;have hr:=qo (P:=P) (w:=w) (A:=none) (sLen:=xs.length) (sCap:=0) T hu h1 sL (by rw[←hM];exact hn) cQ w rfl;rw[←qq] at hr;have cL:xs++ys=[]:=List.eq_nil_of_length_eq_zero (by omega);rw[a1];refine Mm (C':=⟨none,(xs++ys).length,1,0,C.rows++Cj.rows⟩) (H':=M.H) ok hM ak cZ bp hC eE aS (Nat.le_refl _) (fun _ _ _=>rfl) (fun _ _=>rfl) rfl rfl rfl rfl (fun B hB=>by cases hB) cL ⟨none,0,rfl,rfl,(by show(xs++ys).length=0;omega),rfl⟩ ⟨hM.symm,rfl,rfl,rfl⟩ hr
  |some B=>
   rw[hB] at nR a7;obtain⟨hc,a,rfl,ha,hs⟩:=nR;obtain⟨vals,ev,k5,k6,k7⟩:=a7;rw[Nat.zero_mul] at ha;rw[Nat.zero_add,a2,Nat.mul_one] at hs;have cO:qW M.H B=vals.size:=by simp only[qW,k5]
   rw[cO] at hs;have ja:w.heap[B]? =some (.cells vals ev (0,0)):=by rw[←hM];exact k5
   by_cases h0:sCap=0
   ·have hr := qo (P := P) (w := w) (A := some ⟨B, a, none⟩) (sLen := xs.length) (sCap := sCap) T hu h1 sL (by rw [← hM]; exact hn) cQ w (by
     have:news=[]:=List.eq_nil_of_length_eq_zero (by omega);rw[this];rfl)
    rw[←qq] at hr;have cL:xs++ys=[]:=List.eq_nil_of_length_eq_zero (by omega);rw[a1];refine Mm (C':=⟨some B,(xs++ys).length,1,0,C.rows++Cj.rows⟩) (H':=M.H) ok hM ak cZ bp hC eE aS (Nat.le_refl _) (fun _ _ _=>rfl) (fun _ _=>rfl) rfl rfl rfl rfl (fun B' j8=>.inr (by cases j8;exact hB))
     ⟨vals,ev,k5,by rw[cL];simp,fun k hk=>by rw[cL] at hk;simp at hk⟩ ⟨_,sCap,rfl,(by show(xs++ys).length≤sCap;omega),a,rfl,.inl h0,by rw[h0];simp⟩ ⟨hM.symm,rfl,rfl,rfl⟩ hr
   ·have mP:a=0:=by rcases ha with ha|ha<;>omega
    subst mP;have aJ:xs.length+news.length≤vals.size:=by omega
    have gU:=run_storeCells_at (P:=P) B xs.length ev news 0 vals w ja (by simpa using aJ) (fun v hv=>ye (cn v hv));simp only[Nat.add_zero] at gU;have hr:=qo (P:=P) (w:=w) (A:=some ⟨B,0,none⟩) (sLen:=xs.length) (sCap:=sCap) T hu h1 sL (by rw[←hM];exact hn) cQ (w.setRow B (yV vals xs.length news))
     (by show(storeCells (Addr.add ⟨B,0,none⟩ (xs.length*1)) news).run P w=_;rw[Addr.add_lit,Nat.zero_add,Nat.mul_one];exact gU)
    rw[←qq] at hr;obtain⟨f1,f2,f3,f4⟩:=nO ja (new:=yV vals xs.length news) (gn aJ);rw[a1];refine Mm (C':=⟨some B,(xs++ys).length,1,0,C.rows++Cj.rows⟩) (H':=(w.setRow B (yV vals xs.length news)).heap) ok hM ak cZ bp hC eE aS (by rw[hM,f1];exact Nat.le_refl _) (fun b hb hn=>by rw[hM];exact f3 b fun e=>hn (e▸hB))
     (fun b _=>by rw[hM];exact f4 b) rfl rfl rfl rfl (fun B' j8=>.inr (by cases j8;exact hB)) ⟨_,ev,f2,by rw[gn aJ];omega,fun k hk=>?_⟩ ⟨_,sCap,rfl,(by show(xs++ys).length≤sCap;omega),0,rfl,.inr (by simp),by show(0+sCap)*1≤qW _ B;rw[f4,←hM,cO];omega⟩ ⟨rfl,rfl,rfl,rfl⟩ hr
    have:=bg k hk;rw[jR aJ];by_cases bj:k<xs.length
    ·rw[if_pos bj,k7 k bj];rw[List.getElem?_append_left (l₁:=olds) (by omega)] at this;exact this
    ·rw[if_neg bj,if_pos (by omega)];rw[List.getElem?_append_right (l₁:=olds) (by omega),a5] at this;exact this
 ·have hr:=Sy (P:=P) (w:=w) T hu h1 h2 sL (by rw[←hM];exact ho) (by rw[←hM];exact hn) (by omega) (by rw[h6] at aQ;exact aQ.1) aQ.2;have nM:=grownCap_ge w (xs.length+ys.length) sCap e;rw[←qq] at hr nM;generalize nN:olds.toArray++news.toArray++Builtin.zeroCells z.cells (grownCap w (xs++ys).length sCap e-(xs++ys).length)=us at hr;have SH:us.size=grownCap w (xs++ys).length sCap e:=by
   rw[←nN];simp only[Array.size_append,List.size_toArray,CF,So];omega
  have SI:∀k,k<(xs++ys).length→us[k]? =(olds++news)[k]? :=fun k hk=>by
   rw[←nN,Array.getElem?_append_left (by simp;omega)];simp
  have hbz:∀us:Array Value,qW (M.H.push (.cells us e)) M.H.size=us.size:=fun us=>by simp[qW]
  rw[a1];refine Mm (C':=⟨some M.H.size,(xs++ys).length,1,0,C.rows++Cj.rows⟩) (H':=M.H.push (.cells us e)) (w':=w.drew.alloc (.cells us e)) ok hM ak cZ bp hC eE aS (by simp) (fun b hb _=>oN hb) (fun b hb=>Ch (oN hb)) rfl rfl rfl rfl
   (fun B' j8=>.inl (by cases j8;exact⟨Nat.le_refl _,by simp⟩)) ⟨us,e,yd,by omega,fun k hk=>?_⟩ ⟨_,_,rfl,nM,0,by rw[hM],.inr (by simp),(by rw[hbz,SH];show(0+_)*1≤_;omega)⟩ ⟨(by rw[hM];rfl),rfl,rfl,rfl⟩ hr
  rw[SI k hk];exact bg k hk
theorem yt {c s v u}(h:yG (bif c then s else .stuck) v u):c=true∧yG s v u:=by
 cases c with
 |true=>simp_all
 |false=>exact h.elim
theorem ySc {c a b v u}(h:yG (bif c then a else b) v u):(c=true∧yG a v u)∨(c=false∧yG b v u):=by
 grind
theorem yOg {z:Value}{t}(h:z.cells.toList=gO t)(hs:z.cells.size=t.size){n i j}(hj:j<t.size)(hi:i<n):(Builtin.zeroCells z.cells n).toList[i*t.size+j]? =(gO t)[j]? :=by
 have aR:=Nat.mul_le_mul_right t.size (show i+1≤n by omega);rw[List.getElem?_eq_getElem (l:=gO t) (by grind),←yEs h hs (i:=i) hj];simp[Builtin.zeroCells];grind
theorem vV2 {z:Value}{t}(h:z.cells.toList=gO t)(hs:z.cells.size=t.size){n}:∀v∈(Builtin.zeroCells z.cells n).toList,v.one1=true:=by
 intro v hv;have hz:∀u∈gO t,u.one1=true:=by
  clear h hs hv
  induction t with
  |pair a b CA CB=>
   intro u hu;rcases List.mem_append.1 hu with hu|hu
   all_goals simp_all
  |_=>
   intro u hu;rw[List.mem_singleton.1 hu];rfl
 obtain⟨k,hk,rfl⟩:=List.getElem_of_mem hv;have oQ:k<n*t.size:=by rw[Array.length_toList,CF,hs] at hk;exact hk
 have h0:=t.size_pos;have := yOg h hs (n := n) (i := k / t.size) (j := k % t.size) (Nat.mod_lt _ h0) (by
  rw[Nat.div_lt_iff_lt_mul h0];omega)
 rw[Nat.div_add_mod' k t.size,List.getElem?_eq_getElem hk,List.getElem?_eq_getElem (by grind),Option.some.injEq] at this;simp_all
theorem SJ {P}{M:zK}{w:World}(ok:Ok M)(hM:M.H=w.heap){id nm n':Nat}{t:Ty}{gQ zs}{C:qB}{H'}{s:Sem Value}{c:Nat}{A:Option Addr}{w':World}
  (ak:M.h id=some (.arr true t gQ)) (hC:M.κ id=some C) (aS:M.h nm=none) (dR:H'.size=M.H.size) (hH:∀b,b∉C.fp→H'[b]? =M.H[b]?) (cO:∀b,qW H' b=qW M.H b)
  (hx:∀M',yM M M'→M'.H=H'→M'.G=M.G→match C.blk with
   |none=>zs=[]
   |some B=>∃vals e,H'[B]? =some (.cells vals e (0,0))∧zs.length*t.size≤vals.size∧∀i (h:i<zs.length),qF M'.H M'.G t zs[i] (fun j=>vals[i*t.size+j]?))
  (hn : n' ≤ zs.length) (hc : zs.length ≤ c) (hA:match C.blk with
   |none=>A=none∧n'=0∧c=0
   |some B=>∃a,A=some ⟨B,a,none⟩∧(c=0∨a=0)∧c*t.size≤qW M.H B)
  (hw:w'.heap=H'∧w'.os=w.os∧w'.tape=w.tape∧w'.output=w.output) (hr:s.run P w=.ok (.slice A n' c) w'):
  qK P s M w (.c (.osl nm (some (0,n')))) [(id,.gone),(nm,.arr true t zs)]:=by
 obtain⟨C0,qp,hO⟩:=ok.obj id _ ak;rw[hC] at qp;cases qp;obtain⟨fr,ff⟩:=Hn hO;have bp:id≠nm:=fun e=>by simp_all
 let C':qB:=⟨C.blk,zs.length,t.size,0,[]⟩;have hh:∀n',(qJ M.h [(id,.gone),(nm,.arr true t zs)]) n'=if n'=nm then some (.arr true t zs) else if n'=id then some .gone else M.h n':=fun n'=>by
  show(yD (yD M.h id .gone) nm _) n'=_;by_cases e:n'=nm
  ·rw[if_pos e,e,yO]
  ·rw[if_neg e,yP _ _ e];by_cases e2:n'=id
   ·rw[if_pos e2,e2,yO]
   ·rw[if_neg e2,yP _ _ e2]
 have:=zK.move_ok (M:=M) (nm:=nm) (o':=.arr true t zs) (C':=C') (h':=qJ M.h [(id,.gone),(nm,.arr true t zs)]) (H':=H') ok (fun j=>j=id) aS
  (fun j hj=>⟨.arr true t gQ,by rw[hj];exact ak,rfl,by simp_all⟩)
  (by rw[hh,if_pos rfl]) (by grind) (by omega) (fun b hb hn=>hH b (hn id C rfl hC)) (fun b _=>cO b)
  (fun b hb=>.inr ⟨id,C,rfl,hC,by
   simp only[C',qB.fp,List.filterMap_nil,List.append_nil] at hb;rw[ff];exact hb⟩)
  (fun x=>by
   refine⟨rfl,rfl,fun _=>rfl,?_⟩;have:=hx _ x rfl rfl;cases hB:C.blk with
   |none=>simp_all
   |some B=>
    rw[hB] at this;obtain⟨vals,e,h1,h2,h3⟩:=this;exact⟨vals,e,h1,by simp,h2,h3⟩)
 refine⟨_,_,_,hr,hw.2.1,hw.2.2.1,hw.2.2.2,by rw[hw.1];rfl,rfl,this.1,this.2,C',κset_same _ _ _,by grind,⟨_,c,rfl,?_⟩,_,_,_,rfl,by grind⟩;show match C.blk with
  |none=>_
  |some B=>_
 cases hB:C.blk with
 |none=>rw[hB] at hA;exact hA
 |some B=>
  rw[hB] at hA;obtain⟨a,h2,h3,h4⟩:=hA;refine⟨by omega,a,h2,by simpa using h3,?_⟩;show(0+c)*t.size≤qW H' B;simp_all
theorem vP4 {P}{M w}(ok:Ok M)(hM:M.H=w.heap){id nm i j m t e T ty x b xs}(hu:P.underlying t=some (.slice e))(dF:jz P e=some ty)
  (aS:M.h nm=none) (ak:M.h id=some (.arr true ty xs)) (hb:zW M (.osl id (some (0,i))) b) (hx:zW M (.osl id (some (j,m))) x) (nK:i≤j):
  qK P (Builtin.append_ #[t,t] T #[b,x]) M w (.c (.osl nm (some (0,i+m)))) [(id,.gone),(nm,.arr true ty (xs.take i++qR xs j m++xs.drop (i+m)))]:=by
 obtain⟨inf,z,h1,h2,h3,h4,h5,h6,h7⟩:=qn dF;obtain⟨C,hC,hO⟩:=ok.obj id _ ak;obtain⟨news,hR,hE⟩:=yp hC hO hx;obtain⟨C1,iu,dj,_⟩:=hx;rw[hC] at iu;cases iu;obtain⟨C1,iu,eF,⟨A,c,rfl,hS⟩,ir⟩:=hb;rw[hC] at iu;cases iu;obtain⟨_,_,_,ir,Cz⟩:=ir;cases ir;have hlen:=hO.1;have nS:(iY xs (some (j,m))).length=m:=Co (by omega);rw[nS] at hR;have Mo:news.length=m*ty.size:=hR.choose_spec.choose_spec.2.1;have sM:(qR xs j m).length=m:=nS;have sN:(xs.take i).length=i:=by rw[List.length_take];omega
 have HE:(xs.take i++qR xs j m++xs.drop (i+m)).length=xs.length:=by
  rw[List.length_append,List.length_append,sM,sN,List.length_drop];omega
 have aQ:i+m≤c:=by omega
 cases hB:C.blk with
 |none=>
  rw[hB] at hS;obtain⟨rfl,rfl,rfl⟩:=hS;have hr:=qo (P:=P) (w:=w) (A:=none) (sLen:=0) (sCap:=0) T hu h1 h3 (by rw[←hM];exact hR) aQ w rfl;refine SJ (s:=Builtin.append_ #[t,t] T #[.slice none 0 0,x]) (H':=M.H) ok hM ak hC aS rfl (fun _ _=>rfl) (fun _=>rfl) (fun M' _ _ _=>?_) (by omega) (by omega) ?_ ⟨hM.symm,rfl,rfl,rfl⟩ hr
  ·rw[hB];exact List.eq_nil_of_length_eq_zero (by omega)
  ·rw[hB];exact⟨rfl,by omega,rfl⟩
 |some B=>
  rw[hB] at hS;obtain⟨hc,a,rfl,ha,hs⟩:=hS;obtain⟨k1,k2,k3,k4⟩:=hO;rw[hB] at k4;obtain⟨vals,ev,k5,k6,k7,k8⟩:=k4;rw[Nat.zero_mul] at ha;rw[Nat.zero_add,k2] at hs;have cO:qW M.H B=vals.size:=by simp only[qW,k5]
  have ja:w.heap[B]? =some (.cells vals ev (0,0)):=by rw[←hM];exact k5
  by_cases h0:c=0
  ·have hm0:m=0:=by omega
   have hr := qo (P := P) (w := w) (A := some ⟨B, a, none⟩) (sLen := i) (sCap := c) T hu h1 h3 (by rw [← hM]; exact hR) aQ w (by
    have:news=[]:=List.eq_nil_of_length_eq_zero (by rw[Mo,hm0,Nat.zero_mul]);rw[this];rfl)
   refine SJ (s:=Builtin.append_ #[t,t] T #[.slice (some ⟨B,a,none⟩) i c,x]) (H':=M.H) ok hM ak hC aS rfl (fun _ _=>rfl) (fun _=>rfl) (fun M' _ _ _=>?_) (by omega) (by omega) ?_ ⟨hM.symm,rfl,rfl,rfl⟩ hr
   ·rw[hB];refine⟨vals,ev,k5,by rw[HE];exact k7,fun p hp=>?_⟩;rw[HE] at hp;omega
   ·rw[hB];exact⟨a,rfl,.inl h0,by rw[h0];simp⟩
  ·have mP:a=0:=by rcases ha with ha|ha<;>omega
   subst mP;have hle:=Nat.mul_le_mul_right ty.size (show i+m≤xs.length by omega);rw[Nat.add_mul] at hle;have aJ:i*ty.size+news.length≤vals.size:=by omega
   have gU:=run_storeCells_at (P:=P) B (i*ty.size) ev news 0 vals w ja (by simpa using aJ) (fun v hv=>ye (hR.choose_spec.choose_spec.2.2.1 v hv));simp only[Nat.add_zero] at gU;have hr:=qo (P:=P) (w:=w) (A:=some ⟨B,0,none⟩) (sLen:=i) (sCap:=c) T hu h1 h3 (by rw[←hM];exact hR) aQ (w.setRow B (yV vals (i*ty.size) news)) (by show(storeCells (Addr.add ⟨B,0,none⟩ (i*ty.size)) news).run P w=_;rw[Addr.add_lit,Nat.zero_add];exact gU);obtain⟨f1,f2,f3,f4⟩:=nO ja (new:=yV vals (i*ty.size) news) (gn aJ);refine SJ (s:=Builtin.append_ #[t,t] T #[.slice (some ⟨B,0,none⟩) i c,x]) (H':=(w.setRow B (yV vals (i*ty.size) news)).heap) ok hM ak hC aS (by rw[hM];exact f1)
    (fun b hb=>by rw[hM];exact f3 b fun e=>hb (e▸fy hB)) (fun b=>by rw[hM];exact f4 b) (fun M' xt hH hG=>?_) (by omega) (by omega) ?_ ⟨rfl,rfl,rfl,rfl⟩ hr
   ·rw[hB];refine⟨_,ev,f2,by rw[HE,gn aJ];exact k7,fun p hp=>?_⟩;rw[HE] at hp;have aR:=Nat.mul_le_mul_right ty.size (show p+1≤xs.length by omega);rw[Nat.add_mul] at aR;have old:(xs.take i++qR xs j m++xs.drop (i+m))[p]? =xs[p]? →(∀q,q<ty.size→(yV vals (i*ty.size) news)[p*ty.size+q]? =vals[p*ty.size+q]?)→qF M'.H M'.G ty ((xs.take i++qR xs j m++xs.drop (i+m))[p]'(by omega)) (fun q=>(yV vals (i*ty.size) news)[p*ty.size+q]?):=fun e1 e2=>by
     have e3:(xs.take i++qR xs j m++xs.drop (i+m))[p]'(by omega)=xs[p]:=by
      rw[List.getElem?_eq_getElem (by omega),List.getElem?_eq_getElem hp,Option.some.injEq] at e1;exact e1
     rw[e3];exact vB xt.G xt.sameG ty _ _ _ e2 (k8 p hp)
    by_cases Mp:p<i
    ·refine old ?_ fun q hq=>?_
     ·rw[List.append_assoc,List.getElem?_append_left (by omega),List.getElem?_take,if_pos Mp]
     ·have:=Nat.mul_le_mul_right ty.size (show p+1≤i by omega);rw[Nat.add_mul] at this;rw[jR aJ,if_pos (by omega)]
    ·by_cases HF:p<i+m
     ·have e3:(xs.take i++qR xs j m++xs.drop (i+m))[p]'(by omega)=(iY xs (some (j,m)))[p-i]'(by omega):=by
       rw[List.getElem_append_left (by rw[List.length_append,sN,sM];exact HF),List.getElem_append_right (by omega)];simp only[sN];rfl
      rw[e3];refine vB xt.G xt.sameG ty _ _ _ (fun q hq=>?_) (hE (p-i) (by omega));have q1:=Nat.mul_le_mul_right ty.size (show i≤p by omega);have q2:=Nat.mul_le_mul_right ty.size (show p-i+1≤m by omega);rw[Nat.add_mul] at q2;have q3:(p-i)*ty.size=p*ty.size-i*ty.size:=Nat.sub_mul ..
      rw[jR aJ,if_neg (by omega),if_pos (by omega)]
      congr 1;omega
     ·refine old ?_ fun q hq=>?_
      ·rw[List.getElem?_append_right (by rw[List.length_append,sN,sM];omega),List.getElem?_drop]
       congr 1
       rw[List.length_append,sN,sM];omega
      ·have:=Nat.mul_le_mul_right ty.size (show i+m≤p by omega);rw[Nat.add_mul] at this;rw[jR aJ,if_neg (by omega),if_neg (by omega)]
   ·rw[hB];exact⟨0,rfl,.inr rfl,by rw[←k2] at hs⊢;exact hs⟩
theorem SK {P M w}(ok:Ok M)(hM:M.H=w.heap){t T id lo n rx v u}(hx:zW M (.osl id (some (lo,n))) rx)
  (h:yG (LD P M.h t id lo n) v u):qK P (Builtin.clear_ #[t] T #[rx]) M w v u:=by
 unfold LD at h;split at h
 case h_2=>exact h.elim
 rename_i e s xs hu ak;split at h
 case h_2=>exact h.elim
 rename_i ty dF;obtain⟨heq,h⟩:=yt h;have:=G7 heq;subst this;obtain⟨_,rfl,rfl⟩:=gm h;obtain⟨inf,z,h1,h2,h3,h4,h5,h6,h7⟩:=qn dF;obtain⟨C,hC,dj,⟨A,c,rfl,hS⟩,_⟩:=hx;obtain⟨C1,iu,hO⟩:=ok.obj id _ ak;rw[hC] at iu;cases iu;by_cases CG:n=0
 ·subst CG;have e0:xs.take lo++List.replicate 0 ty.dflt++xs.drop (lo+0)=xs:=by simp
  rw[e0];refine⟨.tuple #[],w,M,?_,rfl,rfl,rfl,hM,?_,ok,vA.refl M,trivial⟩
  ·cases A with
   |none=>simp[Builtin.clear_,run_underlying hu]
   |some a=>simp[Builtin.clear_,run_underlying hu]
  ·rw[RJ,Cn ak]
 ·obtain⟨k1,k2,k3,k4⟩:=hO;cases hB:C.blk with
  |none=>rw[hB] at hS;omega
  |some B=>
   rw[hB] at hS k4;obtain⟨hc,a,rfl,ha,hs⟩:=hS;obtain⟨vals,ev,k5,k6,k7,k8⟩:=k4;have qf:a=lo*ty.size:=by rw[←k2];rcases ha with ha|ha<;>omega
   subst qf;have ja:w.heap[B]? =some (.cells vals ev (0,0)):=by rw[←hM];exact k5
   have HE:(Builtin.zeroCells z.cells n).toList.length=n*ty.size:=by rw[Array.length_toList,CF,h7]
   have hle:=Nat.mul_le_mul_right ty.size (show lo+n≤xs.length by omega);rw[Nat.add_mul] at hle;have aJ:lo*ty.size+(Builtin.zeroCells z.cells n).toList.length≤vals.size:=by omega
   have cn:∀v∈(Builtin.zeroCells z.cells n).toList,v.one1=true:=vV2 h4 h7;have gU:=run_storeCells_at (P:=P) B (lo*ty.size) ev (Builtin.zeroCells z.cells n).toList 0 vals w ja (by simpa using aJ) (fun v hv=>ye (cn v hv));simp only[Nat.add_zero] at gU;obtain⟨f1,f2,f3,f4⟩:=nO ja (new:=yV vals (lo*ty.size) (Builtin.zeroCells z.cells n).toList) (gn aJ);have mU:(Builtin.clear_ #[t] T #[.slice (some ⟨B,lo*ty.size,none⟩) n c]).run P w=.ok (.tuple #[]) (w.setRow B (yV vals (lo*ty.size) (Builtin.zeroCells z.cells n).toList)):=by
    obtain⟨n',rfl⟩:∃n',n=n'+1:=⟨n-1,by omega⟩;have e:(storeCells ⟨B,lo*ty.size,none⟩ (Builtin.zeroCells z.cells (n'+1)).toList).run P w=.ok () (w.setRow B (yV vals (lo*ty.size) (Builtin.zeroCells z.cells (n'+1)).toList)):=gU;simp[Builtin.clear_,run_underlying hu,zeroValue,typeInfo,h1,h2,e]
   have hH:∀b,b∉C.fp→(w.setRow B (yV vals (lo*ty.size) (Builtin.zeroCells z.cells n).toList)).heap[b]? =M.H[b]? :=fun b sE=>by
    rw[hM];exact f3 b fun e=>sE (e▸fy hB)
   have cO:∀b,b<M.H.size→qW (w.setRow B (yV vals (lo*ty.size) (Builtin.zeroCells z.cells n).toList)).heap b=qW M.H b:=fun b _=>by rw[hM];exact f4 b
   have hol:(xs.take lo++List.replicate n ty.dflt++xs.drop (lo+n)).length=xs.length:=by
    simp only[List.length_append,List.length_take,List.length_replicate,List.length_drop];omega
   have x:=zK.write_ext ok ak rfl hC C.le_refl hH cO (.arr true ty (xs.take lo++List.replicate n ty.dflt++xs.drop (lo+n)));have := zK.write_ok ok ak rfl hC C.le_refl (fun _ h => h) (by rw [hM]; exact f1) hH cO (o' := .arr true ty (xs.take lo ++ List.replicate n ty.dflt ++ xs.drop (lo + n))) (by
    refine⟨by rw[hol];exact k1,k2,k3,?_⟩;rw[hB];refine⟨_,ev,f2,fun h=>(by cases h),by rw[hol,gn aJ];exact k7,fun p hp=>?_⟩;rw[hol] at hp;have aR:=Nat.mul_le_mul_right ty.size (show p+1≤xs.length by omega);rw[Nat.add_mul] at aR;have qs:(xs.take lo).length=lo:=by rw[List.length_take];omega
    have old:(xs.take lo++List.replicate n ty.dflt++xs.drop (lo+n))[p]? =xs[p]? →(∀q,q<ty.size→(yV vals (lo*ty.size) (Builtin.zeroCells z.cells n).toList)[p*ty.size+q]? =vals[p*ty.size+q]?)→
      qF (M.write id (.arr true ty (xs.take lo++List.replicate n ty.dflt++xs.drop (lo+n))) C (w.setRow B (yV vals (lo*ty.size) (Builtin.zeroCells z.cells n).toList)).heap).H (M.write id (.arr true ty (xs.take lo++List.replicate n ty.dflt++xs.drop (lo+n))) C (w.setRow B (yV vals (lo*ty.size) (Builtin.zeroCells z.cells n).toList)).heap).G ty ((xs.take lo++List.replicate n ty.dflt++xs.drop (lo+n))[p]'(by omega)) (fun q=>(yV vals (lo*ty.size) (Builtin.zeroCells z.cells n).toList)[p*ty.size+q]?):=fun e1 e2=>by
     have e3:(xs.take lo++List.replicate n ty.dflt++xs.drop (lo+n))[p]'(by omega)=xs[p]:=by
      rw[List.getElem?_eq_getElem (by omega),List.getElem?_eq_getElem hp,Option.some.injEq] at e1;exact e1
     rw[e3];exact vB x.G x.sameG ty _ _ _ e2 (k8 p hp)
    by_cases Mp:p<lo
    ·refine old ?_ fun q hq=>?_
     ·rw[List.append_assoc,List.getElem?_append_left (by omega),List.getElem?_take,if_pos Mp]
     ·have:=Nat.mul_le_mul_right ty.size (show p+1≤lo by omega);rw[Nat.add_mul] at this;rw[jR aJ,if_pos (by omega)]
    ·by_cases HF:p<lo+n
     ·have e3:(xs.take lo++List.replicate n ty.dflt++xs.drop (lo+n))[p]'(by omega)=ty.dflt:=by
       rw[List.getElem_append_left (by rw[List.length_append,qs,List.length_replicate];exact HF),List.getElem_append_right (by omega)];simp
      rw[e3];refine Hw ty _ fun q hq=>?_
      have q1:=Nat.mul_le_mul_right ty.size (show lo≤p by omega);have q2:=Nat.mul_le_mul_right ty.size (show p-lo+1≤n by omega);rw[Nat.add_mul] at q2;have q3:(p-lo)*ty.size=p*ty.size-lo*ty.size:=Nat.sub_mul ..
      rw[jR aJ,if_neg (by omega),if_pos (by omega),show p*ty.size+q-lo*ty.size=(p-lo)*ty.size+q by omega,yOg h4 h7 hq (by omega)]
     ·refine old ?_ fun q hq=>?_
      ·rw[List.getElem?_append_right (by rw[List.length_append,qs,List.length_replicate];omega),List.getElem?_drop]
       congr 1
       rw[List.length_append,qs,List.length_replicate];omega
      ·have:=Nat.mul_le_mul_right ty.size (show lo+n≤p by omega);rw[Nat.add_mul] at this;rw[jR aJ,if_neg (by omega),if_neg (by omega)])
   exact⟨_,_,_,mU,rfl,rfl,rfl,rfl,rfl,this.1,this.2,trivial⟩
theorem vGc {P M w}(ok:Ok M)(hM:M.H=w.heap){mat nm t T b x v u rb rx}
  (hb:zU M b rb) (hx:zU M x rx) (h:yG (B8 P mat nm M.h t b x) v u):qK P (Builtin.append_ #[t,t] T #[rb,rx]) M w v u:=by
 unfold B8 at h;split at h
 case h_2=>exact h.elim
 rename_i e b x hu aS;split at h
 ·exact h.elim
 rename_i ty dF;cases mat with
 |true=>
  split at h
  ·rename_i id jd;split at h
   ·rename_i v1 xs v2 ys ak cZ;cases bp:Nat.beq id jd with
    |true=>rw[bp] at h;exact h.elim
    |false=>
     rw[bp] at h;obtain⟨hr,rfl,rfl⟩:=gm h;exact vZp ok hM hu dF aS ak cZ (fun e=>by subst e;simp at bp) hb hx (HA hr)
   ·exact h.elim
  ·exact h.elim
 |false=>
  simp only[cond_false] at h;split at h
  ·split at h
   ·rename_i ys u1 ht;obtain⟨hr,rfl,rfl⟩:=gm h;obtain⟨rfl,news,h1,h2⟩:=yPz ok hx ht;rw[show rb=.slice none 0 0 from hb];exact vHh ok hM hu dF aS h1 h2 (HA hr)
   ·exact h.elim
  ·split at h
   ·rename_i s xs ak;split at h
    ·rename_i zs ys u1 hz ht;obtain⟨e1,hz⟩:=kN hz;subst e1;subst hz;obtain⟨rfl,news,h1,h2⟩:=yPz ok hx ht;split at h
     ·rcases ySc h with⟨hc,h⟩|⟨_,h⟩
      ·split at h
       ·rename_i i' jd j m zs e1 e2 _;cases e1;have:=Nat.eq_of_beq_eq_true hc;subst this;obtain⟨_,hz⟩:=kN e2;subst hz;obtain⟨hr,rfl,rfl⟩:=gm h;exact vP4 ok hM hu dF aS ak hb hx (Nat.le_of_ble_eq_true hr)
       ·exact h.elim
      ·obtain⟨hr,rfl,rfl⟩:=gm h;exact SC ok hM hu dF aS ak hb rfl h1 h2 (HA hr)
     ·rcases ySc h with⟨hc,h⟩|⟨_,h⟩
      ·exact h.elim
      ·obtain⟨hr,rfl,rfl⟩:=gm h;exact SC ok hM hu dF aS ak hb trivial h1 h2 (HA hr)
     ·exact h.elim
    ·exact h.elim
   ·exact h.elim
  ·exact h.elim
theorem SM {M}(ok:Ok M){c v t ys}(hv:zW M c v)(h:j0 M.h c=some ⟨t,ys⟩){kd}(ht:t=.int kd):
  ∃news,Rd M.H v ys.length t.size news∧∃F,∀i hi,qF M.H F t ys[i] (fun j=>news[i*t.size+j]?):=by
 unfold j0 at h;split at h
 ·cases h;obtain⟨news,h1,h2⟩:=Sx hv;exact⟨news,h1,_,h2⟩
 ·split at h
  ·rename_i own s xs ak;cases h;obtain⟨C,hC,hO⟩:=ok.obj _ _ ak;obtain⟨news,h1,h2⟩:=yp hC hO hv;exact⟨news,h1,_,h2⟩
  all_goals grind
 ·rename_i id i ver;split at h
  ·rename_i v' xs ak;cases fB:Nat.beq v' ver with
   |false=>simp_all
   |true=>
    rw[fB] at h;cases h;have e:v'=ver:=by simp_all
    subst e;obtain⟨C,hC,hO⟩:=ok.obj _ _ ak;obtain⟨C',aC,cn,_,aR⟩:=hv;rw[hC] at aC;cases aC;obtain⟨rb,rl,uL,qt⟩:=aR hO.1;by_cases hi:i<xs.length
    ·obtain⟨B,oP,v2,k1,k2,k3,k4,k5,k6⟩:=Cm hO hi;rw[uL] at k3;cases k3;rw[show xs.getD i []=xs[i] by simp_all];cases rb with
     |none=>
      obtain⟨rfl,h0⟩:=qt;have cL:xs[i]=[]:=by grind
      rw[cL];obtain⟨news,q1,q2⟩:=Hy (H:=M.H) (F:=M.G) (t:=.int .i64) (A:=none) (c:=0);exact⟨news,q1,_,q2⟩
     |some R=>
      obtain⟨a,c,rfl,h1,h2,h3⟩:=qt;by_cases h0:xs[i].length=0
      ·have cL:xs[i]=[]:=by grind
       rw[cL];obtain⟨news,q1,q2⟩:=Hy (H:=M.H) (F:=M.G) (t:=.int .i64) (A:=some ⟨R,a,none⟩) (c:=c);exact⟨news,q1,_,q2⟩
      ·have ha:a=0:=by omega
       subst ha;obtain ⟨news, q1, q2⟩ := Sw (H := M.H) (F := fun _ => True) (t := .int .i64) (ys := xs[i]) (B := R) (o := 0) (c := c) h1 (fun j hj=>by
        simp[qF,Ty.size];simp_all)
       exact⟨news,q1,_,q2⟩
    ·have:C.rows[i]? =none:=List.getElem?_eq_none (by have:=hO.2.2.2.1;omega);simp_all
  ·cases h
 ·cases h
theorem SN {M}(ok:Ok M){c v t ys}(hv:zW M c v)(h:j0 M.h c=some ⟨t,ys⟩):∃A k,v=.slice A ys.length k:=by
 by_cases ht:t=.int .i64
 ·obtain⟨news,⟨A,k,e,_⟩,_⟩:=SM ok hv h ht;simp_all
 unfold j0 at h;split at h
 ·cases h;obtain⟨news,⟨A,k,e,_⟩,_⟩:=Sx hv;simp_all
 ·rename_i id r;split at h
  ·rename_i own s xs ak;cases h;obtain⟨C,hC,hO⟩:=ok.obj _ _ ak;obtain⟨news,⟨A,k,e,_⟩,_⟩:=yp hC hO hv;simp_all
  ·rename_i ver xs ak;cases r with
   |none=>
    cases h;obtain⟨C,hC,hO⟩:=ok.obj _ _ ak;obtain⟨C',aC,A,k,e,_⟩:=hv;rw[hC] at aC;cases aC;exact⟨A,k,by rw[e,hO.2.1]⟩
   |some p=>cases h
  ·cases h
 all_goals grind
theorem vS5 {M}(ok:Ok M){c v n}(hv:zW M c v)(h:BV M.h c=some n):∃A k,v=.slice A n k:=by
 unfold BV at h;split at h
 ·cases h;exact⟨none,0,hv⟩
 ·obtain⟨C,B,_,_,e⟩:=hv;simp_all
 ·split at h
  ·rename_i t xs hr;cases h;exact SN ok hv hr
  ·cases h
theorem vUa {P w t e A n k T ts}(h0:ts[0]? =some t)(hu:P.underlying t=some (.slice e)):
  (Builtin.len_ ts T #[.slice A n k]).run P w=.ok (.int .i64 n) w:=by
 have hr:(underlying t).run P w=.ok (.slice e) w:=by simp[underlying,hu]
 simp[Builtin.len_,h0,hr,goInt]
theorem yX3 {P M w}(ok:Ok M)(hM:M.H=w.heap){lt l rl v u ts T}(hl:zL (zU M) l rl.toList)
  (h:yG (LF lt l) v u):qK P (bif lt then Builtin.min_ ts T rl else Builtin.max_ ts T rl) M w v u:=by
 unfold LF at h;split at h
 ·rename_i k x j y;obtain⟨rfl,rfl⟩:=wH h;obtain⟨rl⟩:=rl
  match rl,hl with
  |[a,b],⟨h1,h2,_⟩=>
   rw[show a=.int k x from h1,show b=.int j y from h2];refine .pure (rv:=.int k (bif lt then(bif decide (y<x) then y else x) else(bif decide (y>x) then y else x))) ok hM ?_ rfl;cases lt<;>simp[Builtin.min_,Builtin.max_,Builtin.min2,Builtin.max2,Bool.cond_decide]
 ·rename_i k x j y i z;obtain⟨rfl,rfl⟩:=wH h;obtain⟨rl⟩:=rl
  match rl,hl with
  |[a,b,c],⟨h1,h2,h3,_⟩=>
   rw[show a=.int k x from h1,show b=.int j y from h2,show c=.int i z from h3];refine .pure (rv:=_) ok hM ?_ rfl;cases lt<;>simp[Builtin.min_,Builtin.max_,Builtin.min2,Builtin.max2,Bool.cond_decide]
 ·exact h.elim
theorem yRz {M:zK}:∀{cs ns},xY cs=some ns→cs=ns.map (.int .i64)
 |[],ns,h=>by cases h;rfl
 |.int .i64 n::l,ns,h=>by
  unfold xY at h;split at h
  ·rename_i r hr;cases h;rw[yRz (M:=M) hr];rfl
  ·cases h
theorem ySy xs:∀(ns:List Int) i,xZ xs i (ns.map (.int .i64))=(((xs.drop i).take ns.length)++ns.drop ((xs.drop i).take ns.length).length).map (.int .i64)
 |[],i=>by rfl
 |n::ns,i=>by
  simp only[List.map_cons,xZ,ySy xs ns (i+1)];by_cases hi:i<xs.length
  ·have hb:Nat.blt i xs.length=true:=by simp_all
   rw[hb,List.drop_eq_getElem_cons hi];grind
  ·have hb:Nat.blt i xs.length=false:=by
    cases h:Nat.blt i xs.length with
    |false=>rfl
    |true=>exact absurd (by simp_all) hi
   have e1:xs.drop i=[]:=List.drop_eq_nil_of_le (by omega);grind
theorem vRz {P M w}(ok:Ok M)(hM:M.H=w.heap){t e ts T d s v u rd rs}(h0:ts[0]? =some t)(hu:P.underlying t=some (.slice e))(he:P.cellsOf e=1)
  (hd:zU M d rd) (hs:zU M s rs) (h:yG (B9 M.h d s) v u):qK P (Builtin.copy_ ts T #[rd,rs]) M w v u:=by
 unfold B9 at h;split at h
 case h_2=>exact h.elim
 rename_i id off n s;split at h
 case h_2=>exact h.elim
 rename_i cells ys ak oU;split at h
 case h_2=>exact h.elim
 rename_i vs eK;split at h
 case h_2=>exact h.elim
 rename_i ns Sk;obtain⟨_,rfl,rfl⟩:=gm h;clear h;obtain⟨C,B,hC,hB,rfl⟩:=hd;obtain⟨C',aC,B',vals,ev,k1,k2,k3,k4,k5⟩:=ok.obj id _ ak;rw[hC] at aC;cases aC;rw[hB] at k1;cases k1;obtain⟨c1,c2,c3⟩:=Hj eK;obtain⟨i,hi⟩:=nL (P:=P) (t:=e) (by omega);obtain⟨A,k,rfl,j6⟩:∃A k,rs=.slice A ys.length k∧∃news,Rd M.H (.slice A ys.length k) ys.length 1 news∧news=ys.map (.int .i64):=by
  split at oU
  ·cases oU;exact⟨none,0,hs,[],⟨none,0,rfl,rfl,by simp,rfl⟩,rfl⟩
  ·obtain⟨news,hR,F,hE⟩:=SM ok hs oU rfl;obtain⟨A,k,e,hl,r⟩:=hR;refine⟨A,k,e,news,⟨A,k,rfl,hl,r⟩,?_⟩;refine List.ext_getElem (by simpa[Ty.size] using hl) fun j h1 h2=>?_
   have:=hE j (by simpa using h2);simp only[qF,Ty.size,Nat.mul_one,Nat.add_zero] at this;rw[List.getElem?_eq_getElem h1,Option.some.injEq] at this;rw[this];simp
 obtain⟨news,⟨A',k',e',hl,cn,j6⟩,HG⟩:=j6;cases e';let m:=min ys.length n;have hm:Nat.min ys.length n=m:=rfl;have yu:(Builtin.firstCells 1 m (.slice A ys.length k)).run P w=.ok (news.take m).toArray w:=by
  have:Rd M.H (.slice A m k) m 1 (news.take m):=by
   refine⟨A,k,rfl,?_,fun u hu=>cn u (List.mem_of_mem_take hu),?_⟩;all_goals grind
  have:=this.first (P:=P) w hM.symm
  cases A<;>exact this
 have hbw:w.heap[B]? =some (.cells vals ev (0,0)):=by rw[←hM];exact k3
 have bL:=k4.length;have Mo:(news.take m).length=m:=by rw[List.length_take,hl];omega
 have aJ:off+(news.take m).length≤vals.size:=by
  rw[Mo];simp at bL;omega
 have gU:=run_storeCells_at (P:=P) B off ev (news.take m) 0 vals w hbw (by simpa using aJ) (fun v hv=>ye (cn v (List.mem_of_mem_take hv)));simp only[Nat.add_zero] at gU;have mU:(Builtin.copy_ ts T #[.slice (some ⟨B,off,none⟩) n n,.slice A ys.length k]).run P w=.ok (.int .i64 (m:Nat)) (w.setRow B (yV vals off (news.take m))):=by
  simp[Builtin.copy_,h0,run_underlying hu,Builtin.lenOf,im w hi,he,hm,yu,goInt];have e:(storeCells ⟨B,off,none⟩ (news.take m)).run P w=.ok () (w.setRow B (yV vals off (news.take m))):=gU;rw[e];rfl
 obtain⟨f1,f2,f3,f4⟩:=nO hbw (new:=yV vals off (news.take m)) (gn aJ);have hH:∀b,b∉C.fp→(w.setRow B (yV vals off (news.take m))).heap[b]? =M.H[b]? :=fun b sE=>by
  rw[hM];exact f3 b fun e=>sE (e▸fy hB)
 have cO:∀b,b<M.H.size→qW (w.setRow B (yV vals off (news.take m))).heap b=qW M.H b:=fun b _=>by rw[hM];exact f4 b
 let o':Obj:=.box true (cells.take off++xZ ys 0 vs++cells.drop (off+n));have x:=zK.write_ext ok ak rfl hC C.le_refl hH cO o';have aF:cells.take off++xZ ys 0 vs++cells.drop (off+n)=cells.take off++(ys.take m).map (.int .i64)++cells.drop (off+((ys.take m).map (zX.int .i64)).length):=by
  have hv:=yRz (M:=M) Sk;have hnn:ns.length=n:=by rw[←c3,hv];simp
  have HH:(ys.drop 0).take ns.length=ys.take m:=by
   grind
  rw[hv,ySy,HH,List.map_append,List.map_drop,←hv,List.append_assoc,List.append_assoc,List.append_assoc]
  congr 2
  have Mq:(ys.take m).length=m:=by rw[List.length_take];omega
  have e1:cells.drop (off+n)=(cells.drop (off+m)).drop (n-m):=by
   rw[List.drop_drop];congr 1;omega
  rw[List.length_map,Mq,c2,List.drop_take,List.drop_drop,e1,List.take_append_drop]
 have := zK.write_ok ok ak rfl hC C.le_refl (fun _ h => h) (by rw [hM]; exact f1) hH cO (o' := o') (by
  refine⟨B,_,ev,hB,k2,f2,?_,fun h=>(by cases h)⟩;rw[aF];refine RO x k4 (us:=news.take m) ?_ (by simpa using aJ);rw[HG];refine zL.of_get (by simp) fun j h1 h2=>?_
  simp[zW])
 exact⟨_,_,_,mU,rfl,rfl,rfl,rfl,rfl,this.1,this.2,rfl⟩
theorem yEb {P t}(h:Hc P t=true):∃k e i,P.underlying t=some (.map k e)∧P.underlying k=some (.int .i64)∧P.info? e=some i∧i.zero=some (.bool false):=by
 unfold Hc at h;split at h
 ·split at h
  ·rename_i hk hz;obtain⟨i,h1,h2⟩:=Option.bind_eq_some_iff.1 hz;grind
  ·cases h
 ·cases h
theorem vMu {P M w}(ok:Ok M)(hM:M.H=w.heap){nm t v u}(h:yG (B4 P nm M.h t) v u):qK P (Instr.makeMap t none) M w v u:=by
 unfold B4 at h;split at h
 case h_2=>exact h.elim
 rename_i aS;obtain⟨_,h⟩:=yt h;obtain⟨_,rfl,rfl⟩:=gm h;let C:qB:=⟨some M.H.size,0,0,0,[]⟩;have := zK.new_ok ok aS (.imap []) C (.map #[] 0) (by simp [C, qB.fp]) (by
  refine⟨M.H.size,#[],0,rfl,rfl,yd,by simp,fun n=>rfl⟩)
 refine⟨.map (some w.heap.size),w.alloc (.map #[] 0),_,?_,rfl,rfl,rfl,?_,rfl,this.1,this.2,C,M.H.size,κset_same _ _ _,rfl,by rw[hM]⟩
 ·rfl
 ·show M.H.push _=w.heap.push _;rw[hM]
theorem SO {n}:∀{es i},(∀e∈es,∃m b,e.key=.int .i64 m∧e.val=.bool b)→
  (eY n es=none∧Instr.findNow (.int .i64) (.int .i64 n) es i=some none)∨
  (∃j b e,eY n es=some (.bool b)∧Instr.findNow (.int .i64) (.int .i64 n) es i=some (some (i+j,.bool b))∧es[j]? =some e∧e.key=.int .i64 n∧
   ∀f:MapEntry→MapEntry,(∀e,(f e).key=.int .i64 n)→eY n (es.modify j f)=some (f e).val∧(∀m,m≠n→eY m (es.modify j f)=eY m es)∧∀e'∈es.modify j f,e'∈es∨e'=f e)
 |[],i,_=>.inl ⟨rfl,rfl⟩
 |e::es,i,h=>by
  obtain⟨m,b,h1,h2⟩:=h e (by simp);by_cases hm:n=m
  ·subst hm;refine .inr ⟨0,b,e,?_,?_,rfl,h1,fun f hf=>⟨?_,fun m bp=>?_,fun e' he=>?_⟩⟩
   ·simp[eY,h1,h2]
   ·simp[Instr.findNow,Instr.sameNow,h1,h2]
   ·simp[eY,hf]
   ·simp[eY,hf,h1,bp]
   grind
  ·have hs:Instr.findNow (.int .i64) (.int .i64 n) (e::es) i=Instr.findNow (.int .i64) (.int .i64 n) es (i+1):=by
    have hb:(n==m)=false:=by simp[hm]
    simp[Instr.findNow,Instr.sameNow,h1,hb]
   have hf:eY n (e::es)=eY n es:=by simp[eY,h1,hm]
   rcases SO (es:=es) (i:=i+1) (by grind) with⟨k1,k2⟩|⟨j,b',e',k1,k2,k3,k4,k5⟩
   ·exact .inl ⟨hf.trans k1,hs.trans k2⟩
   ·refine .inr ⟨j+1,b',e',hf.trans k1,by grind,by simp_all,k4,fun f hfk=>?_⟩;obtain⟨q1,q2,q3⟩:=k5 f hfk;refine⟨by simp[eY,h1,hm,q1],fun m' bp=>?_,fun e'' he=>?_⟩
    ·rw[List.modify_succ_cons];simp[eY,q2 m' bp]
    grind
theorem Mr {P w r es ck}(h:w.heap[r]? =some (.map es ck)):(getObj r).run P w=.ok (.map es ck) w:=by
 simp[getObj,Sem.run,h]
theorem yB3 {P w r es ck} o (h:w.heap[r]? =some (.map es ck)):(setObj r o).run P w=.ok () {w with heap:=w.heap.setIfInBounds r o}:=by
 simp[setObj,Sem.run,h]
theorem Ms {P w k b n}(h:P.underlying k=some (.int .i64)):(Instr.checkKey b 10000 k (.int .i64 n)).run P w=.ok () w:=by
 unfold Instr.checkKey;simp[run_underlying h]
theorem Mt {P w k n es r}(h:P.underlying k=some (.int .i64))(hf:Instr.findNow (.int .i64) (.int .i64 n) es 0=some r):(Instr.findKey k (.int .i64 n) es).run P w=.ok r w:=by
 unfold Instr.findKey;simp[run_underlying h,hf]
theorem SP {P M w}(ok:Ok M)(hM:M.H=w.heap){t x i v u rx ri}(hx:zU M x rx)(hi:zU M i ri)(h:yG (B5 P M.h t x i) v u):qK P (Instr.lookup t rx ri false) M w v u:=by
 unfold B5 at h;split at h
 case h_2=>exact h.elim
 rename_i id n;split at h
 case h_2=>exact h.elim
 rename_i cY ak;obtain⟨hb,h⟩:=yt h;obtain⟨rfl,rfl⟩:=wH h;obtain⟨k,e,inf,h1,h2,h3,h4⟩:=yEb hb;obtain⟨C,B,hC,hB,rfl⟩:=hx;obtain⟨C',aC,B',es,ck,k1,k2,k3,k4,k5⟩:=ok.obj id _ ak;rw[hC] at aC;cases aC;rw[hB] at k1;cases k1;have mS:ri=.int .i64 n:=hi;subst mS;rw[hM] at k3;refine .pure (rv:=.bool ((cY.lookup n).getD false)) ok hM ?_ rfl;have h5:=k5 n;unfold Instr.lookup;rcases SO (n:=n) (i:=0) k4 with⟨q1,q2⟩|⟨j,b,e',q1,q2,q3,q4,q5⟩
 ·have:cY.lookup n=none:=by cases hl:cY.lookup n with|none=>rfl|some b=>simp_all
  simp[run_underlying h1,Mr k3,Ms h2,Mt h2 q2,zeroValue,typeInfo,h3,h4,this]
 ·have:cY.lookup n=some b:=by cases hl:cY.lookup n with|none=>simp_all|some b=>simp_all
  simp[run_underlying h1,Mr k3,Ms h2,Mt h2 q2,this]
theorem SQ {n b c}:∀{es},eY n es=none→∀m,eY m (es++[⟨.int .i64 n,.bool b,c⟩])=if m=n then some (.bool b) else eY m es
 |[],_,m=>by rfl
 |e::es,h,m=>by
  rw[List.cons_append];have aK:∀(m:Int) (l:List MapEntry),eY m (e::l)=match e.key with|.int .i64 k=>if m=k then some e.val else eY m l|_=>eY m l:=fun m l=>rfl
  rw[aK] at h;rw[aK,aK];split at h
  ·rename_i k hk;split at h
   ·cases h
   ·by_cases hm:m=k
    ·grind
    ·rw[if_neg hm,SQ h m,if_neg hm]
  ·exact SQ h m
theorem vO7 {P M w}(ok:Ok M)(hM:M.H=w.heap){t x i y v u rx ri ry}(hx:zU M x rx)(hi:zU M i ri)(hy:zU M y ry)(h:yG (B6 P M.h t x i y) v u):
  v=.undef∧ma P (Instr.mapUpdate t rx ri ry) M w u:=by
 unfold B6 at h;split at h
 case h_2=>exact h.elim
 rename_i id n b;split at h
 case h_2=>exact h.elim
 rename_i cY ak;obtain⟨hb,h⟩:=yt h;obtain⟨_,rfl,rfl⟩:=gm h;obtain⟨k,e,inf,h1,h2,h3,h4⟩:=yEb hb;obtain⟨C,B,hC,hB,rfl⟩:=hx;obtain⟨C',aC,B',es,ck,k1,k2,k3,k4,k5⟩:=ok.obj id _ ak;rw[hC] at aC;cases aC;rw[hB] at k1;cases k1;have mS:ri=.int .i64 n:=hi;subst mS;have hry:ry=.bool b:=hy;subst hry;have k3':=k3;rw[hM] at k3;have write:∀(qu:Array MapEntry) (uM:Nat),(Instr.mapUpdate t (.map (some B)) (.int .i64 n) (.bool b)).run P w=.ok () {w with heap:=w.heap.setIfInBounds B (.map qu uM)}→
   (∀e∈qu.toList,∃m b,e.key=.int .i64 m∧e.val=.bool b)→(∀m,eY m qu.toList=if m=n then some (.bool b) else eY m es.toList)→ma P (Instr.mapUpdate t (.map (some B)) (.int .i64 n) (.bool b)) M w [(id,.imap ((n,b)::cY))]:=by
  intro qu uM hr he hf;have yv:∀c,(w.heap.setIfInBounds B (.map qu uM))[c]? =if c=B then some (.map qu uM) else w.heap[c]? :=by grind
  have hH:∀c,c∉C.fp→(w.heap.setIfInBounds B (.map qu uM))[c]? =M.H[c]? :=fun c hc=>by
   rw[yv,if_neg (fun(e:c=B)=>hc (by rw[e];exact fy hB)),hM]
  have cO:∀c,c<M.H.size→qW (w.heap.setIfInBounds B (.map qu uM)) c=qW M.H c:=fun c _=>by
   unfold qW;grind
  have := zK.write_ok ok ak rfl hC C.le_refl (by simp) (by rw [hM]; simp) hH cO (o' := .imap ((n, b) :: cY)) (by
   refine⟨B,qu,uM,hB,k2,?_,he,fun m=>?_⟩
   ·show(w.heap.setIfInBounds B (.map qu uM))[B]? =_;rw[yv,if_pos rfl]
   grind)
  exact⟨_,_,hr,rfl,rfl,rfl,rfl,rfl,this.1,this.2⟩
 refine⟨rfl,?_⟩;rcases SO (n:=n) (i:=0) k4 with⟨q1,q2⟩|⟨j,b',e',q1,q2,q3,q4,q5⟩
 ·refine write (es.push ⟨.int .i64 n,.bool b,ck⟩) (ck+1) ?_ (fun e he=>?_) fun m=>?_
  ·unfold Instr.mapUpdate;simp[run_underlying h1,Mr k3,Ms h2,Mt h2 q2,yB3 _ k3]
  ·grind
  ·rw[Array.toList_push];exact SQ q1 m
 ·refine write (es.modify j fun e=>{e with key:=.int .i64 n,val:=.bool b}) ck ?_ (by grind) fun m=>?_
  ·unfold Instr.mapUpdate;rw[Nat.zero_add] at q2;simp only[Array.getElem?_toList] at q3;simp[run_underlying h1,Mr k3,Ms h2,Mt h2 q2,yB3 _ k3,q3,q4,Instr.keyThatStays,Instr.sameBits]
  all_goals grind
theorem yFo:∀(ns:List Int) (b:ByteArray),ns.foldl (fun r n=>r.push (UInt8.ofNat n.toNat)) b=⟨(b.data.toList++nI ns).toArray⟩
 |[],b=>by simp[nI]
 |n::ns,b=>by
  rw[List.foldl_cons,yFo ns];simp[nI]
theorem vLg {P M}(ok:Ok M){c v xs}(hv:zW M c v)(h:BU M.h c=some xs){w}(hM:M.H=w.heap):
  ∃A n k,v=.slice A n k∧(Conv.bytesToString v).run P w=.ok (.string ⟨(nI xs).toArray⟩) w:=by
 unfold BU at h;split at h
 ·cases h;refine⟨none,0,0,hv,?_⟩;rw[show v=.slice none 0 0 from hv];rfl
 ·split at h
  ·rename_i ys hr;obtain rfl:ys=xs:=by simp_all
   obtain⟨news,⟨A,k,e,hl,cn,j6⟩,F,hE⟩:=SM ok hv hr rfl;refine⟨A,_,k,e,?_⟩;have hn:news=ys.map (Value.int .u8):=by
    refine List.ext_getElem (by simpa[Ty.size] using hl) fun j h1 h2=>?_
    have:=hE j (by simp_all);simp[qF,Ty.size] at this;grind
   subst e;cases A with
   |none=>
    have h1:ys=[]:=by grind
    subst h1;rfl
   |some a=>
    have lZ:(loadCells a ys.length).run P w=.ok (ys.map (Value.int .u8)).toArray w:=by
     rcases j6 with h0|⟨h1,h2⟩
     ·have h1:ys=[]:=by grind
      subst h1;rfl
     ·have:=Rd.first (P:=P) (H:=M.H) (v:=.slice (some a) ys.length k) (n:=ys.length) (size:=1) (news:=news) ⟨_,k,rfl,by grind,cn,by grind⟩ w hM.symm
      rw[hn] at this
      simpa[Builtin.firstCells] using this
    rw[run_bytesToString w a _ k ys lZ,yFo];rfl
  ·cases h
structure sQ (M:zK) (w:World) (u:vG) (M':zK) (w':World):Prop where
 os:w'.os=w.os
 tape:w'.tape=w.tape
 output:w'.output=w.output
 H:M'.H=w'.heap
 h:M'.h=qJ M.h u
 ok:Ok M'
 step:vA M M'
def sR (P:Program)(f:Nat)(args:List zV)(h:Hp)(v:zV)(u:vG):Prop:=
 ∀(M:zK) (w:World) (vs:Array Value),M.h=h→M.H=w.heap→Ok M→zL (zU M) args vs.toList→
  ((callFunc f vs).run P w=.ok (.enter f vs) w∧Calls P f vs w fun
   |.returned rv,w'=>∃M',sQ M w u M' w'∧zU M' v rv
   |_,_=>False)∨∃rv w' M',(callFunc f vs).run P w=.ok (.value rv) w'∧sQ M w u M' w'∧zU M' v rv
def yQg (P:Program)(S:LG):Prop:=∀k nm f args h v u,yG (S k nm f args h) v u→sR P f args h v u
structure fZ (E:Env):Prop where
 eq:Hr E.P E.eqT
 sums:yQg E.P E.sums
section
variable {P:Program} {Q:Exit→Act→World→Prop} {o:Oper} {a:Act} {w:World} {M:zK} {next:Act→World→Prop} {v:zV} {u:vG}
theorem gp {s}(hr:qK P s M w v u)(he:execOp a.eval o=(do pure (.value (←s)):Sem Next))(hn:∀M' w' rv,sQ M w u M' w'→zU M' v rv→next (a.put o.dst rv) w'):
  o.wp P a w next Q:=by
 obtain⟨rv,w',M',h1,h2,h3,h4,h5,h6,h7,h8,h9⟩:=hr;unfold Oper.wp;rw[he];simp[h1];exact hn M' w' rv ⟨h2,h3,h4,h5,h6,h7,h8⟩ h9
theorem yJr {s}(hr:ma P s M w u)(he:execOp a.eval o=(do s;pure .skip:Sem Next))(hn:∀M' w' rv,sQ M w u M' w'→zU M' .undef rv→next (a.put o.dst rv) w'):
  o.wp P a w next Q:=by
 obtain⟨w',M',h1,h2,h3,h4,h5,h6,h7,h8⟩:=hr;unfold Oper.wp;rw[he];simp[h1];exact hn M' w' undef ⟨h2,h3,h4,h5,h6,h7,h8⟩ trivial
theorem oV (ok:Ok M)(hM:M.H=w.heap){rv}(hu:u=[])(hv:zU M v rv)(he:(execOp a.eval o).run P w=.ok (.value rv) w)(hn:∀M' w' rv,sQ M w u M' w'→zU M' v rv→next (a.put o.dst rv) w'):
  o.wp P a w next Q:=by
 unfold Oper.wp;rw[he];subst hu;exact hn M w rv ⟨rfl,rfl,rfl,hM,rfl,ok,.refl M⟩ hv
end
theorem HI {α β} f:∀(l:List α) (r:List β),l.mapM f=some r→zL (fun a b=>f a=some b) l r
 |[],r,h=>by simp at h;subst h;trivial
 |a::l,r,h=>by
  simp[Option.bind_eq_some_iff] at h;obtain⟨b,h1,bs,h2,h3⟩:=h;cases h3;exact⟨h1,HI f l bs h2⟩
theorem zL.map_left {α β γ R}{f:α→γ}:∀{l} {m:List β},zL (fun a b=>R (f a) b) l m→zL R (l.map f) m
 |[],[],_=>trivial
 |_::_,_::_,h=>⟨h.1,zL.map_left h.2⟩
def _root_.Go.Operand.lit:Operand→Value
 |.const c=>c
 |_=>undef
theorem vQa {P:Program}{M:zK}{w:World}{t:TypeId}{d}{y:Operand}{x:zX}{rx ry:Value}{b:Bool}(hu:P.underlying t=some d)(hx:zW M x rx)(hy:ry=y.lit)
  (h:Rh d y x=some b) op (mV:op=.eql∨op=.neq) ox oy:
  (eqGuard op t ox oy rx ry).run P w=.ok () w∧(binOp op t rx ry).run P w=.ok (.bool (pZ op b)) w:=by
 have key:∀n,(Op.equalIn (n+1) t rx ry).run P w=.ok b w→(eqGuard op t ox oy rx ry).run P w=.ok () w→(binOp op t rx ry=match op with|.eql=>(do pure (.bool (←Op.equal t rx ry)))|_=>(do pure (.bool (!(←Op.equal t rx ry)))))→
   n=9999→(eqGuard op t ox oy rx ry).run P w=.ok () w∧(binOp op t rx ry).run P w=.ok (.bool (pZ op b)) w:=by
  intro n h1 h2 h3 hn;have fW:(Op.equal t rx ry).run P w=.ok b w:=by subst hn;exact h1
  refine⟨h2,?_⟩;rw[h3];rcases mV with rfl|rfl<;>simp[fW,pZ]
 unfold Rh at h;split at h<;>cases h<;>simp only[Operand.lit] at hy<;>subst hy;all_goals (try obtain rfl:rx=_:=hx)
 all_goals (try obtain⟨C,B,_,_,_,rfl⟩:=hx)
 all_goals (try obtain⟨B,o,rfl,_⟩:=hx)
 all_goals (try obtain⟨cv,rfl,_⟩:=hx)
 all_goals (try obtain⟨⟨_,_,_,rfl⟩,_⟩:=hx)
 all_goals
  refine key 9999 ?_ ?_ ?_ rfl
  ·generalize 9999=n;unfold Op.equalIn;simp[run_underlying hu]
  ·rcases mV with rfl|rfl<;>simp[eqGuard]
  ·rcases mV with rfl|rfl<;>rfl
theorem vEf {M}(ok:Ok M){c v n}(hv:zW M c v)(h:BW M.h c=some n)(hn:0<n):∃a k,v=.slice (some a) n k:=by
 unfold BW at h;split at h
 ·rename_i sh t xs;cases h;have hv:qF M.H (bif sh then M.G else M.F) (.sl t) xs (fun _=>some v):=hv;simp[qF] at hv;obtain⟨A,m,c,rfl,rfl,hc,h⟩:=hv;rcases h with⟨rfl,_⟩|⟨B,o,rfl,_⟩
  ·simp at hn
  ·exact⟨_,_,rfl⟩
 ·rename_i id;split at h
  ·rename_i own t xs ak;cases h;obtain⟨C,hC,hO⟩:=ok.obj _ _ ak;obtain⟨C',aC,A,k,e,hS⟩:=hv;rw[hC] at aC;cases aC;have hl:C.len=xs.length:=hO.1;rw[e,hl];cases hB:C.blk with
   |none=>rw[hB] at hS;omega
   |some B=>
    rw[hB] at hS;obtain⟨_,a,rfl,_⟩:=hS;exact⟨_,_,rfl⟩
  ·cases h
 ·cases h
theorem vV4 {P:Program}{w:World}{t e}{a n k}(hu:P.underlying t=some (.slice e)) op (mV:op=.eql∨op=.neq) ox oy:
  (eqGuard op t ox oy (.slice (some a) n k) (.slice none 0 0)).run P w=.ok () w∧(binOp op t (.slice (some a) n k) (.slice none 0 0)).run P w=.ok (.bool (pZ op false)) w:=by
 have key:∀m,(Op.equalIn (m+1) t (.slice (some a) n k) (.slice none 0 0)).run P w=.ok false w:=fun m=>by
  unfold Op.equalIn;simp[run_underlying hu]
 have h1:(Op.equal t (.slice (some a) n k) (.slice none 0 0)).run P w=.ok false w:=key 9999;rcases mV with rfl|rfl
 ·refine⟨by simp[eqGuard],?_⟩;rw[show binOp .eql t (.slice (some a) n k) (.slice none 0 0)=(do pure (.bool (←Op.equal t (.slice (some a) n k) (.slice none 0 0)))) from rfl];simp[h1,pZ]
 ·refine⟨by simp[eqGuard],?_⟩;rw[show binOp .neq t (.slice (some a) n k) (.slice none 0 0)=(do pure (.bool (!(←Op.equal t (.slice (some a) n k) (.slice none 0 0))))) from rfl];simp[h1,pZ]
theorem SR {M}{ev:Operand→zV}{ρ:Operand→Value}(aV:∀x,zU M (ev x) (ρ x)):∀(l:List (Nat×Operand)),zL (yo M) (l.map fun p=>(p.1,ev p.2)) (l.map fun p=>(p.1,ρ p.2))
 |[]=>trivial
 |p::l=>⟨⟨rfl,aV p.2⟩,SR aV l⟩
theorem vB0 {f:Operand→Value}(parts:Array (Nat×Operand)):(parts.map fun(i,x)=>(i,f x))=(parts.toList.map fun p=>(p.1,f p.2)).toArray:=by
 grind
theorem yTg {M}{ev:Operand→zV}{ρ}(aV:∀x,zU M (ev x) (ρ x)):∀{l ids},zL (fun x id=>uz (ev x)=some id) l ids→
  zL (fun id u=>∃C B,M.κ id=some C∧C.blk=some B∧u=.pointer (some ⟨B,0,none⟩)) ids (l.map ρ)
 |[],[],_=>trivial
 |x::l,id::ids,h=>by
  refine⟨?_,yTg aV h.2⟩;have h1:uz (ev x)=some id:=h.1;have hx:=aV x;unfold uz at h1;split at h1
  ·rename_i CJ hc;cases h1;rw[hc] at hx;exact hx
  ·cases h1
theorem yFt {M ev ρ}(aV:∀x,zU M (ev x) (ρ x)):∀(l:List Operand),zL (zU M) (l.map ev) (l.map ρ)
 |[]=>trivial
 |x::l=>⟨aV x,yFt aV l⟩
theorem SS {E}(hE:fZ E){A}{k pre}{Q}{o}{a}{w}{M}{next}{v}{u ev}(ok:Ok M)(hM:M.H=w.heap)
  (aV:∀x,zU M (ev x) (a.eval x)) (h:yG (kL E A k pre o ev M.h) v u) (hn:∀M' w' rv,sQ M w u M' w'→zU M' v rv→next (a.put o.dst rv) w'):o.wp E.P a w next Q:=by
 unfold kL at h;dsimp only at h;split at h
 ·rename_i x ho;obtain⟨rfl,rfl⟩:=wH h;exact oV ok hM rfl (aV x) (by cases o;cases ho;rfl) hn
 ·rename_i x ho;obtain⟨rfl,rfl⟩:=wH h;exact oV ok hM rfl (aV x) (by cases o;cases ho;rfl) hn
 ·rename_i c x y ho;split at h
  ·rename_i cb hc;have kP:=aV c;rw[hc] at kP;have kP:a.eval c=.bool cb:=kP;split at h
   ·rename_i xb yb hx hy;obtain⟨rfl,rfl⟩:=wH h;have h1:=aV x;have h2:=aV y;rw[hx] at h1;rw[hy] at h2;refine oV (rv:=.bool (bif cb then xb else yb)) ok hM rfl (show zU M (.c (.bool _)) (.bool _) from rfl) ?_ hn;have h1:a.eval x=.bool xb:=h1;have h2:a.eval y=.bool yb:=h2;cases o;cases ho;show(do pure (.value (if←asBool (a.eval c) then a.eval x else a.eval y)):Sem Next).run E.P w=_;cases cb<;>simp[kP,asBool,h1,h2]
   ·refine oV (rv:=if cb then a.eval x else a.eval y) ok hM ?_ ?_ ?_ hn
    ·rcases h with⟨_,_,rfl⟩|⟨_,⟨_,_,rfl⟩|⟨_,h⟩⟩
     ·rfl
     ·rfl
     ·exact h.elim
    ·rcases h with⟨rfl,rfl,_⟩|⟨rfl,⟨_,rfl,_⟩|⟨_,h⟩⟩
     ·exact aV x
     ·exact aV y
     ·exact h.elim
    ·cases o;cases ho;show(do pure (.value (if←asBool (a.eval c) then a.eval x else a.eval y)):Sem Next).run E.P w=_;cases cb<;>simp[kP,asBool]
  ·exact h.elim
 ·rename_i t ho;split at h
  ·rename_i zs aS hz;obtain⟨_,rfl,rfl⟩:=gm h;exact gp (vLm ok hM aS hz) (by cases o;cases ho;rfl) hn
  ·exact h.elim
 ·rename_i t x ho;split at h
  ·rename_i vs aS hv;obtain⟨_,rfl,rfl⟩:=gm h;exact gp (vNa ok hM aS (aV x) hv _) (by cases o;cases ho;rfl) hn
  ·exact h.elim
 ·rename_i t parts ho;have hp:=SR aV parts.toList;have:=vDl ok hM hp h;exact gp this (by cases o;cases ho;rw[←vB0];rfl) hn
 ·rename_i t n parts ho;have hp:=SR aV parts.toList;exact gp (vNi ok hM hp h) (by cases o;cases ho;rw[←vB0];rfl) hn
 ·rename_i t x ho;exact gp (vQ0 ok hM (aV x) h) (by cases o;cases ho;rfl) hn
 ·rename_i t x y ho;obtain⟨rfl,hr⟩:=vZ8 ok hM (aV x) (aV y) h;exact yJr hr (by cases o;cases ho;rfl) hn
 ·rename_i x ho;have hx:=aV x;have key:∀c,ev x=.c c→v=.c c→u=[]→(match a.eval x with|.pointer none|.nilIface|.nilFunc=>False|.func (.method _) _ _=>False|_=>True)→o.wp E.P a w next Q:=by
   intro c hc hv hu hm;rw[hc] at hx;refine oV (rv:=a.eval x) ok hM hu (by rw[hv];exact hx) ?_ hn;cases o;cases ho;simp only[execOp];generalize a.eval x=r at*
   split<;>first|rfl|exact hm.elim
  split at h
  ·rename_i i j hc;obtain⟨rfl,rfl⟩:=wH h;refine key _ hc rfl rfl ?_;rw[hc] at hx;obtain⟨C,B,_,_,e⟩:=hx;rw[e];trivial
  ·rename_i i j k hc;obtain⟨rfl,rfl⟩:=wH h;refine key _ hc rfl rfl ?_;rw[hc] at hx;obtain⟨C,B,_,_,_,e⟩:=hx;rw[e];trivial
  ·rename_i i j k l hc;obtain⟨rfl,rfl⟩:=wH h;refine key _ hc rfl rfl ?_;rw[hc] at hx;obtain⟨B,o,e,_⟩:=hx;rw[e];trivial
  ·rename_i i j hc;obtain⟨rfl,rfl⟩:=wH h;refine key _ hc rfl rfl ?_;rw[hc] at hx;obtain⟨cv,e,_⟩:=hx;rw[e];trivial
  ·exact h.elim
 ·rename_i op t x y _ ho;cases hc:(Rj y&&Ri op) with
  |false=>
   rw[hc] at h;exact gp (vD2 hE.eq ok hM (aV x) (aV y) h) (by cases o;cases ho;rfl) hn
  |true=>
   rw[hc] at h;rw[Bool.and_eq_true] at hc;have mV:op=.eql∨op=.neq:=by cases op<;>first|(left;rfl)|(right;rfl)|(cases hc.2)
   split at h
   ·rename_i d cv hu kP;split at h
    ·rename_i b hb;obtain⟨rfl,rfl⟩:=wH h;have hx:=aV x;rw[kP] at hx;have hy:a.eval y=y.lit:=by
      cases y<;>first|rfl|(cases hc.1)
     obtain⟨h1,h2⟩:=vQa (w:=w) hu hx hy hb op mV x y;refine oV (rv:=.bool (pZ op b)) ok hM rfl (show zU M (.c (.bool _)) (.bool _) from rfl) ?_ hn;cases o;cases ho;show(do pure (.value (←(do eqGuard op t x y (a.eval x) (a.eval y);binOp op t (a.eval x) (a.eval y)))):Sem Next).run E.P w=_;simp only[Sem.run_bind,h1,Result.andThen_ok,h2,Sem.run_pure]
    ·split at h
     ·rename_i n hln abC;obtain⟨lh,rfl,rfl⟩:=lY h;have hx:=aV x;rw[kP] at hx;obtain⟨a',k',hx⟩:=vEf ok hx hln (by simpa using lh);obtain⟨h1,h2⟩:=vV4 (P:=E.P) (w:=w) (a:=a') (n:=n) (k:=k') hu op mV x (.const (.slice none 0 0));have hy:a.eval (.const (.slice none 0 0))=.slice none 0 0:=rfl;refine oV (rv:=.bool (pZ op false)) ok hM rfl (show zU M (.c (.bool _)) (.bool _) from rfl) ?_ hn;cases o;cases ho;show(do pure (.value (←(do eqGuard op t x (.const (.slice none 0 0)) (a.eval x) (a.eval (.const (.slice none 0 0)));binOp op t (a.eval x) (a.eval (.const (.slice none 0 0)))))):Sem Next).run E.P w=_;rw[hx,hy];simp only[Sem.run_bind,h1,Result.andThen_ok,h2,Sem.run_pure]
     ·exact h.elim
   ·exact h.elim
 ·rename_i op t x ho;exact gp (vNp ok hM (aV x) h) (by cases o;cases ho;rfl) hn
 ·rename_i s d x ho;split at h
  ·rename_i k1 k k2 n hs hd hx;obtain⟨rfl,rfl⟩:=wH h;have lj:=aV x;rw[hx] at lj;have lj:a.eval x=.int k2 n:=lj;refine oV (rv:=.int k (k.wrap n)) ok hM rfl (show zU M (.c (.int _ _)) (.int _ _) from rfl) ?_ hn;cases o;cases ho;show(do pure (.value (←convert s d (a.eval x))):Sem Next).run E.P w=_;simp[convert,run_underlying hs,run_underlying hd,lj,Conv.intToInt]
  ·rename_i e c hs hd hx;split at h
   ·rename_i xs he HJ;obtain⟨rfl,rfl⟩:=wH h;have lj:=aV x;rw[hx] at lj;obtain⟨A,n,k,e1,e2⟩:=vLg (P:=E.P) (w:=w) ok lj HJ hM;refine oV (rv:=.string ⟨(nI xs).toArray⟩) ok hM rfl (show zU M (.c (.str xs)) _ from rfl) ?_ hn;cases o;cases ho;show(do pure (.value (←convert s d (a.eval x))):Sem Next).run E.P w=_;rw[e1] at e2⊢;simp only[Sem.run_bind,run_convert_bytes_string w s d e A n k hs he hd,e2,Result.andThen_ok,Sem.run_pure]
   ·exact h.elim
  ·exact h.elim
 ·rename_i f first captured ho
  cases hf:Nat.beq first.size 0 with
  |false=>rw[hf] at h;exact h.elim
  |true=>
   rw[hf] at h;simp only[cond_true] at h;split at h
   ·rename_i ids ke;obtain⟨rfl,rfl⟩:=wH h;have h0:first=#[]:=Array.eq_empty_of_size_eq_zero (by simpa using hf)
    refine oV (rv:=.func (.func f) #[] (captured.map a.eval)) ok hM rfl ?_ ?_ hn
    case refine_2=>
     cases o;cases ho;show(do pure (.value (←Instr.makeFunc (.func f) (first.map a.eval) (captured.map a.eval))):Sem Next).run E.P w=_;subst h0;simp[Instr.makeFunc]
    refine⟨_,rfl,?_⟩;rw[Array.toList_map];exact yTg aV (HI _ _ _ ke)
   ·exact h.elim
 ·rename_i t l c ho;exact gp (vY0 ok hM (aV l) (aV c) h) (by cases o;cases ho;rfl) hn
 ·rename_i t ho;exact gp (vMu ok hM h) (by cases o;cases ho;rfl) hn
 ·rename_i t x i ho;exact gp (SP ok hM (aV x) (aV i) h) (by cases o;cases ho;rfl) hn
 ·rename_i t x i y ho;obtain⟨rfl,hr⟩:=vO7 ok hM (aV x) (aV i) (aV y) h;exact yJr hr (by cases o;cases ho;rfl) hn
 ·rename_i t x lo hi mx ho;have hO:∀y:Option Operand,Cw M (y.map ev) (y.map a.eval):=fun y=>by
   cases y with
   |none=>trivial
   |some y=>exact aV y
  exact gp (vQ2 ok hM (aV x) (hO lo) (hO hi) (hO mx) h) (by cases o;cases ho;rfl) hn
 ·rename_i t x f ho;exact gp (vRd ok hM (aV x) h) (by cases o;cases ho;rfl) hn
 ·rename_i t x f ho;exact gp (vGw ok hM (aV x) h) (by cases o;cases ho;rfl) hn
 ·rename_i t x i ho;exact gp (vXw ok hM (aV x) (aV i) h) (by cases o;cases ho;rfl) hn
 ·rename_i t x i ho;exact gp (vXb ok hM (aV x) (aV i) h) (by cases o;cases ho;rfl) hn
 ·rename_i t i ho;have ht:=aV t;split at h
  ·rename_i xs HJ;rw[HJ] at ht;obtain⟨vs,dD,bg⟩:=ht;split at h
   ·rename_i g cs hi;obtain⟨hp,rfl⟩:=RE h;have hl:=bg.length;have bj:i<xs.length:=by
     rcases Nat.lt_or_ge i xs.length with h|h
     ·exact h
     ·rw[List.getElem?_eq_none h] at hi;cases hi
    have j5:i<vs.size:=by simp at hl;omega
    have hc:=bg.get i bj (by simpa using j5);rw[List.getElem?_eq_getElem bj,Option.some.injEq] at hi;rw[hi] at hc;refine oV (rv:=vs[i]) ok hM rfl ?_ ?_ hn
    ·rcases RI hp with⟨e1,rfl⟩|⟨e1,c,rfl,rfl⟩
     ·cases e1;exact hc
     ·cases e1;exact hc
    ·cases o;cases ho;show(do pure (.value (←Instr.extract (a.eval t) i)):Sem Next).run E.P w=_;rw[dD];simp[Instr.extract,j5]
   ·exact h.elim
  ·exact h.elim
 ·rename_i c ho;have cI:=yFt aV c.args.toList;have exec:∀b,c.callee=.builtin b→∀s:Sem Value,(∀C,Go.builtin b c.argTypes o.type C (c.args.map a.eval)=(do pure (.value (←s)):Sem Next))→execOp a.eval o=(do pure (.value (←s)):Sem Next):=fun b hb s hs=>by
   cases o;cases ho;show(do let d←resolve a.eval c _;invoke d.target d.args:Sem Next)=_;unfold resolve;rw[hb];exact hs _
  have kf:c.args.map a.eval=(c.args.toList.map a.eval).toArray:=by cases c.args;simp
  split at h
  ·rename_i b kg;unfold Rv at h;split at h
   ·split at h
    case h_2=>exact h.elim
    rename_i x hx;have h1:∃rx,(c.args.toList.map a.eval).toArray=#[rx]∧zW M x rx:=by
     rw[hx] at cI
     match hl:c.args.toList.map a.eval,cI with
     |[rx],hh=>exact⟨rx,rfl,hh.1⟩
    obtain⟨rx,yw,lj⟩:=h1;split at h
    ·rename_i e hu;split at h
     ·rename_i n hlen;obtain⟨rfl,rfl⟩:=wH h;obtain⟨t,ht,hu⟩:=Option.bind_eq_some_iff.1 hu;obtain⟨A,k,rfl⟩:=vS5 ok lj hlen;refine gp (s:=Builtin.len_ c.argTypes o.type (c.args.map a.eval)) ?_ (exec _ kg _ fun _=>rfl) hn;rw[kf,yw];exact .pure ok hM (vUa ht hu) rfl
     ·exact h.elim
    ·exact h.elim
   ·split at h
    case h_2=>exact h.elim
    rename_i b x hx;have h1:∃rb rx,(c.args.toList.map a.eval).toArray=#[rb,rx]∧zU M b rb∧zU M x rx:=by
     rw[hx] at cI
     match hl:c.args.toList.map a.eval,cI with
     |[rb,rx],hh=>exact⟨rb,rx,rfl,hh.1,hh.2.1⟩
    obtain⟨rb,rx,yw,SU,lj⟩:=h1;split at h
    ·rename_i t t' hts;obtain⟨htt,h'⟩:=yt h;have:t=t':=by simpa using htt
     subst this;refine gp (s:=Builtin.append_ c.argTypes o.type (c.args.map a.eval)) ?_ (exec _ kg _ fun _=>rfl) hn;have ht:c.argTypes=#[t,t]:=by
      have:=congrArg List.toArray hts
      simpa using this
     rw[kf,yw,ht];exact vGc ok hM SU lj h'
    ·exact h.elim
   ·split at h
    case h_2=>exact h.elim
    rename_i d s hx;have h1:∃rb rx,(c.args.toList.map a.eval).toArray=#[rb,rx]∧zU M d rb∧zU M s rx:=by
     rw[hx] at cI
     match hl:c.args.toList.map a.eval,cI with
     |[rb,rx],hh=>exact⟨rb,rx,rfl,hh.1,hh.2.1⟩
    obtain⟨rb,rx,yw,SU,lj⟩:=h1;split at h
    ·rename_i e hu;obtain⟨SW,h⟩:=yt h;obtain⟨t,ht,hu⟩:=Option.bind_eq_some_iff.1 hu;refine gp (s:=Builtin.copy_ c.argTypes o.type (c.args.map a.eval)) ?_ (exec _ kg _ fun _=>rfl) hn;rw[kf,yw];exact vRz ok hM ht hu (by simpa using SW) SU lj h
    ·exact h.elim
   ·split at h
    case h_2=>exact h.elim
    rename_i id lo n hx;have h1:∃rx,(c.args.toList.map a.eval).toArray=#[rx]∧zW M (.osl id (some (lo,n))) rx:=by
     rw[hx] at cI
     match hl:c.args.toList.map a.eval,cI with
     |[rx],hh=>exact⟨rx,rfl,hh.1⟩
    obtain⟨rx,yw,lj⟩:=h1;split at h
    ·rename_i t ht;refine gp (s:=Builtin.clear_ c.argTypes o.type (c.args.map a.eval)) ?_ (exec _ kg _ fun _=>rfl) hn;rw[kf,yw];obtain⟨rv,w',M',q1,q2⟩:=SK (T:=o.type) ok hM lj h;refine⟨rv,w',M',?_,q2⟩;have e:(Builtin.clear_ c.argTypes o.type #[rx]).run E.P w=(Builtin.clear_ #[t] o.type #[rx]).run E.P w:=by
      simp only[Builtin.clear_,ht];rfl
     rw[e];exact q1
    ·exact h.elim
   ·refine gp (s:=Builtin.max_ c.argTypes o.type (c.args.map a.eval)) ?_ (exec _ kg _ fun _=>rfl) hn;rw[kf];exact yX3 (lt:=false) (ts:=c.argTypes) (T:=o.type) ok hM cI h
   ·refine gp (s:=Builtin.min_ c.argTypes o.type (c.args.map a.eval)) ?_ (exec _ kg _ fun _=>rfl) hn;rw[kf];exact yX3 (lt:=true) (ts:=c.argTypes) (T:=o.type) ok hM cI h
   ·exact h.elim
  ·rename_i f kg;split at h
   ·rename_i SX cap hf;have hfv:=aV f;rw[hf] at hfv;obtain⟨cv,kP,HK⟩:=hfv;have bg:zL (zU M) (c.args.toList.map ev++cap.map fun id=>.c (.ptr id 0)) (c.args.map a.eval++cv).toList:=by
     rw[Array.toList_append,Array.toList_map];exact cI.append (zL.map_left HK)
    have sH:(execOp a.eval o).run E.P w=(callFunc SX (c.args.map a.eval++cv)).run E.P w:=by
     cases o;cases ho;show(do let d←resolve a.eval c _;invoke d.target d.args:Sem Next).run E.P w=_;unfold resolve;rw[kg];simp only[kP,Deferred.ofValue,Sem.run_bind,Sem.run_pure,Result.andThen_ok,invoke,Array.empty_append]
    rcases hE.sums k _ SX _ M.h v u h M w _ rfl hM ok bg with⟨h1,h2⟩|⟨rv,w',M',h1,hB,hv⟩
    case inr=>
     unfold Oper.wp;rw[sH,h1];exact hn M' w' rv hB hv
    unfold Oper.wp;rw[sH,h1,Oper.upon_enter];refine Calls.mono h2 fun e w' he=>?_
    cases e with
    |returned rv=>
     obtain⟨M',hB,hv⟩:=he;exact hn M' w' rv hB hv
    |panicked _=>exact he.elim
    |outgrown=>exact he.elim
   ·exact h.elim
  ·exact h.elim
 ·exact h.elim
section
variable {P:Program} {h h':Hp}
theorem vXq {t a}(hh:∀id∈yN a,h id=h' id):BY P h t a=BY P h' t a:=by
 unfold BY;cases a with
 |c v=>cases v<;>first|rfl|(have:=hh _ (List.mem_singleton.2 rfl);simp_all)
 |_=>rfl
theorem yOt {v}(hh:∀id∈vM v,h id=h' id):nJ h v=nJ h' v:=by
 unfold nJ;cases v<;>first|rfl|(have:=hh _ (List.mem_singleton.2 rfl);simp_all)
theorem SY:∀{vs},(∀id∈vs.flatMap vM,h id=h' id)→mL h vs=mL h' vs
 |[],_=>rfl
 |v::vs,hh=>by
  simp  at hh;unfold mL;rw[yOt fun id hi=>hh id (.inl hi),SY (by grind)]
theorem yEi {v vs}(e:nH v=some vs):vs.flatMap vM=yN v:=by
 unfold nH at e;split at e
 ·cases e;simp[yN]
 ·cases e;rfl
 ·cases e
theorem vMl {t a v}(ha:∀id∈yN a,h id=h' id)(hv:∀id∈yN v,h id=h' id):BZ P h t a v=BZ P h' t a v:=by
 unfold BZ;cases e:nH v with
 |none=>rfl
 |some vs=>
  have hf:mL h vs=mL h' vs:=SY (by rw[yEi e];exact hv);cases a with
  |c x=>
   cases x with
   |mptr id i=>
    have h1:=ha _ (List.mem_singleton.2 rfl);simp only[h1];generalize h' id=ob;rcases ob with _|(_|_|_|_|_|_|_)<;>first|rfl|skip
    all_goals cases v with
    |c y=>cases y with
     |osl jd r=>cases r with
      |none=>
       have h2:=hv _ (List.mem_singleton.2 rfl);simp_all
      |some _=>rfl
     |_=>rfl
    |_=>rfl
   |ptr id off=>
    have h1:=ha _ (List.mem_singleton.2 rfl);simp_all
   |eptr id i off=>
    have h1:=ha _ (List.mem_singleton.2 rfl);simp_all
   |meptr id i j ver=>
    have h1:=ha _ (List.mem_singleton.2 rfl);simp[h1]
   |_=>rfl
  |_=>rfl
theorem Mu {v}(hh:∀id∈vM v,h id=h' id):j0 h v=j0 h' v:=by
 unfold j0;cases v<;>first|rfl|(have:=hh _ (List.mem_singleton.2 rfl);simp_all)
theorem vId {v}(hh:∀id∈vM v,h id=h' id):BV h v=BV h' v:=by
 have e:=Mu hh;unfold BV;grind
theorem vZ1 {t x i}(hh:∀id∈yN x,h id=h' id):B1 P h t x i=B1 P h' t x i:=by
 unfold B1;generalize P.underlying t=d;rcases d with _|d
 ·rfl
 ·cases d with
  |slice e=>
   cases x with
   |c v=>
    cases i with
    |c iv=>
     cases iv with
     |int k n=>cases v<;>first|rfl|(have:=hh _ (List.mem_singleton.2 rfl);simp_all)
     |_=>cases v<;>rfl
    |_=>rfl
   |_=>rfl
  |array n e=>
   grind
  |_=>rfl
theorem vEh {nm t}(h0:h nm=h' nm):B4 P nm h t=B4 P nm h' t:=by
 unfold B4;rw[h0]
theorem SZ {t x i}(hh:∀id∈yN x,h id=h' id):B5 P h t x i=B5 P h' t x i:=by
 unfold B5;split
 ·rename_i id n;rw[hh id (by simp[yN,vM])]
 ·rfl
theorem S0 {t x i y}(hh:∀id∈yN x,h id=h' id):B6 P h t x i y=B6 P h' t x i y:=by
 unfold B6;split
 ·rename_i id n b;rw[hh id (by simp[yN,vM])]
 ·rfl
theorem vZv {t x lo hi mx}(hh:∀id∈yN x,h id=h' id):B7 P h t x lo hi mx=B7 P h' t x lo hi mx:=by
 unfold B7;split
 ·rfl
 ·rename_i id r _;rw[hh id (by simp[yN,vM])]
 ·rename_i id _;rw[hh id (by simp[yN,vM])]
 ·rename_i id off _;rw[hh id (by simp[yN,vM])]
 ·rfl
theorem vZ6 {v}(hh:∀id∈yN v,h id=h' id):xW h v=xW h' v:=by
 unfold xW;cases v with
 |c v=>cases v with
  |osl jd r=>cases r with
   |none=>
    have h2:=hh _ (List.mem_singleton.2 rfl);simp_all
   |some _=>rfl
  |_=>rfl
 |_=>rfl
theorem yZ3:∀{parts rows},(∀id∈(parts.map (·.2)).flatMap yN,h id=h' id)→xX h rows parts=xX h' rows parts
 |[],_,_=>rfl
 |(i,v)::rest,rows,hh=>by
  simp only[List.map_cons,List.flatMap_cons,List.mem_append] at hh;unfold xX;rw[vZ6 fun id hi=>hh id (.inl hi)];cases xW h' v with
  |none=>rfl
  |some p=>simp[yZ3 fun id hi=>hh id (.inr hi)]
theorem yOq {t}:∀{parts xs},(∀id∈(parts.map (·.2)).flatMap yN,h id=h' id)→qb h t xs parts=qb h' t xs parts
 |[],_,_=>rfl
 |(i,v)::rest,xs,hh=>by
  simp only[List.map_cons,List.flatMap_cons,List.mem_append] at hh;unfold qb;cases e:nH v with
  |none=>rfl
  |some vs=>
   have hf:mL h vs=mL h' vs:=SY (by rw[yEi e];simp_all);simp[hf];cases mL h' vs with
   |none=>rfl
   |some p=>
    dsimp only;cases G8 t p.1 with
    |none=>rfl
    |some x=>simp[yOq fun id hi=>hh id (.inr hi)]
theorem vVr {mat nm t n parts}(h0:h nm=h' nm)(hh:∀id∈(parts.map (·.2)).flatMap yN,h id=h' id):
  B2 P mat nm h t n parts=B2 P mat nm h' t n parts:=by
 have e':∀ty:Ty,qb h ty (List.replicate n ty.dflt) parts=qb h' ty (List.replicate n ty.dflt) parts:=fun ty=>yOq hh
 unfold B2;rw[h0,yZ3 hh];simp_all
theorem vZ2 {mat nm t l c}(h0:h nm=h' nm):B3 P mat nm h t l c=B3 P mat nm h' t l c:=by
 unfold B3;rw[h0]
theorem vDb {t v}(hh:∀id∈vM v,h id=h' id):sr h t v=sr h' t v:=by
 unfold sr;cases v with
 |osl id r=>
  have:=hh _ (List.mem_singleton.2 rfl);simp_all
 |_=>rfl
theorem vIu {mat:Bool}{nm:Nat}{t:TypeId}{b x:zV}(h0:h nm=h' nm)(hb:∀id∈yN b,h id=h' id)(hx:∀id∈yN x,h id=h' id):B8 P mat nm h t b x=B8 P mat nm h' t b x:=by
 unfold B8;rw[h0];generalize P.underlying t=d;rcases d with _|d
 ·rfl
 cases d with
 |slice e=>
  generalize h' nm=on;cases on with
  |some _=>rfl
  |none=>
   cases b with
   |c b=>
    cases x with
    |c x=>
     have ht:∀ty,sr h ty x=sr h' ty x:=fun ty=>vDb hx
     simp only[ht];cases b with
     |osl id r=>
      have h1:=hb _ (List.mem_singleton.2 rfl);simp only[h1];cases x with
      |osl jd r2=>
       have h2:=hx _ (List.mem_singleton.2 rfl);grind
      |_=>cases mat with
       |false=>rfl
       |true=>
        generalize jz P e=et;rcases et with _|(_|_|_|_)<;>first|rfl|skip
        rename_i t2;cases t2<;>first|rfl|skip
        rename_i k;cases k<;>cases r<;>rfl
     |_=>cases mat with
      |false=>rfl
      |true=>
       generalize jz P e=et;rcases et with _|(_|_|_|_)<;>first|rfl|skip
       rename_i t2;cases t2<;>first|rfl|skip
       rename_i k;cases k<;>rfl
    |_=>rfl
   |_=>rfl
 |_=>rfl
theorem vHv {d s}(hd:∀id∈yN d,h id=h' id)(hs:∀id∈yN s,h id=h' id):B9 h d s=B9 h' d s:=by
 unfold B9;cases d with
 |c d=>
  cases s with
  |c s=>
   cases d with
   |bsl id off n=>
    have h1:=hd _ (List.mem_singleton.2 rfl);have h2:j0 h s=j0 h' s:=Mu hs;grind
   |_=>rfl
  |_=>simp
 |_=>rfl
end
theorem vQw {E}{A}{k pre}{o}{ev sS}{h}(he:∀x∈o.op.operands,ev x=sS x):kL E A k pre o ev h=kL E A k pre o sS h:=by
 obtain⟨dst,op,type,pos,after,guard⟩:=o;have fx:∀ps:Array (Nat×Operand),(∀x∈ps.map (·.2),ev x=sS x)→(ps.toList.map fun p=>(p.1,ev p.2))=(ps.toList.map fun p=>(p.1,sS p.2)):=fun ps hp=>
  List.map_congr_left (by grind)
 have maps:∀xs:Array Operand,(∀x∈xs,ev x=sS x)→xs.toList.map ev=xs.toList.map sS:=by simp
 cases op<;>simp only[Op.operands] at he<;>simp only[kL]
 case build t ps=>rw[fx ps fun x hx=>he x (by simpa using hx)]
 case buildSlice t n ps=>rw[fx ps fun x hx=>he x (by simpa using hx)]
 case makeFunc fn first captured=>
  cases fn<;>first|rfl|skip
  have:captured.toList.mapM (fun x=>uz (ev x))=captured.toList.mapM (fun x=>uz (sS x)):=by
   have h2:∀l:List Operand,(∀x∈l,ev x=sS x)→l.mapM (fun x=>uz (ev x))=l.mapM (fun x=>uz (sS x)):=fun l=>by
    induction l with
    |nil=>exact fun _=>rfl
    |cons y l ih=>simp_all
   exact by grind
  simp only[this]
 case call c=>
  obtain⟨callee,args,ats⟩:=c;have ha:=maps args fun x hx=>he x (by simp[Call.operands,hx])
  cases callee with
  |value f=>
   have hf:=he f (by simp[Call.operands]);simp only[hf,ha]
  |builtin b=>simp only[ha]
  |invoke _ _=>rfl
 case makeMap t r=>cases r<;>rfl
 case lookup t x i ok=>cases ok<;>simp_all
 case slice t x lo hi mx=>
  have h1:=he x (by simp);cases lo<;>cases hi<;>cases mx<;>simp_all
 all_goals (first|rfl|(simp only[he _ (by simp:_∈#[_])];done)|(simp_all;done))
def jb (S:LG):Prop:=∀k nm f (args:List zV) h h',(args.any wN=false→∀id,(id∈args.flatMap yN∨mN nm id=true)→h id=h' id)→(args.any wN=true→h=h')→S k nm f args h=S k nm f args h'
theorem S1 nm:mN nm nm=true:=by
 simp[mN]
theorem vSk {E}(hS:jb E.sums){A k pre o ev h h'}
  (hh:match qd ev o with|none=>h=h'|some l=>∀id,(id∈l∨mN (qc pre o.dst) id=true)→h id=h' id):kL E A k pre o ev h=kL E A k pre o ev h':=by
 have full:h=h'→kL E A k pre o ev h=kL E A k pre o ev h':=fun e=>by rw[e]
 unfold qd at hh;dsimp only at hh;cases hq:yXh o.op with
 |true=>
  obtain⟨dst,op,type,pos,after,guard⟩:=o;cases op<;>first|rfl|cases hq
 |false=>
 rw[hq] at hh;simp only[cond_false] at hh;cases hc:(Rw o.op&&(o.op.operands.toList.map ev).any wN) with
 |true=>rw[hc] at hh;exact full hh
 |false=>
  rw[hc] at hh;replace hh:∀id,(id∈(o.op.operands.toList.map ev).flatMap yN∨mN (qc pre o.dst) id=true)→h id=h' id:=hh;have h0:h (qc pre o.dst)=h' (qc pre o.dst):=hh _ (.inr (S1 _));have hx:∀x∈o.op.operands,∀id∈yN (ev x),h id=h' id:=by grind
  obtain⟨dst,op,type,pos,after,guard⟩:=o;dsimp only at h0 hx hc;cases op<;>simp only[Op.operands] at hx<;>simp only[kL]
  case alloc t=>rw[h0]
  case box t x=>rw[h0]
  case buildSlice t n ps=>
   exact vVr h0 (by grind)
  case load t x=>exact vXq (hx x (by simp))
  case store t x y=>exact vMl (hx x (by simp)) (hx y (by simp))
  case makeSlice t l c=>exact vZ2 h0
  case slice t x lo hi mx=>exact vZv (hx x (by simp))
  case makeMap t r=>cases r<;>first|rfl|exact vEh h0
  case lookup t x i ok=>cases ok<;>first|rfl|exact SZ (hx x (by simp))
  case mapUpdate t x i y=>exact S0 (hx x (by simp))
  case indexAddr t x i=>exact vZ1 (hx x (by simp))
  case binOp op t x y p=>
   have hx:=hx x (by simp);have hl:∀v,ev x=.c v→BW h v=BW h' v:=fun v e=>by
    cases v with
    |osl id r=>cases r with
     |none=>simp only[BW,hx id (by rw[e];simp[yN,vM])]
     |some p=>rfl
    |_=>rfl
   split
   ·cases Rj y&&Ri op with
    |false=>rfl
    |true=>
     rename_i d v hu hv;simp only[hl v hv]
   ·rfl
  case convert s d x=>
   have hx:=hx x (by simp);have hs:∀v,ev x=.c v→BU h v=BU h' v:=fun v e=>by
    have:=Mu (h:=h) (h':=h') (v:=v) fun id ak=>hx id (by rw[e];exact ak)
    unfold BU;cases v<;>first|rfl|simp only[this]
   split
   ·rfl
   ·rename_i e c _ _ hc;rw[hs c hc]
   ·rfl
  case call c=>
   obtain⟨callee,args,ats⟩:=c;have ha:∀v∈args.toList.map ev,∀id∈yN v,h id=h' id:=fun v hv=>by
    obtain⟨x,yx,rfl⟩:=List.mem_map.1 hv;exact hx x (by simp at yx;simp[Call.operands,yx])
   cases callee with
   |value f=>
    dsimp only;cases hf:ev f with
    |c fv=>cases fv with
     |fn SX cap=>
      dsimp only;simp only[Rw,Bool.true_and] at hc;have ir:cap=[]:=by
       have hm:ev f∈(Op.call ⟨.value f,args,ats⟩).operands.toList.map ev:=List.mem_map_of_mem (by simp[Op.operands,Call.operands]);have:=List.any_eq_false.1 hc _ hm;rw[hf] at this
       simpa[wN] using this
      subst ir;simp only[List.map_nil,List.append_nil];have hb:(args.toList.map ev).any wN=false:=by
       refine List.any_eq_false.2 fun v hv=>?_
       obtain⟨x,yx,rfl⟩:=List.mem_map.1 hv;exact List.any_eq_false.1 hc _ (List.mem_map_of_mem (by simp at yx;simp[Op.operands,Call.operands,yx]))
      refine hS _ _ _ _ _ _ (fun _ id ak=>?_) fun ht=>?_
      ·rcases ak with ak|ak
       ·obtain⟨v,hv,ak⟩:=List.mem_flatMap.1 ak;exact ha v hv id ak
       ·exact hh id (.inr ak)
      ·rw[hb] at ht;cases ht
     |_=>rfl
    |_=>rfl
   |invoke _ _=>rfl
   |builtin b=>
    generalize hl:args.toList.map ev=l at ha;unfold Rv;cases b<;>first|rfl|skip
    case len=>
     match l,ha with
     |[],_=>rfl
     |[v],ha=>cases v with
      |c v=>
       have:=vId (ha (.c v) (by simp));simp only[this]
      |_=>rfl
     |v::_::_,_=>cases v<;>rfl
    case append=>
     match l,ha with
     |[],_|[_],_|_::_::_::_,_=>rfl
     |[b,x],ha=>
      have:=fun mat t=>vIu (P:=E.P) (mat:=mat) (t:=t) h0 (ha b (by simp)) (ha x (by simp))
      simp only[this]
    case clear=>
     match l,ha with
     |[],_=>rfl
     |[v],ha=>cases v with
      |c v=>cases v with
       |osl id r=>cases r with
        |none=>rfl
        |some p=>
         have e:=ha (.c (.osl id (some p))) (by simp) id (by simp[yN,vM]);dsimp only;split
         ·unfold LD;rw[e]
         ·rfl
       |_=>rfl
      |_=>rfl
     |v::_::_,_=>cases v with
      |c v=>cases v with
       |osl id r=>cases r<;>rfl
       |_=>rfl
      |_=>rfl
    case copy=>
     match l,ha with
     |[],_|[_],_|_::_::_::_,_=>rfl
     |[b,x],ha=>
      have:=vHv (ha b (by simp)) (ha x (by simp));simp only[this]
  case makeFunc fn first captured=>cases fn<;>rfl
  all_goals rfl
end Go.Ab
set_option linter.unusedSectionVars false
namespace Go.Ab
structure jc (M M':zK):Prop where
 F:∀b,M.F b→M'.F b
 G:∀b,M.G b→M'.G b
 same:∀b,M.F b→M'.H[b]? =M.H[b]?
 sameG:∀b,M.G b→M'.H[b]? =M.H[b]?
 bsz:∀b,b<M.H.size→qW M'.H b=qW M.H b
 size:M.H.size≤M'.H.size
 frame:∀b,b<M.H.size→¬qM M b→M'.H[b]? =M.H[b]?
 own:∀b,qM M' b→b<M.H.size→qM M b
 Gb:∀b,M'.G b→b<M.H.size→M.G b∨qM M b
 Fb:∀b,M'.F b→b<M.H.size→M.F b∨qM M b
theorem vA.grow {M M'}(s:vA M M'):jc M M':=⟨s.ext.F,s.ext.G,s.ext.same,s.ext.sameG,s.ext.bsz,s.size,s.frame,s.own,s.Gb,s.Fb⟩
theorem jc.trans {M M' lX}(x:jc M M')(y:jc M' lX):jc M lX where
 F b h:=y.F b (x.F b h)
 G b h:=y.G b (x.G b h)
 same b h:=(y.same b (x.F b h)).trans (x.same b h)
 sameG b h:=(y.sameG b (x.G b h)).trans (x.sameG b h)
 bsz b h:=(y.bsz b (by have:=x.size;omega)).trans (x.bsz b h)
 size:=Nat.le_trans x.size y.size
 frame b h hn:=by
  have:=x.size;rw[y.frame b (by omega) fun ho=>hn (x.own b ho h),x.frame b h hn]
 own b ho h:=x.own b (y.own b ho (by have:=x.size;omega)) h
 Gb b hg h:=by
  rcases y.Gb b hg (by have:=x.size;omega) with k|k
  ·exact x.Gb b k h
  ·exact .inr (x.own b k h)
 Fb b hg h:=by
  rcases y.Fb b hg (by have:=x.size;omega) with k|k
  ·exact x.Fb b k h
  ·exact .inr (x.own b k h)
def fa (M M':zK):Prop:=∀id C,M.κ id=some C→∃C',M'.κ id=some C'∧C'.blk=C.blk
structure sU (nl:Bool) (M M':zK):Prop where
 g:jc M M'
 k:nl=true→fa M M'
theorem sU.step {nl M M' lX}(x:sU nl M M')(s:vA M' lX):sU nl M lX:=
 ⟨x.g.trans s.grow,fun h id C hC=>by
  obtain⟨C1,h1,e1⟩:=x.k h id C hC;obtain⟨C2,h2,le⟩:=s.ext.κ id C1 h1;exact⟨C2,h2,le.blk.trans e1⟩⟩
theorem sU.trans {M M' lX}(x:sU false M M')(y:jc M' lX):sU false M lX:=⟨x.g.trans y,by simp⟩
structure vQ (nl:Bool) (na nt:Nat) (a0:Nat→Value) (M0:zK) (w0:World) (st:St) (a:Act) (w:World):Prop where
 ex:∃M:zK,M.h=st.h∧M.H=w.heap∧Ok M∧sU nl M0 M∧∀t,zU M (st.t t) (a.tmps.getD t undef)
 defers:a.defers=[]
 size:a.tmps.size=nt
 os:w.os=w0.os
 tape:w.tape=w0.tape
 output:w.output=w0.output
 keep:∀t,t<na→a.tmps.getD t undef=a0 t
theorem yU4 {M}{st:St}{a:Act}(h:∀t,zU M (st.t t) (a.tmps.getD t undef)) x:zU M (st.ev x) (a.eval x):=by
 cases x with
 |tmp t=>exact h t
 |const v=>exact vKt M v
 |global g=>trivial
 |func f=>exact⟨#[],rfl,trivial⟩
theorem S2 {t s v}(h:t s=v):jP t s v=t:=by
 funext n;unfold jP;cases e:Nat.beq n s with
 |false=>rfl
 |true=>
  simp_all
def CK (ops:Array Oper)(o:Oper)(st:St):Option Bool:=match o.guard with
 |none=>some true
 |some (j,want)=>match LM ops j with
  |none=>none
  |some s=>match st.t s with
   |.c (.bool b)=>some (b==want)
   |.skp=>some false
   |_=>none
theorem yOm {R ops o st yes no}{out:R}(h:LN ops o st yes no=some out):
  ∃b,CK ops o st=some b∧(if b=true then yes st else no st)=some out:=by
 unfold LN at h;unfold CK;cases hg:o.guard with
 |none=>simp_all
 |some p=>
  obtain⟨j,want⟩:=p;rw[hg] at h;dsimp only at h⊢;cases hs:LM ops j with
  |none=>simp_all
  |some s=>
   rw[hs] at h;dsimp only at h⊢;split at h
   ·rename_i b hb;rw[hb];refine⟨b==want,rfl,?_⟩;cases b with
    |true=>
     simp[S2 hb] at h;cases want<;>exact h
    |false=>
     simp[S2 hb] at h;cases want<;>exact h
   all_goals simp_all
theorem getD_some {a:Array Value}{s v}(h:a.getD s undef=v)(hv:v≠undef):a[s]? =some v:=by
 by_cases hs:s<a.size
 all_goals simp_all
theorem yDl {ops o st b nl na nt a0 M0 w0 w a}(h:CK ops o st=some b)(R:vQ nl na nt a0 M0 w0 st a w):Region.wanted o (yielded ops a.tmps)=b:=by
 obtain⟨M,_,_,_,_,ht⟩:=R.ex;unfold CK at h;unfold Region.wanted;split at h
 ·simp_all
 ·rename_i j want hg;rw[hg];split at h
  ·cases h
  ·rename_i s hs;have hv:=ht s;have sV:(ops[j]?).bind (·.dst)=some s:=hs;split at h
   ·rename_i b' hb;cases h;rw[hb] at hv;have:=getD_some hv (by nofun);simp only[yielded,sV,Option.bind_some,this];rfl
   ·rename_i hb;cases h;rw[hb] at hv;have hv:a.tmps.getD s undef=undef:=hv;have:∀x:Option Value,(x=none∨x=some undef)→((match x with|some (.bool b)=>some b|_=>none:Option Bool)==some want)=false:=fun x hx=>by
     rcases hx with rfl|rfl<;>cases want<;>rfl
    refine this _ ?_;by_cases bj:s<a.tmps.size
    all_goals simp_all
   ·cases h
theorem sQ.rel {nl na nt a0 M0 M M' w0 w w' st a dst v u rv}(R:vQ nl na nt a0 M0 w0 st a w)(hh:M.h=st.h)(hs:sU nl M0 M)(ht:∀t,zU M (st.t t) (a.tmps.getD t undef))
  (hd:∀d,dst=some d→na≤d∧d<nt) (hB:sQ M w u M' w') (hv:zU M' v rv):vQ nl na nt a0 M0 w0 {t:=iX st.t dst v,h:=qJ st.h u} (a.put dst rv) w' where
 ex:=by
  refine⟨M',by rw[hB.h,hh],hB.H,hB.ok,hs.step hB.step,fun t=>?_⟩;cases dst with
  |none=>exact(ht t).ext hB.step.ext
  |some d=>
   show zU M' (jP st.t d v t) ((a.tmps.setIfInBounds d rv).getD t undef);have bj:d<a.tmps.size:=by rw[R.size];simp_all
   unfold jP;cases e:Nat.beq t d with
   |true=>
    simp_all
   |false=>
    have e:t≠d:=fun e'=>by simp_all
    have:=(ht t).ext hB.step.ext;simp[Array.getElem?_setIfInBounds_ne (Ne.symm e)] at this⊢;exact this
 defers:=by cases dst<;>exact R.defers
 size:=by cases dst<;>simp[Act.put,R.size]
 os:=hB.os.trans R.os
 tape:=hB.tape.trans R.tape
 output:=hB.output.trans R.output
 keep t h:=by
  cases dst with
  |none=>exact R.keep t h
  |some d=>
   have bp:d≠t:=by grind
   rw[←R.keep t h];simp[Act.put,Array.getElem?_setIfInBounds_ne bp]
theorem vQ.skip {nl na nt a0 M0 w0 w st a dst}(hd:∀d,dst=some d→na≤d)(R:vQ nl na nt a0 M0 w0 st a w):vQ nl na nt a0 M0 w0 {st with t:=iX st.t dst .skp} (a.put dst undef) w where
 ex:=by
  obtain⟨M,h1,h2,h3,h4,ht⟩:=R.ex;refine⟨M,h1,h2,h3,h4,fun t=>?_⟩;cases dst with
  |none=>exact ht t
  |some d=>
   show zU M (jP st.t d .skp t) ((a.tmps.setIfInBounds d undef).getD t undef);unfold jP;cases e:Nat.beq t d with
   |true=>
    have e:t=d:=by simp_all
    subst e;show(a.tmps.setIfInBounds t undef).getD t undef=undef;simp
   |false=>
    have e:t≠d:=fun e'=>by simp_all
    have:=ht t;simp[Array.getElem?_setIfInBounds_ne (Ne.symm e)] at this⊢;exact this
 defers:=by cases dst<;>exact R.defers
 size:=by cases dst<;>simp[Act.put,R.size]
 os:=R.os
 tape:=R.tape
 output:=R.output
 keep t h:=by
  cases dst with
  |none=>exact R.keep t h
  |some d=>
   have bp:d≠t:=by grind
   rw[←R.keep t h];simp[Act.put,Array.getElem?_setIfInBounds_ne bp]
section
variable {E:Env} {A:zY} {nl:Bool} {k pre na nt:Nat} {a0:Nat→Value} {R:Type} {M0:zK} {w0:World} {Q:Exit→Act→World→Prop}
theorem vQ.op (hE:fZ E){st a w}{o:Oper}{v u next}(r:vQ nl na nt a0 M0 w0 st a w)(hd:∀d,o.dst=some d→na≤d∧d<nt)(hy:yG (kL E A k pre o st.ev st.h) v u)
  (hn:∀a' w',vQ nl na nt a0 M0 w0 {t:=iX st.t o.dst v,h:=qJ st.h u} a' w'→next a' w'):o.wp E.P a w next Q:=by
 obtain⟨M,h1,h2,h3,h4,ht⟩:=r.ex;rw[←h1] at hy;exact SS hE h3 h2 (yU4 ht) hy fun M' w' rv hB hv=>hn _ _ (hB.rel r h1 h4 ht hd hv)
theorem S3 (hE:fZ E){dst}(h:uA na nt dst=true):∀d,dst=some d→na≤d∧d<nt:=fun d hd=>by
 simp[uA] at h;simp_all
theorem vBe (hE:fZ E){o st K}{out:R}(h:LL E A k pre na nt o st K=some out):
  (∀d,o.dst=some d→na≤d∧d<nt)∧∃v u,yG (kL E A k pre o st.ev st.h) v u∧K v u {t:=iX st.t o.dst v,h:=qJ st.h u}=some out:=by
 unfold LL at h;cases hc:uA na nt o.dst with
 |false=>simp_all
 |true=>
  rw[hc] at h;exact⟨S3 hE hc,yU.elim_some h⟩
theorem yCr (hE:fZ E){ops}:∀l st K (out:R) a w,(∀p∈l,ops[p.1]? =some p.2)→LO E A k pre na nt ops l st K=some out→vQ nl na nt a0 M0 w0 st a w→
  (∀bJ a' w',vQ nl na nt a0 M0 w0 bJ a' w'→K bJ=some out→Q .normal a' w')→wpOps E.P ops Q (l.map (·.1)) a w
 |[],st,K,out,a,w,_,h,r,hK=>hK st a w r h
 |(i,o)::rest,st,K,out,a,w,hl,h,r,hK=>by
  have ho:ops[i]? =some o:=hl (i,o) (by simp);have ih:=fun st K out a w=>yCr hE rest st K out a w fun p hp=>hl p (by grind)
  obtain⟨b,hb,h⟩:=yOm h;have hw:=yDl hb r;simp[wpOps,ho];cases b with
  |true=>
   rw[if_pos rfl] at h;rw[if_pos hw];obtain⟨hd,v,u,hy,h⟩:=vBe hE h;exact .inl (vQ.op hE r hd hy (by grind))
  |false=>
   rw[if_neg (by simp[hw])];cases hc:uA na nt o.dst with
   |false=>simp_all
   |true=>
    rw[hc] at h;exact ih _ _ _ _ _ h (r.skip fun d hd=>(S3 hE hc d hd).1) hK
end
def CL (o:Oper)(acc:Array Nat):Nat:=o.after.foldl (fun s e=>if Region.binds .any e then s|||2^e.on|||acc.getD e.on 0 else s) 0
theorem yM5 (acc:Array Nat) i:∀(l:List Edge) s,(l.foldl (fun s e=>if Region.binds .any e then s|||2^e.on|||acc.getD e.on 0 else s) s).testBit i=true→
  s.testBit i=true∨∃e∈l,Region.binds .any e=true∧(e.on=i∨(acc.getD e.on 0).testBit i=true)
 |[],s,h=>.inl h
 |e::l,s,h=>by
  rcases yM5 acc i l _ h with h|⟨e',he,h⟩
  all_goals grind
def HL (ops:Array Oper)(acc:Array Nat):Prop:=∀j,j<acc.size→∀i,(acc.getD j 0).testBit i=true→∃o,ops[j]? =some o∧∃e∈o.after.toList,Region.binds .any e=true∧(e.on=i∨(e.on<j∧(acc.getD e.on 0).testBit i=true))
theorem vN8 {ops acc o}(h:HL ops acc)(ho:ops[acc.size]? =some o):HL ops (acc.push (CL o acc)):=by
 have old:∀j,j<acc.size→(acc.push (CL o acc)).getD j 0=acc.getD j 0:=fun j hj=>by
  simp[Array.getElem?_push,Nat.ne_of_lt hj]
 intro j hj i hb;simp  at hj;by_cases bj:j<acc.size
 ·rw[old j bj] at hb;obtain⟨o',h1,e,h2,h3,h4⟩:=h j bj i hb;grind
 ·have e:j=acc.size:=by omega
  subst e;rw[show(acc.push (CL o acc)).getD acc.size 0=CL o acc by simp] at hb;unfold CL at hb;rw[←Array.foldl_toList] at hb;rcases yM5 acc i _ _ hb with hb|⟨e,h2,h3,h4⟩
  all_goals grind
theorem vX7 ops:HL ops (Region.before ops):=by
 have key:∀(l:List Oper) (acc:Array Nat),HL ops acc→(∀m (hm:m<l.length),ops[acc.size+m]? =some l[m])→
   HL ops (l.foldl (fun acc o=>acc.push (CL o acc)) acc):=by
  intro l
  induction l with
  |nil=>simp
  |cons o l ih=>
   intro acc h ho;refine ih _ (vN8 h (ho 0 (by simp))) fun m hm=>?_
   have:=ho (m+1) (by simp;omega);grind
 have:=key ops.toList #[] (nofun) (by simp);unfold Region.before;rw[←Array.foldl_toList];exact this
theorem yQn {ops i j}(h:mO (Region.before ops) i j=true):∃o,ops[j]? =some o∧∃e∈o.after.toList,Region.binds .any e=true∧(e.on=i∨(e.on<j∧mO (Region.before ops) i e.on=true)):=by
 unfold mO at h;by_cases hj:j<(Region.before ops).size
 ·exact vX7 ops j hj i h
 simp_all
def HM (ops:Array Oper)(S:Nat→Bool):Prop:=∀j o,S j=true→ops[j]? =some o→∀e∈o.after.toList,Region.binds .any e=true→S e.on=true
theorem yBo {ops S}(hS:HM ops S){i}:∀n j,j=n→mO (Region.before ops) i j=true→S j=true→S i=true:=by
 intro n
 induction n using Nat.strongRecOn with
 |_ n ih=>
  intro j hj h hs;obtain⟨o,ho,e,he,hb,h⟩:=yQn h;have hse:=hS j o hs ho e he hb;grind
theorem S4 {ops S}(hS:HM ops S){i j}(h:mO (Region.before ops) i j=true)(hr:∀o,ops[j]? =some o→∀e∈o.after.toList,Region.binds .any e=true→S e.on=true):S i=true:=by
 obtain⟨o,ho,e,he,hb,h⟩:=yQn h;have hse:=hr o ho e he hb;rcases h with h|⟨h,hi⟩
 ·simp_all
 ·exact yBo hS _ _ rfl hi hse
structure It where
 i:Nat
 o:Oper
 v:zV
 u:vG
 r:Option (List Nat)
 wt:Bool
def It.dn (pre:Nat)(it:It):Cb:=⟨it.i,qc pre it.o.dst,eJ it.u,it.r⟩
def app (st:St)(it:It):St:={t:=iX st.t it.o.dst it.v,h:=qJ st.h it.u}
section
variable (E:Env) (A:zY) (k pre na nt:Nat) (ops:Array Oper)
structure fc (st:St) (it:It):Prop where
 w:CK ops it.o st=some it.wt
 y:it.wt=true→(∀d,it.o.dst=some d→na≤d∧d<nt)∧yG (kL E A k pre it.o st.ev st.h) it.v it.u∧it.r=qd st.ev it.o
 n:it.wt=false→it.v=.skp∧it.u=[]∧∀d,it.o.dst=some d→na≤d∧d<nt
def S5 (b:Array Nat)(x y:It):Prop:=mO b x.i y.i=true∨(sw ops x.i y.i=true∧(x.wt=true→y.wt=true→sv (x.dn pre) (y.dn pre)=false))
end
section
variable {E:Env} {A:zY} {k pre na nt:Nat} {R:Type} {ops:Array Oper} {b:Array Nat}
theorem S6 (hE:fZ E):∀rest done st K (out:R),Cc E A k pre na nt ops b rest done st K=some out→
  ∃dJ:List It,dJ.map (fun it=>(it.i,it.o))=rest∧K (dJ.foldl app st)=some out∧(∀bR it post,dJ=bR++it::post→fc E A k pre na nt ops (bR.foldl app st) it)∧
   (∀d∈done,∀it∈dJ,mO b d.i it.i=true∨(sw ops d.i it.i=true∧(it.wt=true→sv d (it.dn pre)=false)))∧dJ.Pairwise (S5 pre ops b)
 |[],done,st,K,out,h=>⟨[],rfl,h,by simp,by simp,.nil⟩
 |(i,o)::rest,done,st,K,out,h=>by
  unfold Cc at h;generalize hc:(done.all fun d=>mO b d.i i||sw ops d.i i)=c at h;cases c with
  |false=>cases h
  |true=>
   have qw:∀d∈done,mO b d.i i=true∨sw ops d.i i=true:=by grind
   rw[cond_true] at h;obtain⟨bw,hb,h⟩:=yOm h;cases bw with
   |true=>
    rw[if_pos rfl] at h;obtain⟨hd,v,u,hy,h⟩:=vBe hE h;dsimp only at h;generalize dp:(done.all fun d=>mO b d.i i|| !sv d ⟨i,qc pre o.dst,eJ u,qd st.ev o⟩)=c2 at h;cases c2 with
    |false=>simp_all
    |true=>
     rw[cond_true] at h;have Cz:∀d∈done,mO b d.i i=true∨sv d ⟨i,qc pre o.dst,eJ u,qd st.ev o⟩=false:=by grind
     obtain⟨dJ,h1,h2,h3,h4,h5⟩:=S6 hE rest _ _ K out h;let it:It:=⟨i,o,v,u,qd st.ev o,true⟩;refine⟨it::dJ,by grind,h2,fun bR HN post e=>?_,fun d uN HN nT=>?_,?_⟩
     ·cases bR with
      |nil=>
       obtain⟨rfl,rfl⟩:=e;exact⟨hb,by grind,by simp⟩
      |cons p bR=>
       simp only[List.cons_append,List.cons.injEq] at e;obtain⟨rfl,e⟩:=e;exact h3 bR HN post e
     ·rcases List.mem_cons.1 nT with rfl|nT
      ·rcases qw d uN with h|h
       ·grind
       ·rcases Cz d uN with h'|h'
        ·grind
        ·exact .inr ⟨h,fun _=>h'⟩
      simp_all
     ·refine List.pairwise_cons.2 ⟨fun y yy=>?_,h5⟩;rcases h4 (it.dn pre) (List.mem_cons_self ..) y yy with h|⟨h,h'⟩
      ·exact .inl h
      ·exact .inr ⟨h,by grind⟩
   |false=>
    rw[if_neg (by simp)] at h;have sW:uA na nt o.dst=true:=by
     grind
    rw[sW] at h;rw[cond_true] at h;obtain⟨dJ,h1,h2,h3,h4,h5⟩:=S6 hE rest _ _ K out h;let it:It:=⟨i,o,.skp,[],some [],false⟩;refine⟨it::dJ,by grind,h2,fun bR HN post e=>?_,fun d uN HN nT=>?_,?_⟩
    ·cases bR with
     |nil=>
      obtain⟨rfl,rfl⟩:=e;exact⟨hb,by simp,fun _=>⟨rfl,rfl,S3 hE sW⟩⟩
     |cons p bR=>
      simp  at e;obtain⟨rfl,e⟩:=e;exact h3 bR HN post e
    ·grind
    ·refine List.pairwise_cons.2 ⟨fun y yy=>?_,h5⟩;rcases h4 (it.dn pre) (List.mem_cons_self ..) y yy with h|⟨h,h'⟩
     ·exact .inl h
     ·exact .inr ⟨h,by simp⟩
end
theorem yZg {t t' d v x}(h:t x=t' x):iX t d v x=iX t' d v x:=by
 cases d with
 |none=>exact h
 |some d=>
  show jP t d v x=jP t' d v x;unfold jP;simp_all
theorem Mv {t d v x}(h:d≠some x):iX t d v x=t x:=by
 cases d with
 |none=>rfl
 |some d=>
  show jP t d v x=_;unfold jP;cases e:Nat.beq x d with
  |false=>rfl
  |true=>simp_all
theorem vSu {t t' v x}:iX t (some x) v x=iX t' (some x) v x:=by
 show jP t x v x=jP t' x v x;unfold jP;simp
theorem vD0 {t d e v u}(h:∀x,d=some x→e≠some x):iX (iX t d v) e u=iX (iX t e u) d v:=by
 funext x;by_cases hd:d=some x
 ·subst hd;rw[Mv (h x rfl)];exact vSu
 ·rw[Mv hd];exact yZg (Mv hd)
theorem yz {n}:∀{u h h'},h n=h' n→qJ h u n=qJ h' u n
 |[],_,_,e=>e
 | (id, o) :: u, h, h', e => yz (u := u) (by
   by_cases hn:n=id
   ·subst hn;rw[yO,yO]
   ·rw[yP _ _ hn,yP _ _ hn];exact e)
theorem yYa {n}:∀{u h h'},n∈eJ u→qJ h u n=qJ h' u n
 |(id,o)::u,h,h',hm=>by
  by_cases hu:n∈eJ u
  ·exact yYa (u:=u) hu
  ·have e:n=id:=by
    simp[eJ] at hm hu;simp_all
   subst e;exact yz (u:=u) (by rw[yO,yO])
theorem vQ3 {u v h}(hd:∀a∈eJ u,a∉eJ v):qJ (qJ h u) v=qJ (qJ h v) u:=by
 funext n;by_cases hu:n∈eJ u
 ·rw[CE (hd n hu)];exact yYa hu
 ·rw[CE (u:=u) (h:=qJ h v) hu];exact yz (CE hu)
theorem S7 {st x y}(hd:∀t,x.o.dst=some t→y.o.dst≠some t)(hu:∀a∈eJ x.u,a∉eJ y.u):app (app st x) y=app (app st y) x:=by
 unfold app;simp;exact⟨vD0 hd,vQ3 hu⟩
theorem yMy {x}:∀{l:List It} {st},(∀y∈l,(∀t,x.o.dst=some t→y.o.dst≠some t)∧∀a∈eJ x.u,a∉eJ y.u)→app (l.foldl app st) x=l.foldl app (app st x)
 |[],_,_=>rfl
 |y::l,st,h=>by
  rw[List.foldl_cons,List.foldl_cons,S7 (by grind) (by grind)];exact yMy (by grind)
theorem Mw t:∀(l:List It) st bJ,st.t t=bJ.t t→(l.foldl app st).t t=((l.filter fun it=>it.o.dst==some t).foldl app bJ).t t
 |[],_,_,h=>h
 |y::l,st,bJ,h=>by
  rw[List.foldl_cons,List.filter_cons];cases hy:y.o.dst==some t with
  |true=>
   exact Mw t l _ _ (yZg h)
  |false=>
   exact Mw t l _ _ (by
    show iX st.t y.o.dst y.v t=_;rw[Mv (by simp_all)];exact h)
theorem Mx n:∀(l:List It) st bJ,st.h n=bJ.h n→(l.foldl app st).h n=((l.filter fun it=>(eJ it.u).contains n).foldl app bJ).h n
 |[],_,_,h=>h
 |y::l,st,bJ,h=>by
  rw[List.foldl_cons,List.filter_cons];cases hy:(eJ y.u).contains n with
  |true=>
   exact Mx n l _ _ (yz h)
  |false=>
   exact Mx n l _ _ (by
    show qJ st.h y.u n=_;rw[CE (by simpa[eJ] using hy)];exact h)
theorem yUg {S W bR post}{it:It}(nT:S it=false)(h1:∀y∈bR,W y=true→S y=true)(h2:∀y∈post,W y=true→S y=false):((bR++it::post).filter S).filter W=bR.filter W:=by
 have e1:(bR.filter S).filter W=bR.filter W:=by
  rw[List.filter_filter];refine List.filter_congr fun y hy=>?_
  simp_all
 simp_all
def CM (d:Cb)(a:Nat):Prop:=match d.refs with
 |none=>True
 |some l=>a∈l∨mN d.nm a=true
theorem S8 {x y}(h:sv x y=false):(∀a∈x.upd,¬CM y a)∧(∀a∈y.upd,¬CM x a)∧∀a∈x.upd,a∉y.upd:=by
 unfold sv at h;have key:∀(d e:Cb),LK d.upd e.refs=false→d.upd.any (mN e.nm)=false→∀a∈d.upd,¬CM e a:=by
  intro d e hm ho a ha hl;unfold LK at hm;unfold CM at hl;cases hr:e.refs with
  |none=>
   simp_all
  |some l=>
   simp_all
 refine⟨by grind,by grind,fun a ha hb=>?_⟩;simp_all
section
variable {E:Env} {A:zY} {k pre na nt:Nat} {R:Type} {ops:Array Oper}
theorem S9 {i j x y}(hi:ops[i]? =some x)(hj:ops[j]? =some y)(h:sw ops i j=true):
  (∀d,x.dst=some d→d∉y.looksAt ops)∧(∀d,x.dst=some d→y.dst≠some d)∧(∀d,y.dst=some d→d∉x.looksAt ops):=by
 unfold sw at h;rw[hi,hj] at h;exact Oper.apart_spec h
theorem Ta (hE:fZ E)(hS:jb E.sums){S}(hC:HM ops S){st bR post it}(gq:∀y∈bR++it::post,ops[y.i]? =some y.o)(hg:fc E A k pre na nt ops (bR.foldl app st) it)
  (hu:∀y∈bR++it::post,y.wt=false→y.u=[]) (hp:(bR++it::post).Pairwise (S5 pre ops (Region.before ops))) (nT:S it.i=false)
  (hr:∀o,ops[it.i]? =some o→∀e∈o.after.toList,Region.binds .any e=true→S e.on=true):
  fc E A k pre na nt ops (((bR++it::post).filter fun y=>S y.i).foldl app st) it∧
   (∀y∈post,S y.i=true→(∀t,it.o.dst=some t→y.o.dst≠some t)∧∀a∈eJ it.u,a∉eJ y.u):=by
 have uO:ops[it.i]? =some it.o:=gq it (by simp);obtain⟨Mp,HF,hp3⟩:=List.pairwise_append.1 hp;have before:∀y∈bR,S y.i=false→sw ops y.i it.i=true∧(y.wt=true→it.wt=true→sv (y.dn pre) (it.dn pre)=false):=fun y hy hs=>by
  rcases hp3 y hy it (by simp) with h|h
  ·rw[S4 hC h hr] at hs;cases hs
  ·exact h
 have behind:∀y∈post,S y.i=true→sw ops it.i y.i=true∧(it.wt=true→y.wt=true→sv (it.dn pre) (y.dn pre)=false):=fun y hy hs=>by
  rcases(List.pairwise_cons.1 HF).1 y hy with h|h
  ·rw[yBo hC _ _ rfl h hs] at nT;cases nT
  ·exact h
 have uP:∀t,t∈it.o.looksAt ops→(((bR++it::post).filter fun y=>S y.i).foldl app st).t t=(bR.foldl app st).t t:=fun t ht=>by
  rw[Mw t _ st st rfl,Mw t bR st st rfl,yUg nT (fun y hy hw=>?_) fun y hy hw=>?_]
  ·cases hs:S y.i with
   |true=>rfl
   |false=>
    have:=(S9 (gq y (by simp[hy])) uO (before y hy hs).1).1 t (by simpa using hw);exact absurd ht this
  ·cases hs:S y.i with
   |false=>rfl
   |true=>
    have:=(S9 uO (gq y (by simp[hy])) (behind y hy hs).1).2.2 t (by simpa using hw);simp_all
 have hEq:it.wt=true→∀n,CM (it.dn pre) n→(((bR++it::post).filter fun y=>S y.i).foldl app st).h n=(bR.foldl app st).h n:=fun hw n hn=>by
  rw[Mx n _ st st rfl,Mx n bR st st rfl,yUg nT (fun y hy yy=>?_) fun y hy yy=>?_]
  ·cases hs:S y.i with
   |true=>rfl
   |false=>
    have hm:n∈eJ y.u:=by simpa using yy
    have Tb:y.wt=true:=by
     cases h:y.wt with
     |true=>rfl
     |false=>rw[hu y (by simp[hy]) h] at hm;simp[eJ] at hm
    exact absurd hn ((S8 ((before y hy hs).2 Tb hw)).1 n hm)
  ·cases hs:S y.i with
   |false=>rfl
   |true=>
    have hm:n∈eJ y.u:=by simpa using yy
    have Tb:y.wt=true:=by
     cases h:y.wt with
     |true=>rfl
     |false=>rw[hu y (by simp[hy]) h] at hm;simp[eJ] at hm
    exact absurd hn ((S8 ((behind y hy hs).2 hw Tb)).2.1 n hm)
 generalize hL:((bR++it::post).filter fun y=>S y.i).foldl app st=My at uP hEq⊢;refine⟨⟨?_,fun hw=>?_,hg.n⟩,fun y hy hs=>?_⟩
 ·rw[←hg.w];unfold CK;cases y8:it.o.guard with
  |none=>rfl
  |some p=>
   obtain⟨j,want⟩:=p;dsimp only;cases eG:LM ops j with
   |none=>rfl
   |some s=>
    have:s∈it.o.looksAt ops:=by
     have eG:(ops[j]?).bind (·.dst)=some s:=eG;simp only[Oper.looksAt,y8,eG];simp
    simp_all
 ·obtain⟨hd,hy,hrf⟩:=hg.y hw;have aV:∀x∈it.o.op.operands,My.ev x=(bR.foldl app st).ev x:=fun x hx=>by
   cases x with
   |tmp t=>exact uP t (List.mem_append_left _ (List.mem_filterMap.2 ⟨.tmp t,by simpa using hx,rfl⟩))
   |_=>rfl
  have hrefs:qd My.ev it.o=qd (bR.foldl app st).ev it.o:=by
   unfold qd;have:it.o.op.operands.toList.map My.ev=it.o.op.operands.toList.map (bR.foldl app st).ev:=List.map_congr_left (by grind);simp only[this]
  refine⟨hd,?_,by rw[hrf,hrefs]⟩;rw[vQw aV];have hh : kL E A k pre it.o (bR.foldl app st).ev My.h = kL E A k pre it.o (bR.foldl app st).ev (bR.foldl app st).h := vSk hS (by
   rw[←hrf];have:=hEq hw;unfold CM at this;have hdn:(it.dn pre).refs=it.r:=rfl;rw[hdn] at this;cases h:it.r with
   |none=>
    grind
   |some l=>
    rw[h] at this;exact this)
  rw[hh];exact hy
 ·obtain⟨h1,h2⟩:=behind y hy hs;refine⟨(S9 uO (gq y (by simp[hy])) h1).2.1,fun a ha hb=>?_⟩;have hwi:it.wt=true:=by
   cases h:it.wt with
   |true=>rfl
   |false=>rw[hu it (by simp) h] at ha;simp[eJ] at ha
  have hwy:y.wt=true:=by
   cases h:y.wt with
   |true=>rfl
   |false=>rw[hu y (by simp[hy]) h] at hb;simp[eJ] at hb
  exact(S8 (h2 hwi hwy)).2.2 a ha hb
end
theorem vJk {ops}(h:He ops=true){j o}(ho:ops[j]? =some o):∀e∈o.after.toList,Region.binds .any e=true→e.on<j:=by
 intro e he hb;have hm:(o,j)∈ops.toList.zipIdx:=by
  grind
 have:=List.all_eq_true.1 (List.all_eq_true.1 h _ hm) e he;simp_all
theorem Mz {L:Array Bool}{i}(hi:i<L.size) j:(L.setIfInBounds i true).getD j false=(L.getD j false||i==j):=by
 by_cases h:i=j
 all_goals simp_all
section
variable {E:Env} {A:zY} {nl:Bool} {k pre na nt:Nat} {a0:Nat→Value} {R:Type} {ops:Array Oper} {M0:zK} {w0:World} {Q:Exit→Act→World→Prop}
theorem vOm (hE:fZ E)(hS:jb E.sums)(he:He ops=true){dJ st}(hi:dJ.map (·.i)=List.range ops.size)(gq:∀y∈dJ,ops[y.i]? =some y.o)(hg:∀bR it post,dJ=bR++it::post→fc E A k pre na nt ops (bR.foldl app st) it)
  (hp:dJ.Pairwise (S5 pre ops (Region.before ops))) (hQ:∀a w,vQ nl na nt a0 M0 w0 (dJ.foldl app st) a w→Q .normal a w):
  ∀fuel L a w,L.size=ops.size→(∃U:List Nat,U.length≤fuel∧∀j,j<ops.size→L.getD j false=false→j∈U)→HM ops (fun j=>L.getD j false)→
   vQ nl na nt a0 M0 w0 ((dJ.filter fun y=>L.getD y.i false).foldl app st) a w→wpAny E.P .any ops Q fuel L a w:=by
 have hu:∀y∈dJ,y.wt=false→y.u=[]:=fun y hy hw=>by
  obtain⟨bR,post,e⟩:=List.append_of_mem hy;exact((hg bR y post e).n hw).2.1
 have Tc:∀y∈dJ,y.i<ops.size:=fun y hy=>(Array.getElem?_eq_some_iff.1 (gq y hy)).1
 have dE:(dJ.map (·.i)).Nodup:=by rw[hi];exact List.nodup_range
 have full:∀(L:Array Bool) (a:Act) (w:World),(∀j,j<ops.size→L.getD j false=true)→vQ nl na nt a0 M0 w0 ((dJ.filter fun y=>L.getD y.i false).foldl app st) a w→Q .normal a w:=fun L a w hl r=>by
  rw[List.filter_eq_self.2 fun y hy=>hl y.i (Tc y hy)] at r;exact hQ a w r
 have rdy:∀(L:Array Bool),L.size=ops.size→Region.ready .any ops L=[]→∀j,j<ops.size→L.getD j false=true:=fun L hL hr j=>by
  induction j using Nat.strongRecOn with
  |_ j ih=>
   intro hj;cases hb:L.getD j false with
   |true=>rfl
   |false=>
    have ho:ops[j]? =some ops[j]:=Array.getElem?_eq_getElem hj;have:j∈Region.ready .any ops L:=mem_ready.2 ⟨by
     have Td:j<L.size:=by omega
     simpa[Array.getD,Td] using hb,ops[j],ho,fun e he' bF=>by
      have bj:=vJk he ho e (by simpa using he') bF;exact ih e.on bj (by omega)⟩
    rw[hr] at this;cases this
 intro fuel
 induction fuel with
 |zero=>
  intro L a w hL hU hC r;obtain⟨U,hUl,hU⟩:=hU;have hU0:U=[]:=List.eq_nil_of_length_eq_zero (by omega);have bg:∀j,j<ops.size→L.getD j false=true:=by grind
  refine⟨?_,full L a w bg r⟩;cases hr:Region.ready .any ops L with
  |nil=>rfl
  |cons j l=>
   have:j∈Region.ready .any ops L:=by rw[hr];exact List.mem_cons_self ..
   obtain⟨h0,o,ho,_⟩:=mem_ready.1 this;have hj:=(Array.getElem?_eq_some_iff.1 ho).1;have:=bg j hj;have Td:j<L.size:=by omega
   simp[Array.getD,Td] at this h0;rw[this] at h0;cases h0
 |succ fuel ih=>
  intro L a w hL hU hC r;refine⟨fun hr=>full L a w (rdy L hL hr) r,fun i hir=>?_⟩;obtain⟨h0,o,ho,y9⟩:=mem_ready.1 hir;have HO:=(Array.getElem?_eq_some_iff.1 ho).1;have HP:i<L.size:=by omega
  have HQ:L.getD i false=false:=by simpa[Array.getD,HP] using h0
  obtain⟨it,nT,sX⟩:∃it∈dJ,it.i=i:=by
   have:i∈dJ.map (·.i):=by rw[hi];simpa using HO
   obtain⟨it,h1,h2⟩:=List.mem_map.1 this;exact⟨it,h1,h2⟩
  obtain⟨bR,post,e⟩:=List.append_of_mem nT;have uO:ops[it.i]? =some it.o:=gq it nT;have iw:o=it.o:=by rw[sX,ho] at uO;exact Option.some.inj uO
  subst iw;have uQ:=Ta hE hS hC (by rw[←e];exact gq) (hg bR it post e) (by rw[←e];exact hu) (by rw[←e];exact hp) (by rw[sX];exact HQ) (by grind);rw[←e] at uQ;obtain⟨y8,HR⟩:=uQ;have hw:=yDl y8.w r;have yD:(dJ.filter fun y=>(L.setIfInBounds i true).getD y.i false).foldl app st=app ((dJ.filter fun y=>L.getD y.i false).foldl app st) it:=by
   have other:∀y∈bR++post,(L.setIfInBounds i true).getD y.i false=L.getD y.i false:=fun y hy=>by
    rw[Mz HP];grind
   have e1:dJ.filter (fun y=>L.getD y.i false)=bR.filter (fun y=>L.getD y.i false)++post.filter (fun y=>L.getD y.i false):=by
    conv=>lhs;rw[e]
    rw[List.filter_append,List.filter_cons,if_neg (by rw[sX,HQ];simp)]
   have e2:dJ.filter (fun y=>(L.setIfInBounds i true).getD y.i false)=bR.filter (fun y=>L.getD y.i false)++it::post.filter (fun y=>L.getD y.i false):=by
    conv=>lhs;rw[e]
    rw[List.filter_append,List.filter_cons,if_pos (by rw[sX,Mz HP];simp),List.filter_congr fun y hy=>other y (List.mem_append_left _ hy),List.filter_congr fun y hy=>other y (List.mem_append_right _ hy)]
   rw[e1,e2,List.foldl_append,List.foldl_append,List.foldl_cons];exact (yMy fun y hy=>by
    obtain⟨Te,Tf⟩:=List.mem_filter.1 hy;exact HR y Te Tf).symm
  have aC:HM ops fun j=>(L.setIfInBounds i true).getD j false:=fun j o' hj la ed hed hb=>by
   dsimp only at hj⊢;rw[Mz HP] at hj;refine getD_set_true ?_;rw[Bool.or_eq_true] at hj;rcases hj with hj|hj
   ·exact hC j o' hj la ed hed hb
   ·have:i=j:=by simpa using hj
    subst this;rw[ho] at la;cases la;exact y9 ed (by simpa using hed) hb
  have hU':∃U:List Nat,U.length≤fuel∧∀j,j<ops.size→(L.setIfInBounds i true).getD j false=false→j∈U:=by
   obtain⟨U,hl,hU⟩:=hU;refine⟨U.erase i,?_,fun j hj hb=>?_⟩
   ·rw[List.length_erase_of_mem (hU i HO HQ)];omega
   ·rw[Mz HP,Bool.or_eq_false_iff] at hb;exact(List.mem_erase_of_ne (by have:=hb.2;simp at this;exact fun h=>this h.symm)).2 (hU j hj hb.1)
  unfold wpOp;rw[ho];dsimp only;cases za:it.wt with
  |true=>
   rw[za] at hw;rw[if_pos hw];obtain⟨hd,hy,_⟩:=y8.y za;refine .inl (vQ.op hE r hd hy fun a' w' r'=>?_);exact ih _ _ _ (by simpa using hL) hU' aC (by rw[yD];exact r')
  |false=>
   rw[za] at hw;rw[if_neg (by simp[hw])];obtain⟨hv,ql,sW⟩:=y8.n za;refine ih _ _ _ (by simpa using hL) hU' aC ?_;rw[yD];have:=r.skip (dst:=it.o.dst) fun d hd=>(sW d hd).1
   unfold app;rw[hv,ql];exact this
theorem vQt (hE:fZ E)(hS:jb E.sums){id st K}{out:R}{a w}(hm:E.P.follows .mixedOrders=true)(he:He ops=true)
  (h:Cc E A k pre na nt ops (Region.before ops) (ops.toList.zipIdx.map fun p=>(p.2,p.1)) [] st K=some out) (r:vQ nl na nt a0 M0 w0 st a w)
  (hK:∀bJ a' w',vQ nl na nt a0 M0 w0 bJ a' w'→K bJ=some out→Q .normal a' w'):(Code.region id ops true).wp E.P Q a w:=by
 obtain⟨dJ,h1,h2,h3,_,h5⟩:=S6 hE _ _ _ _ _ h;have hi:dJ.map (·.i)=List.range ops.size:=by
  have:=congrArg (List.map Prod.fst) h1;rw[List.map_map,List.map_map] at this;refine Eq.trans this ?_;have e:(Prod.fst∘fun p:Oper×Nat=>(p.2,p.1))=Prod.snd:=rfl;rw[e,List.zipIdx_map_snd,←List.range_eq_range'];simp
 have gq:∀y∈dJ,ops[y.i]? =some y.o:=fun y hy=>by
  have:(y.i,y.o)∈ops.toList.zipIdx.map fun p=>(p.2,p.1):=by grind
  grind
 refine wp_region_any hm (vOm hE hS he (nt:=nt) (na:=na) (a0:=a0) (M0:=M0) (w0:=w0) hi gq h3 h5 (fun a w r=>hK _ a w r h2) _ _ _ _ (by simp) ⟨List.range ops.size,by simp,by grind⟩ (fun j o hj=>?_) ?_)
 ·by_cases h:j<ops.size<;>simp[h] at hj
 ·rw[List.filter_eq_nil_iff.2 fun y hy=>by
   by_cases h:y.i<ops.size<;>simp[h]]
  exact⟨r.ex,r.defers,r.size,r.os,r.tape,r.output,r.keep⟩
end
def zK.nilObj (M:zK)(nm:Nat)(o:Obj)(sz:Nat):zK:={M with κ:=κset M.κ nm ⟨none,0,sz,0,[]⟩,h:=yD M.h nm o}
def kh (t:Ty)(rows:Bool):Obj:=bif rows then .mat 0 [] else .arr true t []
def lk (t:Ty)(rows:Bool):Nat:=bif rows then 1 else t.size
theorem zK.nilObj_ok {M}(ok:Ok M){nm}(aS:M.h nm=none) t rows:
  Ok (M.nilObj nm (kh t rows) (lk t rows))∧yM M (M.nilObj nm (kh t rows) (lk t rows))∧(∀b,qM (M.nilObj nm (kh t rows) (lk t rows)) b→qM M b):=by
 have hO:∀M':zK,yY M' (kh t rows) ⟨none,0,lk t rows,0,[]⟩:=fun M'=>by
  cases rows with
  |false=>exact⟨rfl,rfl,by simp,rfl⟩
  |true=>exact⟨rfl,rfl,rfl,rfl,by simp[qB.fp],rfl⟩
 have x:yM M (M.nilObj nm (kh t rows) (lk t rows)):=⟨fun id C h=>by
  have bp:id≠nm:=fun e=>by rw[e,ok.non nm aS] at h;cases h
  exact⟨C,by show κset M.κ nm _ id=_;rw[κset_ne _ _ bp];exact h,C.le_refl⟩,fun _ h=>h,fun _ h=>h,fun _ _=>rfl,fun _ _=>rfl,fun _ _=>rfl⟩
 refine⟨Ok.build ok x (fun id=>id=nm) (fun id h=>yP _ _ h) (fun id h=>κset_ne _ _ h) (fun _ _ _ _ _ _ _ _ _=>rfl) (fun id o C h1 h2 h3 h4 b hb=>(ok.own b ⟨id,o,C,h2,h3,h4,hb⟩).1) (Nat.le_refl _)
  (fun id o e h=>?_) (fun id e h=>?_) (fun id o C b e h1 h2 h3 h4=>?_) ok.GF ok.Flt,x,fun b hb=>?_⟩
 ·subst e;have e1:(M.nilObj id (kh t rows) (lk t rows)).h id=some (kh t rows):=yO _ _ _;rw[e1] at h;cases h;exact⟨_,κset_same _ _ _,hO _⟩
 ·have e1:(M.nilObj id (kh t rows) (lk t rows)).h id=some (kh t rows):=yO _ _ _;simp_all
 ·subst e;have e1:(M.nilObj id (kh t rows) (lk t rows)).κ id=some _:=κset_same _ _ _;rw[e1] at h3;cases h3;simp[qB.fp] at h4
 ·obtain⟨id,o,C,h1,h2,h3,h4⟩:=hb;by_cases e:id=nm
  ·subst e;have e1:(M.nilObj id (kh t rows) (lk t rows)).κ id=some _:=κset_same _ _ _;rw[e1] at h3;cases h3;simp[qB.fp] at h4
  ·exact⟨id,o,C,by rw[←h1];exact(yP _ _ e).symm,h2,by rw[←h3];exact(κset_ne _ _ e).symm,h4⟩
theorem jc.same_mem {M M'}(hF:M'.F=M.F)(hG:M'.G=M.G)(hH:M'.H=M.H)(ho:∀b,qM M' b→qM M b):jc M M':=
 ⟨by grind,by grind,by grind,by grind,by grind,by simp_all,by grind,by grind,
  by grind,by grind⟩
theorem jc.refl M:jc M M:=.same_mem rfl rfl rfl (by simp)
section
variable {na nt:Nat} {a0:Nat→Value} {M0:zK} {w0 w:World} {a:Act}
theorem zL.set_left {α β R l}{m:List β}(h:zL R l m){j}{c:α}(hc:∀(h1:j<l.length) h2,R c m[j]):zL R (l.set j c) m:=by
 refine zL.of_get (by rw[List.length_set];exact h.length) fun i hi bG=>?_
 rw[List.length_set] at hi;by_cases e:j=i
 ·simp_all
 ·rw[List.getElem_set_ne e];exact h.get i hi bG
theorem vVh {st}{s j}(r:vQ false na nt a0 M0 w0 st a w):vQ false na nt a0 M0 w0 (Rx st s j) a w:=by
 obtain⟨M,h1,h2,h3,h4,h5⟩:=r.ex;unfold Rx;split
 ·split
  ·rename_i c hs;split
   ·rename_i c' u hf;have hv:=h5 s;rw[hs] at hv;rw[←h1] at hf;obtain⟨L,k1,k2,k3,k4,k5,_⟩:=Hk h3 (wY.refl _) (show zW M c _ from hv) hf;refine⟨⟨L,by rw[k2,h1],k1.trans h2,k3,h4.trans k4.grow,fun t=>?_⟩,r.defers,r.size,r.os,r.tape,r.output,r.keep⟩;show zU _ (jP st.t s _ t) _;unfold jP;cases e:Nat.beq t s with
    |false=>exact(h5 t).ext k4.ext
    |true=>
     have e:t=s:=by simpa using e
     subst e;exact k5
   ·exact r
  ·exact r
 ·rename_i j;split
  ·rename_i id hs;split
   ·rename_i cells ak;split
    ·rename_i c yQ;split
     ·rename_i c' u hf;rw[←h1] at hf ak;obtain⟨C0,qp,hO0⟩:=h3.obj id _ ak;obtain⟨B0,uR,e0,b10,b20,b30,b40,b50⟩:=hO0;have hj:j<cells.length:=(List.getElem?_eq_some_iff.1 yQ).1;have Tg:j<uR.toList.length:=by rw[←b40.length];exact hj
      have kP:=b40.get j hj Tg;have ec:cells[j]=c:=by grind
      rw[ec] at kP;obtain⟨L,k1,k2,k3,k4,k5,k6,_⟩:=Hk h3 (wY.refl _) kP hf;have zb:L.h id=some (.box true cells):=by
       rcases k6 id with h|⟨own,t,xs,h,_⟩|⟨ver,xs,h,_⟩
       all_goals simp_all
      obtain⟨C,hC,hO⟩:=k3.obj id _ zb;obtain⟨B,vals,e,b1,b2,b3,b4,b5⟩:=hO;obtain⟨C1,iu,le⟩:=k4.ext.κ id C0 qp;rw[hC] at iu;cases iu;have eB:B=B0:=by rw[le.blk,b10] at b1;simp_all
      subst eB;rw[k1,b30] at b3;cases b3;have hx:=zK.write_ext (H':=L.H) k3 zb rfl hC C.le_refl (by simp) (by simp) (.box true (cells.set j c'));have hw := zK.write_ok (H' := L.H) (o' := .box true (cells.set j c')) k3 zb rfl hC C.le_refl (by simp) rfl (by simp) (by simp) (by
       refine⟨B,uR,e0,b1,b2,by show L.H[B]? =_;simp_all,?_,by simp⟩;exact(b4.mono fun _ _ h=>h.ext hx).set_left fun _ _=>k5.ext hx)
      refine⟨⟨L.write id (.box true (cells.set j c')) C L.H,?_,k1.trans h2,hw.1,(h4.trans k4.grow).trans hw.2.grow,fun t=>((h5 t).ext k4.ext).ext hx⟩,r.defers,r.size,r.os,r.tape,r.output,r.keep⟩;show yD L.h id _=yD (qJ st.h u) id _;rw[k2,h1]
     ·exact r
    ·exact r
   ·exact r
  ·rename_i cells hs;split
   ·rename_i c yQ;split
    ·rename_i c' u hf;have hv:=h5 s;rw[hs] at hv;obtain⟨vs,dD,bg⟩:=hv;rw[←h1] at hf;have hj:j<cells.length:=by grind
     have Tg:j<vs.toList.length:=by rw[←bg.length];exact hj
     have kP:=bg.get j hj Tg;have ec:cells[j]=c:=by grind
     rw[ec] at kP;obtain⟨L,k1,k2,k3,k4,k5,k6,_⟩:=Hk h3 (wY.refl _) kP hf;refine⟨⟨L,by rw[k2,h1],k1.trans h2,k3,h4.trans k4.grow,fun t=>?_⟩,r.defers,r.size,r.os,r.tape,r.output,r.keep⟩;show zU _ (jP st.t s _ t) _;unfold jP;cases e:Nat.beq t s with
     |false=>exact(h5 t).ext k4.ext
     |true=>
      have e:t=s:=by simpa using e
      subst e;exact⟨vs,dD,(bg.mono fun _ _ h=>h.ext k4.ext).set_left (by grind)⟩
    ·exact r
   ·exact r
  ·exact r
theorem Th {st nm g}(r:vQ false na nt a0 M0 w0 st a w)(aS:st.h nm=none):vQ false na nt a0 M0 w0 (Ry st nm g) a w:=by
 obtain⟨M,h1,h2,h3,h4,h5⟩:=r.ex;have hM:M.h nm=none:=by simp_all
 obtain⟨k1,k2,k3⟩:=M.nilObj_ok h3 hM g.2.2.1 g.2.2.2;have cL:zW (M.nilObj nm (kh g.2.2.1 g.2.2.2) (lk g.2.2.1 g.2.2.2)) (.osl nm none) (.slice none 0 0):=⟨_,κset_same _ _ _,none,0,rfl,rfl,rfl,rfl⟩;have gr:sU false M0 (M.nilObj nm (kh g.2.2.1 g.2.2.2) (lk g.2.2.1 g.2.2.2)):=h4.trans (.same_mem rfl rfl rfl k3);unfold Ry;cases abD:g.2.2.2&&vBw g.2.2.1 with
 |true=>exact vVh r
 |false=>
 split
 ·split
  ·rename_i hs;refine⟨⟨M.nilObj nm (kh g.2.2.1 g.2.2.2) (lk g.2.2.1 g.2.2.2),?_,h2,k1,gr,fun t=>?_⟩,r.defers,r.size,r.os,r.tape,r.output,r.keep⟩
   ·show yD M.h nm _=yD st.h nm _;rw[h1];rfl
   ·show zU _ (jP st.t g.1 _ t) _;unfold jP;cases e:Nat.beq t g.1 with
    |false=>exact(h5 t).ext k2
    |true=>
     have e:t=g.1:=by simpa using e
     subst e;have hv:=h5 g.1;rw[hs] at hv;rw[hv];exact cL
  ·exact r
 ·rename_i j hj;split
  ·rename_i id hs;split
   ·rename_i cells ak;split
    ·have bp:id≠nm:=by grind
     let M1:=M.nilObj nm (kh g.2.2.1 g.2.2.2) (lk g.2.2.1 g.2.2.2);have oR:M1.h id=some (.box true cells):=by
      show yD M.h nm _ id=_;rw[yP _ _ bp,h1];exact ak
     obtain⟨C,hC,hO⟩:=k1.obj id _ oR;obtain⟨B,vals,e,b1,b2,b3,b4,b5⟩:=hO;have hx:=zK.write_ext (H':=M1.H) k1 oR rfl hC C.le_refl (by grind) (by grind) (.box true (cells.set j (.osl nm none)));have hw := zK.write_ok (H' := M1.H) (o' := .box true (cells.set j (.osl nm none))) k1 oR rfl hC C.le_refl (by simp) rfl (by grind) (by grind) (by
      refine⟨B,vals,e,b1,b2,b3,?_,by simp⟩;have hl:=b4.length;refine zL.of_get (by simp_all) fun i hi bG=>?_
      have hb:=b4.get i (by omega) bG;by_cases eij:j=i
      ·subst eij;rw[List.getElem_set_self];have ec:cells[j]=.nsl:=by
        grind
       rw[ec] at hb;rw[hb];exact cL.ext hx
      ·rw[List.getElem_set_ne eij];exact hb.ext hx)
     refine⟨⟨M1.write id (.box true (cells.set j (.osl nm none))) C M1.H,?_,h2,hw.1,gr.trans hw.2.grow,fun t=>((h5 t).ext k2).ext hx⟩,r.defers,r.size,r.os,r.tape,r.output,r.keep⟩;show yD (yD M.h nm _) id _=yD (yD st.h nm _) id _;rw[h1];rfl
    ·exact r
   ·exact r
  ·exact r
theorem yI0:∀{l st bJ nm},vQ false na nt a0 M0 w0 st a w→LP st nm l=some bJ→vQ false na nt a0 M0 w0 bJ a w
 |[],st,bJ,nm,r,h=>by cases h;exact r
 |g::l,st,bJ,nm,r,h=>by
  unfold LP at h;split at h
  ·rename_i aS;exact yI0 (Th r aS) h
  ·cases h
theorem yX1 {id}:∀{l n i},eX id l n=some i→n≤i∧l[i-n]? =some id
 |x::l,n,i,h=>by
  unfold eX at h;cases e:Nat.beq x id with
  |true=>
   simp_all
  |false=>
   rw[e] at h;obtain⟨h1,h2⟩:=yX1 (l:=l) h;grind
theorem Ti {h}:∀n {todo seen},seen.Nodup→(Cd h n todo seen).Nodup
 |0,_,_,hs
 |n+1,[],_,hs=>hs
 |n+1,id::todo,seen,hs=>by
  unfold Cd;cases e:seen.any (Nat.beq id) with
  |true=>exact Ti n hs
  |false=>
   refine Ti n (List.nodup_append.2 ⟨hs,by simp,fun x hx y hy exy=>?_⟩);have:y=id:=by simp_all
   have:=List.any_eq_false.1 e x hx;simp_all
def oW (base : Nat) (κ : Nat → Option qB) (ids : List Nat) : Nat → Option qB := fun n => if base ≤ n then (match ids[n-base]? with
 |some id=>(κ id).map fun C=>{C with ver:=0}
 |none=>none) else none
def zK.ren (M:zK)(base:Nat)(ids:List Nat):zK:={M with κ:=oW base M.κ ids,h:=ya base M.h ids}
theorem vYt {base h ids n o}(e:ya base h ids n=some o):∃id o',base≤n∧ids[n-base]? =some id∧h id=some o'∧o=uC h (fun i=>(eX i ids 0).map (base+·)) o':=by
 unfold ya at e;cases hb:Nat.ble base n with
 |false=>simp_all
 |true=>
  rw[hb] at e;split at e
  ·obtain⟨o',h1,h2⟩:=Option.map_eq_some_iff.1 e;simp_all
  ·cases e
theorem vOn {base κ ids id i C}(hi:eX id ids 0=some i)(hC:κ id=some C):oW base κ ids (base+i)=some {C with ver:=0}:=by
 obtain⟨_,h⟩:=yX1 hi;unfold oW;simp_all
theorem Tj {M}(ok:Ok M){base ids c v}(h:zW M c v):zW (M.ren base ids) (uB M.h (fun i=>(eX i ids 0).map (base+·)) c) v:=by
 have h1:=h.one;have look:∀id C,M.κ id=some C→∀i,(eX id ids 0).map (base+·)=some i→(M.ren base ids).κ i=some {C with ver:=0}:=fun id C hC i hi=>by
  obtain⟨j,hj,rfl⟩:=Option.map_eq_some_iff.1 hi;exact vOn hj hC
 unfold uB;cases c with
 |osl id r=>
  dsimp only;obtain⟨C,hC,h⟩:=h;cases e:(eX id ids 0).map (base+·) with
  |none=>exact h1
  |some i=>cases r with
   |none=>exact⟨_,look id C hC i e,h⟩
   |some p=>exact⟨_,look id C hC i e,h⟩
 |bsl id x y=>
  dsimp only;obtain⟨C,B,hC,h⟩:=h;cases e:(eX id ids 0).map (base+·) with
  |none=>exact h1
  |some i=>exact⟨_,B,look id C hC i e,h⟩
 |ptr id x=>
  dsimp only;obtain⟨C,B,hC,h⟩:=h;cases e:(eX id ids 0).map (base+·) with
  |none=>exact h1
  |some i=>exact⟨_,B,look id C hC i e,h⟩
 |eptr id x y=>
  dsimp only;obtain⟨C,B,hC,h⟩:=h;cases e:(eX id ids 0).map (base+·) with
  |none=>exact h1
  |some i=>exact⟨_,B,look id C hC i e,h⟩
 |mrow id x ver=>
  dsimp only;obtain⟨C,hC,ho,hle,h⟩:=h;cases e:(eX id ids 0).map (base+·) with
  |none=>exact h1
  |some i=>
   split
   ·rename_i i' v' xs ei ak;cases ei;cases fB:Nat.beq v' ver with
    |false=>exact h1
    |true=>
     have iq:v'=ver:=by simpa using fB
     obtain⟨C',aC,hO⟩:=ok.obj id _ ak;rw[hC] at aC;cases aC;exact⟨_,look id C hC i e,h1,Nat.le_refl _,fun _=>h (by rw[hO.1,iq])⟩
   ·exact h1
 |mptr id x=>
  dsimp only;obtain⟨C,B,hC,h⟩:=h;cases e:(eX id ids 0).map (base+·) with
  |none=>exact h1
  |some i=>exact⟨_,B,look id C hC i e,h⟩
 |meptr id x y ver=>
  dsimp only;obtain⟨C,hC,ho,hle,h⟩:=h;cases e:(eX id ids 0).map (base+·) with
  |none=>exact h1
  |some i=>
   split
   ·rename_i i' v' xs ei ak;cases ei;cases fB:Nat.beq v' ver with
    |false=>exact h1
    |true=>
     have iq:v'=ver:=by simp_all
     obtain⟨C',aC,hO⟩:=ok.obj id _ ak;rw[hC] at aC;cases aC;exact⟨_,look id C hC i e,h1,by simp,fun _=>h (by rw[hO.1,iq])⟩
   ·exact h1
 |map id=>
  dsimp only;obtain⟨C,B,hC,h⟩:=h;cases e:(eX id ids 0).map (base+·) with
  |none=>exact h1
  |some i=>exact⟨_,B,look id C hC i e,h⟩
 |fn f cap=>
  dsimp only;obtain⟨cv,rfl,h⟩:=h;split
  ·rename_i c hc;refine⟨cv,rfl,?_⟩;have:=HI _ _ _ hc;generalize cv.toList=l at h;clear hc h1
   induction cap generalizing c l with
   |nil=>cases c with
    |nil=>cases l with
     |nil=>trivial
     |cons _ _=>exact h.elim
    |cons _ _=>exact this.elim
   |cons x cap ih=>cases c with
    |nil=>exact this.elim
    |cons y c=>cases l with
     |nil=>exact h.elim
     |cons u l=>
      obtain⟨⟨C,B,hC,hh⟩,h⟩:=h;exact⟨⟨_,B,look x C hC y this.1,hh⟩,ih c this.2 l h⟩
  rfl
 |fsl sh t xs=>exact h
 |fptr sh t x off=>exact h
 |_=>exact h
theorem HS {M}(ok:Ok M){base ids}:∀{cs vs},zL (zW M) cs vs→zL (zW (M.ren base ids)) (cs.map (uB M.h fun i=>(eX i ids 0).map (base+·))) vs
 |[],[],_=>trivial
 |_::_,_::_,h=>⟨Tj ok h.1,HS ok h.2⟩
theorem vEs {M}(ok:Ok M){base ids x v}(h:zU M x v):zU (M.ren base ids) (yRu M.h (fun i=>(eX i ids 0).map (base+·)) x) v:=by
 cases x with
 |undef=>trivial
 |skp=>exact h
 |c x=>exact Tj (c:=x) ok h
 |agg cs=>
  obtain⟨vs,h1,h2⟩:=h;exact⟨vs,h1,HS ok h2⟩
 |tup xs=>
  obtain⟨vs,h1,h2⟩:=h;refine⟨vs,h1,zL.map_left (h2.mono fun p u hp=>?_)⟩;obtain⟨b,cs⟩:=p;cases b with
  |true=>
   obtain⟨us,q1,q2⟩:=hp;exact⟨us,q1,HS ok q2⟩
  |false=>
   cases cs with
   |nil=>exact hp
   |cons c cs=>cases cs with
    |nil=>exact Tj (c:=c) ok hp
    |cons _ _=>exact hp
theorem yJf {M}(ok:Ok M){base ids o C}(h:yY M o C):yY (M.ren base ids) (uC M.h (fun i=>(eX i ids 0).map (base+·)) o) {C with ver:=0}:=by
 cases o with
 |box own cells=>
  obtain⟨B,vals,e,h1,h2,h3,h4,h5⟩:=h;exact⟨B,vals,e,h1,h2,h3,HS ok h4,h5⟩
 |robox cells=>
  obtain⟨B,vals,e,h1,h2,h3,h4,h5⟩:=h;exact⟨B,vals,e,h1,h2,h3,HS ok h4,h5⟩
 |arr own t xs=>exact h
 |mat ver xs=>
  obtain⟨h1,h2⟩:=h;exact⟨rfl,h2⟩
 |pmat ver xs n=>
  obtain⟨h1,h2⟩:=h;exact⟨rfl,h2⟩
 |imap cY=>exact h
 |gone=>trivial
theorem Tl {h ρ} o:(uC h ρ o).owned=o.owned:=by cases o<;>rfl
theorem zK.ren_ok {M}(ok:Ok M){base ids}(dE:ids.Nodup):Ok (M.ren base ids)∧∀b,qM (M.ren base ids) b→qM M b:=by
 have at':∀n o,(M.ren base ids).h n=some o→∃id o' C,base≤n∧ids[n-base]? =some id∧M.h id=some o'∧M.κ id=some C∧o=uC M.h (fun i=>(eX i ids 0).map (base+·)) o'∧yY M o' C∧(M.ren base ids).κ n=some {C with ver:=0}:=fun n o h=>by
  obtain⟨id,o',h1,h2,h3,h4⟩:=vYt h;obtain⟨C,hC,hO⟩:=ok.obj id _ h3;refine⟨id,o',C,h1,h2,h3,hC,h4,hO,?_⟩;show oW base M.κ ids n=_;unfold oW;simp_all
 have mM:∀b,qM (M.ren base ids) b→qM M b:=fun b ⟨n,o,C,h1,h2,h3,h4⟩=>by
  obtain⟨id,o',C',k1,k2,k3,k4,k5,k6,k7⟩:=at' n o h1;rw[k7] at h3;cases h3;exact⟨id,o',C',k3,by rw[←h2,k5,Tl],k4,h4⟩
 refine⟨⟨fun n o h=>?_,fun n h=>?_,fun i j oi oj Ci Cj b nK h1 h2 h3 h4 h5 h6 h7 h8=>?_,fun b h=>ok.own b (mM b h),ok.GF,ok.Flt⟩,mM⟩
 ·obtain⟨id,o',C,k1,k2,k3,k4,rfl,k6,k7⟩:=at' n o h;exact⟨_,k7,yJf ok k6⟩
 ·show oW base M.κ ids n=none;unfold oW;split
  ·rename_i hb;split
   ·rename_i id ak;have:M.h id=none:=by
     cases e:M.h id with
     |none=>rfl
     |some o=>
      have:(M.ren base ids).h n=some (uC M.h (fun i=>(eX i ids 0).map (base+·)) o):=by
       show ya base M.h ids n=_;unfold ya;rw[show Nat.ble base n=true from Nat.ble_eq_true_of_le hb,ak];simp[e]
      simp_all
    rw[ok.non id this];rfl
   ·rfl
  ·rfl
 ·obtain⟨id,o',C,k1,k2,k3,k4,k5,k6,k7⟩:=at' i oi h1;obtain⟨jd,p',D,q1,q2,q3,q4,q5,q6,q7⟩:=at' j oj h2;rw[k7] at h5;rw[q7] at h6;cases h5;cases h6;refine ok.disj id jd o' p' C D b (fun e=>?_) k3 q3 (by rw[←h3,k5,Tl]) (by rw[←h4,q5,Tl]) k4 q4 h7 h8;have hi:=(List.getElem?_eq_some_iff.1 k2);have hj:=(List.getElem?_eq_some_iff.1 q2);have:=(List.getElem_inj (h₀:=hi.1) (h₁:=hj.1) dE).1 (by omega);omega
theorem yOd:∀{a b},LH a b=true→a=b
 |[],[],_=>rfl
 |x::a,y::b,h=>by
  simp only[LH,Bool.and_eq_true] at h;rw[Nat.eq_of_beq_eq_true h.1,yOd h.2]
theorem vVc {c v}(h:Rr c v=true):c=.undef∨c=v:=by
 unfold Rr at h;split at h
 ·simp
 ·simp
 ·simp
 ·simp
 ·simp
 ·simp_all
 ·simp_all
 ·simp_all
 ·simp only[Bool.and_eq_true] at h;exact .inr (by rw[Nat.eq_of_beq_eq_true h.1,yOd h.2])
 all_goals simp_all
theorem mW {α:Type}{c x}{y:α}(h:(bif c then x else none)=some y):c=true∧x=some y:=by
 grind
theorem sY {M}(ok:Ok M):∀{l cs d vs},lU l cs=some d→zL (zW M) cs vs→zL (zW M) (oM l d) vs
 |[],[],_,[],_,_=>trivial
 |.int k::l,c::cs,d,v::vs,h,hv=>by
  cases c<;>first|(cases h;done)|skip
  obtain⟨hk,h⟩:=mW h;split at h
  ·rename_i d' hd;cases h;refine⟨?_,sY ok hd hv.2⟩;rw[←sj hk];exact hv.1
  ·cases h
 |.bool::l,c::cs,d,v::vs,h,hv=>by
  cases c<;>first|(cases h)|skip
  unfold lU at h;split at h
  ·rename_i d' hd;cases h;exact⟨hv.1,sY ok hd hv.2⟩
  ·cases h
 |.dat sh t::l,c::cs,d,v::vs,h,hv=>by
  cases c<;>first|(cases h;done)|skip
  ·rename_i Hd s xs;obtain⟨hs,h⟩:=mW h;split at h
   ·rename_i ys d' hx hd;cases h;obtain⟨e,hx⟩:=kN hx;subst e;subst hx;refine⟨?_,sY ok hd hv.2⟩;have h1:qF M.H (bif Hd then M.G else M.F) (.sl s) xs (fun _=>some v):=hv.1;cases sh with
    |true=>
     have:Hd=true:=by simp_all
     subst this;exact h1
    |false=>cases Hd with
     |false=>exact h1
     |true=>exact vB ok.GF (by simp) _ _ _ _ (by simp) h1
   ·cases h
  ·unfold lU at h;split at h
   ·rename_i d' hd;cases h;refine⟨?_,sY ok hd hv.2⟩;rw[show v=.slice none 0 0 from hv.1];exact⟨none,0,0,rfl,rfl,by simp,by simp⟩
   ·cases h
 |.lit c::l,x::cs,d,v::vs,h,hv=>by
  obtain⟨he,h⟩:=mW h;refine⟨?_,sY ok h hv.2⟩;rcases vVc he with rfl|rfl
  ·exact hv.1.one
  ·exact hv.1
theorem vJd {M}(ok:Ok M){v a d rv}(h:Rs v a=some d)(hv:zU M a rv):zU M (Rt v d) rv:=by
 cases v with
 |c x=>
  cases a with
  |c y=>
   have:=sY ok (vs:=[rv]) (show lU [x] [y]=some d from h) ⟨hv,trivial⟩;show zU M (match oM [x] d with|c::_=>.c c|[]=>.undef) rv
   match hh:oM [x] d,this with
   |[c],this=>exact this.1
  |_=>cases h
 |agg l=>
  cases a with
  |agg vs=>
   obtain⟨us,rfl,hx⟩:=hv;exact⟨us,rfl,sY ok (show lU l vs=some d from h) hx⟩
  |_=>cases h
theorem vVd {M}(ok:Ok M){o x d C}(h:LI o x=some d)(hO:yY M x C)(hv:C.ver=0):yY M (LJ o d) C∧(LJ o d).owned=x.owned:=by
 unfold LI at h;split at h
 ·obtain⟨he,h'⟩:=mW h;have he:=eq_of_beq he;subst he;clear h;obtain⟨B,vals,e,h1,h2,h3,h4,h5⟩:=hO;exact⟨⟨B,vals,e,h1,h2,h3,sY ok h' h4,h5⟩,rfl⟩
 ·obtain⟨B,vals,e,h1,h2,h3,h4,h5⟩:=hO;exact⟨⟨B,vals,e,h1,h2,h3,sY ok h h4,h5⟩,rfl⟩
 ·obtain⟨he,h'⟩:=mW h;have he:=eq_of_beq he;subst he;obtain⟨e,hx⟩:=kN h';subst e;subst hx;exact⟨hO,rfl⟩
 ·cases h;exact⟨⟨hv,hO.2⟩,rfl⟩
 ·cases h;exact⟨⟨hv,hO.2⟩,rfl⟩
 ·cases h;exact⟨hO,rfl⟩
 ·cases h
theorem yWj {f t}:∀{l d n v},LQ f t l=some d→(Ca l d).lookup n=some v→∃(s:VS) (x:SL s.cells),Rs s (f (t n))=some x∧v=Rt s x
 |s::l,d,n,v,hr,h=>by
  unfold LQ at hr;split at hr
  ·rename_i x ds h1 h2;cases hr;unfold Ca at h;rw[List.lookup_cons] at h;cases e:n==s.1 with
   |true=>
    grind
   |false=>
    rw[e] at h;exact yWj h2 h
  ·cases hr
theorem yIl {f h0}:∀{l ids d},LR f h0 l ids=some d→(ss l d).length=ids.length∧∀(i:Nat) o,(ss l d)[i]? =some o→∃(s:OS) (x:s.den) (id:Nat) (y:Obj),ids[i]? =some id∧h0 id=some y∧LI s (f y)=some x∧o=LJ s x
 |[],[],d,_=>⟨rfl,nofun⟩
 |s::l,id::ids,d,h=>by
  unfold LR at h;split at h
  ·rename_i x ds h1 h2;cases h;obtain⟨y,h3,h4⟩:=Option.bind_eq_some_iff.1 h1;obtain⟨k1,k2⟩:=yIl h2;refine⟨by simp[ss,k1],fun i o hi=>?_⟩;cases i with
   |zero=>
    simp[ss] at hi;grind
   |succ i=>
    simp[ss] at hi;simp_all
  ·cases h
theorem vPk {g0 base n:Nat}{S:zE}{st:St}{d:S.den}(r:vQ false na nt a0 M0 w0 st a w)(h:Rz g0 base n S st=some d):vQ false na nt a0 M0 w0 (zM base S d) a w:=by
 unfold Rz at h;split at h
 ·cases h
 rename_i st1 hg;have r:=yI0 r hg;dsimp only at h;generalize ke:Cd st1.h n _ []=ids at h;have dE:ids.Nodup:=by rw[←ke];exact Ti n List.nodup_nil
 split at h
 case h_2=>cases h
 rename_i da db ha hb;cases h;obtain⟨M,h1,h2,h3,h4,h5⟩:=r.ex;rw[←h1] at ha hb;obtain⟨k1,k2⟩:=M.ren_ok h3 (base:=base) dE;obtain⟨ol,oa⟩:=yIl hb;let M':zK:={M.ren base ids with h:=(zM base S (da,db)).h};have MA:∀n o',M'.h n=some o'→∃o C,(M.ren base ids).h n=some o∧M'.κ n=some C∧yY (M.ren base ids) o' C∧o'.owned=o.owned:=fun m o' e=>by
  have e:(bif Nat.ble base m then(ss S.objs db)[m-base]? else none)=some o':=e;obtain⟨hle,e⟩:=mW e;obtain⟨s,x,id,y,q1,q2,q3,rfl⟩:=oa _ _ e;obtain⟨C,hC,hO⟩:=h3.obj id y q2;have hκ:(M.ren base ids).κ m=some {C with ver:=0}:=by
   show oW base M.κ ids m=_;unfold oW;simp_all
  have hh:(M.ren base ids).h m=some (uC M.h (fun i=>(eX i ids 0).map (base+·)) y):=by
   show ya base M.h ids m=_;unfold ya;grind
  obtain⟨p1,p2⟩:=vVd k1 q3 (yJf h3 hO) rfl;grind
 have x:yM (M.ren base ids) M':=⟨fun _ C h=>⟨C,h,C.le_refl⟩,fun _ h=>h,fun _ h=>h,fun _ _=>rfl,by grind,fun _ _=>rfl⟩;have aL:∀b,qM M' b→qM (M.ren base ids) b:=fun b ⟨id,o',C,q1,q2,q3,q4⟩=>by
  obtain⟨o,D,p1,p2,p3,p4⟩:=MA id o' q1;exact⟨id,o,C,p1,by rw[←p4];exact q2,q3,q4⟩
 have ka:Ok M':=by
  refine⟨fun id o' q=>?_,fun id q=>?_,fun i j oi oj Ci Cj b nK q1 q2 q3 q4 q5 q6 q7 q8=>?_,fun b hb=>k1.own b (aL b hb),k1.GF,k1.Flt⟩
  ·obtain⟨o,C,p1,p2,p3,p4⟩:=MA id o' q;exact⟨C,p2,p3.ext x (by grind)⟩
  ·have q:(bif Nat.ble base id then(ss S.objs db)[id-base]? else none)=none:=q;show oW base M.κ ids id=none;unfold oW;cases hle:Nat.ble base id with
   |false=>rw[if_neg fun h=>by rw[Nat.ble_eq_true_of_le h] at hle;cases hle]
   |true=>
    simp_all
  ·obtain⟨o1,C1,p1,p2,p3,p4⟩:=MA i oi q1;obtain⟨o2,C2,p5,p6,p7,p8⟩:=MA j oj q2;exact k1.disj i j o1 o2 Ci Cj b nK p1 p5 (by rw[←p4];exact q3) (by rw[←p8];exact q4) q5 q6 q7 q8
 refine⟨⟨M',rfl,h2,ka,h4.trans (.same_mem rfl rfl rfl (by grind)),fun m=>?_⟩,r.defers,r.size,r.os,r.tape,r.output,r.keep⟩;show zU M' (match(Ca S.slots da).lookup m with|some v=>v|none=>.undef) _;cases hl:(Ca S.slots da).lookup m with
 |none=>trivial
 |some v=>
  obtain⟨s,y,q1,rfl⟩:=yWj ha hl;exact(vJd k1 q1 (vEs h3 (h5 m))).ext x
theorem MB {pre S st d}(r:vQ false na nt a0 M0 w0 st a w)(h:Hf pre S st=some d):vQ false na nt a0 M0 w0 (zM (pre+gT) S d) a w:=vPk r h
end
end Go.Ab
