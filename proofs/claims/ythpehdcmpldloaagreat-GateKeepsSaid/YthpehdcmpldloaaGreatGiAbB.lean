/- part 1 -/
import Derived.Test.YthpehdcmpldloaaGreatGiAbA
import Derived.Laws.BytesString
set_option linter.unusedVariables false
set_option linter.unusedSimpArgs false
namespace Go.Ab
theorem yZp off:∀l k cells,off+k+l.length≤cells.size→
  (l.zipIdx k).foldl (fun(cs:Array Value) (p:Value×Nat)=>cs.setIfInBounds (off+p.2) p.1) cells=yS cells (off+k) l
 |[],k,cells,h=>by
  apply Array.ext_getElem?;intro j;rw[jP h];simp_all
 |c::l,k,cells,h=>by
  simp;rw[yZp off l (k+1) _ (by grind)];apply Array.ext_getElem?;intro j;rw[jP (by grind),jP (by omega)];grind
theorem SF place cells i v rest off size (h:place i=some (off,size))(h1:v.cells.size=size)(h2:off+size≤cells.size):
  Instr.fill place cells ((i,v)::rest)=Instr.fill place (yS cells off v.cells.toList) rest:=by
 have hc:¬(v.cells.size≠size||decide (off+v.cells.size>cells.size))=true:=by
  simp_all
 simp only[Instr.fill,h];rw[if_neg hc]
 congr 1
 rw[←Array.foldl_toList,Array.toList_zipIdx];have:=yZp off v.cells.toList 0 cells (by simp;omega);omega
def zx (M:zL):(Nat×zY)→(Nat×Value)→Prop:=fun p q=>p.1=q.1∧zV M p.2 q.2
theorem SG {M place}:∀{parts aN cells out vals},zM (zX M) cells vals.toList→
  zM (zx M) parts aN→HE place cells parts=some out→∃res,Instr.fill place vals aN=some res∧zM (zX M) out res.toList
 |[],[],cells,out,vals,hc,_,h=>by cases h;exact⟨vals,rfl,hc⟩
 |(i,v)::parts,(i',rv)::aN,cells,out,vals,hc,hp,h=>by
  obtain⟨⟨hi,hv⟩,hp⟩:=hp;subst hi;unfold HE at h;split at h
  ·rename_i off size vs Db dE;cases hb:(Nat.beq vs.length size&&Nat.ble (off+size) cells.length) with
   |false=>simp_all
   |true=>
    rw[hb] at h;simp only[Bool.and_eq_true] at hb;have b1:=Nat.eq_of_beq_eq_true hb.1;have b2:=Nat.le_of_ble_eq_true hb.2;split at h
    ·rename_i bJ SH;obtain⟨p1,rfl⟩:=R7 _ _ _ _ SH;have dq:=MA dE hv;have hl:=dq.length;have mK:=hc.length;simp  at hl mK;have yQ:=Sa (yN.refl M) hc dq (off:=off) (by simp_all);obtain⟨res,h1,h2⟩:=SG yQ hp h;exact⟨res,by rw[SF place vals i rv aN off size Db (by omega) (by omega)];exact h1,h2⟩
    ·cases h
  ·cases h
theorem ySd {P} w:∀(l:List Field),l.all (fun f=>(P.info? f.type).isSome)=true→
  (l.mapM fun f=>(do pure (f.offset,←sizeOf f.type):Sem (Nat×Nat))).run P w=.ok (l.map fun f=>(f.offset,P.cellsOf f.type)) w
 |[],_=>by simp
 |f::l,h=>by
  simp only[List.all_cons,Bool.and_eq_true] at h;obtain⟨i,hi⟩:=Option.isSome_iff_exists.1 h.1;rw[List.mapM_cons];simp only[Sem.run_bind,iA w hi,Result.andThen_ok,Sem.run_pure,ySd w l h.2,List.map_cons]
theorem vP6 {P M w}(ok:Ok M)(hM:M.H=w.heap){t parts aN v u}(hp:zM (zx M) parts aN)
  (h:yK (RN P t parts) v u):qJ P (Instr.build t aN.toArray) M w v u:=by
 unfold RN at h;split at h
 ·exact h.elim
 ·rename_i zero hz;obtain⟨i,z,h1,h2,h3,h4,rfl⟩:=yZ1 hz;have hzero:=Mw M h4;split at h
  ·rename_i fs hs;obtain⟨bo,h⟩:=gb h;split at h
   ·rename_i cells hf;obtain⟨rfl,rfl⟩:=wJ h;have Db:(fun(j:Nat)=>(fs[j]?).map fun(f:Field)=>(f.offset,P.cellsOf f.type))=(fun(j:Nat)=>(fs.toList.map fun f=>(f.offset,P.cellsOf f.type)).toArray[j]?):=by
     simp
    obtain⟨res,k1,k2⟩:=SG hzero hp hf;refine qJ.pure ok hM (rv:=.agg res) ?_ ⟨res,rfl,k2⟩;have hm:=ySd (P:=P) w fs.toList bo;simp[Instr.build,zeroValue,R4 w h1,run_underlying hs,Array.mapM_eq_mapM_toList];simp_all
   ·exact h.elim
  ·rename_i n e hs;obtain⟨bo,h⟩:=gb h;obtain⟨y,hy⟩:=Option.isSome_iff_exists.1 bo;split at h
   ·rename_i cells hf;obtain⟨rfl,rfl⟩:=wJ h;obtain⟨res,k1,k2⟩:=SG hzero hp hf;refine qJ.pure ok hM (rv:=.agg res) ?_ ⟨res,rfl,k2⟩;simp[Instr.build,zeroValue,Sem.run_bind,R4 w h1,Result.andThen_ok,h2,Sem.run_pure,run_underlying hs,iA w hy];simp_all
   ·exact h.elim
  ·exact h.elim
theorem qJ.after {P s M M1 w v u1 u2}(h1:M1.h=qI M.h u1)(st:vA M M1)(h:qJ P s M1 w v u2):qJ P s M w v (u1++u2):=by
 obtain⟨rv,w',M',a1,a2,a3,a4,a5,a6,a7,a8,a9⟩:=h;exact⟨rv,w',M',a1,a2,a3,a4,a5,by rw[a6,h1,lh],a7,st.trans a8,a9⟩
theorem jB.fresh {h0 h}(hf:jB h0 h){n}(hn:h0 n=none):h n=none:=by
 rcases hf n with e|⟨o,t,xs,e1,_⟩|⟨o,xs,e1,_⟩
 all_goals simp_all
theorem vAp {t vs x}(h:HB t vs=some x):vs.length=t.size∧tv t t.dflt 0 vs=some x:=by
 unfold HB at h;cases hb:Nat.beq vs.length t.size with
 |false=>simp_all
 |true=>simp_all
theorem SI {M t vs us x}(h:HB t vs=some x)(hv:zM (zX M) vs us){rd}(hr:∀i,i<us.length→rd i=us[i]?):qD M.H M.G t x rd:=by
 obtain⟨h1,h2⟩:=vAp h;have hl:=hv.length;refine Sf t vs us t.dflt x 0 (fun j=>(gX t)[j]?) rd (HZ t _ (by simp)) h2 hv (by grind) (by grind)
theorem yAx {h0 t n}:∀{parts aN xs out vals u M},Ok M→jB h0 M.h→xs.length=n→vals.size=n*t.size→
  (∀k h,qD M.H M.G t xs[k] (fun j=>vals[k*t.size+j]?))→(∀p∈parts,p.1<n)→zM (zx M) parts aN→rI h0 t xs parts=some (out,u)→
  ∃res M',Instr.fill (fun i=>some (i*t.size,t.size)) vals aN=some res∧M'.H=M.H∧M'.h=qI M.h u∧Ok M'∧vA M M'∧jB h0 M'.h∧out.length=n∧res.size=n*t.size∧
   (∀k h,qD M'.H M'.G t out[k] (fun j=>res[k*t.size+j]?))
 |[],[],xs,out,vals,u,M,ok,hf,hx,hs,hE,_,_,h=>by
  cases h;exact⟨vals,M,rfl,rfl,rfl,ok,vA.refl M,hf,hx,hs,hE⟩
 |(i,v)::parts,(i',rv)::aN,xs,out,vals,u,M,ok,hf,hx,hs,hE,bj,hp,h=>by
  obtain⟨⟨hi,hv⟩,hp⟩:=hp;dsimp only at hi hv;subst hi;unfold rI at h;split at h
  ·rename_i vs dE;split at h
   ·rename_i So u1 CY;split at h
    ·rename_i x wc;split at h
     ·rename_i xs' us bc;cases h;have dq:=MA dE hv;obtain⟨M1,a1,a2,a3,a4,a5,a6,a7⟩:=Sc ok hf dq CY;have hl:=a5.length;simp  at hl;have zy:=(vAp wc).1;have fj:i<n:=bj (i,v) (by simp);have aW:=Nat.mul_le_mul_right t.size (show i+1≤n by omega);rw[Nat.add_mul] at aW;have aK:i*t.size+rv.cells.toList.length≤vals.size:=by simp_all
      have hE1:∀k (h:k<(xs.set i x).length),qD M1.H M1.G t (xs.set i x)[k] (fun j=>(yS vals (i*t.size) rv.cells.toList)[k*t.size+j]?):=by
       intro k hk;rw[List.length_set] at hk;by_cases e:k=i
       ·subst e;rw[List.getElem_set_self];refine SI wc a5 fun j hj=>?_
        rw[jP aK,if_neg (by omega),if_pos (by omega)];simp
       ·rw[List.getElem_set_ne (Ne.symm e)];refine vB a4.ext.G (by grind) t _ _ _ (fun j hj=>?_) (hE k hk);rw[jP aK,Array.length_toList];rcases yUv (Ne.symm e) hj with h|h
        all_goals grind
      obtain⟨res,M2,b1,b2,b3,b4,b5,b6,b7,b8,b9⟩:=yAx a3 a6 (by simp_all) (by rw[gA aK];exact hs) hE1
       (fun p hp=>bj p (by grind)) (hp.mono fun p q hpq=>⟨hpq.1,by
        obtain⟨_,hq⟩:=hpq;exact zV.ext a4.ext hq⟩) bc
      exact⟨res,M2,by rw[SF _ vals i rv aN (i*t.size) t.size rfl (by omega) (by omega)];exact b1,b2.trans a1,by rw[b3,a2,lh],b4,a4.trans b5,b6,b7,b8,b9⟩
     ·cases h
    ·cases h
   ·cases h
  ·cases h
theorem yFd {P w t e n aN}{ty:Ty}{i z res}(hu:P.underlying t=some (.slice e))(hi:P.info? e=some i)
  (hz:i.zero=some z) (hs:i.size=ty.size) (cR:n*P.cellsOf e≤16777216) (hf:Instr.fill (fun j=>some (j*ty.size,ty.size)) (madeCells z.cells (n*ty.size)) aN=some res):
  (Instr.buildSlice t n aN.toArray).run P w=.ok (.slice (some ⟨w.heap.size,0,none⟩) n n) (w.alloc (.cells res e)):=by
 have hc:P.cellsOf e=ty.size:=by rw[R3 hi];exact hs
 rw[hc] at cR;have h1:¬2^24<n*ty.size:=by omega
 by_cases h0:n*ty.size=0
 ·have hm:madeCells z.cells (n*ty.size)=#[]:=by rw[h0];simp[madeCells]
  rw[hm] at hf;simp[Instr.buildSlice,run_underlying hu,iA w hi,hc,h0];simp[Array.range_zero',hf,newRow]
 ·simp[Instr.buildSlice,run_underlying hu,Result.andThen_ok,iA w hi,hc,h1,if_false,h0,Sem.run_pure,zeroValue,R4 w hi,hz];rw[show(Array.range (n*ty.size)).map (z.cells[· %z.cells.size]!)=madeCells z.cells (n*ty.size) from rfl,hf];rfl
theorem yXu {parts:List (Nat×zY)}{n}(h:parts.all (fun p=>Nat.blt p.1 n)=true):∀p∈parts,p.1<n:=by
 simp only[List.all_eq_true] at h;exact fun p hp=>Sd (h p hp)
theorem vV1 {P M w}(ok:Ok M)(hM:M.H=w.heap){nm t e n parts aN ty xs u}
  (hp:zM (zx M) parts aN) (hu:P.underlying t=some (.slice e)) (aS:M.h nm=none) (dG:kp P e=some ty) (cR:n*P.cellsOf e≤16777216) (bj:∀p∈parts,p.1<n)
  (hf:rI M.h ty (List.replicate n ty.dflt) parts=some (xs,u)):
  qJ P (Instr.buildSlice t n aN.toArray) M w (.c (.osl nm none)) (u++[(nm,.arr true ty xs)]):=by
 obtain⟨i,z,h1,h2,h3,h4,h5,h6,h7⟩:=rT dG;obtain⟨res,M',b1,b2,b3,b4,b5,b6,b7,b8,b9⟩:=yAx (n:=n) ok (jB.refl _) (by simp) (vals:=madeCells z.cells (n*ty.size)) (by rw[size_madeCells])
  (fun k hk=>by rw[yTh hk];exact yZ8 h4 h7 (by simp_all)) bj hp hf
 have hr:=yFd (P:=P) (w:=w) hu h1 h2 h3 cR b1;refine qJ.after b3 b5 (yNu b4 (by grind) (b6.fresh aS) (c:=n) (us:=res) (e:=e) (by omega) (by omega) (by grind) ?_);simp_all
structure we (M:zL) (J:List Nat) (n:Nat) (rows:List (List Int)) (vals:Array Value) (rc:List (Option Nat×Nat)):Prop where
 len:rows.length=n
 size:vals.size=n
 rlen:rc.length=n
 row:∀k (h:k<rows.length),∃rb v,rc[k]? =some (rb,rows[k].length)∧vals[k]? =some v∧mD M.H rb rows[k].length v∧
  (∀R,rb=some R→∃rv er,M.H[R]? =some (.cells rv er (0,0))∧∀j (h':j<rows[k].length),rv[j]? =some (.int .i64 rows[k][j]))
 nd:(rc.filterMap (·.1)).Nodup
 of:∀R∈rc.filterMap (·.1),∃j∈J,∃C,M.κ j=some C∧R∈C.fp
 js:∀j∈J,∃ys:List Int,M.h j=some (.arr true (.int .i64) ys)
theorem we.put {M}(ok:Ok M){J n rows vals rc}(I:we M J n rows vals rc){i}(hi:i<n){v rv r u}
  (hv:zV M v rv) (ht:ze M.h v=some (r,u)) (hJ:∀p∈u,p.1∉J):∃ML,we M (J++u.map (·.1)) n (rows.set i r) (yS vals i rv.cells.toList) ML∧rv.cells.size=1∧(∀p∈u,p.2=.gone):=by
 have put:∀(rb:Option Nat) (J':List Nat),rv.one1=true→mD M.H rb r.length rv→(∀R,rb=some R→∃rv er,M.H[R]? =some (.cells rv er (0,0))∧∀j (h':j<r.length),rv[j]? =some (.int .i64 r[j]))→
   (∀R,rb=some R→R∉rc.filterMap (·.1))→(∀R,rb=some R→∃j∈J',∃C,M.κ j=some C∧R∈C.fp)→(∀j∈J',∃ys:List Int,M.h j=some (.arr true (.int .i64) ys))→
   we M (J++J') n (rows.set i r) (yS vals i rv.cells.toList) (rc.set i (rb,r.length))∧rv.cells.size=1:=by
  intro rb J' h1 h2 h3 h4 h5 h6;have aG:rv.cells=#[rv]:=by cases rv<;>first|rfl|cases h1
  obtain⟨s1,s2⟩:=MD (x:=(rb,r.length)) rc i I.nd h4;have aK:i+rv.cells.toList.length≤vals.size:=by rw[aG,I.size];show i+1≤n;omega
  refine⟨⟨by rw[List.length_set];exact I.len,by rw[gA aK];exact I.size,by rw[List.length_set];exact I.rlen,fun k hk=>?_,s1,fun R hR=>?_,fun j hj=>?_⟩,by rw[aG];rfl⟩
  ·rw[List.length_set] at hk;by_cases e:k=i
   ·subst e;rw[List.getElem_set_self];refine⟨rb,rv,?_,?_,h2,h3⟩
    ·rw[List.getElem?_set_self (by rw[I.rlen];exact hi)]
    ·rw[jP aK,if_neg (by omega),if_pos (by rw[aG];show k<k+1;omega),aG];simp
   ·rw[List.getElem_set_ne (Ne.symm e)];obtain⟨pB,v',p1,p2,p3,p4⟩:=I.row k hk;refine⟨pB,v',by rw[List.getElem?_set_ne (Ne.symm e)];exact p1,?_,p3,p4⟩;rw[jP aK,aG];grind
  ·rcases s2 R hR with h|h
   ·obtain⟨j,hj,hC⟩:=I.of R h;exact⟨j,by grind,hC⟩
   grind
  ·rcases List.mem_append.1 hj with h|h
   ·exact I.js j h
   ·exact h6 j h
 unfold ze at ht;split at ht
 ·rename_i jd;split at ht
  ·rename_i ys df;cases ht;obtain⟨Cj,eI,nC⟩:=ok.obj jd _ df;obtain⟨jr,jf⟩:=HQ nC;obtain⟨r1,r2⟩:=Sk eI nC hv;have wa:∀j∈[jd],∃ys:List Int,M.h j=some (.arr true (.int .i64) ys):=by grind
   have:=put Cj.blk [jd] (zX.one (c:=.osl jd none) hv) r1 r2 (fun R hR hm=>?_) (by grind) (fun j hj=>wa j hj)
   ·exact(by grind)
   ·obtain⟨j,hj,C,hC,hRC⟩:=I.of R hm;obtain⟨ys',mH⟩:=I.js j hj;have bn:j≠jd:=fun e=>hJ (jd,.gone) (by simp) (e▸hj)
    exact ok.disj j jd _ _ C Cj R bn mH df rfl rfl hC eI hRC (fz hR)
  ·cases ht
 ·cases ht;have e:rv=.slice none 0 0:=hv;have:=put none [] (by rw[e];rfl) ⟨e,rfl⟩ (by simp) (by simp) (by simp) (by simp);exact by grind
 ·cases ht
theorem Dc:∀{l},tx l=true→l.Nodup
 |[],_=>by simp
 |a::l,h=>by
  simp only[tx,Bool.and_eq_true] at h;refine List.nodup_cons.2 ⟨fun hm=>?_,Dc h.2⟩;have:l.any (Nat.beq a)=true:=List.any_eq_true.2 ⟨a,hm,by simp⟩;simp_all
theorem yFa {M}(ok:Ok M){n}:∀{parts aN J rows out vals rc u},we M J n rows vals rc→
  (∀p∈parts,p.1<n)→zM (zx M) parts aN→zg M.h rows parts=some (out,u)→(J++u.map (·.1)).Nodup→
  ∃res ML,Instr.fill (fun i=>some (i*1,1)) vals aN=some res∧we M (J++u.map (·.1)) n out res ML∧(∀p∈u,p.2=.gone)
 |[],[],J,rows,out,vals,rc,u,I,_,_,h,_=>by
  cases h;exact⟨vals,rc,rfl,by simp_all,by simp⟩
 |(i,v)::parts,(i',rv)::aN,J,rows,out,vals,rc,u,I,bj,hp,h,dF=>by
  obtain⟨⟨hi,hv⟩,hp⟩:=hp;subst hi;unfold zg at h;split at h
  ·rename_i r u1 ht;split at h
   ·rename_i hY us bc;cases h;rw[List.map_append,←List.append_assoc] at dF;have fj:i<n:=bj (i,v) (by simp);obtain⟨ML,I',h1,hg⟩:=I.put ok fj hv ht (by grind);obtain⟨res,rc2,b1,b2,b3⟩:=yFa ok I' (by grind) hp bc dF;refine⟨res,rc2,?_,by simp_all,fun p hp=>?_⟩
    ·rw[SF _ vals i rv aN (i*1) 1 rfl h1 (by rw[I.size];omega),Nat.mul_one];exact b1
    grind
   ·cases h
  ·cases h
theorem SJ {j}:∀{u h},(∀p∈u,p.2=.gone)→j∈u.map (·.1)→qI h u j=some .gone
 |(id,o)::u,h,hg,hj=>by
  have ho:o=.gone:=hg (id,o) (by simp);subst ho;by_cases hm:j∈u.map (·.1)
  ·exact SJ (u:=u) (by grind) hm
  ·have e:j=id:=by
    simp_all
   subst e;show qI (yI h j .gone) u j=_;rw[ME]
   ·exact yO _ _ _
   ·rw[Bool.eq_false_iff];simp_all
theorem Dd {n u h}(hn:n∉u.map (·.1)):qI h u n=h n:=by
 refine ME h ?_;rw[Bool.eq_false_iff];simp_all
theorem vRj {P:Program}{M:zL}{w}(ok:Ok M)(hM:M.H=w.heap){nm n c}{rows res rc J}{u:vG}{e s}
  (aS:M.h nm=none) (I:we M J n rows (res.extract 0 n) rc) (hJ:∀j,j∈J→j∈u.map (·.1)) (hg:∀p∈u,p.2=.gone∧∃o,M.h p.1=some o∧o.owned=true) (hc:n≤c) (hs:c≤res.size)
  w' (hw:w'.heap=w.heap.push (.cells res e)∧w'.os=w.os∧w'.tape=w.tape∧w'.output=w.output)
  (hr:s.run P w=.ok (.slice (some ⟨w.heap.size,0,none⟩) n c) w'):qJ P s M w (.c (.osl nm none)) (u++[(nm,.mat 0 rows)]):=by
 let C:qB:=⟨some M.H.size,n,1,0,rc⟩;have hnJ:nm∉u.map (·.1):=(by grind);have aW:∀R∈rc.filterMap (·.1),∃j C,(j∈u.map (·.1))∧M.κ j=some C∧R∈C.fp:=fun R hR=>by
  obtain⟨j,hj,C,hC,hm⟩:=I.of R hR;grind
 have abr:∀R∈rc.filterMap (·.1),R<M.H.size:=fun R hR=>by
  obtain⟨j,hj,C,hC,hm⟩:=I.of R hR;obtain⟨ys,hy⟩:=I.js j hj;exact(ok.own R ⟨j,_,C,hy,rfl,hC,hm⟩).2
 have hh:∀n',(qI M.h (u++[(nm,.mat 0 rows)])) n'=if n'=nm then some (.mat 0 rows) else qI M.h u n':=fun n'=>by
  rw[lh,R6];by_cases e:n'=nm
  ·rw[if_pos e,e,yO]
  ·rw[if_neg e,yP _ _ e]
 have:=zL.move_ok (M:=M) (nm:=nm) (o':=.mat 0 rows) (C':=C) (h':=qI M.h (u++[(nm,.mat 0 rows)])) (H':=M.H.push (.cells res e)) ok (fun j=>j∈u.map (·.1)) aS
  (fun j hj=>by
   obtain⟨p,hp,e⟩:=List.mem_map.1 hj;obtain⟨_,o,ho,iE⟩:=hg p hp;refine⟨o,by rw[←e];exact ho,iE,?_⟩;have bn:j≠nm:=by grind
   rw[hh,if_neg bn];exact SJ (by grind) hj)
  (by rw[hh,if_pos rfl]) (fun n' h1 h2=>by rw[hh,if_neg h2];exact Dd h1) (by simp) (fun b hb _=>pz hb) (fun b hb=>CP (pz hb))
  (fun b hb=>by
   simp only[C,qB.fp,Option.toList_some,List.singleton_append,List.mem_cons] at hb;grind)
  (fun x=>by
   refine⟨rfl,I.len.symm,rfl,by rw[I.len];exact I.rlen,?_,res,e,zl,by rw[I.len];omega,fun k hk=>?_⟩
   ·simp only[C,qB.fp,Option.toList_some,List.singleton_append];exact List.nodup_cons.2 ⟨by grind,I.nd⟩
   ·obtain⟨rb,v,p1,p2,p3,p4⟩:=I.row k hk;refine⟨rb,v,p1,?_,p3.ext x,fun R hR=>?_⟩
    ·grind
    ·obtain⟨rv,er,p5,p6⟩:=p4 R hR;refine⟨rv,er,?_,p6⟩;have:R<M.H.size:=by grind
     show(M.H.push _)[R]? =_;grind)
 refine⟨_,_,_,hr,hw.2.1,hw.2.2.1,hw.2.2.2,by show M.H.push _=_;rw[hw.1,hM],rfl,this.1,this.2,C,κset_same _ _ _,_,c,rfl,?_⟩;refine⟨hc,0,by rw[hM],.inr (by simp),?_⟩;have:qU (M.H.push (.cells res e)) M.H.size=res.size:=by simp[qU]
 show(0+c)*1≤qU (M.H.push (.cells res e)) M.H.size;rw[this];omega
theorem vDb {P M w}(ok:Ok M)(hM:M.H=w.heap){mat nm t n parts aN v u}
  (hp:zM (zx M) parts aN) (h:yK (CA P mat nm M.h t n parts) v u):qJ P (Instr.buildSlice t n aN.toArray) M w v u:=by
 unfold CA at h;split at h
 ·rename_i e hu aS;obtain⟨cR,h⟩:=gb h;have cR:=Nat.le_of_ble_eq_true cR;cases mat with
  |true=>
   split at h
   ·rename_i rows u' dG hf;obtain⟨hb,h⟩:=gb h;simp only[Bool.and_eq_true] at hb;obtain⟨_,rfl,rfl⟩:=gz h;obtain⟨i,z,h1,h2,h3,h4,h5,h6,h7⟩:=rT dG;have MK:z.cells.toList=[.slice none 0 0]:=h4;have SE:z.cells.size=1:=h7;have I0:we M [] n (List.replicate n []) (madeCells z.cells (n*1)) (List.replicate n (none,0)):=by
     refine⟨by simp,by rw[size_madeCells,Nat.mul_one],by simp,fun k hk=>?_,by simp,by simp,by simp⟩;have hkn:k<n:=by simp_all
     refine⟨none,.slice none 0 0,by simp[hkn],?_,⟨rfl,by simp⟩,by simp⟩;simp only[madeCells];have:z.cells.toList[0]'(by grind)=.slice none 0 0:=by grind
     grind
    obtain⟨res,rc,b1,b2,b3⟩:=yFa ok I0 (yXu hb.2) hp hf (by simpa using Dc hb.1);have hr:=yFd (P:=P) (w:=w) (ty:=.sl (.int .i64)) hu h1 h2 h3 cR b1;have SK:res.extract 0 n=res:=by
     have:=b2.size;simp_all
    refine vRj ok hM aS (by rw[SK];exact b2) (by simp) (fun p hp=>⟨b3 p hp,?_⟩) (by simp) (by rw[b2.size];omega) (w.alloc (.cells res e)) ⟨rfl,rfl,rfl,rfl⟩ hr;obtain⟨ys,hy⟩:=b2.js p.1 (by grind);exact⟨_,hy,rfl⟩
   ·exact h.elim
  |false=>
   simp  at h;split at h
   ·rename_i ty dG;split at h
    ·rename_i xs u' hf;obtain⟨hb,h⟩:=gb h;obtain⟨_,rfl,rfl⟩:=gz h;exact vV1 ok hM hp hu aS dG cR (yXu hb) hf
    ·exact h.elim
   ·exact h.elim
 ·exact h.elim
theorem SM {H F}:∀t x rd,qD H F t x rd→∀j,j<t.size→∃v,rd j=some v∧v.one1=true
 |.int k,x,rd,h,j,hj
 |.bool,x,rd,h,j,hj=>by
  simp[Ty.size] at hj;obtain rfl:j=0:=by omega
  exact⟨_,h,rfl⟩
 |.sl t,x,rd,h,j,hj=>by
  simp[Ty.size] at hj;obtain rfl:j=0:=by omega
  obtain⟨A,n,c,h1,_⟩:=h;exact⟨_,h1,rfl⟩
 |.pair a b,x,rd,h,j,hj=>by
  simp[Ty.size] at hj;by_cases bj:j<a.size
  ·exact SM a _ _ h.1 j bj
  ·have:=SM b _ _ h.2 (j-a.size) (by omega);simp_all
def Rd (H : Array Go.Obj) (v : Value) (n size : Nat) (news : List Value) : Prop := ∃ A c, v = .slice A n c ∧ news.length = n * size ∧ (∀ u ∈ news, u.one1 = true) ∧ (match A with
 |none=>n=0
 |some a=>n=0∨a.spot=none∧∀j u,news[j]? =some u→yQ H a.block (a.off+j)=some u)
theorem Rd.first {P H v n size news}(h:Rd H v n size news) w (hw:w.heap=H):(Builtin.firstCells size n v).run P w=.ok news.toArray w:=by
 obtain⟨A,c,rfl,hl,_,h⟩:=h;cases A with
 |none=>
  have h0:n=0:=h;subst h0;have:news=[]:=by grind
  subst this;rfl
 |some a=>
  rcases h with h0|⟨hs,h⟩
  ·subst h0;have:news=[]:=by grind
   subst this;simp[Builtin.firstCells,loadCells,loadCellsFrom]
  ·obtain⟨B,o,sp⟩:=a;cases hs;exact run_firstCells_some w size n ⟨B,o,none⟩ n c news hl (fun j u hu=>by rw[Addr.add_lit,tD,hw];simp_all)
theorem SN {H F t}{ys:List t.den}{B o c}(hc:ys.length≤c)(h:∀i hi,qD H F t ys[i] (fun j=>yQ H B (o+i*t.size+j))):
  ∃news,Rd H (.slice (some ⟨B,o,none⟩) ys.length c) ys.length t.size news∧∀i hi,qD H F t ys[i] (fun j=>news[i*t.size+j]?):=by
 have tot:∀k,k<ys.length*t.size→∃v,yQ H B (o+k)=some v∧v.one1=true:=by
  intro k hk;have hi:k/t.size<ys.length:=Nat.div_lt_of_lt_mul (by grind);obtain⟨v,h1,h2⟩:=SM t _ _ (h _ hi) (k%t.size) (Nat.mod_lt _ t.size_pos);refine⟨v,?_,h2⟩;rw[Nat.add_assoc,Nat.mul_comm,Nat.div_add_mod] at h1;exact h1
 refine⟨(List.range (ys.length*t.size)).map fun k=>(yQ H B (o+k)).getD undef,⟨_,c,rfl,by simp,fun u hu=>?_,.inr ⟨rfl,fun j u hu=>?_⟩⟩,fun i hi=>?_⟩
 ·grind
 ·grind
 ·refine vB (by simp) (by simp) t _ _ _ (fun j hj=>?_) (h i hi);have aW:=Nat.mul_le_mul_right t.size (show i+1≤ys.length by omega);grind
theorem H0 {H F t A c}:∃news,Rd H (.slice A 0 c) 0 t.size news∧∀i hi,qD H F t ([]:List t.den)[i] (fun j=>news[i*t.size+j]?):=
 ⟨[],⟨A,c,rfl,by simp,by simp,by grind⟩,by simp⟩
theorem SO {H F t}{ys:List t.den}{v}(h:qD H F (.sl t) ys (fun _=>some v)):
  ∃news,Rd H v ys.length t.size news∧∀i hi,qD H F t ys[i] (fun j=>news[i*t.size+j]?):=by
 simp[qD] at h;obtain⟨A,n,c,rfl,rfl,hc,h⟩:=h;rcases h with⟨rfl,_⟩|⟨B,o,rfl,hB,hE⟩
 ·exact H0
 ·exact SN hc hE
theorem zz {M own t xs C id r v}(hC:M.κ id=some C)(hO:yX M (.arr own t xs) C)(hv:zX M (.osl id r) v):
  ∃news,Rd M.H v (jw xs r).length t.size news∧∀i hi,qD M.H M.G t (jw xs r)[i] (fun j=>news[i*t.size+j]?):=by
 obtain⟨h1,h2,h3,h4⟩:=hO;obtain⟨C',aE,hv⟩:=hv;rw[hC] at aE;cases aE;have key:∀lo n,lo+n≤C.len→jC M.H C lo n v→∃news,Rd M.H v (qS xs lo n).length t.size news∧∀i (hi:i<(qS xs lo n).length),qD M.H M.G t (qS xs lo n)[i] (fun j=>news[i*t.size+j]?):=by
  intro lo n hn hS;obtain⟨A,c,rfl,hS⟩:=hS;have hl:=CV (xs:=xs) (lo:=lo) (n:=n) (by omega);by_cases h0:n=0
  ·subst h0;have e:qS xs lo 0=[]:=by rfl
   exact H0
  ·cases hB:C.blk with
   |none=>simp_all
   |some B=>
    rw[hB] at hS h4;obtain⟨hc,a,rfl,ha,_⟩:=hS;obtain⟨vals,e,h5,h6,h7,h8⟩:=h4;have rN:a=lo*C.sz:=by omega
    have := SN (H := M.H) (F := M.G) (ys := qS xs lo n) (B := B) (o := a) (c := c) (by omega) (fun i hi=>by
     obtain⟨bI,e1⟩:=MB hi;rw[e1];refine vB (by simp) (by simp) t _ _ _ (fun j hj=>?_) (h8 (lo+i) bI);rw[rN,h2,←Nat.add_mul];simp[yQ,h5])
    simp_all
 cases r with
 |none=>
  have:=key 0 C.len (by omega) hv;rw[h1,yV5] at this;exact this
 |some p=>exact key p.1 p.2 hv.1 hv.2.1
theorem rU {P w t e i A sLen sCap n size x news} T (hu:P.underlying t=some (.slice e))(hi:P.info? e=some i)(hs:i.size=size)
  (hx : Rd w.heap x n size news) (aO : sLen + n ≤ sCap) w' (hw:match A with
   |none=>w'=w
   |some a=>(storeCells (a.add (sLen*size)) news).run P w=.ok () w'):
  (Builtin.append_ #[t,t] T #[.slice A sLen sCap,x]).run P w=.ok (.slice A (sLen+n) sCap) w':=by
 have hf:=hx.first (P:=P) w rfl
 obtain⟨X,c,rfl,_⟩:=hx;subst hs;cases A with
 |none=>
  subst hw;simp[Builtin.append_,run_underlying hu,sizeOf,typeInfo,hi,Builtin.lenOf,aO,hf]
 |some a=>simp[Builtin.append_,run_underlying hu,sizeOf,typeInfo,hi,Builtin.lenOf,aO,hf,hw]
theorem SP {P}{w}{t e}{i}{z}{A sLen sCap n size x olds news} T (hu:P.underlying t=some (.slice e))(hi:P.info? e=some i)(hz:i.zero=some z)
  (hs:i.size=size) (hb:Rd w.heap (.slice A sLen sCap) sLen size olds) (hx:Rd w.heap x n size news) (hg:sCap<sLen+n) (h46:(sLen+n)*i.bytes≤140737488355328) (abt:sLen+n≤140737488355328):
  (Builtin.append_ #[t,t] T #[.slice A sLen sCap,x]).run P w=
   .ok (.slice (some ⟨w.heap.size,0,none⟩) (sLen+n) (grownCap w (sLen+n) sCap e)) (w.drew.alloc (.cells (olds.toArray++news.toArray++Builtin.zeroCells z.cells (grownCap w (sLen+n) sCap e-(sLen+n))) e)):=by
 have hf:=hx.first (P:=P) w.drew rfl
 have hfo:=hb.first (P:=P) w.drew rfl
 obtain⟨X,c,rfl,_⟩:=hx;subst hs;have hn:¬(sLen+n≤sCap):=by omega
 have abu:¬(9223372036854775807<((sLen:Int)+(n:Int))):=by omega
 have abv:¬(281474976710656<Builtin.nextslicecap (sLen+n) sCap*i.bytes):=by
  have h1:=Nat.mul_le_mul_right i.bytes (nextslicecap_le hg);grind
 simp[Builtin.append_,run_underlying hu,sizeOf,typeInfo,zeroValue,hi,hz,Builtin.lenOf,Question.forced,hf,hfo,newRow,grownCap];grind
theorem De z n:(Builtin.zeroCells z n).size=n*z.size:=by simp[Builtin.zeroCells]
theorem SQ {H F t}{xs ys:List t.den}{olds news:List Value}(hl:olds.length=xs.length*t.size)(hx:∀i h,qD H F t xs[i] (fun j=>olds[i*t.size+j]?))
  (hy:∀i h,qD H F t ys[i] (fun j=>news[i*t.size+j]?)):∀i h,qD H F t (xs++ys)[i] (fun j=>(olds++news)[i*t.size+j]?):=by
 intro i hi;by_cases h:i<xs.length
 ·rw[List.getElem_append_left h];refine vB (by simp) (by simp) t _ _ _ (fun j hj=>?_) (hx i h);have:=Nat.mul_le_mul_right t.size (show i+1≤xs.length by omega);grind
 ·rw[List.getElem_append_right (by omega)];refine vB (by simp) (by simp) t _ _ _ (fun j hj=>?_) (hy (i-xs.length) (by grind));have:=Nat.mul_le_mul_right t.size (show xs.length≤i by omega);rw[List.getElem?_append_right (by omega),hl]
  congr 1
  rw[Nat.sub_mul];omega
def H2 (M:zL)(w:World)(v:zY)(u:vG)(rv:Value)(w':World):Prop:=
 ∃M',w'.os=w.os∧w'.tape=w.tape∧w'.output=w.output∧M'.H=w'.heap∧M'.h=qI M.h u∧Ok M'∧vA M M'∧zV M' v rv
theorem H2.runs {P s M w w' v u rv}(h:H2 M w v u rv w')(hr:s.run P w=.ok rv w'):qJ P s M w v u:=by
 obtain⟨M',h⟩:=h;exact⟨_,_,M',hr,h⟩
theorem yJ5 {M w}(ok:Ok M)(hM:M.H=w.heap){nm t zs us e c}{u:vG}(aS:M.h nm=none)
  (hg:∀p∈u,p.2=.gone∧∃o,M.h p.1=some o∧o.owned=true) (hc:zs.length≤c) (hs:c*t.size≤us.size) (hx:∀i h,qD M.H M.G t zs[i] (fun j=>us[i*t.size+j]?))
  {w':World} (hw:w'.heap=w.heap.push (.cells us e)∧w'.os=w.os∧w'.tape=w.tape∧w'.output=w.output):
  H2 M w (.c (.osl nm none)) (u++[(nm,.arr true t zs)]) (.slice (some ⟨w.heap.size,0,none⟩) zs.length c) w':=by
 let C:qB:=⟨some M.H.size,zs.length,t.size,0,[]⟩;have hh:∀n',(qI M.h (u++[(nm,.arr true t zs)])) n'=if n'=nm then some (.arr true t zs) else qI M.h u n':=fun n'=>by
  rw[lh,R6];by_cases e:n'=nm
  ·rw[if_pos e,e,yO]
  ·rw[if_neg e,yP _ _ e]
 have hle:=Nat.mul_le_mul_right t.size hc;have:=zL.move_ok (M:=M) (nm:=nm) (o':=.arr true t zs) (C':=C) (h':=qI M.h (u++[(nm,.arr true t zs)])) (H':=M.H.push (.cells us e)) ok (fun j=>j∈u.map (·.1)) aS
  (fun j hj=>by
   obtain⟨p,hp,e⟩:=List.mem_map.1 hj;obtain⟨_,o,ho,iE⟩:=hg p hp;refine⟨o,by simp_all,iE,?_⟩;have bn:j≠nm:=by grind
   rw[hh,if_neg bn];exact SJ (by grind) hj)
  (by simp_all) (fun n' h1 h2=>by rw[hh,if_neg h2];exact Dd h1) (by simp) (by grind) (fun b hb=>CP (pz hb))
  (fun b hb=>by
   simp only[C,qB.fp] at hb;simp_all)
  (fun x=>⟨rfl,rfl,(by grind),us,e,zl,by simp,by omega,fun i hi=>vB x.G x.sameG t _ _ _ (by simp) (hx i hi)⟩)
 refine⟨_,hw.2.1,hw.2.2.1,hw.2.2.2,by show M.H.push _=_;simp_all,rfl,this.1,this.2,C,κset_same _ _ _,_,c,rfl,?_⟩;refine⟨hc,0,by rw[hM],by simp,?_⟩;have:qU (M.H.push (.cells us e)) M.H.size=us.size:=by simp[qU]
 show(0+c)*t.size≤qU (M.H.push (.cells us e)) M.H.size;simp_all
theorem yWf {P M w}(ok:Ok M)(hM:M.H=w.heap){nm t zs us e s c}{u:vG}(aS:M.h nm=none)
  (hg:∀p∈u,p.2=.gone∧∃o,M.h p.1=some o∧o.owned=true) (hc:zs.length≤c) (hs:c*t.size≤us.size) (hx:∀i h,qD M.H M.G t zs[i] (fun j=>us[i*t.size+j]?))
  {w'} (hr:s.run P w=.ok (.slice (some ⟨w.heap.size,0,none⟩) zs.length c) w') (hw:w'.heap=w.heap.push (.cells us e)∧w'.os=w.os∧w'.tape=w.tape∧w'.output=w.output):
  qJ P s M w (.c (.osl nm none)) (u++[(nm,.arr true t zs)]):=
 (yJ5 ok hM aS hg hc hs hx hw).runs hr
theorem vB9 {M:zL}{w:World}(ok:Ok M)(hM:M.H=w.heap){id nm:Nat}{t:Ty}{gZ zs:List t.den}{C:qB}{H':Array Go.Obj}{c:Nat}{A:Option Addr}{w':World}
  (ao:M.h id=some (.arr true t gZ)) (hC:M.κ id=some C) (aS:M.h nm=none) (dV:H'.size=M.H.size) (hH:∀b,b∉C.fp→H'[b]? =M.H[b]?) (cQ:∀b,qU H' b=qU M.H b)
  (hx:∀M',yN M M'→M'.H=H'→M'.G=M.G→match C.blk with
   |none=>zs=[]
   |some B=>∃vals e,H'[B]? =some (.cells vals e (0,0))∧zs.length*t.size≤vals.size∧∀i (h:i<zs.length),qD M'.H M'.G t zs[i] (fun j=>vals[i*t.size+j]?))
  (hA:match C.blk with
   |none=>A=none∧zs.length=0∧c=0
   |some B=>zs.length≤c∧∃a,A=some ⟨B,a,none⟩∧(c=0∨a=0)∧c*t.size≤qU M.H B)
  (hw:w'.heap=H'∧w'.os=w.os∧w'.tape=w.tape∧w'.output=w.output):
  H2 M w (.c (.osl nm none)) [(id,.gone),(nm,.arr true t zs)] (.slice A zs.length c) w':=by
 obtain⟨C0,rV,hO⟩:=ok.obj id _ ao;rw[hC] at rV;cases rV;obtain⟨fr,ff⟩:=HQ hO;have bn:id≠nm:=by grind
 let C':qB:=⟨C.blk,zs.length,t.size,0,[]⟩;have hh:∀n',(qI M.h [(id,.gone),(nm,.arr true t zs)]) n'=if n'=nm then some (.arr true t zs) else if n'=id then some .gone else M.h n':=fun n'=>by
  show(yI (yI M.h id .gone) nm _) n'=_;by_cases e:n'=nm
  ·rw[if_pos e,e,yO]
  ·rw[if_neg e,yP _ _ e];by_cases e2:n'=id
   ·rw[if_pos e2,e2,yO]
   ·rw[if_neg e2,yP _ _ e2]
 have:=zL.move_ok (M:=M) (nm:=nm) (o':=.arr true t zs) (C':=C') (h':=qI M.h [(id,.gone),(nm,.arr true t zs)]) (H':=H') ok (fun j=>j=id) aS
  (fun j hj=>⟨.arr true t gZ,by rw[hj];exact ao,rfl,by simp_all⟩)
  (by rw[hh,if_pos rfl]) (by grind) (by omega) (by grind) (fun b _=>cQ b)
  (fun b hb=>.inr ⟨id,C,rfl,hC,by
   simp only[C',qB.fp,List.filterMap_nil,List.append_nil] at hb;rw[ff];exact hb⟩)
  (fun x=>by
   refine⟨rfl,rfl,(by grind),?_⟩;have:=hx _ x rfl rfl;show match C.blk with
    |none=>_
    |some B=>_
   cases hB:C.blk with
   |none=>simp_all
   |some B=>
    rw[hB] at this;obtain⟨vals,e,h1,h2,h3⟩:=this;exact⟨vals,e,h1,by simp,h2,h3⟩)
 refine⟨_,hw.2.1,hw.2.2.1,hw.2.2.2,by rw[hw.1];rfl,rfl,this.1,this.2,C',κset_same _ _ _,_,c,rfl,?_⟩;show match C.blk with
  |none=>_
  |some B=>_
 cases hB:C.blk with
 |none=>rw[hB] at hA;exact hA
 |some B=>
  rw[hB] at hA;obtain⟨h1,a,h2,h3,h4⟩:=hA;refine⟨h1,a,h2,by simpa using h3,?_⟩;show(0+c)*t.size≤qU H' B;simp_all
theorem SR {P M w}(ok:Ok M)(hM:M.H=w.heap){id nm t gZ zs C H' s c A w'}
  (ao:M.h id=some (.arr true t gZ)) (hC:M.κ id=some C) (aS:M.h nm=none) (dV:H'.size=M.H.size) (hH:∀b,b∉C.fp→H'[b]? =M.H[b]?) (cQ:∀b,qU H' b=qU M.H b)
  (hx:∀M',yN M M'→M'.H=H'→M'.G=M.G→match C.blk with
   |none=>zs=[]
   |some B=>∃vals e,H'[B]? =some (.cells vals e (0,0))∧zs.length*t.size≤vals.size∧∀i h,qD M'.H M'.G t zs[i] (fun j=>vals[i*t.size+j]?))
  (hA:match C.blk with
   |none=>A=none∧zs.length=0∧c=0
   |some B=>zs.length≤c∧∃a,A=some ⟨B,a,none⟩∧(c=0∨a=0)∧c*t.size≤qU M.H B)
  (hw:w'.heap=H'∧w'.os=w.os∧w'.tape=w.tape∧w'.output=w.output) (hr:s.run P w=.ok (.slice A zs.length c) w'):
  qJ P s M w (.c (.osl nm none)) [(id,.gone),(nm,.arr true t zs)]:=
 (vB9 ok hM ao hC aS dV hH cQ hx hA hw).runs hr
theorem H3 {n b}(h:(Nat.ble (n*b) 140737488355328&&Nat.ble n 140737488355328)=true):n*b≤140737488355328∧n≤140737488355328:=by
 simp_all
theorem SS {H H' F F'}:∀t x rd,t.flat=true→qD H F t x rd→qD H' F' t x rd
 |.int k,n,rd,_,h
 |.bool,n,rd,_,h=>h
 |.pair a b,p,rd,hf,h=>by
  simp[Ty.flat] at hf;exact⟨SS a _ _ hf.1 h.1,SS b _ _ hf.2 h.2⟩
theorem yJv {M:zL}{sh s}{xs:List s.den}{v}(hs:(sh||s.flat)=true)(hv:qD M.H (bif sh then M.G else M.F) (.sl s) xs (fun _=>some v)):
  ∃news,Rd M.H v xs.length s.size news∧∀i hi,qD M.H M.G s xs[i] (fun j=>news[i*s.size+j]?):=by
 obtain⟨news,h1,h2⟩:=SO hv;refine⟨news,h1,fun i hi=>?_⟩;cases sh with
 |true=>simp_all
 |false=>exact SS _ _ _ hs (h2 i hi)
theorem yB0 {M}(ok:Ok M){t x ys u v}(hv:zX M x v)(h:tz M.h t x=some (ys,u)):
  u=[]∧∃news,Rd M.H v ys.length t.size news∧∀i hi,qD M.H M.G t ys[i] (fun j=>news[i*t.size+j]?):=by
 unfold tz at h;split at h
 ·cases h;have e:v=.slice none 0 0:=hv;subst e;exact⟨rfl,H0⟩
 ·rename_i sh s xs;cases hs:(sh||s.flat) with
  |false=>simp_all
  |true=>
   rw[hs] at h;simp  at h;obtain⟨zs,hz,rfl,rfl⟩:=h;obtain⟨e,hz⟩:=lj hz;subst e;subst hz;exact⟨rfl,yJv hs hv⟩
 ·rename_i sh s xs;cases hs:(sh||s.flat) with
  |false=>rw[hs] at h;cases h
  |true=>
   rw[hs] at h;simp  at h;obtain⟨zs,hz,rfl,rfl⟩:=h;obtain⟨e,hz⟩:=lj hz;subst e;subst hz;exact⟨rfl,yJv hs hv.2⟩
 ·split at h
  ·rename_i own s xs ao;simp  at h;obtain⟨zs,hz,rfl,rfl⟩:=h;obtain⟨e,hz⟩:=lj hz;subst e;subst hz;obtain⟨C,hC,hO⟩:=ok.obj _ _ ao;exact⟨rfl,zz hC hO hv⟩
  ·cases h
 ·cases h
theorem vHr {P M w}(ok:Ok M)(hM:M.H=w.heap){nm t e T ty x ys news}(hu:P.underlying t=some (.slice e))(dG:kp P e=some ty)(aS:M.h nm=none)
  (hx:Rd M.H x ys.length ty.size news) (hE:∀i hi,qD M.H M.G ty ys[i] (fun j=>news[i*ty.size+j]?)) (aO:ys.length*P.bytesOf e≤140737488355328∧ys.length≤140737488355328):
  qJ P (Builtin.append_ #[t,t] T #[.slice none 0 0,x]) M w (.c (.osl nm none)) [(nm,.arr true ty ys)]:=by
 obtain⟨i,z,h1,h2,h3,h4,h5,h6,h7⟩:=rT dG;by_cases h0:ys.length=0
 ·have hy:ys=[]:=by grind
  subst hy;have hr:=rU (P:=P) (w:=w) (A:=none) (sLen:=0) (sCap:=0) T hu h1 h3 (by rw[←hM];exact hx) (by simp) w rfl;let C:qB:=⟨none,0,ty.size,0,[]⟩;have:=zL.move_ok (M:=M) (nm:=nm) (o':=.arr true ty []) (C':=C) (h':=yI M.h nm (.arr true ty [])) (H':=M.H) ok (fun _=>False) aS (by simp) (yO _ _ _)
   (fun n' _ h2=>yP _ _ h2) (by simp) (by simp) (by simp) (nofun) (fun x=>⟨rfl,rfl,by grind,rfl⟩)
  exact⟨_,_,M.move nm C (yI M.h nm (.arr true ty [])) M.H,hr,rfl,rfl,rfl,hM,rfl,this.1,this.2,C,κset_same _ _ _,_,_,rfl,rfl,rfl,rfl⟩
 ·have hb:Rd w.heap (.slice none 0 0) 0 ty.size []:=⟨none,0,rfl,by simp,by simp,rfl⟩;have hr:=SP (P:=P) (w:=w) T hu h1 h2 h3 hb (by rw[←hM];exact hx) (by omega) (by simp_all) (by omega);simp  at hr;have hlen:news.length=ys.length*ty.size:=hx.choose_spec.choose_spec.2.1;have oD:=grownCap_ge w ys.length 0 e;refine yWf (u:=[]) ok hM aS (by simp) oD ?_ (fun i hi=>?_) hr ⟨rfl,rfl,rfl,rfl⟩
  ·simp[De,h7,hlen,←Nat.add_mul];simp_all
  ·refine vB (by simp) (by simp) ty _ _ _ (fun j hj=>?_) (hE i hi);have:=Nat.mul_le_mul_right ty.size (show i+1≤ys.length by omega);grind
theorem SU {P}{M w}(ok:Ok M)(hM:M.H=w.heap){id nm t e T ty x b gZ ys r news}(hu:P.underlying t=some (.slice e))(dG:kp P e=some ty)
  (aS:M.h nm=none) (ao:M.h id=some (.arr true ty gZ)) (hb:zX M (.osl id r) b) (tL:match r with|none=>True|some (lo,_)=>lo=0)
  (hx:Rd M.H x ys.length ty.size news) (hE:∀i hi,qD M.H M.G ty ys[i] (fun j=>news[i*ty.size+j]?))
  (aO:((jw gZ r).length+ys.length)*P.bytesOf e≤140737488355328∧(jw gZ r).length+ys.length≤140737488355328):
  qJ P (Builtin.append_ #[t,t] T #[b,x]) M w (.c (.osl nm none)) [(id,.gone),(nm,.arr true ty (jw gZ r++ys))]:=by
 obtain⟨i,z,h1,h2,h3,h4,h5,h6,h7⟩:=rT dG;obtain⟨C,hC,hO⟩:=ok.obj id _ ao;obtain⟨olds,ho,hEo⟩:=zz hC hO hb;have hlen:news.length=ys.length*ty.size:=hx.choose_spec.choose_spec.2.1;have mL:olds.length=(jw gZ r).length*ty.size:=ho.choose_spec.choose_spec.2.1;obtain⟨C',aE,hS⟩:=hb;rw[hC] at aE;cases aE;have oI:∃n,(jw gZ r).length=n∧jC M.H C 0 n b:=by
  cases r with
  |none=>exact⟨C.len,by rw[hO.1];rfl,hS⟩
  |some p=>
   obtain⟨lo,n⟩:=p;have:lo=0:=tL;subst this;exact⟨n,CV (by have:=hO.1;have:=hS.1;omega),hS.2.1⟩
 obtain⟨n,hn,A,sCap,rfl,oI⟩:=oI;rw[hn] at mL ho aO;have bo:=SQ (H:=M.H) (F:=M.G) (t:=ty) (xs:=jw gZ r) (ys:=ys) (olds:=olds) (news:=news) (by rw[hn];exact mL) hEo hE;have rW:(jw gZ r++ys).length=n+ys.length:=by rw[List.length_append,hn]
 by_cases cS:n+ys.length≤sCap
 ·
  cases hB:C.blk with
  |none=>
   rw[hB] at oI;obtain⟨rfl,rfl,rfl⟩:=oI;have hr:=rU (P:=P) (w:=w) (A:=none) (sLen:=0) (sCap:=0) T hu h1 h3 (by rw[←hM];exact hx) cS w rfl;rw[←rW] at hr;refine SR (s:=Builtin.append_ #[t,t] T #[.slice none 0 0,x]) (H':=M.H) ok hM ao hC aS rfl (fun _ _=>rfl) (fun _=>rfl) (fun M' _ _ _=>?_) ?_ ⟨hM.symm,rfl,rfl,rfl⟩ hr
   ·rw[hB];exact List.eq_nil_of_length_eq_zero (by omega)
   ·rw[hB];exact⟨rfl,by omega,rfl⟩
  |some B=>
   rw[hB] at oI;obtain⟨hc,a,rfl,ha,hs⟩:=oI;obtain⟨k1,k2,k3,k4⟩:=hO;rw[hB] at k4;obtain⟨vals,ev,k5,k6,k7,k8⟩:=k4;rw[Nat.zero_mul] at ha;rw[Nat.zero_add,k2] at hs;have cQ:qU M.H B=vals.size:=by simp only[qU,k5]
   rw[cQ] at hs;have jy:w.heap[B]? =some (.cells vals ev (0,0)):=by rw[←hM];exact k5
   by_cases h0:sCap=0
   ·
    have H4:n=0:=by omega
    have SW:ys.length=0:=by omega
    have hr := rU (P := P) (w := w) (A := some ⟨B, a, none⟩) (sLen := n) (sCap := sCap) T hu h1 h3 (by rw [← hM]; exact hx) cS w (by
     have:news=[]:=List.eq_nil_of_length_eq_zero (by rw[hlen,SW,Nat.zero_mul]);rw[this];rfl)
    rw[←rW] at hr;have MK:jw gZ r++ys=[]:=List.eq_nil_of_length_eq_zero (by omega);refine SR (s:=Builtin.append_ #[t,t] T #[.slice (some ⟨B,a,none⟩) n sCap,x]) (H':=M.H) ok hM ao hC aS rfl (fun _ _=>rfl) (fun _=>rfl) (fun M' _ _ _=>?_) ?_ ⟨hM.symm,rfl,rfl,rfl⟩ hr
    ·rw[hB];refine⟨vals,ev,k5,by rw[MK];simp,fun i hi=>?_⟩;rw[MK] at hi;simp at hi
    ·rw[hB];exact⟨by omega,a,rfl,.inl h0,by rw[h0];simp⟩
   ·have nB:a=0:=by rcases ha with ha|ha<;>omega
    subst nB;have hle:=Nat.mul_le_mul_right ty.size cS;rw[Nat.add_mul] at hle;have aK:n*ty.size+news.length≤vals.size:=by omega
    have dY:=run_storeCells_at (P:=P) B (n*ty.size) ev news 0 vals w jy (by simpa using aK) (fun v hv=>zm (hx.choose_spec.choose_spec.2.2.1 v hv));simp only[Nat.add_zero] at dY;have hr:=rU (P:=P) (w:=w) (A:=some ⟨B,0,none⟩) (sLen:=n) (sCap:=sCap) T hu h1 h3 (by rw[←hM];exact hx) cS (w.setRow B (yS vals (n*ty.size) news)) (by show(storeCells (Addr.add ⟨B,0,none⟩ (n*ty.size)) news).run P w=_;rw[Addr.add_lit,Nat.zero_add];exact dY);rw[←rW] at hr;obtain⟨f1,f2,f3,f4⟩:=oF jy (new:=yS vals (n*ty.size) news) (gA aK);refine SR (s:=Builtin.append_ #[t,t] T #[.slice (some ⟨B,0,none⟩) n sCap,x]) (H':=(w.setRow B (yS vals (n*ty.size) news)).heap) ok hM ao hC aS (by rw[hM];exact f1)
     (fun b hb=>by rw[hM];exact f3 b fun e=>hb (e▸fz hB)) (fun b=>by rw[hM];exact f4 b) (fun M' xt hH hG=>?_) ?_ ⟨rfl,rfl,rfl,rfl⟩ hr
    ·rw[hB];refine⟨_,ev,f2,by rw[rW,gA aK,Nat.add_mul];omega,fun i hi=>?_⟩;refine vB xt.G xt.sameG ty _ _ _ (fun j hj=>?_) (bo i hi);have aW:=Nat.mul_le_mul_right ty.size (show i+1≤n+ys.length by omega);rw[Nat.add_mul,Nat.add_mul] at aW;rw[jP aK];by_cases bj:i*ty.size+j<n*ty.size
     ·rw[if_pos bj,List.getElem?_append_left (by omega)];obtain⟨A',c',e1,_,_,hold⟩:=ho;simp only[Value.slice.injEq] at e1;obtain⟨rfl,_,rfl⟩:=e1;rcases hold with H4|⟨_,hold⟩
      ·rw[H4] at bj;omega
      ·have rY:i*ty.size+j<olds.length:=by omega
       have:=hold (i*ty.size+j) olds[i*ty.size+j] (List.getElem?_eq_getElem rY);rw[List.getElem?_eq_getElem rY,←this];simp only[yQ,k5,Nat.zero_add]
     ·rw[if_neg bj,if_pos (by omega),List.getElem?_append_right (by omega),mL]
    ·rw[hB];exact by grind
 ·
  have hr:=SP (P:=P) (w:=w) T hu h1 h2 h3 (by rw[←hM];exact ho) (by rw[←hM];exact hx) (by omega) (by rw[h6] at aO;exact aO.1) aO.2;have oD:=grownCap_ge w (n+ys.length) sCap e;rw[←rW] at hr oD;refine yWf (s:=Builtin.append_ #[t,t] T #[.slice A n sCap,x]) (u:=[(id,.gone)]) ok hM aS (fun p hp=>?_) oD ?_ (fun i hi=>?_) hr ⟨rfl,rfl,rfl,rfl⟩
  ·simp only[List.mem_singleton] at hp;subst hp;exact⟨rfl,_,ao,rfl⟩
  ·simp only[Array.size_append,List.size_toArray,De,h7,hlen,mL,←Nat.add_mul];exact Nat.le_of_eq (by congr 1;omega)
  ·refine vB (fun _ h=>h) (fun _ _=>rfl) ty _ _ _ (fun j hj=>?_) (bo i hi);have:=Nat.mul_le_mul_right ty.size (show i+1≤n+ys.length by omega);rw[Nat.add_mul,Nat.add_mul] at this;rw[Array.getElem?_append_left (by simp;omega)];simp
def Df (H:Array Go.Obj)(row:List Int)(m:Option (Option Nat×Nat))(c:Option Value):Prop:=∃rb v,m=some (rb,row.length)∧c=some v∧mD H rb row.length v∧
 (∀R,rb=some R→∃rv er,H[R]? =some (.cells rv er (0,0))∧∀j (h':j<row.length),rv[j]? =some (.int .i64 row[j]))
theorem yV0 {M ver xs C}(h:yX M (.mat ver xs) C):C.len=xs.length∧C.sz=1∧C.rows.length=xs.length∧C.fp.Nodup∧
  ∃cI:List Value,cI.length=xs.length∧(∀k (h:k<xs.length),Df M.H xs[k] C.rows[k]? cI[k]?)∧
   (match C.blk with
    |none=>xs=[]
    |some B=>∃vals e,M.H[B]? =some (.cells vals e (0,0))∧xs.length≤vals.size∧∀k,k<xs.length→vals[k]? =cI[k]?):=by
 obtain⟨h1,h2,h3,h4,h5,h6⟩:=h;refine⟨h2,h3,h4,h5,?_⟩;cases hB:C.blk with
 |none=>
  simp_all
 |some B=>
  rw[hB] at h6;obtain⟨vals,e,h7,h8,h9⟩:=h6;refine⟨vals.toList.take xs.length,by simp;omega,fun k hk=>?_,vals,e,h7,h8,by grind⟩;obtain⟨rb,v,k1,k2,k3,k4⟩:=h9 k hk;exact⟨rb,v,k1,by grind,k3,k4⟩
theorem Df.one {H row m v}(h:Df H row m (some v)):v.one1=true:=by
 obtain⟨rb,v',_,e,h,_⟩:=h;cases e;exact h.one
theorem vCf {M}{xs:List (List Int)}{C id v}(hC:M.κ id=some C)(hv:zX M (.osl id none) v){cI}(hl:cI.length=xs.length)(hlen:C.len=xs.length)(dV:C.sz=1)
  (cp : ∀ u ∈ cI, u.one1 = true) (hb:match C.blk with
    |none=>xs=[]
    |some B=>∃vals e,M.H[B]? =some (.cells vals e (0,0))∧xs.length≤vals.size∧∀k,k<xs.length→vals[k]? =cI[k]?):Rd M.H v xs.length 1 cI:=by
 obtain⟨C',aE,A,c,rfl,hS⟩:=hv;rw[hC] at aE;cases aE;rw[hlen];refine⟨A,c,rfl,by omega,cp,?_⟩;cases hB:C.blk with
 |none=>
  simp_all
 |some B=>
  rw[hB] at hS hb;obtain⟨hc,a,rfl,ha,_⟩:=hS;obtain⟨vals,e,h1,h2,h3⟩:=hb;by_cases h0:xs.length=0
  ·omega
  ·refine .inr ⟨rfl,fun j u hu=>?_⟩;have nB:a=0:=by omega
   have hj:j<xs.length:=by
    grind
   simp[yQ];simp_all
theorem yVk {C D:qB}(hC:C.fp.Nodup)(hD:D.fp.Nodup)(dZ:∀b,b∈C.fp→b∉D.fp):((C.rows++D.rows).filterMap (·.1)).Nodup:=by
 rw[List.filterMap_append];refine List.nodup_append.2 ⟨(List.nodup_append.1 hC).2.1,(List.nodup_append.1 hD).2.1,fun a ha b hb e=>?_⟩;exact dZ a (by simp[qB.fp];simp_all) (by simp[qB.fp];simp_all)
theorem MM {P M w w'}(ok:Ok M)(hM:M.H=w.heap){id jd nm v1 v2 xs ys C Cj C' s A c H'}
  (ao:M.h id=some (.mat v1 xs)) (df:M.h jd=some (.mat v2 ys)) (bn:id≠jd) (hC:M.κ id=some C) (eI:M.κ jd=some Cj) (aS:M.h nm=none) (dV:M.H.size≤H'.size)
  (hH:∀b,b<M.H.size→C.blk≠some b→H'[b]? =M.H[b]?) (cQ:∀b,b<M.H.size→qU H' b=qU M.H b)
  (hl:C'.len=(xs++ys).length) (Dg:C'.sz=1) (Au:C'.ver=0) (mM:C'.rows=C.rows++Cj.rows) (SX:∀B,C'.blk=some B→(M.H.size≤B∧B<H'.size)∨C.blk=some B)
  (hx:match C'.blk with
   |none=>xs++ys=[]
   |some B=>∃vals e,H'[B]? =some (.cells vals e (0,0))∧(xs++ys).length≤vals.size∧∀k (h:k<(xs++ys).length),Df M.H (xs++ys)[k] (C.rows++Cj.rows)[k]? vals[k]?)
  (hA:jC H' C' 0 C'.len (.slice A (xs++ys).length c))
  (hw:w'.heap=H'∧w'.os=w.os∧w'.tape=w.tape∧w'.output=w.output) (hr:s.run P w=.ok (.slice A (xs++ys).length c) w'):
  qJ P s M w (.c (.osl nm none)) [(id,.gone),(jd,.gone),(nm,.mat 0 (xs++ys))]:=by
 obtain⟨C0,rV,hO⟩:=ok.obj id _ ao;rw[hC] at rV;cases rV;obtain⟨C1,iD,nC⟩:=ok.obj jd _ df;rw[eI] at iD;cases iD;have SY:=hO.2.2.2.2.1;have ndD:=nC.2.2.2.2.1;have dZ:∀b,b∈C.fp→b∉Cj.fp:=fun b h1 h2=>ok.disj id jd _ _ C Cj b bn ao df rfl rfl hC eI h1 h2
 have MN:id≠nm:=by grind
 have hnj:jd≠nm:=by grind
 have hh:∀n',(qI M.h [(id,.gone),(jd,.gone),(nm,.mat 0 (xs++ys))]) n'=if n'=nm then some (.mat 0 (xs++ys)) else if n'=jd then some .gone else if n'=id then some .gone else M.h n':=fun n'=>by
  show(yI (yI (yI M.h id .gone) jd .gone) nm _) n'=_;by_cases e:n'=nm
  ·rw[if_pos e,e,yO]
  ·rw[if_neg e,yP _ _ e];by_cases e2:n'=jd
   ·rw[if_pos e2,e2,yO]
   ·rw[if_neg e2,yP _ _ e2];by_cases e3:n'=id
    ·rw[if_pos e3,e3,yO]
    ·rw[if_neg e3,yP _ _ e3]
 have H5:∀b∈C.fp,b<M.H.size:=fun b hb=>(ok.own b ⟨id,_,C,ao,rfl,hC,hb⟩).2
 have H6:∀b∈Cj.fp,b<M.H.size:=fun b hb=>(ok.own b ⟨jd,_,Cj,df,rfl,eI,hb⟩).2
 have bD:∀R∈(C.rows++Cj.rows).filterMap (·.1),R∈C.fp∧C.blk≠some R∨R∈Cj.fp:=fun R hR=>by
  rw[List.filterMap_append] at hR;rcases List.mem_append.1 hR with h|h
  ·refine .inl ⟨by simp only[qB.fp,List.mem_append];exact .inr h,fun e=>?_⟩;exact(List.nodup_append.1 SY).2.2 R (by simp[e]) R h rfl
  ·exact .inr (by simp only[qB.fp,List.mem_append];exact .inr h)
 have H7:∀R∈(C.rows++Cj.rows).filterMap (·.1),R<M.H.size∧C.blk≠some R:=fun R hR=>by
  rcases bD R hR with⟨h1,h2⟩|h
  ·exact⟨H5 R h1,h2⟩
  ·exact⟨H6 R h,fun e=>dZ R (fz e) h⟩
 have nd':C'.fp.Nodup:=by
  simp only[qB.fp,mM];cases hB:C'.blk with
  |none=>simpa using yVk SY ndD dZ
  |some B=>
   simp only[Option.toList_some,List.singleton_append];refine List.nodup_cons.2 ⟨fun hm=>?_,yVk SY ndD dZ⟩;grind
 have:=zL.move_ok (M:=M) (nm:=nm) (o':=.mat 0 (xs++ys)) (C':=C') (h':=qI M.h [(id,.gone),(jd,.gone),(nm,.mat 0 (xs++ys))]) (H':=H') ok (fun j=>j=id∨j=jd) aS
  (fun j hj=>by
   rcases hj with rfl|rfl
   ·exact⟨_,ao,rfl,by rw[hh,if_neg MN,if_neg bn,if_pos rfl]⟩
   ·exact⟨_,df,rfl,by rw[hh,if_neg hnj,if_pos rfl]⟩)
  (by rw[hh,if_pos rfl]) (fun n' h1 h2=>by rw[hh,if_neg h2,if_neg (fun e=>h1 (.inr e)),if_neg (fun e=>h1 (.inl e))]) dV
  (fun b hb hn=>hH b hb fun e=>hn id C (.inl rfl) hC (fz e)) cQ
  (fun b hb=>by
   simp only[qB.fp,mM,List.mem_append] at hb;rcases hb with hb|hb
   ·cases hB:C'.blk with
    |none=>rw[hB] at hb;simp at hb
    |some B=>
     rw[hB] at hb;simp at hb;subst hb;rcases SX b hB with h|h
     ·exact .inl h
     ·exact .inr ⟨id,C,.inl rfl,hC,fz h⟩
   simp_all)
  (fun x=>by
   refine⟨Au,hl,Dg,?_,nd',?_⟩
   ·rw[mM,List.length_append,hO.2.2.2.1,nC.2.2.2.1,List.length_append]
   ·cases hB:C'.blk with
    |none=>rw[hB] at hx;exact hx
    |some B=>
     rw[hB] at hx;obtain⟨vals,e,k1,k2,k3⟩:=hx;refine⟨vals,e,k1,k2,fun k hk=>?_⟩;obtain⟨rb,v,q1,q2,q3,q4⟩:=k3 k hk;refine⟨rb,v,by rw[mM];exact q1,q2,q3.ext x,fun R hR=>?_⟩;obtain⟨rv,er,q5,q6⟩:=q4 R hR;have hRm:=H7 R (List.mem_filterMap.2 ⟨_,List.mem_of_getElem? q1,hR⟩);exact⟨rv,er,by show H'[R]? =_;rw[hH R hRm.1 hRm.2];exact q5,q6⟩)
 exact⟨_,_,M.move nm C' (qI M.h [(id,.gone),(jd,.gone),(nm,.mat 0 (xs++ys))]) H',hr,hw.2.1,hw.2.2.1,hw.2.2.2,hw.1.symm,rfl,this.1,this.2,C',κset_same _ _ _,by rw[hl] at hA⊢;exact hA⟩
theorem SZ {H}{xs:List (List Int)}{rc:List (Option Nat×Nat)}{cI:List Value}(hl:cI.length=xs.length)(h:∀k (h:k<xs.length),Df H xs[k] rc[k]? cI[k]?):∀u∈cI,u.one1=true:=by
 intro u hu;obtain⟨k,hk,rfl⟩:=List.getElem_of_mem hu;have:=h k (by omega);rw[List.getElem?_eq_getElem hk] at this;exact this.one
theorem vC6 {P M w}(ok:Ok M)(hM:M.H=w.heap){id jd nm v1 v2 t e T x b xs ys}(hu:P.underlying t=some (.slice e))(dG:kp P e=some (.sl (.int .i64)))
  (aS:M.h nm=none) (ao:M.h id=some (.mat v1 xs)) (df:M.h jd=some (.mat v2 ys)) (bn:id≠jd) (hb:zX M (.osl id none) b) (hx:zX M (.osl jd none) x)
  (aO:(xs.length+ys.length)*P.bytesOf e≤140737488355328∧xs.length+ys.length≤140737488355328):
  qJ P (Builtin.append_ #[t,t] T #[b,x]) M w (.c (.osl nm none)) [(id,.gone),(jd,.gone),(nm,.mat 0 (xs++ys))]:=by
 obtain⟨i,z,h1,h2,h3,h4,h5,h6,h7⟩:=rT dG;obtain⟨C,hC,hO⟩:=ok.obj id _ ao;obtain⟨Cj,eI,nC⟩:=ok.obj jd _ df;obtain⟨a1,a2,a3,a4,olds,a5,a6,a7⟩:=yV0 hO;obtain⟨b1,b2,b3,b4,news,b5,b6,b7⟩:=yV0 nC;have ho:=vCf hC hb a5 a1 a2 (SZ a5 a6) a7;have hn:=vCf eI hx b5 b1 b2 (SZ b5 b6) b7;have rW:(xs++ys).length=xs.length+ys.length:=List.length_append;have cp:=SZ b5 b6;have bo:∀k (h:k<(xs++ys).length),Df M.H (xs++ys)[k] (C.rows++Cj.rows)[k]? (olds++news)[k]? :=by
  intro k hk;by_cases bj:k<xs.length
  ·rw[List.getElem_append_left bj,List.getElem?_append_left (by omega),List.getElem?_append_left (by omega)];exact a6 k bj
  ·rw[List.getElem_append_right (by omega),List.getElem?_append_right (by omega),List.getElem?_append_right (by omega),a3,a5];exact b6 _ (by omega)
 obtain⟨C',aE,A,sCap,rfl,oI⟩:=hb;rw[hC] at aE;cases aE;rw[a1] at ho oI;have tO:i.size=1:=h3;have SE:z.cells.size=1:=h7;by_cases cS:xs.length+ys.length≤sCap
 ·cases hB:C.blk with
  |none=>
   rw[hB] at oI;obtain⟨rfl,h0,rfl⟩:=oI;have hr:=rU (P:=P) (w:=w) (A:=none) (sLen:=xs.length) (sCap:=0) T hu h1 tO (by rw[←hM];exact hn) cS w rfl;rw[←rW] at hr;have cM:xs++ys=[]:=List.eq_nil_of_length_eq_zero (by omega);rw[a1];refine MM (C':=⟨none,(xs++ys).length,1,0,C.rows++Cj.rows⟩) (H':=M.H) ok hM ao df bn hC eI aS (Nat.le_refl _) (fun _ _ _=>rfl) (fun _ _=>rfl) rfl rfl rfl rfl (fun B hB=>by cases hB) cM ⟨none,0,rfl,rfl,(by show(xs++ys).length=0;omega),rfl⟩ ⟨hM.symm,rfl,rfl,rfl⟩ hr
  |some B=>
   rw[hB] at oI a7;obtain⟨hc,a,rfl,ha,hs⟩:=oI;obtain⟨vals,ev,k5,k6,k7⟩:=a7;rw[Nat.zero_mul] at ha;rw[Nat.zero_add,a2,Nat.mul_one] at hs;have cQ:qU M.H B=vals.size:=by simp only[qU,k5]
   rw[cQ] at hs;have jy:w.heap[B]? =some (.cells vals ev (0,0)):=by rw[←hM];exact k5
   by_cases h0:sCap=0
   ·have hr := rU (P := P) (w := w) (A := some ⟨B, a, none⟩) (sLen := xs.length) (sCap := sCap) T hu h1 tO (by rw [← hM]; exact hn) cS w (by
     have:news=[]:=List.eq_nil_of_length_eq_zero (by omega);rw[this];rfl)
    rw[←rW] at hr;have cM:xs++ys=[]:=List.eq_nil_of_length_eq_zero (by omega);rw[a1];refine MM (C':=⟨some B,(xs++ys).length,1,0,C.rows++Cj.rows⟩) (H':=M.H) ok hM ao df bn hC eI aS (Nat.le_refl _) (fun _ _ _=>rfl) (fun _ _=>rfl) rfl rfl rfl rfl (fun B' kA=>.inr (by cases kA;exact hB))
     ⟨vals,ev,k5,by rw[cM];simp,fun k hk=>by rw[cM] at hk;simp at hk⟩ ⟨_,sCap,rfl,(by show(xs++ys).length≤sCap;omega),a,rfl,.inl h0,by rw[h0];simp⟩ ⟨hM.symm,rfl,rfl,rfl⟩ hr
   ·have nB:a=0:=by rcases ha with ha|ha<;>omega
    subst nB;have aK:xs.length+news.length≤vals.size:=by omega
    have dY:=run_storeCells_at (P:=P) B xs.length ev news 0 vals w jy (by simpa using aK) (fun v hv=>zm (cp v hv));simp only[Nat.add_zero] at dY;have hr:=rU (P:=P) (w:=w) (A:=some ⟨B,0,none⟩) (sLen:=xs.length) (sCap:=sCap) T hu h1 tO (by rw[←hM];exact hn) cS (w.setRow B (yS vals xs.length news))
     (by show(storeCells (Addr.add ⟨B,0,none⟩ (xs.length*1)) news).run P w=_;rw[Addr.add_lit,Nat.zero_add,Nat.mul_one];exact dY)
    rw[←rW] at hr;obtain⟨f1,f2,f3,f4⟩:=oF jy (new:=yS vals xs.length news) (gA aK);rw[a1];refine MM (C':=⟨some B,(xs++ys).length,1,0,C.rows++Cj.rows⟩) (H':=(w.setRow B (yS vals xs.length news)).heap) ok hM ao df bn hC eI aS (by rw[hM,f1];exact Nat.le_refl _) (fun b hb hn=>by rw[hM];exact f3 b fun e=>hn (e▸hB))
     (fun b _=>by rw[hM];exact f4 b) rfl rfl rfl rfl (fun B' kA=>.inr (by cases kA;exact hB)) ⟨_,ev,f2,by rw[gA aK];omega,fun k hk=>?_⟩ ⟨_,sCap,rfl,(by show(xs++ys).length≤sCap;omega),0,rfl,.inr (by simp),by show(0+sCap)*1≤qU _ B;rw[f4,←hM,cQ];omega⟩ ⟨rfl,rfl,rfl,rfl⟩ hr
    have:=bo k hk;rw[jP aK];by_cases bj:k<xs.length
    ·rw[if_pos bj,k7 k bj];rw[List.getElem?_append_left (l₁:=olds) (by omega)] at this;exact this
    ·rw[if_neg bj,if_pos (by omega)];rw[List.getElem?_append_right (l₁:=olds) (by omega),a5] at this;exact this
 ·have hr:=SP (P:=P) (w:=w) T hu h1 h2 tO (by rw[←hM];exact ho) (by rw[←hM];exact hn) (by omega) (by rw[h6] at aO;exact aO.1) aO.2;have oD:=grownCap_ge w (xs.length+ys.length) sCap e;rw[←rW] at hr oD;generalize oE:olds.toArray++news.toArray++Builtin.zeroCells z.cells (grownCap w (xs++ys).length sCap e-(xs++ys).length)=us at hr;have S0:us.size=grownCap w (xs++ys).length sCap e:=by
   rw[←oE];simp only[Array.size_append,List.size_toArray,De,SE];omega
  have S1:∀k,k<(xs++ys).length→us[k]? =(olds++news)[k]? :=fun k hk=>by
   rw[←oE,Array.getElem?_append_left (by simp;omega)];simp
  have hbz:∀us:Array Value,qU (M.H.push (.cells us e)) M.H.size=us.size:=fun us=>by simp[qU]
  rw[a1];refine MM (C':=⟨some M.H.size,(xs++ys).length,1,0,C.rows++Cj.rows⟩) (H':=M.H.push (.cells us e)) (w':=w.drew.alloc (.cells us e)) ok hM ao df bn hC eI aS (by simp) (fun b hb _=>pz hb) (fun b hb=>CP (pz hb)) rfl rfl rfl rfl
   (fun B' kA=>.inl (by cases kA;exact⟨Nat.le_refl _,by simp⟩)) ⟨us,e,zl,by omega,fun k hk=>?_⟩ ⟨_,_,rfl,oD,0,by rw[hM],.inr (by simp),(by rw[hbz,S0];show(0+_)*1≤_;omega)⟩ ⟨(by rw[hM];rfl),rfl,rfl,rfl⟩ hr
  rw[S1 k hk];exact bo k hk
theorem Av {c s v u}(h:yK (bif c then s else .stuck) v u):c=true∧yK s v u:=by
 cases c with
 |true=>simp_all
 |false=>exact h.elim
theorem yX8 {c a b v u}(h:yK (bif c then a else b) v u):(c=true∧yK a v u)∨(c=false∧yK b v u):=by
 grind
theorem yZs {z:Value}{t}(h:z.cells.toList=gX t)(hs:z.cells.size=t.size){n i j}(hj:j<t.size)(hi:i<n):(Builtin.zeroCells z.cells n).toList[i*t.size+j]? =(gX t)[j]? :=by
 have aW:=Nat.mul_le_mul_right t.size (show i+1≤n by omega);rw[List.getElem?_eq_getElem (l:=gX t) (by grind),←yLm h hs (i:=i) hj];simp[Builtin.zeroCells];grind
theorem vPd {z:Value}{t}(h:z.cells.toList=gX t)(hs:z.cells.size=t.size){n}:∀v∈(Builtin.zeroCells z.cells n).toList,v.one1=true:=by
 intro v hv;have hz:∀u∈gX t,u.one1=true:=by
  clear h hs hv
  induction t with
  |pair a b C9 Da=>
   intro u hu;rcases List.mem_append.1 hu with hu|hu
   all_goals simp_all
  |_=>
   intro u hu;rw[List.mem_singleton.1 hu];rfl
 obtain⟨k,hk,rfl⟩:=List.getElem_of_mem hv;have tJ:k<n*t.size:=by rw[Array.length_toList,De,hs] at hk;exact hk
 have h0:=t.size_pos;have := yZs h hs (n := n) (i := k / t.size) (j := k % t.size) (Nat.mod_lt _ h0) (by
  rw[Nat.div_lt_iff_lt_mul h0];omega)
 rw[Nat.div_add_mod' k t.size,List.getElem?_eq_getElem hk,List.getElem?_eq_getElem (by grind),Option.some.injEq] at this;simp_all
theorem S2 {P}{M:zL}{w:World}(ok:Ok M)(hM:M.H=w.heap){id nm n':Nat}{t:Ty}{gZ zs}{C:qB}{H'}{s:Sem Value}{c:Nat}{A:Option Addr}{w':World}
  (ao:M.h id=some (.arr true t gZ)) (hC:M.κ id=some C) (aS:M.h nm=none) (dV:H'.size=M.H.size) (hH:∀b,b∉C.fp→H'[b]? =M.H[b]?) (cQ:∀b,qU H' b=qU M.H b)
  (hx:∀M',yN M M'→M'.H=H'→M'.G=M.G→match C.blk with
   |none=>zs=[]
   |some B=>∃vals e,H'[B]? =some (.cells vals e (0,0))∧zs.length*t.size≤vals.size∧∀i (h:i<zs.length),qD M'.H M'.G t zs[i] (fun j=>vals[i*t.size+j]?))
  (hn : n' ≤ zs.length) (hc : zs.length ≤ c) (hA:match C.blk with
   |none=>A=none∧n'=0∧c=0
   |some B=>∃a,A=some ⟨B,a,none⟩∧(c=0∨a=0)∧c*t.size≤qU M.H B)
  (hw:w'.heap=H'∧w'.os=w.os∧w'.tape=w.tape∧w'.output=w.output) (hr:s.run P w=.ok (.slice A n' c) w'):
  qJ P s M w (.c (.osl nm (some (0,n')))) [(id,.gone),(nm,.arr true t zs)]:=by
 obtain⟨C0,rV,hO⟩:=ok.obj id _ ao;rw[hC] at rV;cases rV;obtain⟨fr,ff⟩:=HQ hO;have bn:id≠nm:=fun e=>by simp_all
 let C':qB:=⟨C.blk,zs.length,t.size,0,[]⟩;have hh:∀n',(qI M.h [(id,.gone),(nm,.arr true t zs)]) n'=if n'=nm then some (.arr true t zs) else if n'=id then some .gone else M.h n':=fun n'=>by
  show(yI (yI M.h id .gone) nm _) n'=_;by_cases e:n'=nm
  ·rw[if_pos e,e,yO]
  ·rw[if_neg e,yP _ _ e];by_cases e2:n'=id
   ·rw[if_pos e2,e2,yO]
   ·rw[if_neg e2,yP _ _ e2]
 have:=zL.move_ok (M:=M) (nm:=nm) (o':=.arr true t zs) (C':=C') (h':=qI M.h [(id,.gone),(nm,.arr true t zs)]) (H':=H') ok (fun j=>j=id) aS
  (fun j hj=>⟨.arr true t gZ,by rw[hj];exact ao,rfl,by simp_all⟩)
  (by rw[hh,if_pos rfl]) (by grind) (by omega) (fun b hb hn=>hH b (hn id C rfl hC)) (fun b _=>cQ b)
  (fun b hb=>.inr ⟨id,C,rfl,hC,by
   simp only[C',qB.fp,List.filterMap_nil,List.append_nil] at hb;rw[ff];exact hb⟩)
  (fun x=>by
   refine⟨rfl,rfl,fun _=>rfl,?_⟩;have:=hx _ x rfl rfl;cases hB:C.blk with
   |none=>simp_all
   |some B=>
    rw[hB] at this;obtain⟨vals,e,h1,h2,h3⟩:=this;exact⟨vals,e,h1,by simp,h2,h3⟩)
 refine⟨_,_,_,hr,hw.2.1,hw.2.2.1,hw.2.2.2,by rw[hw.1];rfl,rfl,this.1,this.2,C',κset_same _ _ _,by grind,⟨_,c,rfl,?_⟩,_,_,_,rfl,by grind⟩;show match C.blk with
  |none=>_
  |some B=>_
 cases hB:C.blk with
 |none=>rw[hB] at hA;exact hA
 |some B=>
  rw[hB] at hA;obtain⟨a,h2,h3,h4⟩:=hA;refine⟨by omega,a,h2,by simpa using h3,?_⟩;show(0+c)*t.size≤qU H' B;simp_all
theorem S3 {P}{M w}(ok:Ok M)(hM:M.H=w.heap){id nm i j m t e T ty x b xs}(hu:P.underlying t=some (.slice e))(dG:kp P e=some ty)
  (aS:M.h nm=none) (ao:M.h id=some (.arr true ty xs)) (hb:zX M (.osl id (some (0,i))) b) (hx:zX M (.osl id (some (j,m))) x) (oz:i≤j):
  qJ P (Builtin.append_ #[t,t] T #[b,x]) M w (.c (.osl nm (some (0,i+m)))) [(id,.gone),(nm,.arr true ty (xs.take i++qS xs j m++xs.drop (i+m)))]:=by
 obtain⟨inf,z,h1,h2,h3,h4,h5,h6,h7⟩:=rT dG;obtain⟨C,hC,hO⟩:=ok.obj id _ ao;obtain⟨news,hR,hE⟩:=zz hC hO hx;obtain⟨C1,iD,dp,_⟩:=hx;rw[hC] at iD;cases iD;obtain⟨C1,iD,fi,⟨A,c,rfl,hS⟩,iC⟩:=hb;rw[hC] at iD;cases iD;obtain⟨_,_,_,iC,C8⟩:=iC;cases iC;have hlen:=hO.1;have oJ:(jw xs (some (j,m))).length=m:=CV (by omega);rw[oJ] at hR;have MO:news.length=m*ty.size:=hR.choose_spec.choose_spec.2.1;have tP:(qS xs j m).length=m:=oJ;have tQ:(xs.take i).length=i:=by rw[List.length_take];omega
 have H8:(xs.take i++qS xs j m++xs.drop (i+m)).length=xs.length:=by
  rw[List.length_append,List.length_append,tP,tQ,List.length_drop];omega
 have aO:i+m≤c:=by omega
 cases hB:C.blk with
 |none=>
  rw[hB] at hS;obtain⟨rfl,rfl,rfl⟩:=hS;have hr:=rU (P:=P) (w:=w) (A:=none) (sLen:=0) (sCap:=0) T hu h1 h3 (by rw[←hM];exact hR) aO w rfl;refine S2 (s:=Builtin.append_ #[t,t] T #[.slice none 0 0,x]) (H':=M.H) ok hM ao hC aS rfl (fun _ _=>rfl) (fun _=>rfl) (fun M' _ _ _=>?_) (by omega) (by omega) ?_ ⟨hM.symm,rfl,rfl,rfl⟩ hr
  ·rw[hB];exact List.eq_nil_of_length_eq_zero (by omega)
  ·rw[hB];exact⟨rfl,by omega,rfl⟩
 |some B=>
  rw[hB] at hS;obtain⟨hc,a,rfl,ha,hs⟩:=hS;obtain⟨k1,k2,k3,k4⟩:=hO;rw[hB] at k4;obtain⟨vals,ev,k5,k6,k7,k8⟩:=k4;rw[Nat.zero_mul] at ha;rw[Nat.zero_add,k2] at hs;have cQ:qU M.H B=vals.size:=by simp only[qU,k5]
  have jy:w.heap[B]? =some (.cells vals ev (0,0)):=by rw[←hM];exact k5
  by_cases h0:c=0
  ·have hm0:m=0:=by omega
   have hr := rU (P := P) (w := w) (A := some ⟨B, a, none⟩) (sLen := i) (sCap := c) T hu h1 h3 (by rw [← hM]; exact hR) aO w (by
    have:news=[]:=List.eq_nil_of_length_eq_zero (by rw[MO,hm0,Nat.zero_mul]);rw[this];rfl)
   refine S2 (s:=Builtin.append_ #[t,t] T #[.slice (some ⟨B,a,none⟩) i c,x]) (H':=M.H) ok hM ao hC aS rfl (fun _ _=>rfl) (fun _=>rfl) (fun M' _ _ _=>?_) (by omega) (by omega) ?_ ⟨hM.symm,rfl,rfl,rfl⟩ hr
   ·rw[hB];refine⟨vals,ev,k5,by rw[H8];exact k7,fun p hp=>?_⟩;rw[H8] at hp;omega
   ·rw[hB];exact⟨a,rfl,.inl h0,by rw[h0];simp⟩
  ·have nB:a=0:=by rcases ha with ha|ha<;>omega
   subst nB;have hle:=Nat.mul_le_mul_right ty.size (show i+m≤xs.length by omega);rw[Nat.add_mul] at hle;have aK:i*ty.size+news.length≤vals.size:=by omega
   have dY:=run_storeCells_at (P:=P) B (i*ty.size) ev news 0 vals w jy (by simpa using aK) (fun v hv=>zm (hR.choose_spec.choose_spec.2.2.1 v hv));simp only[Nat.add_zero] at dY;have hr:=rU (P:=P) (w:=w) (A:=some ⟨B,0,none⟩) (sLen:=i) (sCap:=c) T hu h1 h3 (by rw[←hM];exact hR) aO (w.setRow B (yS vals (i*ty.size) news)) (by show(storeCells (Addr.add ⟨B,0,none⟩ (i*ty.size)) news).run P w=_;rw[Addr.add_lit,Nat.zero_add];exact dY);obtain⟨f1,f2,f3,f4⟩:=oF jy (new:=yS vals (i*ty.size) news) (gA aK);refine S2 (s:=Builtin.append_ #[t,t] T #[.slice (some ⟨B,0,none⟩) i c,x]) (H':=(w.setRow B (yS vals (i*ty.size) news)).heap) ok hM ao hC aS (by rw[hM];exact f1)
    (fun b hb=>by rw[hM];exact f3 b fun e=>hb (e▸fz hB)) (fun b=>by rw[hM];exact f4 b) (fun M' xt hH hG=>?_) (by omega) (by omega) ?_ ⟨rfl,rfl,rfl,rfl⟩ hr
   ·rw[hB];refine⟨_,ev,f2,by rw[H8,gA aK];exact k7,fun p hp=>?_⟩;rw[H8] at hp;have aW:=Nat.mul_le_mul_right ty.size (show p+1≤xs.length by omega);rw[Nat.add_mul] at aW;have old:(xs.take i++qS xs j m++xs.drop (i+m))[p]? =xs[p]? →(∀q,q<ty.size→(yS vals (i*ty.size) news)[p*ty.size+q]? =vals[p*ty.size+q]?)→qD M'.H M'.G ty ((xs.take i++qS xs j m++xs.drop (i+m))[p]'(by omega)) (fun q=>(yS vals (i*ty.size) news)[p*ty.size+q]?):=fun e1 e2=>by
     have e3:(xs.take i++qS xs j m++xs.drop (i+m))[p]'(by omega)=xs[p]:=by
      rw[List.getElem?_eq_getElem (by omega),List.getElem?_eq_getElem hp,Option.some.injEq] at e1;exact e1
     rw[e3];exact vB xt.G xt.sameG ty _ _ _ e2 (k8 p hp)
    by_cases MP:p<i
    ·refine old ?_ fun q hq=>?_
     ·rw[List.append_assoc,List.getElem?_append_left (by omega),List.getElem?_take,if_pos MP]
     ·have:=Nat.mul_le_mul_right ty.size (show p+1≤i by omega);rw[Nat.add_mul] at this;rw[jP aK,if_pos (by omega)]
    ·by_cases H9:p<i+m
     ·have e3:(xs.take i++qS xs j m++xs.drop (i+m))[p]'(by omega)=(jw xs (some (j,m)))[p-i]'(by omega):=by
       rw[List.getElem_append_left (by rw[List.length_append,tQ,tP];exact H9),List.getElem_append_right (by omega)];simp only[tQ];rfl
      rw[e3];refine vB xt.G xt.sameG ty _ _ _ (fun q hq=>?_) (hE (p-i) (by omega));have q1:=Nat.mul_le_mul_right ty.size (show i≤p by omega);have q2:=Nat.mul_le_mul_right ty.size (show p-i+1≤m by omega);rw[Nat.add_mul] at q2;have q3:(p-i)*ty.size=p*ty.size-i*ty.size:=Nat.sub_mul ..
      rw[jP aK,if_neg (by omega),if_pos (by omega)]
      congr 1;omega
     ·refine old ?_ fun q hq=>?_
      ·rw[List.getElem?_append_right (by rw[List.length_append,tQ,tP];omega),List.getElem?_drop]
       congr 1
       rw[List.length_append,tQ,tP];omega
      ·have:=Nat.mul_le_mul_right ty.size (show i+m≤p by omega);rw[Nat.add_mul] at this;rw[jP aK,if_neg (by omega),if_neg (by omega)]
   ·rw[hB];exact⟨0,rfl,.inr rfl,by rw[←k2] at hs⊢;exact hs⟩
theorem vFc {P M w}(ok:Ok M)(hM:M.H=w.heap){t T id lo n rx v u}(hx:zX M (.osl id (some (lo,n))) rx)
  (h:yK (L8 P M.h t id lo n) v u):qJ P (Builtin.clear_ #[t] T #[rx]) M w v u:=by
 unfold L8 at h;split at h
 case h_2=>exact h.elim
 rename_i e s xs hu ao;split at h
 case h_2=>exact h.elim
 rename_i ty dG;obtain⟨heq,h⟩:=Av h;have:=HA heq;subst this;obtain⟨_,rfl,rfl⟩:=gz h;obtain⟨inf,z,h1,h2,h3,h4,h5,h6,h7⟩:=rT dG;obtain⟨C,hC,dp,⟨A,c,rfl,hS⟩,_⟩:=hx;obtain⟨C1,iD,hO⟩:=ok.obj id _ ao;rw[hC] at iD;cases iD;by_cases H4:n=0
 ·subst H4;have e0:xs.take lo++List.replicate 0 ty.dflt++xs.drop (lo+0)=xs:=by simp
  rw[e0];refine⟨.tuple #[],w,M,?_,rfl,rfl,rfl,hM,?_,ok,vA.refl M,trivial⟩
  ·cases A with
   |none=>simp[Builtin.clear_,run_underlying hu]
   |some a=>simp[Builtin.clear_,run_underlying hu]
  ·rw[R6,CU ao]
 ·obtain⟨k1,k2,k3,k4⟩:=hO;cases hB:C.blk with
  |none=>rw[hB] at hS;omega
  |some B=>
   rw[hB] at hS k4;obtain⟨hc,a,rfl,ha,hs⟩:=hS;obtain⟨vals,ev,k5,k6,k7,k8⟩:=k4;have rN:a=lo*ty.size:=by rw[←k2];rcases ha with ha|ha<;>omega
   subst rN;have jy:w.heap[B]? =some (.cells vals ev (0,0)):=by rw[←hM];exact k5
   have H8:(Builtin.zeroCells z.cells n).toList.length=n*ty.size:=by rw[Array.length_toList,De,h7]
   have hle:=Nat.mul_le_mul_right ty.size (show lo+n≤xs.length by omega);rw[Nat.add_mul] at hle;have aK:lo*ty.size+(Builtin.zeroCells z.cells n).toList.length≤vals.size:=by omega
   have cp:∀v∈(Builtin.zeroCells z.cells n).toList,v.one1=true:=vPd h4 h7;have dY:=run_storeCells_at (P:=P) B (lo*ty.size) ev (Builtin.zeroCells z.cells n).toList 0 vals w jy (by simpa using aK) (fun v hv=>zm (cp v hv));simp only[Nat.add_zero] at dY;obtain⟨f1,f2,f3,f4⟩:=oF jy (new:=yS vals (lo*ty.size) (Builtin.zeroCells z.cells n).toList) (gA aK);have nG:(Builtin.clear_ #[t] T #[.slice (some ⟨B,lo*ty.size,none⟩) n c]).run P w=.ok (.tuple #[]) (w.setRow B (yS vals (lo*ty.size) (Builtin.zeroCells z.cells n).toList)):=by
    obtain⟨n',rfl⟩:∃n',n=n'+1:=⟨n-1,by omega⟩;have e:(storeCells ⟨B,lo*ty.size,none⟩ (Builtin.zeroCells z.cells (n'+1)).toList).run P w=.ok () (w.setRow B (yS vals (lo*ty.size) (Builtin.zeroCells z.cells (n'+1)).toList)):=dY;simp[Builtin.clear_,run_underlying hu,zeroValue,typeInfo,h1,h2,e]
   have hH:∀b,b∉C.fp→(w.setRow B (yS vals (lo*ty.size) (Builtin.zeroCells z.cells n).toList)).heap[b]? =M.H[b]? :=fun b tH=>by
    rw[hM];exact f3 b fun e=>tH (e▸fz hB)
   have cQ:∀b,b<M.H.size→qU (w.setRow B (yS vals (lo*ty.size) (Builtin.zeroCells z.cells n).toList)).heap b=qU M.H b:=fun b _=>by rw[hM];exact f4 b
   have hol:(xs.take lo++List.replicate n ty.dflt++xs.drop (lo+n)).length=xs.length:=by
    simp only[List.length_append,List.length_take,List.length_replicate,List.length_drop];omega
   have x:=zL.write_ext ok ao rfl hC C.le_refl hH cQ (.arr true ty (xs.take lo++List.replicate n ty.dflt++xs.drop (lo+n)));have := zL.write_ok ok ao rfl hC C.le_refl (fun _ h => h) (by rw [hM]; exact f1) hH cQ (o' := .arr true ty (xs.take lo ++ List.replicate n ty.dflt ++ xs.drop (lo + n))) (by
    refine⟨by rw[hol];exact k1,k2,k3,?_⟩;rw[hB];refine⟨_,ev,f2,fun h=>(by cases h),by rw[hol,gA aK];exact k7,fun p hp=>?_⟩;rw[hol] at hp;have aW:=Nat.mul_le_mul_right ty.size (show p+1≤xs.length by omega);rw[Nat.add_mul] at aW;have pE:(xs.take lo).length=lo:=by rw[List.length_take];omega
    have old:(xs.take lo++List.replicate n ty.dflt++xs.drop (lo+n))[p]? =xs[p]? →(∀q,q<ty.size→(yS vals (lo*ty.size) (Builtin.zeroCells z.cells n).toList)[p*ty.size+q]? =vals[p*ty.size+q]?)→
      qD (M.write id (.arr true ty (xs.take lo++List.replicate n ty.dflt++xs.drop (lo+n))) C (w.setRow B (yS vals (lo*ty.size) (Builtin.zeroCells z.cells n).toList)).heap).H (M.write id (.arr true ty (xs.take lo++List.replicate n ty.dflt++xs.drop (lo+n))) C (w.setRow B (yS vals (lo*ty.size) (Builtin.zeroCells z.cells n).toList)).heap).G ty ((xs.take lo++List.replicate n ty.dflt++xs.drop (lo+n))[p]'(by omega)) (fun q=>(yS vals (lo*ty.size) (Builtin.zeroCells z.cells n).toList)[p*ty.size+q]?):=fun e1 e2=>by
     have e3:(xs.take lo++List.replicate n ty.dflt++xs.drop (lo+n))[p]'(by omega)=xs[p]:=by
      rw[List.getElem?_eq_getElem (by omega),List.getElem?_eq_getElem hp,Option.some.injEq] at e1;exact e1
     rw[e3];exact vB x.G x.sameG ty _ _ _ e2 (k8 p hp)
    by_cases MP:p<lo
    ·refine old ?_ fun q hq=>?_
     ·rw[List.append_assoc,List.getElem?_append_left (by omega),List.getElem?_take,if_pos MP]
     ·have:=Nat.mul_le_mul_right ty.size (show p+1≤lo by omega);rw[Nat.add_mul] at this;rw[jP aK,if_pos (by omega)]
    ·by_cases H9:p<lo+n
     ·have e3:(xs.take lo++List.replicate n ty.dflt++xs.drop (lo+n))[p]'(by omega)=ty.dflt:=by
       rw[List.getElem_append_left (by rw[List.length_append,pE,List.length_replicate];exact H9),List.getElem_append_right (by omega)];simp
      rw[e3];refine HZ ty _ fun q hq=>?_
      have q1:=Nat.mul_le_mul_right ty.size (show lo≤p by omega);have q2:=Nat.mul_le_mul_right ty.size (show p-lo+1≤n by omega);rw[Nat.add_mul] at q2;have q3:(p-lo)*ty.size=p*ty.size-lo*ty.size:=Nat.sub_mul ..
      rw[jP aK,if_neg (by omega),if_pos (by omega),show p*ty.size+q-lo*ty.size=(p-lo)*ty.size+q by omega,yZs h4 h7 hq (by omega)]
     ·refine old ?_ fun q hq=>?_
      ·rw[List.getElem?_append_right (by rw[List.length_append,pE,List.length_replicate];omega),List.getElem?_drop]
       congr 1
       rw[List.length_append,pE,List.length_replicate];omega
      ·have:=Nat.mul_le_mul_right ty.size (show lo+n≤p by omega);rw[Nat.add_mul] at this;rw[jP aK,if_neg (by omega),if_neg (by omega)])
   exact⟨_,_,_,nG,rfl,rfl,rfl,rfl,rfl,this.1,this.2,trivial⟩
theorem vPy {P M w}(ok:Ok M)(hM:M.H=w.heap){mat nm t T b x v u rb rx}
  (hb:zV M b rb) (hx:zV M x rx) (h:yK (CG P mat nm M.h t b x) v u):qJ P (Builtin.append_ #[t,t] T #[rb,rx]) M w v u:=by
 unfold CG at h;split at h
 case h_2=>exact h.elim
 rename_i e b x hu aS;split at h
 ·exact h.elim
 rename_i ty dG;cases mat with
 |true=>
  split at h
  ·rename_i id jd;split at h
   ·rename_i v1 xs v2 ys ao df;cases bn:Nat.beq id jd with
    |true=>rw[bn] at h;exact h.elim
    |false=>
     rw[bn] at h;obtain⟨hr,rfl,rfl⟩:=gz h;exact vC6 ok hM hu dG aS ao df (fun e=>by subst e;simp at bn) hb hx (H3 hr)
   ·exact h.elim
  ·exact h.elim
 |false=>
  simp only[cond_false] at h;split at h
  ·split at h
   ·rename_i ys u1 ht;obtain⟨hr,rfl,rfl⟩:=gz h;obtain⟨rfl,news,h1,h2⟩:=yB0 ok hx ht;rw[show rb=.slice none 0 0 from hb];exact vHr ok hM hu dG aS h1 h2 (H3 hr)
   ·exact h.elim
  ·split at h
   ·rename_i s xs ao;split at h
    ·rename_i zs ys u1 hz ht;obtain⟨e1,hz⟩:=lj hz;subst e1;subst hz;obtain⟨rfl,news,h1,h2⟩:=yB0 ok hx ht;split at h
     ·rcases yX8 h with⟨hc,h⟩|⟨_,h⟩
      ·split at h
       ·rename_i i' jd j m zs e1 e2 _;cases e1;have:=Nat.eq_of_beq_eq_true hc;subst this;obtain⟨_,hz⟩:=lj e2;subst hz;obtain⟨hr,rfl,rfl⟩:=gz h;exact S3 ok hM hu dG aS ao hb hx (Nat.le_of_ble_eq_true hr)
       ·exact h.elim
      ·obtain⟨hr,rfl,rfl⟩:=gz h;exact SU ok hM hu dG aS ao hb rfl h1 h2 (H3 hr)
     ·rcases yX8 h with⟨hc,h⟩|⟨_,h⟩
      ·exact h.elim
      ·obtain⟨hr,rfl,rfl⟩:=gz h;exact SU ok hM hu dG aS ao hb trivial h1 h2 (H3 hr)
     ·exact h.elim
    ·exact h.elim
   ·exact h.elim
  ·exact h.elim
theorem S4 {M}(ok:Ok M){c v t ys}(hv:zX M c v)(h:kq M.h c=some ⟨t,ys⟩){kd}(ht:t=.int kd):
  ∃news,Rd M.H v ys.length t.size news∧∃F,∀i hi,qD M.H F t ys[i] (fun j=>news[i*t.size+j]?):=by
 unfold kq at h;split at h
 ·cases h;obtain⟨news,h1,h2⟩:=SO hv;exact⟨news,h1,_,h2⟩
 ·split at h
  ·rename_i own s xs ao;cases h;obtain⟨C,hC,hO⟩:=ok.obj _ _ ao;obtain⟨news,h1,h2⟩:=zz hC hO hv;exact⟨news,h1,_,h2⟩
  all_goals grind
 ·rename_i id i ver;split at h
  ·rename_i v' xs ao;cases fD:Nat.beq v' ver with
   |false=>simp_all
   |true=>
    rw[fD] at h;cases h;have e:v'=ver:=by simp_all
    subst e;obtain⟨C,hC,hO⟩:=ok.obj _ _ ao;obtain⟨C',aE,cp,_,aW⟩:=hv;rw[hC] at aE;cases aE;obtain⟨rb,rl,wg,rZ⟩:=aW hO.1;by_cases hi:i<xs.length
    ·obtain⟨B,pB,v2,k1,k2,k3,k4,k5,k6⟩:=CT hO hi;rw[wg] at k3;cases k3;rw[show xs.getD i []=xs[i] by simp_all];cases rb with
     |none=>
      obtain⟨rfl,h0⟩:=rZ;have cM:xs[i]=[]:=by grind
      rw[cM];obtain⟨news,q1,q2⟩:=H0 (H:=M.H) (F:=M.G) (t:=.int .i64) (A:=none) (c:=0);exact⟨news,q1,_,q2⟩
     |some R=>
      obtain⟨a,c,rfl,h1,h2,h3⟩:=rZ;by_cases h0:xs[i].length=0
      ·have cM:xs[i]=[]:=by grind
       rw[cM];obtain⟨news,q1,q2⟩:=H0 (H:=M.H) (F:=M.G) (t:=.int .i64) (A:=some ⟨R,a,none⟩) (c:=c);exact⟨news,q1,_,q2⟩
      ·have ha:a=0:=by omega
       subst ha;obtain ⟨news, q1, q2⟩ := SN (H := M.H) (F := fun _ => True) (t := .int .i64) (ys := xs[i]) (B := R) (o := 0) (c := c) h1 (fun j hj=>by
        simp[qD,Ty.size];simp_all)
       exact⟨news,q1,_,q2⟩
    ·have:C.rows[i]? =none:=List.getElem?_eq_none (by have:=hO.2.2.2.1;omega);simp_all
  ·cases h
 ·cases h
theorem S5 {M}(ok:Ok M){c v t ys}(hv:zX M c v)(h:kq M.h c=some ⟨t,ys⟩):∃A k,v=.slice A ys.length k:=by
 by_cases ht:t=.int .i64
 ·obtain⟨news,⟨A,k,e,_⟩,_⟩:=S4 ok hv h ht;simp_all
 unfold kq at h;split at h
 ·cases h;obtain⟨news,⟨A,k,e,_⟩,_⟩:=SO hv;simp_all
 ·rename_i id r;split at h
  ·rename_i own s xs ao;cases h;obtain⟨C,hC,hO⟩:=ok.obj _ _ ao;obtain⟨news,⟨A,k,e,_⟩,_⟩:=zz hC hO hv;simp_all
  ·rename_i ver xs ao;cases r with
   |none=>
    cases h;obtain⟨C,hC,hO⟩:=ok.obj _ _ ao;obtain⟨C',aE,A,k,e,_⟩:=hv;rw[hC] at aE;cases aE;exact⟨A,k,by rw[e,hO.2.1]⟩
   |some p=>cases h
  ·cases h
 all_goals grind
theorem vTp {M}(ok:Ok M){c v n}(hv:zX M c v)(h:Cu M.h c=some n):∃A k,v=.slice A n k:=by
 unfold Cu at h;split at h
 ·cases h;exact⟨none,0,hv⟩
 ·obtain⟨C,B,_,_,e⟩:=hv;simp_all
 ·split at h
  ·rename_i t xs hr;cases h;exact S5 ok hv hr
  ·cases h
theorem vCz {P w t e A n k T ts}(h0:ts[0]? =some t)(hu:P.underlying t=some (.slice e)):
  (Builtin.len_ ts T #[.slice A n k]).run P w=.ok (.int .i64 n) w:=by
 have hr:(underlying t).run P w=.ok (.slice e) w:=by simp[underlying,hu]
 simp[Builtin.len_,h0,hr,goInt]
theorem yQ0 {P M w}(ok:Ok M)(hM:M.H=w.heap){lt l rl v u ts T}(hl:zM (zV M) l rl.toList)
  (h:yK (L9 lt l) v u):qJ P (bif lt then Builtin.min_ ts T rl else Builtin.max_ ts T rl) M w v u:=by
 unfold L9 at h;split at h
 ·rename_i k x j y;obtain⟨rfl,rfl⟩:=wJ h;obtain⟨rl⟩:=rl
  match rl,hl with
  |[a,b],⟨h1,h2,_⟩=>
   rw[show a=.int k x from h1,show b=.int j y from h2];refine .pure (rv:=.int k (bif lt then(bif decide (y<x) then y else x) else(bif decide (y>x) then y else x))) ok hM ?_ rfl;cases lt<;>simp[Builtin.min_,Builtin.max_,Builtin.min2,Builtin.max2,Bool.cond_decide]
 ·rename_i k x j y i z;obtain⟨rfl,rfl⟩:=wJ h;obtain⟨rl⟩:=rl
  match rl,hl with
  |[a,b,c],⟨h1,h2,h3,_⟩=>
   rw[show a=.int k x from h1,show b=.int j y from h2,show c=.int i z from h3];refine .pure (rv:=_) ok hM ?_ rfl;cases lt<;>simp[Builtin.min_,Builtin.max_,Builtin.min2,Builtin.max2,Bool.cond_decide]
 ·exact h.elim
theorem yTa {M:zL}:∀{cs ns},zh cs=some ns→cs=ns.map (.int .i64)
 |[],ns,h=>by cases h;rfl
 |.int .i64 n::l,ns,h=>by
  unfold zh at h;split at h
  ·rename_i r hr;cases h;rw[yTa (M:=M) hr];rfl
  ·cases h
theorem yYn xs:∀(ns:List Int) i,zi xs i (ns.map (.int .i64))=(((xs.drop i).take ns.length)++ns.drop ((xs.drop i).take ns.length).length).map (.int .i64)
 |[],i=>by rfl
 |n::ns,i=>by
  simp only[List.map_cons,zi,yYn xs ns (i+1)];by_cases hi:i<xs.length
  ·have hb:Nat.blt i xs.length=true:=by simp_all
   rw[hb,List.drop_eq_getElem_cons hi];grind
  ·have hb:Nat.blt i xs.length=false:=by
    cases h:Nat.blt i xs.length with
    |false=>rfl
    |true=>exact absurd (by simp_all) hi
   have e1:xs.drop i=[]:=List.drop_eq_nil_of_le (by omega);grind
theorem vTh {P M w}(ok:Ok M)(hM:M.H=w.heap){t e ts T d s v u rd rs}(h0:ts[0]? =some t)(hu:P.underlying t=some (.slice e))(he:P.cellsOf e=1)
  (hd:zV M d rd) (hs:zV M s rs) (h:yK (CH M.h d s) v u):qJ P (Builtin.copy_ ts T #[rd,rs]) M w v u:=by
 unfold CH at h;split at h
 case h_2=>exact h.elim
 rename_i id off n s;split at h
 case h_2=>exact h.elim
 rename_i cells ys ao pF;split at h
 case h_2=>exact h.elim
 rename_i vs eP;split at h
 case h_2=>exact h.elim
 rename_i ns SC;obtain⟨_,rfl,rfl⟩:=gz h;clear h;obtain⟨C,B,hC,hB,rfl⟩:=hd;obtain⟨C',aE,B',vals,ev,k1,k2,k3,k4,k5⟩:=ok.obj id _ ao;rw[hC] at aE;cases aE;rw[hB] at k1;cases k1;obtain⟨c1,c2,c3⟩:=HM eP;obtain⟨i,hi⟩:=oC (P:=P) (t:=e) (by omega);obtain⟨A,k,rfl,ky⟩:∃A k,rs=.slice A ys.length k∧∃news,Rd M.H (.slice A ys.length k) ys.length 1 news∧news=ys.map (.int .i64):=by
  split at pF
  ·cases pF;exact⟨none,0,hs,[],⟨none,0,rfl,rfl,by simp,rfl⟩,rfl⟩
  ·obtain⟨news,hR,F,hE⟩:=S4 ok hs pF rfl;obtain⟨A,k,e,hl,r⟩:=hR;refine⟨A,k,e,news,⟨A,k,rfl,hl,r⟩,?_⟩;refine List.ext_getElem (by simpa[Ty.size] using hl) fun j h1 h2=>?_
   have:=hE j (by simpa using h2);simp only[qD,Ty.size,Nat.mul_one,Nat.add_zero] at this;rw[List.getElem?_eq_getElem h1,Option.some.injEq] at this;rw[this];simp
 obtain⟨news,⟨A',k',e',hl,cp,ky⟩,Ia⟩:=ky;cases e';let m:=min ys.length n;have hm:Nat.min ys.length n=m:=rfl;have Aw:(Builtin.firstCells 1 m (.slice A ys.length k)).run P w=.ok (news.take m).toArray w:=by
  have:Rd M.H (.slice A m k) m 1 (news.take m):=by
   refine⟨A,k,rfl,?_,fun u hu=>cp u (List.mem_of_mem_take hu),?_⟩;all_goals grind
  have:=this.first (P:=P) w hM.symm
  cases A<;>exact this
 have MQ:w.heap[B]? =some (.cells vals ev (0,0)):=by rw[←hM];exact k3
 have bN:=k4.length;have MO:(news.take m).length=m:=by rw[List.length_take,hl];omega
 have aK:off+(news.take m).length≤vals.size:=by
  rw[MO];simp at bN;omega
 have dY:=run_storeCells_at (P:=P) B off ev (news.take m) 0 vals w MQ (by simpa using aK) (fun v hv=>zm (cp v (List.mem_of_mem_take hv)));simp only[Nat.add_zero] at dY;have nG:(Builtin.copy_ ts T #[.slice (some ⟨B,off,none⟩) n n,.slice A ys.length k]).run P w=.ok (.int .i64 (m:Nat)) (w.setRow B (yS vals off (news.take m))):=by
  simp[Builtin.copy_,h0,run_underlying hu,Builtin.lenOf,iA w hi,he,hm,Aw,goInt];have e:(storeCells ⟨B,off,none⟩ (news.take m)).run P w=.ok () (w.setRow B (yS vals off (news.take m))):=dY;rw[e];rfl
 obtain⟨f1,f2,f3,f4⟩:=oF MQ (new:=yS vals off (news.take m)) (gA aK);have hH:∀b,b∉C.fp→(w.setRow B (yS vals off (news.take m))).heap[b]? =M.H[b]? :=fun b tH=>by
  rw[hM];exact f3 b fun e=>tH (e▸fz hB)
 have cQ:∀b,b<M.H.size→qU (w.setRow B (yS vals off (news.take m))).heap b=qU M.H b:=fun b _=>by rw[hM];exact f4 b
 let o':Obj:=.box true (cells.take off++zi ys 0 vs++cells.drop (off+n));have x:=zL.write_ext ok ao rfl hC C.le_refl hH cQ o';have aG:cells.take off++zi ys 0 vs++cells.drop (off+n)=cells.take off++(ys.take m).map (.int .i64)++cells.drop (off+((ys.take m).map (zZ.int .i64)).length):=by
  have hv:=yTa (M:=M) SC;have hnn:ns.length=n:=by rw[←c3,hv];simp
  have Ib:(ys.drop 0).take ns.length=ys.take m:=by
   grind
  rw[hv,yYn,Ib,List.map_append,List.map_drop,←hv,List.append_assoc,List.append_assoc,List.append_assoc]
  congr 2
  have MR:(ys.take m).length=m:=by rw[List.length_take];omega
  have e1:cells.drop (off+n)=(cells.drop (off+m)).drop (n-m):=by
   rw[List.drop_drop];congr 1;omega
  rw[List.length_map,MR,c2,List.drop_take,List.drop_drop,e1,List.take_append_drop]
 have := zL.write_ok ok ao rfl hC C.le_refl (fun _ h => h) (by rw [hM]; exact f1) hH cQ (o' := o') (by
  refine⟨B,_,ev,hB,k2,f2,?_,fun h=>(by cases h)⟩;rw[aG];refine Sa x k4 (us:=news.take m) ?_ (by simpa using aK);rw[Ia];refine zM.of_get (by simp) fun j h1 h2=>?_
  simp[zX])
 exact⟨_,_,_,nG,rfl,rfl,rfl,rfl,rfl,this.1,this.2,rfl⟩
theorem yG3 {P t}(h:HF P t=true):∃k e i,P.underlying t=some (.map k e)∧P.underlying k=some (.int .i64)∧P.info? e=some i∧i.zero=some (.bool false):=by
 unfold HF at h;split at h
 ·split at h
  ·rename_i hk hz;obtain⟨i,h1,h2⟩:=Option.bind_eq_some_iff.1 hz;grind
  ·cases h
 ·cases h
theorem vT3 {P M w}(ok:Ok M)(hM:M.H=w.heap){nm t v u}(h:yK (CC P nm M.h t) v u):qJ P (Instr.makeMap t none) M w v u:=by
 unfold CC at h;split at h
 case h_2=>exact h.elim
 rename_i aS;obtain⟨_,h⟩:=Av h;obtain⟨_,rfl,rfl⟩:=gz h;let C:qB:=⟨some M.H.size,0,0,0,[]⟩;have := zL.new_ok ok aS (.imap []) C (.map #[] 0) (by simp [C, qB.fp]) (by
  refine⟨M.H.size,#[],0,rfl,rfl,zl,by simp,fun n=>rfl⟩)
 refine⟨.map (some w.heap.size),w.alloc (.map #[] 0),_,?_,rfl,rfl,rfl,?_,rfl,this.1,this.2,C,M.H.size,κset_same _ _ _,rfl,by rw[hM]⟩
 ·rfl
 ·show M.H.push _=w.heap.push _;rw[hM]
theorem S6 {n}:∀{es i},(∀e∈es,∃m b,e.key=.int .i64 m∧e.val=.bool b)→
  (fh n es=none∧Instr.findNow (.int .i64) (.int .i64 n) es i=some none)∨
  (∃j b e,fh n es=some (.bool b)∧Instr.findNow (.int .i64) (.int .i64 n) es i=some (some (i+j,.bool b))∧es[j]? =some e∧e.key=.int .i64 n∧
   ∀f:MapEntry→MapEntry,(∀e,(f e).key=.int .i64 n)→fh n (es.modify j f)=some (f e).val∧(∀m,m≠n→fh m (es.modify j f)=fh m es)∧∀e'∈es.modify j f,e'∈es∨e'=f e)
 |[],i,_=>.inl ⟨rfl,rfl⟩
 |e::es,i,h=>by
  obtain⟨m,b,h1,h2⟩:=h e (by simp);by_cases hm:n=m
  ·subst hm;refine .inr ⟨0,b,e,?_,?_,rfl,h1,fun f hf=>⟨?_,fun m bn=>?_,fun e' he=>?_⟩⟩
   ·simp[fh,h1,h2]
   ·simp[Instr.findNow,Instr.sameNow,h1,h2]
   ·simp[fh,hf]
   ·simp[fh,hf,h1,bn]
   grind
  ·have hs:Instr.findNow (.int .i64) (.int .i64 n) (e::es) i=Instr.findNow (.int .i64) (.int .i64 n) es (i+1):=by
    have hb:(n==m)=false:=by simp[hm]
    simp[Instr.findNow,Instr.sameNow,h1,hb]
   have hf:fh n (e::es)=fh n es:=by simp[fh,h1,hm]
   rcases S6 (es:=es) (i:=i+1) (by grind) with⟨k1,k2⟩|⟨j,b',e',k1,k2,k3,k4,k5⟩
   ·exact .inl ⟨hf.trans k1,hs.trans k2⟩
   ·refine .inr ⟨j+1,b',e',hf.trans k1,by grind,by simp_all,k4,fun f hfk=>?_⟩;obtain⟨q1,q2,q3⟩:=k5 f hfk;refine⟨by simp[fh,h1,hm,q1],fun m' bn=>?_,fun e'' he=>?_⟩
    ·rw[List.modify_succ_cons];simp[fh,q2 m' bn]
    grind
theorem MS {P w r es ck}(h:w.heap[r]? =some (.map es ck)):(getObj r).run P w=.ok (.map es ck) w:=by
 simp[getObj,Sem.run,h]
theorem yWl {P w r es ck} o (h:w.heap[r]? =some (.map es ck)):(setObj r o).run P w=.ok () {w with heap:=w.heap.setIfInBounds r o}:=by
 simp[setObj,Sem.run,h]
theorem MU {P w k b n}(h:P.underlying k=some (.int .i64)):(Instr.checkKey b 10000 k (.int .i64 n)).run P w=.ok () w:=by
 unfold Instr.checkKey;simp[run_underlying h]
theorem MV {P w k n es r}(h:P.underlying k=some (.int .i64))(hf:Instr.findNow (.int .i64) (.int .i64 n) es 0=some r):(Instr.findKey k (.int .i64 n) es).run P w=.ok r w:=by
 unfold Instr.findKey;simp[run_underlying h,hf]
theorem vJ5 {P M w}(ok:Ok M)(hM:M.H=w.heap){t x i v u rx ri}(hx:zV M x rx)(hi:zV M i ri)(h:yK (CD P M.h t x i) v u):qJ P (Instr.lookup t rx ri false) M w v u:=by
 unfold CD at h;split at h
 case h_2=>exact h.elim
 rename_i id n;split at h
 case h_2=>exact h.elim
 rename_i de ao;obtain⟨hb,h⟩:=Av h;obtain⟨rfl,rfl⟩:=wJ h;obtain⟨k,e,inf,h1,h2,h3,h4⟩:=yG3 hb;obtain⟨C,B,hC,hB,rfl⟩:=hx;obtain⟨C',aE,B',es,ck,k1,k2,k3,k4,k5⟩:=ok.obj id _ ao;rw[hC] at aE;cases aE;rw[hB] at k1;cases k1;have nD:ri=.int .i64 n:=hi;subst nD;rw[hM] at k3;refine .pure (rv:=.bool ((de.lookup n).getD false)) ok hM ?_ rfl;have h5:=k5 n;unfold Instr.lookup;rcases S6 (n:=n) (i:=0) k4 with⟨q1,q2⟩|⟨j,b,e',q1,q2,q3,q4,q5⟩
 ·have:de.lookup n=none:=by cases hl:de.lookup n with|none=>rfl|some b=>simp_all
  simp[run_underlying h1,MS k3,MU h2,MV h2 q2,zeroValue,typeInfo,h3,h4,this]
 ·have:de.lookup n=some b:=by cases hl:de.lookup n with|none=>simp_all|some b=>simp_all
  simp[run_underlying h1,MS k3,MU h2,MV h2 q2,this]
theorem S7 {n b c}:∀{es},fh n es=none→∀m,fh m (es++[⟨.int .i64 n,.bool b,c⟩])=if m=n then some (.bool b) else fh m es
 |[],_,m=>by rfl
 |e::es,h,m=>by
  rw[List.cons_append];have aL:∀(m:Int) (l:List MapEntry),fh m (e::l)=match e.key with|.int .i64 k=>if m=k then some e.val else fh m l|_=>fh m l:=fun m l=>rfl
  rw[aL] at h;rw[aL,aL];split at h
  ·rename_i k hk;split at h
   ·cases h
   ·by_cases hm:m=k
    ·grind
    ·rw[if_neg hm,S7 h m,if_neg hm]
  ·exact S7 h m
theorem vW3 {P M w}(ok:Ok M)(hM:M.H=w.heap){t x i y v u rx ri ry}(hx:zV M x rx)(hi:zV M i ri)(hy:zV M y ry)(h:yK (CE P M.h t x i y) v u):
  v=.undef∧mI P (Instr.mapUpdate t rx ri ry) M w u:=by
 unfold CE at h;split at h
 case h_2=>exact h.elim
 rename_i id n b;split at h
 case h_2=>exact h.elim
 rename_i de ao;obtain⟨hb,h⟩:=Av h;obtain⟨_,rfl,rfl⟩:=gz h;obtain⟨k,e,inf,h1,h2,h3,h4⟩:=yG3 hb;obtain⟨C,B,hC,hB,rfl⟩:=hx;obtain⟨C',aE,B',es,ck,k1,k2,k3,k4,k5⟩:=ok.obj id _ ao;rw[hC] at aE;cases aE;rw[hB] at k1;cases k1;have nD:ri=.int .i64 n:=hi;subst nD;have hry:ry=.bool b:=hy;subst hry;have k3':=k3;rw[hM] at k3;have write:∀(sb:Array MapEntry) (wh:Nat),(Instr.mapUpdate t (.map (some B)) (.int .i64 n) (.bool b)).run P w=.ok () {w with heap:=w.heap.setIfInBounds B (.map sb wh)}→
   (∀e∈sb.toList,∃m b,e.key=.int .i64 m∧e.val=.bool b)→(∀m,fh m sb.toList=if m=n then some (.bool b) else fh m es.toList)→mI P (Instr.mapUpdate t (.map (some B)) (.int .i64 n) (.bool b)) M w [(id,.imap ((n,b)::de))]:=by
  intro sb wh hr he hf;have Ax:∀c,(w.heap.setIfInBounds B (.map sb wh))[c]? =if c=B then some (.map sb wh) else w.heap[c]? :=by grind
  have hH:∀c,c∉C.fp→(w.heap.setIfInBounds B (.map sb wh))[c]? =M.H[c]? :=fun c hc=>by
   rw[Ax,if_neg (fun(e:c=B)=>hc (by rw[e];exact fz hB)),hM]
  have cQ:∀c,c<M.H.size→qU (w.heap.setIfInBounds B (.map sb wh)) c=qU M.H c:=fun c _=>by
   unfold qU;grind
  have := zL.write_ok ok ao rfl hC C.le_refl (by simp) (by rw [hM]; simp) hH cQ (o' := .imap ((n, b) :: de)) (by
   refine⟨B,sb,wh,hB,k2,?_,he,fun m=>?_⟩
   ·show(w.heap.setIfInBounds B (.map sb wh))[B]? =_;rw[Ax,if_pos rfl]
   grind)
  exact⟨_,_,hr,rfl,rfl,rfl,rfl,rfl,this.1,this.2⟩
 refine⟨rfl,?_⟩;rcases S6 (n:=n) (i:=0) k4 with⟨q1,q2⟩|⟨j,b',e',q1,q2,q3,q4,q5⟩
 ·refine write (es.push ⟨.int .i64 n,.bool b,ck⟩) (ck+1) ?_ (fun e he=>?_) fun m=>?_
  ·unfold Instr.mapUpdate;simp[run_underlying h1,MS k3,MU h2,MV h2 q2,yWl _ k3]
  ·grind
  ·rw[Array.toList_push];exact S7 q1 m
 ·refine write (es.modify j fun e=>{e with key:=.int .i64 n,val:=.bool b}) ck ?_ (by grind) fun m=>?_
  ·unfold Instr.mapUpdate;rw[Nat.zero_add] at q2;simp only[Array.getElem?_toList] at q3;simp[run_underlying h1,MS k3,MU h2,MV h2 q2,yWl _ k3,q3,q4,Instr.keyThatStays,Instr.sameBits]
  all_goals grind
theorem ySi:∀(ns:List Int) (b:ByteArray),ns.foldl (fun r n=>r.push (UInt8.ofNat n.toNat)) b=⟨(b.data.toList++ou ns).toArray⟩
 |[],b=>by simp[ou]
 |n::ns,b=>by
  rw[List.foldl_cons,ySi ns];simp[ou]
theorem vXy {P M}(ok:Ok M){c v xs}(hv:zX M c v)(h:Ct M.h c=some xs){w}(hM:M.H=w.heap):
  ∃A n k,v=.slice A n k∧(Conv.bytesToString v).run P w=.ok (.string ⟨(ou xs).toArray⟩) w:=by
 unfold Ct at h;split at h
 ·cases h;refine⟨none,0,0,hv,?_⟩;rw[show v=.slice none 0 0 from hv];rfl
 ·split at h
  ·rename_i ys hr;obtain rfl:ys=xs:=by simp_all
   obtain⟨news,⟨A,k,e,hl,cp,ky⟩,F,hE⟩:=S4 ok hv hr rfl;refine⟨A,_,k,e,?_⟩;have hn:news=ys.map (Value.int .u8):=by
    refine List.ext_getElem (by simpa[Ty.size] using hl) fun j h1 h2=>?_
    have:=hE j (by simp_all);simp[qD,Ty.size] at this;grind
   subst e;cases A with
   |none=>
    have h1:ys=[]:=by grind
    subst h1;rfl
   |some a=>
    have mG:(loadCells a ys.length).run P w=.ok (ys.map (Value.int .u8)).toArray w:=by
     rcases ky with h0|⟨h1,h2⟩
     ·have h1:ys=[]:=by grind
      subst h1;rfl
     ·have:=Rd.first (P:=P) (H:=M.H) (v:=.slice (some a) ys.length k) (n:=ys.length) (size:=1) (news:=news) ⟨_,k,rfl,by grind,cp,by grind⟩ w hM.symm
      rw[hn] at this
      simpa[Builtin.firstCells] using this
    rw[run_bytesToString w a _ k ys mG,ySi];rfl
  ·cases h
structure tR (M:zL) (w:World) (u:vG) (M':zL) (w':World):Prop where
 os:w'.os=w.os
 tape:w'.tape=w.tape
 output:w'.output=w.output
 H:M'.H=w'.heap
 h:M'.h=qI M.h u
 ok:Ok M'
 step:vA M M'
def tS (P:Program)(f:Nat)(args:List zY)(h:Hp)(v:zY)(u:vG):Prop:=
 ∀(M:zL) (w:World) (vs:Array Value),M.h=h→M.H=w.heap→Ok M→zM (zV M) args vs.toList→
  ((callFunc f vs).run P w=.ok (.enter f vs) w∧Calls P f vs w fun
   |.returned rv,w'=>∃M',tR M w u M' w'∧zV M' v rv
   |_,_=>False)∨∃rv w' M',(callFunc f vs).run P w=.ok (.value rv) w'∧tR M w u M' w'∧zV M' v rv
def yGz (P:Program)(S:Ma):Prop:=∀k nm f args h v u,yK (S k nm f args h) v u→tS P f args h v u
structure gd (E:Env):Prop where
 eq:HT E.P E.eqT
 sums:yGz E.P E.sums
section
variable {P:Program} {Q:Exit→Act→World→Prop} {o:Oper} {a:Act} {w:World} {M:zL} {next:Act→World→Prop} {v:zY} {u:vG}
theorem gC {s}(hr:qJ P s M w v u)(he:execOp a.eval o=(do pure (.value (←s)):Sem Next))(hn:∀M' w' rv,tR M w u M' w'→zV M' v rv→next (a.put o.dst rv) w'):
  o.wp P a w next Q:=by
 obtain⟨rv,w',M',h1,h2,h3,h4,h5,h6,h7,h8,h9⟩:=hr;unfold Oper.wp;rw[he];simp[h1];exact hn M' w' rv ⟨h2,h3,h4,h5,h6,h7,h8⟩ h9
theorem yMd {s}(hr:mI P s M w u)(he:execOp a.eval o=(do s;pure .skip:Sem Next))(hn:∀M' w' rv,tR M w u M' w'→zV M' .undef rv→next (a.put o.dst rv) w'):
  o.wp P a w next Q:=by
 obtain⟨w',M',h1,h2,h3,h4,h5,h6,h7,h8⟩:=hr;unfold Oper.wp;rw[he];simp[h1];exact hn M' w' undef ⟨h2,h3,h4,h5,h6,h7,h8⟩ trivial
theorem pG (ok:Ok M)(hM:M.H=w.heap){rv}(hu:u=[])(hv:zV M v rv)(he:(execOp a.eval o).run P w=.ok (.value rv) w)(hn:∀M' w' rv,tR M w u M' w'→zV M' v rv→next (a.put o.dst rv) w'):
  o.wp P a w next Q:=by
 unfold Oper.wp;rw[he];subst hu;exact hn M w rv ⟨rfl,rfl,rfl,hM,rfl,ok,.refl M⟩ hv
end
theorem Ic {α β} f:∀(l:List α) (r:List β),l.mapM f=some r→zM (fun a b=>f a=some b) l r
 |[],r,h=>by simp at h;subst h;trivial
 |a::l,r,h=>by
  simp[Option.bind_eq_some_iff] at h;obtain⟨b,h1,bs,h2,h3⟩:=h;cases h3;exact⟨h1,Ic f l bs h2⟩
theorem zM.map_left {α β γ R}{f:α→γ}:∀{l} {m:List β},zM (fun a b=>R (f a) b) l m→zM R (l.map f) m
 |[],[],_=>trivial
 |_::_,_::_,h=>⟨h.1,zM.map_left h.2⟩
def _root_.Go.Operand.lit:Operand→Value
 |.const c=>c
 |_=>undef
theorem vL1 {P:Program}{M:zL}{w:World}{t:TypeId}{d}{y:Operand}{x:zZ}{rx ry:Value}{b:Bool}(hu:P.underlying t=some d)(hx:zX M x rx)(hy:ry=y.lit)
  (h:RE d y x=some b) op (sd:op=.eql∨op=.neq) ox oy:
  (eqGuard op t ox oy rx ry).run P w=.ok () w∧(binOp op t rx ry).run P w=.ok (.bool (rH op b)) w:=by
 have key:∀n,(Op.equalIn (n+1) t rx ry).run P w=.ok b w→(eqGuard op t ox oy rx ry).run P w=.ok () w→(binOp op t rx ry=match op with|.eql=>(do pure (.bool (←Op.equal t rx ry)))|_=>(do pure (.bool (!(←Op.equal t rx ry)))))→
   n=9999→(eqGuard op t ox oy rx ry).run P w=.ok () w∧(binOp op t rx ry).run P w=.ok (.bool (rH op b)) w:=by
  intro n h1 h2 h3 hn;have ga:(Op.equal t rx ry).run P w=.ok b w:=by subst hn;exact h1
  refine⟨h2,?_⟩;rw[h3];rcases sd with rfl|rfl<;>simp[ga,rH]
 unfold RE at h;split at h<;>cases h<;>simp only[Operand.lit] at hy<;>subst hy;all_goals (try obtain rfl:rx=_:=hx)
 all_goals (try obtain⟨C,B,_,_,_,rfl⟩:=hx)
 all_goals (try obtain⟨B,o,rfl,_⟩:=hx)
 all_goals (try obtain⟨cv,rfl,_⟩:=hx)
 all_goals (try obtain⟨⟨_,_,_,rfl⟩,_⟩:=hx)
 all_goals
  refine key 9999 ?_ ?_ ?_ rfl
  ·generalize 9999=n;unfold Op.equalIn;simp[run_underlying hu]
  ·rcases sd with rfl|rfl<;>simp[eqGuard]
  ·rcases sd with rfl|rfl<;>rfl
theorem vG1 {M}(ok:Ok M){c v n}(hv:zX M c v)(h:Cv M.h c=some n)(hn:0<n):∃a k,v=.slice (some a) n k:=by
 unfold Cv at h;split at h
 ·rename_i sh t xs;cases h;have hv:qD M.H (bif sh then M.G else M.F) (.sl t) xs (fun _=>some v):=hv;simp[qD] at hv;obtain⟨A,m,c,rfl,rfl,hc,h⟩:=hv;rcases h with⟨rfl,_⟩|⟨B,o,rfl,_⟩
  ·simp at hn
  ·exact⟨_,_,rfl⟩
 ·rename_i id;split at h
  ·rename_i own t xs ao;cases h;obtain⟨C,hC,hO⟩:=ok.obj _ _ ao;obtain⟨C',aE,A,k,e,hS⟩:=hv;rw[hC] at aE;cases aE;have hl:C.len=xs.length:=hO.1;rw[e,hl];cases hB:C.blk with
   |none=>rw[hB] at hS;omega
   |some B=>
    rw[hB] at hS;obtain⟨_,a,rfl,_⟩:=hS;exact⟨_,_,rfl⟩
  ·cases h
 ·cases h
theorem vY5 {P:Program}{w:World}{t e}{a n k}(hu:P.underlying t=some (.slice e)) op (sd:op=.eql∨op=.neq) ox oy:
  (eqGuard op t ox oy (.slice (some a) n k) (.slice none 0 0)).run P w=.ok () w∧(binOp op t (.slice (some a) n k) (.slice none 0 0)).run P w=.ok (.bool (rH op false)) w:=by
 have key:∀m,(Op.equalIn (m+1) t (.slice (some a) n k) (.slice none 0 0)).run P w=.ok false w:=fun m=>by
  unfold Op.equalIn;simp[run_underlying hu]
 have h1:(Op.equal t (.slice (some a) n k) (.slice none 0 0)).run P w=.ok false w:=key 9999;rcases sd with rfl|rfl
 ·refine⟨by simp[eqGuard],?_⟩;rw[show binOp .eql t (.slice (some a) n k) (.slice none 0 0)=(do pure (.bool (←Op.equal t (.slice (some a) n k) (.slice none 0 0)))) from rfl];simp[h1,rH]
 ·refine⟨by simp[eqGuard],?_⟩;rw[show binOp .neq t (.slice (some a) n k) (.slice none 0 0)=(do pure (.bool (!(←Op.equal t (.slice (some a) n k) (.slice none 0 0))))) from rfl];simp[h1,rH]
theorem S8 {M}{ev:Operand→zY}{ρ:Operand→Value}(aQ:∀x,zV M (ev x) (ρ x)):∀(l:List (Nat×Operand)),zM (zx M) (l.map fun p=>(p.1,ev p.2)) (l.map fun p=>(p.1,ρ p.2))
 |[]=>trivial
 |p::l=>⟨⟨rfl,aQ p.2⟩,S8 aQ l⟩
theorem vCh {f:Operand→Value}(parts:Array (Nat×Operand)):(parts.map fun(i,x)=>(i,f x))=(parts.toList.map fun p=>(p.1,f p.2)).toArray:=by
 grind
theorem yP2 {M}{ev:Operand→zY}{ρ}(aQ:∀x,zV M (ev x) (ρ x)):∀{l ids},zM (fun x id=>vt (ev x)=some id) l ids→
  zM (fun id u=>∃C B,M.κ id=some C∧C.blk=some B∧u=.pointer (some ⟨B,0,none⟩)) ids (l.map ρ)
 |[],[],_=>trivial
 |x::l,id::ids,h=>by
  refine⟨?_,yP2 aQ h.2⟩;have h1:vt (ev x)=some id:=h.1;have hx:=aQ x;unfold vt at h1;split at h1
  ·rename_i Dh hc;cases h1;rw[hc] at hx;exact hx
  ·cases h1
theorem yXo {M ev ρ}(aQ:∀x,zV M (ev x) (ρ x)):∀(l:List Operand),zM (zV M) (l.map ev) (l.map ρ)
 |[]=>trivial
 |x::l=>⟨aQ x,yXo aQ l⟩
theorem vSu {E}(hE:gd E){A}{k pre}{Q}{o}{a}{w}{M}{next}{v}{u ev}(ok:Ok M)(hM:M.H=w.heap)
  (aQ:∀x,zV M (ev x) (a.eval x)) (h:yK (lg E A k pre o ev M.h) v u) (hn:∀M' w' rv,tR M w u M' w'→zV M' v rv→next (a.put o.dst rv) w'):o.wp E.P a w next Q:=by
 unfold lg at h;dsimp only at h;split at h
 ·rename_i x ho;obtain⟨rfl,rfl⟩:=wJ h;exact pG ok hM rfl (aQ x) (by cases o;cases ho;rfl) hn
 ·rename_i x ho;obtain⟨rfl,rfl⟩:=wJ h;exact pG ok hM rfl (aQ x) (by cases o;cases ho;rfl) hn
 ·rename_i c x y ho;split at h
  ·rename_i cb hc;have ll:=aQ c;rw[hc] at ll;have ll:a.eval c=.bool cb:=ll;split at h
   ·rename_i xb yb hx hy;obtain⟨rfl,rfl⟩:=wJ h;have h1:=aQ x;have h2:=aQ y;rw[hx] at h1;rw[hy] at h2;refine pG (rv:=.bool (bif cb then xb else yb)) ok hM rfl (show zV M (.c (.bool _)) (.bool _) from rfl) ?_ hn;have h1:a.eval x=.bool xb:=h1;have h2:a.eval y=.bool yb:=h2;cases o;cases ho;show(do pure (.value (if←asBool (a.eval c) then a.eval x else a.eval y)):Sem Next).run E.P w=_;cases cb<;>simp[ll,asBool,h1,h2]
   ·refine pG (rv:=if cb then a.eval x else a.eval y) ok hM ?_ ?_ ?_ hn
    ·rcases h with⟨_,_,rfl⟩|⟨_,⟨_,_,rfl⟩|⟨_,h⟩⟩
     ·rfl
     ·rfl
     ·exact h.elim
    ·rcases h with⟨rfl,rfl,_⟩|⟨rfl,⟨_,rfl,_⟩|⟨_,h⟩⟩
     ·exact aQ x
     ·exact aQ y
     ·exact h.elim
    ·cases o;cases ho;show(do pure (.value (if←asBool (a.eval c) then a.eval x else a.eval y)):Sem Next).run E.P w=_;cases cb<;>simp[ll,asBool]
  ·exact h.elim
 ·rename_i t ho;split at h
  ·rename_i zs aS hz;obtain⟨_,rfl,rfl⟩:=gz h;exact gC (vIe ok hM aS hz) (by cases o;cases ho;rfl) hn
  ·exact h.elim
 ·rename_i t x ho;split at h
  ·rename_i vs aS hv;obtain⟨_,rfl,rfl⟩:=gz h;exact gC (vWh ok hM aS (aQ x) hv _) (by cases o;cases ho;rfl) hn
  ·exact h.elim
 ·rename_i t parts ho;have hp:=S8 aQ parts.toList;have:=vP6 ok hM hp h;exact gC this (by cases o;cases ho;rw[←vCh];rfl) hn
 ·rename_i t n parts ho;have hp:=S8 aQ parts.toList;exact gC (vDb ok hM hp h) (by cases o;cases ho;rw[←vCh];rfl) hn
 ·rename_i t x ho;exact gC (vP2 ok hM (aQ x) h) (by cases o;cases ho;rfl) hn
 ·rename_i t x y ho;obtain⟨rfl,hr⟩:=Sn ok hM (aQ x) (aQ y) h;exact yMd hr (by cases o;cases ho;rfl) hn
 ·rename_i x ho;have hx:=aQ x;have key:∀c,ev x=.c c→v=.c c→u=[]→(match a.eval x with|.pointer none|.nilIface|.nilFunc=>False|.func (.method _) _ _=>False|_=>True)→o.wp E.P a w next Q:=by
   intro c hc hv hu hm;rw[hc] at hx;refine pG (rv:=a.eval x) ok hM hu (by rw[hv];exact hx) ?_ hn;cases o;cases ho;simp only[execOp];generalize a.eval x=r at*
   split<;>first|rfl|exact hm.elim
  split at h
  ·rename_i i j hc;obtain⟨rfl,rfl⟩:=wJ h;refine key _ hc rfl rfl ?_;rw[hc] at hx;obtain⟨C,B,_,_,e⟩:=hx;rw[e];trivial
  ·rename_i i j k hc;obtain⟨rfl,rfl⟩:=wJ h;refine key _ hc rfl rfl ?_;rw[hc] at hx;obtain⟨C,B,_,_,_,e⟩:=hx;rw[e];trivial
  ·rename_i i j k l hc;obtain⟨rfl,rfl⟩:=wJ h;refine key _ hc rfl rfl ?_;rw[hc] at hx;obtain⟨B,o,e,_⟩:=hx;rw[e];trivial
  ·rename_i i j hc;obtain⟨rfl,rfl⟩:=wJ h;refine key _ hc rfl rfl ?_;rw[hc] at hx;obtain⟨cv,e,_⟩:=hx;rw[e];trivial
  ·exact h.elim
 ·rename_i op t x y _ ho;cases hc:(RG y&&RF op) with
  |false=>
   rw[hc] at h;exact gC (vXf hE.eq ok hM (aQ x) (aQ y) h) (by cases o;cases ho;rfl) hn
  |true=>
   rw[hc] at h;rw[Bool.and_eq_true] at hc;have sd:op=.eql∨op=.neq:=by cases op<;>first|(left;rfl)|(right;rfl)|(cases hc.2)
   split at h
   ·rename_i d cv hu ll;split at h
    ·rename_i b hb;obtain⟨rfl,rfl⟩:=wJ h;have hx:=aQ x;rw[ll] at hx;have hy:a.eval y=y.lit:=by
      cases y<;>first|rfl|(cases hc.1)
     obtain⟨h1,h2⟩:=vL1 (w:=w) hu hx hy hb op sd x y;refine pG (rv:=.bool (rH op b)) ok hM rfl (show zV M (.c (.bool _)) (.bool _) from rfl) ?_ hn;cases o;cases ho;show(do pure (.value (←(do eqGuard op t x y (a.eval x) (a.eval y);binOp op t (a.eval x) (a.eval y)))):Sem Next).run E.P w=_;simp only[Sem.run_bind,h1,Result.andThen_ok,h2,Sem.run_pure]
    ·split at h
     ·rename_i n hln abc;obtain⟨lN,rfl,rfl⟩:=mF h;have hx:=aQ x;rw[ll] at hx;obtain⟨a',k',hx⟩:=vG1 ok hx hln (by simpa using lN);obtain⟨h1,h2⟩:=vY5 (P:=E.P) (w:=w) (a:=a') (n:=n) (k:=k') hu op sd x (.const (.slice none 0 0));have hy:a.eval (.const (.slice none 0 0))=.slice none 0 0:=rfl;refine pG (rv:=.bool (rH op false)) ok hM rfl (show zV M (.c (.bool _)) (.bool _) from rfl) ?_ hn;cases o;cases ho;show(do pure (.value (←(do eqGuard op t x (.const (.slice none 0 0)) (a.eval x) (a.eval (.const (.slice none 0 0)));binOp op t (a.eval x) (a.eval (.const (.slice none 0 0)))))):Sem Next).run E.P w=_;rw[hx,hy];simp only[Sem.run_bind,h1,Result.andThen_ok,h2,Sem.run_pure]
     ·exact h.elim
   ·exact h.elim
 ·rename_i op t x ho;exact gC (vLl ok hM (aQ x) h) (by cases o;cases ho;rfl) hn
 ·rename_i s d x ho;split at h
  ·rename_i k1 k k2 n hs hd hx;obtain⟨rfl,rfl⟩:=wJ h;have lO:=aQ x;rw[hx] at lO;have lO:a.eval x=.int k2 n:=lO;refine pG (rv:=.int k (k.wrap n)) ok hM rfl (show zV M (.c (.int _ _)) (.int _ _) from rfl) ?_ hn;cases o;cases ho;show(do pure (.value (←convert s d (a.eval x))):Sem Next).run E.P w=_;simp[convert,run_underlying hs,run_underlying hd,lO,Conv.intToInt]
  ·rename_i e c hs hd hx;split at h
   ·rename_i xs he Ie;obtain⟨rfl,rfl⟩:=wJ h;have lO:=aQ x;rw[hx] at lO;obtain⟨A,n,k,e1,e2⟩:=vXy (P:=E.P) (w:=w) ok lO Ie hM;refine pG (rv:=.string ⟨(ou xs).toArray⟩) ok hM rfl (show zV M (.c (.str xs)) _ from rfl) ?_ hn;cases o;cases ho;show(do pure (.value (←convert s d (a.eval x))):Sem Next).run E.P w=_;rw[e1] at e2⊢;simp only[Sem.run_bind,run_convert_bytes_string w s d e A n k hs he hd,e2,Result.andThen_ok,Sem.run_pure]
   ·exact h.elim
  ·exact h.elim
 ·rename_i f first captured ho
  cases hf:Nat.beq first.size 0 with
  |false=>rw[hf] at h;exact h.elim
  |true=>
   rw[hf] at h;simp only[cond_true] at h;split at h
   ·rename_i ids lP;obtain⟨rfl,rfl⟩:=wJ h;have h0:first=#[]:=Array.eq_empty_of_size_eq_zero (by simpa using hf)
    refine pG (rv:=.func (.func f) #[] (captured.map a.eval)) ok hM rfl ?_ ?_ hn
    case refine_2=>
     cases o;cases ho;show(do pure (.value (←Instr.makeFunc (.func f) (first.map a.eval) (captured.map a.eval))):Sem Next).run E.P w=_;subst h0;simp[Instr.makeFunc]
    refine⟨_,rfl,?_⟩;rw[Array.toList_map];exact yP2 aQ (Ic _ _ _ lP)
   ·exact h.elim
 ·rename_i t l c ho;exact gC (vWu ok hM (aQ l) (aQ c) h) (by cases o;cases ho;rfl) hn
 ·rename_i t ho;exact gC (vT3 ok hM h) (by cases o;cases ho;rfl) hn
 ·rename_i t x i ho;exact gC (vJ5 ok hM (aQ x) (aQ i) h) (by cases o;cases ho;rfl) hn
 ·rename_i t x i y ho;obtain⟨rfl,hr⟩:=vW3 ok hM (aQ x) (aQ i) (aQ y) h;exact yMd hr (by cases o;cases ho;rfl) hn
 ·rename_i t x lo hi mx ho;have hO:∀y:Option Operand,C5 M (y.map ev) (y.map a.eval):=fun y=>by
   cases y with
   |none=>trivial
   |some y=>exact aQ y
  exact gC (vG0 ok hM (aQ x) (hO lo) (hO hi) (hO mx) h) (by cases o;cases ho;rfl) hn
 ·rename_i t x f ho;exact gC (vKx ok hM (aQ x) h) (by cases o;cases ho;rfl) hn
 ·rename_i t x f ho;exact gC (vS3 ok hM (aQ x) h) (by cases o;cases ho;rfl) hn
 ·rename_i t x i ho;exact gC (Sp ok hM (aQ x) (aQ i) h) (by cases o;cases ho;rfl) hn
 ·rename_i t x i ho;exact gC (vY1 ok hM (aQ x) (aQ i) h) (by cases o;cases ho;rfl) hn
 ·rename_i t i ho;have ht:=aQ t;split at h
  ·rename_i xs Ie;rw[Ie] at ht;obtain⟨vs,dE,bo⟩:=ht;split at h
   ·rename_i g cs hi;obtain⟨hp,rfl⟩:=R2 h;have hl:=bo.length;have bj:i<xs.length:=by
     rcases Nat.lt_or_ge i xs.length with h|h
     ·exact h
     ·rw[List.getElem?_eq_none h] at hi;cases hi
    have kx:i<vs.size:=by simp at hl;omega
    have hc:=bo.get i bj (by simpa using kx);rw[List.getElem?_eq_getElem bj,Option.some.injEq] at hi;rw[hi] at hc;refine pG (rv:=vs[i]) ok hM rfl ?_ ?_ hn
    ·rcases R5 hp with⟨e1,rfl⟩|⟨e1,c,rfl,rfl⟩
     ·cases e1;exact hc
     ·cases e1;exact hc
    ·cases o;cases ho;show(do pure (.value (←Instr.extract (a.eval t) i)):Sem Next).run E.P w=_;rw[dE];simp[Instr.extract,kx]
   ·exact h.elim
  ·exact h.elim
 ·rename_i c ho;have cJ:=yXo aQ c.args.toList;have exec:∀b,c.callee=.builtin b→∀s:Sem Value,(∀C,Go.builtin b c.argTypes o.type C (c.args.map a.eval)=(do pure (.value (←s)):Sem Next))→execOp a.eval o=(do pure (.value (←s)):Sem Next):=fun b hb s hs=>by
   cases o;cases ho;show(do let d←resolve a.eval c _;invoke d.target d.args:Sem Next)=_;unfold resolve;rw[hb];exact hs _
  have kE:c.args.map a.eval=(c.args.toList.map a.eval).toArray:=by cases c.args;simp
  split at h
  ·rename_i b kF;unfold RU at h;split at h
   ·split at h
    case h_2=>exact h.elim
    rename_i x hx;have h1:∃rx,(c.args.toList.map a.eval).toArray=#[rx]∧zX M x rx:=by
     rw[hx] at cJ
     match hl:c.args.toList.map a.eval,cJ with
     |[rx],hh=>exact⟨rx,rfl,hh.1⟩
    obtain⟨rx,Ay,lO⟩:=h1;split at h
    ·rename_i e hu;split at h
     ·rename_i n hlen;obtain⟨rfl,rfl⟩:=wJ h;obtain⟨t,ht,hu⟩:=Option.bind_eq_some_iff.1 hu;obtain⟨A,k,rfl⟩:=vTp ok lO hlen;refine gC (s:=Builtin.len_ c.argTypes o.type (c.args.map a.eval)) ?_ (exec _ kF _ fun _=>rfl) hn;rw[kE,Ay];exact .pure ok hM (vCz ht hu) rfl
     ·exact h.elim
    ·exact h.elim
   ·split at h
    case h_2=>exact h.elim
    rename_i b x hx;have h1:∃rb rx,(c.args.toList.map a.eval).toArray=#[rb,rx]∧zV M b rb∧zV M x rx:=by
     rw[hx] at cJ
     match hl:c.args.toList.map a.eval,cJ with
     |[rb,rx],hh=>exact⟨rb,rx,rfl,hh.1,hh.2.1⟩
    obtain⟨rb,rx,Ay,S9,lO⟩:=h1;split at h
    ·rename_i t t' hts;obtain⟨htt,h'⟩:=Av h;have:t=t':=by simpa using htt
     subst this;refine gC (s:=Builtin.append_ c.argTypes o.type (c.args.map a.eval)) ?_ (exec _ kF _ fun _=>rfl) hn;have ht:c.argTypes=#[t,t]:=by
      have:=congrArg List.toArray hts
      simpa using this
     rw[kE,Ay,ht];exact vPy ok hM S9 lO h'
    ·exact h.elim
   ·split at h
    case h_2=>exact h.elim
    rename_i d s hx;have h1:∃rb rx,(c.args.toList.map a.eval).toArray=#[rb,rx]∧zV M d rb∧zV M s rx:=by
     rw[hx] at cJ
     match hl:c.args.toList.map a.eval,cJ with
     |[rb,rx],hh=>exact⟨rb,rx,rfl,hh.1,hh.2.1⟩
    obtain⟨rb,rx,Ay,S9,lO⟩:=h1;split at h
    ·rename_i e hu;obtain⟨Ta,h⟩:=Av h;obtain⟨t,ht,hu⟩:=Option.bind_eq_some_iff.1 hu;refine gC (s:=Builtin.copy_ c.argTypes o.type (c.args.map a.eval)) ?_ (exec _ kF _ fun _=>rfl) hn;rw[kE,Ay];exact vTh ok hM ht hu (by simpa using Ta) S9 lO h
    ·exact h.elim
   ·split at h
    case h_2=>exact h.elim
    rename_i id lo n hx;have h1:∃rx,(c.args.toList.map a.eval).toArray=#[rx]∧zX M (.osl id (some (lo,n))) rx:=by
     rw[hx] at cJ
     match hl:c.args.toList.map a.eval,cJ with
     |[rx],hh=>exact⟨rx,rfl,hh.1⟩
    obtain⟨rx,Ay,lO⟩:=h1;split at h
    ·rename_i t ht;refine gC (s:=Builtin.clear_ c.argTypes o.type (c.args.map a.eval)) ?_ (exec _ kF _ fun _=>rfl) hn;rw[kE,Ay];obtain⟨rv,w',M',q1,q2⟩:=vFc (T:=o.type) ok hM lO h;refine⟨rv,w',M',?_,q2⟩;have e:(Builtin.clear_ c.argTypes o.type #[rx]).run E.P w=(Builtin.clear_ #[t] o.type #[rx]).run E.P w:=by
      simp only[Builtin.clear_,ht];rfl
     rw[e];exact q1
    ·exact h.elim
   ·refine gC (s:=Builtin.max_ c.argTypes o.type (c.args.map a.eval)) ?_ (exec _ kF _ fun _=>rfl) hn;rw[kE];exact yQ0 (lt:=false) (ts:=c.argTypes) (T:=o.type) ok hM cJ h
   ·refine gC (s:=Builtin.min_ c.argTypes o.type (c.args.map a.eval)) ?_ (exec _ kF _ fun _=>rfl) hn;rw[kE];exact yQ0 (lt:=true) (ts:=c.argTypes) (T:=o.type) ok hM cJ h
   ·exact h.elim
  ·rename_i f kF;split at h
   ·rename_i Tb cap hf;have hfv:=aQ f;rw[hf] at hfv;obtain⟨cv,ll,Ig⟩:=hfv;have bo:zM (zV M) (c.args.toList.map ev++cap.map fun id=>.c (.ptr id 0)) (c.args.map a.eval++cv).toList:=by
     rw[Array.toList_append,Array.toList_map];exact cJ.append (zM.map_left Ig)
    have tL:(execOp a.eval o).run E.P w=(callFunc Tb (c.args.map a.eval++cv)).run E.P w:=by
     cases o;cases ho;show(do let d←resolve a.eval c _;invoke d.target d.args:Sem Next).run E.P w=_;unfold resolve;rw[kF];simp only[ll,Deferred.ofValue,Sem.run_bind,Sem.run_pure,Result.andThen_ok,invoke,Array.empty_append]
    rcases hE.sums k _ Tb _ M.h v u h M w _ rfl hM ok bo with⟨h1,h2⟩|⟨rv,w',M',h1,hB,hv⟩
    case inr=>
     unfold Oper.wp;rw[tL,h1];exact hn M' w' rv hB hv
    unfold Oper.wp;rw[tL,h1,Oper.upon_enter];refine Calls.mono h2 fun e w' he=>?_
    cases e with
    |returned rv=>
     obtain⟨M',hB,hv⟩:=he;exact hn M' w' rv hB hv
    |panicked _=>exact he.elim
    |outgrown=>exact he.elim
   ·exact h.elim
  ·exact h.elim
 ·exact h.elim
section
variable {P:Program} {h h':Hp}
theorem vJ4 {t a}(hh:∀id∈yM a,h id=h' id):Cx P h t a=Cx P h' t a:=by
 unfold Cx;cases a with
 |c v=>cases v<;>first|rfl|(have:=hh _ (List.mem_singleton.2 rfl);simp_all)
 |_=>rfl
theorem yAa {v}(hh:∀id∈vP v,h id=h' id):ow h v=ow h' v:=by
 unfold ow;cases v<;>first|rfl|(have:=hh _ (List.mem_singleton.2 rfl);simp_all)
theorem Tc:∀{vs},(∀id∈vs.flatMap vP,h id=h' id)→nv h vs=nv h' vs
 |[],_=>rfl
 |v::vs,hh=>by
  simp  at hh;unfold nv;rw[yAa fun id hi=>hh id (.inl hi),Tc (by grind)]
theorem yVs {v vs}(e:ot v=some vs):vs.flatMap vP=yM v:=by
 unfold ot at e;split at e
 ·cases e;simp[yM]
 ·cases e;rfl
 ·cases e
theorem vYg {t a v}(ha:∀id∈yM a,h id=h' id)(hv:∀id∈yM v,h id=h' id):Cy P h t a v=Cy P h' t a v:=by
 unfold Cy;cases e:ot v with
 |none=>rfl
 |some vs=>
  have hf:nv h vs=nv h' vs:=Tc (by rw[yVs e];exact hv);cases a with
  |c x=>
   cases x with
   |mptr id i=>
    have h1:=ha _ (List.mem_singleton.2 rfl);simp only[h1];generalize h' id=ob;rcases ob with _|(_|_|_|_|_|_|_)<;>first|rfl|skip
    all_goals cases v with
    |c y=>cases y with
     |osl jd r=>cases r with
      |none=>
       have h2:=hv _ (List.mem_singleton.2 rfl);simp_all
      |some _=>rfl
     |_=>rfl
    |_=>rfl
   |ptr id off=>
    have h1:=ha _ (List.mem_singleton.2 rfl);simp_all
   |eptr id i off=>
    have h1:=ha _ (List.mem_singleton.2 rfl);simp_all
   |meptr id i j ver=>
    have h1:=ha _ (List.mem_singleton.2 rfl);simp[h1]
   |_=>rfl
  |_=>rfl
theorem MW {v}(hh:∀id∈vP v,h id=h' id):kq h v=kq h' v:=by
 unfold kq;cases v<;>first|rfl|(have:=hh _ (List.mem_singleton.2 rfl);simp_all)
theorem vE0 {v}(hh:∀id∈vP v,h id=h' id):Cu h v=Cu h' v:=by
 have e:=MW hh;unfold Cu;grind
theorem vY9 {t x i}(hh:∀id∈yM x,h id=h' id):Cz P h t x i=Cz P h' t x i:=by
 unfold Cz;generalize P.underlying t=d;rcases d with _|d
 ·rfl
 ·cases d with
  |slice e=>
   cases x with
   |c v=>
    cases i with
    |c iv=>
     cases iv with
     |int k n=>cases v<;>first|rfl|(have:=hh _ (List.mem_singleton.2 rfl);simp_all)
     |_=>cases v<;>rfl
    |_=>rfl
   |_=>rfl
  |array n e=>
   grind
  |_=>rfl
theorem vHf {nm t}(h0:h nm=h' nm):CC P nm h t=CC P nm h' t:=by
 unfold CC;rw[h0]
theorem vHb {t x i}(hh:∀id∈yM x,h id=h' id):CD P h t x i=CD P h' t x i:=by
 unfold CD;split
 ·rename_i id n;rw[hh id (by simp[yM,vP])]
 ·rfl
theorem vWj {t x i y}(hh:∀id∈yM x,h id=h' id):CE P h t x i y=CE P h' t x i y:=by
 unfold CE;split
 ·rename_i id n b;rw[hh id (by simp[yM,vP])]
 ·rfl
theorem vH7 {t x lo hi mx}(hh:∀id∈yM x,h id=h' id):CF P h t x lo hi mx=CF P h' t x lo hi mx:=by
 unfold CF;split
 ·rfl
 ·rename_i id r _;rw[hh id (by simp[yM,vP])]
 ·rename_i id _;rw[hh id (by simp[yM,vP])]
 ·rename_i id off _;rw[hh id (by simp[yM,vP])]
 ·rfl
theorem Td {v}(hh:∀id∈yM v,h id=h' id):ze h v=ze h' v:=by
 unfold ze;cases v with
 |c v=>cases v with
  |osl jd r=>cases r with
   |none=>
    have h2:=hh _ (List.mem_singleton.2 rfl);simp_all
   |some _=>rfl
  |_=>rfl
 |_=>rfl
theorem yHl:∀{parts rows},(∀id∈(parts.map (·.2)).flatMap yM,h id=h' id)→zg h rows parts=zg h' rows parts
 |[],_,_=>rfl
 |(i,v)::rest,rows,hh=>by
  simp only[List.map_cons,List.flatMap_cons,List.mem_append] at hh;unfold zg;rw[Td fun id hi=>hh id (.inl hi)];cases ze h' v with
  |none=>rfl
  |some p=>simp[yHl fun id hi=>hh id (.inr hi)]
theorem vAy {t}:∀{parts xs},(∀id∈(parts.map (·.2)).flatMap yM,h id=h' id)→rI h t xs parts=rI h' t xs parts
 |[],_,_=>rfl
 |(i,v)::rest,xs,hh=>by
  simp only[List.map_cons,List.flatMap_cons,List.mem_append] at hh;unfold rI;cases e:ot v with
  |none=>rfl
  |some vs=>
   have hf:nv h vs=nv h' vs:=Tc (by rw[yVs e];simp_all);simp[hf];cases nv h' vs with
   |none=>rfl
   |some p=>
    dsimp only;cases HB t p.1 with
    |none=>rfl
    |some x=>simp[vAy fun id hi=>hh id (.inr hi)]
theorem vVx {mat nm t n parts}(h0:h nm=h' nm)(hh:∀id∈(parts.map (·.2)).flatMap yM,h id=h' id):
  CA P mat nm h t n parts=CA P mat nm h' t n parts:=by
 have e':∀ty:Ty,rI h ty (List.replicate n ty.dflt) parts=rI h' ty (List.replicate n ty.dflt) parts:=fun ty=>vAy hh
 unfold CA;rw[h0,yHl hh];simp_all
theorem vUn {mat nm t l c}(h0:h nm=h' nm):CB P mat nm h t l c=CB P mat nm h' t l c:=by
 unfold CB;rw[h0]
theorem vGg {t v}(hh:∀id∈vP v,h id=h' id):tz h t v=tz h' t v:=by
 unfold tz;cases v with
 |osl id r=>
  have:=hh _ (List.mem_singleton.2 rfl);simp_all
 |_=>rfl
theorem vGu {mat:Bool}{nm:Nat}{t:TypeId}{b x:zY}(h0:h nm=h' nm)(hb:∀id∈yM b,h id=h' id)(hx:∀id∈yM x,h id=h' id):CG P mat nm h t b x=CG P mat nm h' t b x:=by
 unfold CG;rw[h0];generalize P.underlying t=d;rcases d with _|d
 ·rfl
 cases d with
 |slice e=>
  generalize h' nm=on;cases on with
  |some _=>rfl
  |none=>
   cases b with
   |c b=>
    cases x with
    |c x=>
     have ht:∀ty,tz h ty x=tz h' ty x:=fun ty=>vGg hx
     simp only[ht];cases b with
     |osl id r=>
      have h1:=hb _ (List.mem_singleton.2 rfl);simp only[h1];cases x with
      |osl jd r2=>
       have h2:=hx _ (List.mem_singleton.2 rfl);grind
      |_=>cases mat with
       |false=>rfl
       |true=>
        generalize kp P e=et;rcases et with _|(_|_|_|_)<;>first|rfl|skip
        rename_i t2;cases t2<;>first|rfl|skip
        rename_i k;cases k<;>cases r<;>rfl
     |_=>cases mat with
      |false=>rfl
      |true=>
       generalize kp P e=et;rcases et with _|(_|_|_|_)<;>first|rfl|skip
       rename_i t2;cases t2<;>first|rfl|skip
       rename_i k;cases k<;>rfl
    |_=>rfl
   |_=>rfl
 |_=>rfl
theorem vD3 {d s}(hd:∀id∈yM d,h id=h' id)(hs:∀id∈yM s,h id=h' id):CH h d s=CH h' d s:=by
 unfold CH;cases d with
 |c d=>
  cases s with
  |c s=>
   cases d with
   |bsl id off n=>
    have h1:=hd _ (List.mem_singleton.2 rfl);have h2:kq h s=kq h' s:=MW hs;grind
   |_=>rfl
  |_=>simp
 |_=>rfl
end
theorem vGf {E}{A}{k pre}{o}{ev tT}{h}(he:∀x∈o.op.operands,ev x=tT x):lg E A k pre o ev h=lg E A k pre o tT h:=by
 obtain⟨dst,op,type,pos,after,guard⟩:=o;have fy:∀ps:Array (Nat×Operand),(∀x∈ps.map (·.2),ev x=tT x)→(ps.toList.map fun p=>(p.1,ev p.2))=(ps.toList.map fun p=>(p.1,tT p.2)):=fun ps hp=>
  List.map_congr_left (by grind)
 have maps:∀xs:Array Operand,(∀x∈xs,ev x=tT x)→xs.toList.map ev=xs.toList.map tT:=by simp
 cases op<;>simp only[Op.operands] at he<;>simp only[lg]
 case build t ps=>rw[fy ps fun x hx=>he x (by simpa using hx)]
 case buildSlice t n ps=>rw[fy ps fun x hx=>he x (by simpa using hx)]
 case makeFunc fn first captured=>
  cases fn<;>first|rfl|skip
  have:captured.toList.mapM (fun x=>vt (ev x))=captured.toList.mapM (fun x=>vt (tT x)):=by
   have h2:∀l:List Operand,(∀x∈l,ev x=tT x)→l.mapM (fun x=>vt (ev x))=l.mapM (fun x=>vt (tT x)):=fun l=>by
    induction l with
    |nil=>exact fun _=>rfl
    |cons y l ih=>simp_all
   exact by grind
  simp only[this]
 case call c=>
  obtain⟨callee,args,ats⟩:=c;have ha:=maps args fun x hx=>he x (by simp[Call.operands,hx])
  cases callee with
  |value f=>
   have hf:=he f (by simp[Call.operands]);simp only[hf,ha]
  |builtin b=>simp only[ha]
  |invoke _ _=>rfl
 case makeMap t r=>cases r<;>rfl
 case lookup t x i ok=>cases ok<;>simp_all
 case slice t x lo hi mx=>
  have h1:=he x (by simp);cases lo<;>cases hi<;>cases mx<;>simp_all
 all_goals (first|rfl|(simp only[he _ (by simp:_∈#[_])];done)|(simp_all;done))
def jz (S:Ma):Prop:=∀k nm f (args:List zY) h h',(args.any wQ=false→∀id,(id∈args.flatMap yM∨nz nm id=true)→h id=h' id)→(args.any wQ=true→h=h')→S k nm f args h=S k nm f args h'
theorem vVp nm:nz nm nm=true:=by
 simp[nz]
theorem Te {E}(hS:jz E.sums){A k pre o ev h h'}
  (hh:match rL ev o with|none=>h=h'|some l=>∀id,(id∈l∨nz (rK pre o.dst) id=true)→h id=h' id):lg E A k pre o ev h=lg E A k pre o ev h':=by
 have full:h=h'→lg E A k pre o ev h=lg E A k pre o ev h':=fun e=>by rw[e]
 unfold rL at hh;dsimp only at hh;cases hq:yG4 o.op with
 |true=>
  obtain⟨dst,op,type,pos,after,guard⟩:=o;cases op<;>first|rfl|cases hq
 |false=>
 rw[hq] at hh;simp only[cond_false] at hh;cases hc:(RV o.op&&(o.op.operands.toList.map ev).any wQ) with
 |true=>rw[hc] at hh;exact full hh
 |false=>
  rw[hc] at hh;replace hh:∀id,(id∈(o.op.operands.toList.map ev).flatMap yM∨nz (rK pre o.dst) id=true)→h id=h' id:=hh;have h0:h (rK pre o.dst)=h' (rK pre o.dst):=hh _ (.inr (vVp _));have hx:∀x∈o.op.operands,∀id∈yM (ev x),h id=h' id:=by grind
  obtain⟨dst,op,type,pos,after,guard⟩:=o;dsimp only at h0 hx hc;cases op<;>simp only[Op.operands] at hx<;>simp only[lg]
  case alloc t=>rw[h0]
  case box t x=>rw[h0]
  case buildSlice t n ps=>
   exact vVx h0 (by grind)
  case load t x=>exact vJ4 (hx x (by simp))
  case store t x y=>exact vYg (hx x (by simp)) (hx y (by simp))
  case makeSlice t l c=>exact vUn h0
  case slice t x lo hi mx=>exact vH7 (hx x (by simp))
  case makeMap t r=>cases r<;>first|rfl|exact vHf h0
  case lookup t x i ok=>cases ok<;>first|rfl|exact vHb (hx x (by simp))
  case mapUpdate t x i y=>exact vWj (hx x (by simp))
  case indexAddr t x i=>exact vY9 (hx x (by simp))
  case binOp op t x y p=>
   have hx:=hx x (by simp);have hl:∀v,ev x=.c v→Cv h v=Cv h' v:=fun v e=>by
    cases v with
    |osl id r=>cases r with
     |none=>simp only[Cv,hx id (by rw[e];simp[yM,vP])]
     |some p=>rfl
    |_=>rfl
   split
   ·cases RG y&&RF op with
    |false=>rfl
    |true=>
     rename_i d v hu hv;simp only[hl v hv]
   ·rfl
  case convert s d x=>
   have hx:=hx x (by simp);have hs:∀v,ev x=.c v→Ct h v=Ct h' v:=fun v e=>by
    have:=MW (h:=h) (h':=h') (v:=v) fun id ao=>hx id (by rw[e];exact ao)
    unfold Ct;cases v<;>first|rfl|simp only[this]
   split
   ·rfl
   ·rename_i e c _ _ hc;rw[hs c hc]
   ·rfl
  case call c=>
   obtain⟨callee,args,ats⟩:=c;have ha:∀v∈args.toList.map ev,∀id∈yM v,h id=h' id:=fun v hv=>by
    obtain⟨x,Az,rfl⟩:=List.mem_map.1 hv;exact hx x (by simp at Az;simp[Call.operands,Az])
   cases callee with
   |value f=>
    dsimp only;cases hf:ev f with
    |c fv=>cases fv with
     |fn Tb cap=>
      dsimp only;simp only[RV,Bool.true_and] at hc;have iC:cap=[]:=by
       have hm:ev f∈(Op.call ⟨.value f,args,ats⟩).operands.toList.map ev:=List.mem_map_of_mem (by simp[Op.operands,Call.operands]);have:=List.any_eq_false.1 hc _ hm;rw[hf] at this
       simpa[wQ] using this
      subst iC;simp only[List.map_nil,List.append_nil];have hb:(args.toList.map ev).any wQ=false:=by
       refine List.any_eq_false.2 fun v hv=>?_
       obtain⟨x,Az,rfl⟩:=List.mem_map.1 hv;exact List.any_eq_false.1 hc _ (List.mem_map_of_mem (by simp at Az;simp[Op.operands,Call.operands,Az]))
      refine hS _ _ _ _ _ _ (fun _ id ao=>?_) fun ht=>?_
      ·rcases ao with ao|ao
       ·obtain⟨v,hv,ao⟩:=List.mem_flatMap.1 ao;exact ha v hv id ao
       ·exact hh id (.inr ao)
      ·rw[hb] at ht;cases ht
     |_=>rfl
    |_=>rfl
   |invoke _ _=>rfl
   |builtin b=>
    generalize hl:args.toList.map ev=l at ha;unfold RU;cases b<;>first|rfl|skip
    case len=>
     match l,ha with
     |[],_=>rfl
     |[v],ha=>cases v with
      |c v=>
       have:=vE0 (ha (.c v) (by simp));simp only[this]
      |_=>rfl
     |v::_::_,_=>cases v<;>rfl
    case append=>
     match l,ha with
     |[],_|[_],_|_::_::_::_,_=>rfl
     |[b,x],ha=>
      have:=fun mat t=>vGu (P:=E.P) (mat:=mat) (t:=t) h0 (ha b (by simp)) (ha x (by simp))
      simp only[this]
    case clear=>
     match l,ha with
     |[],_=>rfl
     |[v],ha=>cases v with
      |c v=>cases v with
       |osl id r=>cases r with
        |none=>rfl
        |some p=>
         have e:=ha (.c (.osl id (some p))) (by simp) id (by simp[yM,vP]);dsimp only;split
         ·unfold L8;rw[e]
         ·rfl
       |_=>rfl
      |_=>rfl
     |v::_::_,_=>cases v with
      |c v=>cases v with
       |osl id r=>cases r<;>rfl
       |_=>rfl
      |_=>rfl
    case copy=>
     match l,ha with
     |[],_|[_],_|_::_::_::_,_=>rfl
     |[b,x],ha=>
      have:=vD3 (ha b (by simp)) (ha x (by simp));simp only[this]
  case makeFunc fn first captured=>cases fn<;>rfl
  all_goals rfl
end Go.Ab
set_option linter.unusedSectionVars false
namespace Go.Ab
structure j0 (M M':zL):Prop where
 F:∀b,M.F b→M'.F b
 G:∀b,M.G b→M'.G b
 same:∀b,M.F b→M'.H[b]? =M.H[b]?
 sameG:∀b,M.G b→M'.H[b]? =M.H[b]?
 bsz:∀b,b<M.H.size→qU M'.H b=qU M.H b
 size:M.H.size≤M'.H.size
 frame:∀b,b<M.H.size→¬qM M b→M'.H[b]? =M.H[b]?
 own:∀b,qM M' b→b<M.H.size→qM M b
 Gb:∀b,M'.G b→b<M.H.size→M.G b∨qM M b
 Fb:∀b,M'.F b→b<M.H.size→M.F b∨qM M b
theorem vA.grow {M M'}(s:vA M M'):j0 M M':=⟨s.ext.F,s.ext.G,s.ext.same,s.ext.sameG,s.ext.bsz,s.size,s.frame,s.own,s.Gb,s.Fb⟩
theorem j0.trans {M M' mE}(x:j0 M M')(y:j0 M' mE):j0 M mE where
 F b h:=y.F b (x.F b h)
 G b h:=y.G b (x.G b h)
 same b h:=(y.same b (x.F b h)).trans (x.same b h)
 sameG b h:=(y.sameG b (x.G b h)).trans (x.sameG b h)
 bsz b h:=(y.bsz b (by have:=x.size;omega)).trans (x.bsz b h)
 size:=Nat.le_trans x.size y.size
 frame b h hn:=by
  have:=x.size;rw[y.frame b (by omega) fun ho=>hn (x.own b ho h),x.frame b h hn]
 own b ho h:=x.own b (y.own b ho (by have:=x.size;omega)) h
 Gb b hg h:=by
  rcases y.Gb b hg (by have:=x.size;omega) with k|k
  ·exact x.Gb b k h
  ·exact .inr (x.own b k h)
 Fb b hg h:=by
  rcases y.Fb b hg (by have:=x.size;omega) with k|k
  ·exact x.Fb b k h
  ·exact .inr (x.own b k h)
def fE (M M':zL):Prop:=∀id C,M.κ id=some C→∃C',M'.κ id=some C'∧C'.blk=C.blk
structure tU (nl:Bool) (M M':zL):Prop where
 g:j0 M M'
 k:nl=true→fE M M'
theorem tU.step {nl M M' mE}(x:tU nl M M')(s:vA M' mE):tU nl M mE:=
 ⟨x.g.trans s.grow,fun h id C hC=>by
  obtain⟨C1,h1,e1⟩:=x.k h id C hC;obtain⟨C2,h2,le⟩:=s.ext.κ id C1 h1;exact⟨C2,h2,le.blk.trans e1⟩⟩
theorem tU.trans {M M' mE}(x:tU false M M')(y:j0 M' mE):tU false M mE:=⟨x.g.trans y,by simp⟩
structure vW (nl:Bool) (na nt:Nat) (a0:Nat→Value) (M0:zL) (w0:World) (st:St) (a:Act) (w:World):Prop where
 ex:∃M:zL,M.h=st.h∧M.H=w.heap∧Ok M∧tU nl M0 M∧∀t,zV M (st.t t) (a.tmps.getD t undef)
 defers:a.defers=[]
 size:a.tmps.size=nt
 os:w.os=w0.os
 tape:w.tape=w0.tape
 output:w.output=w0.output
 keep:∀t,t<na→a.tmps.getD t undef=a0 t
theorem yS7 {M}{st:St}{a:Act}(h:∀t,zV M (st.t t) (a.tmps.getD t undef)) x:zV M (st.ev x) (a.eval x):=by
 cases x with
 |tmp t=>exact h t
 |const v=>exact vR8 M v
 |global g=>trivial
 |func f=>exact⟨#[],rfl,trivial⟩
theorem Tf {t s v}(h:t s=v):jX t s v=t:=by
 funext n;unfold jX;cases e:Nat.beq n s with
 |false=>rfl
 |true=>
  simp_all
def Dl (ops:Array Oper)(o:Oper)(st:St):Option Bool:=match o.guard with
 |none=>some true
 |some (j,want)=>match Mj ops j with
  |none=>none
  |some s=>match st.t s with
   |.c (.bool b)=>some (b==want)
   |.skp=>some false
   |_=>none
theorem ySx {R ops o st yes no}{out:R}(h:Mk ops o st yes no=some out):
  ∃b,Dl ops o st=some b∧(if b=true then yes st else no st)=some out:=by
 unfold Mk at h;unfold Dl;cases hg:o.guard with
 |none=>simp_all
 |some p=>
  obtain⟨j,want⟩:=p;rw[hg] at h;dsimp only at h⊢;cases hs:Mj ops j with
  |none=>simp_all
  |some s=>
   rw[hs] at h;dsimp only at h⊢;split at h
   ·rename_i b hb;rw[hb];refine⟨b==want,rfl,?_⟩;cases b with
    |true=>
     simp[Tf hb] at h;cases want<;>exact h
    |false=>
     simp[Tf hb] at h;cases want<;>exact h
   all_goals simp_all
theorem getD_some {a:Array Value}{s v}(h:a.getD s undef=v)(hv:v≠undef):a[s]? =some v:=by
 by_cases hs:s<a.size
 all_goals simp_all
theorem yJc {ops o st b nl na nt a0 M0 w0 w a}(h:Dl ops o st=some b)(R:vW nl na nt a0 M0 w0 st a w):Region.wanted o (yielded ops a.tmps)=b:=by
 obtain⟨M,_,_,_,_,ht⟩:=R.ex;unfold Dl at h;unfold Region.wanted;split at h
 ·simp_all
 ·rename_i j want hg;rw[hg];split at h
  ·cases h
  ·rename_i s hs;have hv:=ht s;have oK:(ops[j]?).bind (·.dst)=some s:=hs;split at h
   ·rename_i b' hb;cases h;rw[hb] at hv;have:=getD_some hv (by nofun);simp only[yielded,oK,Option.bind_some,this];rfl
   ·rename_i hb;cases h;rw[hb] at hv;have hv:a.tmps.getD s undef=undef:=hv;have:∀x:Option Value,(x=none∨x=some undef)→((match x with|some (.bool b)=>some b|_=>none:Option Bool)==some want)=false:=fun x hx=>by
     rcases hx with rfl|rfl<;>cases want<;>rfl
    refine this _ ?_;by_cases bj:s<a.tmps.size
    all_goals simp_all
   ·cases h
theorem tR.rel {nl na nt a0 M0 M M' w0 w w' st a dst v u rv}(R:vW nl na nt a0 M0 w0 st a w)(hh:M.h=st.h)(hs:tU nl M0 M)(ht:∀t,zV M (st.t t) (a.tmps.getD t undef))
  (hd:∀d,dst=some d→na≤d∧d<nt) (hB:tR M w u M' w') (hv:zV M' v rv):vW nl na nt a0 M0 w0 {t:=jv st.t dst v,h:=qI st.h u} (a.put dst rv) w' where
 ex:=by
  refine⟨M',by rw[hB.h,hh],hB.H,hB.ok,hs.step hB.step,fun t=>?_⟩;cases dst with
  |none=>exact(ht t).ext hB.step.ext
  |some d=>
   show zV M' (jX st.t d v t) ((a.tmps.setIfInBounds d rv).getD t undef);have bj:d<a.tmps.size:=by rw[R.size];simp_all
   unfold jX;cases e:Nat.beq t d with
   |true=>
    simp_all
   |false=>
    have e:t≠d:=fun e'=>by simp_all
    have:=(ht t).ext hB.step.ext;simp[Array.getElem?_setIfInBounds_ne (Ne.symm e)] at this⊢;exact this
 defers:=by cases dst<;>exact R.defers
 size:=by cases dst<;>simp[Act.put,R.size]
 os:=hB.os.trans R.os
 tape:=hB.tape.trans R.tape
 output:=hB.output.trans R.output
 keep t h:=by
  cases dst with
  |none=>exact R.keep t h
  |some d=>
   have bn:d≠t:=by grind
   rw[←R.keep t h];simp[Act.put,Array.getElem?_setIfInBounds_ne bn]
theorem vW.skip {nl na nt a0 M0 w0 w st a dst}(hd:∀d,dst=some d→na≤d)(R:vW nl na nt a0 M0 w0 st a w):vW nl na nt a0 M0 w0 {st with t:=jv st.t dst .skp} (a.put dst undef) w where
 ex:=by
  obtain⟨M,h1,h2,h3,h4,ht⟩:=R.ex;refine⟨M,h1,h2,h3,h4,fun t=>?_⟩;cases dst with
  |none=>exact ht t
  |some d=>
   show zV M (jX st.t d .skp t) ((a.tmps.setIfInBounds d undef).getD t undef);unfold jX;cases e:Nat.beq t d with
   |true=>
    have e:t=d:=by simp_all
    subst e;show(a.tmps.setIfInBounds t undef).getD t undef=undef;simp
   |false=>
    have e:t≠d:=fun e'=>by simp_all
    have:=ht t;simp[Array.getElem?_setIfInBounds_ne (Ne.symm e)] at this⊢;exact this
 defers:=by cases dst<;>exact R.defers
 size:=by cases dst<;>simp[Act.put,R.size]
 os:=R.os
 tape:=R.tape
 output:=R.output
 keep t h:=by
  cases dst with
  |none=>exact R.keep t h
  |some d=>
   have bn:d≠t:=by grind
   rw[←R.keep t h];simp[Act.put,Array.getElem?_setIfInBounds_ne bn]
section
variable {E:Env} {A:qA} {nl:Bool} {k pre na nt:Nat} {a0:Nat→Value} {R:Type} {M0:zL} {w0:World} {Q:Exit→Act→World→Prop}
theorem vW.op (hE:gd E){st a w}{o:Oper}{v u next}(r:vW nl na nt a0 M0 w0 st a w)(hd:∀d,o.dst=some d→na≤d∧d<nt)(hy:yK (lg E A k pre o st.ev st.h) v u)
  (hn:∀a' w',vW nl na nt a0 M0 w0 {t:=jv st.t o.dst v,h:=qI st.h u} a' w'→next a' w'):o.wp E.P a w next Q:=by
 obtain⟨M,h1,h2,h3,h4,ht⟩:=r.ex;rw[←h1] at hy;exact vSu hE h3 h2 (yS7 ht) hy fun M' w' rv hB hv=>hn _ _ (hB.rel r h1 h4 ht hd hv)
theorem Tg (hE:gd E){dst}(h:vu na nt dst=true):∀d,dst=some d→na≤d∧d<nt:=fun d hd=>by
 simp[vu] at h;simp_all
theorem yAy (hE:gd E){o st K}{out:R}(h:Mi E A k pre na nt o st K=some out):
  (∀d,o.dst=some d→na≤d∧d<nt)∧∃v u,yK (lg E A k pre o st.ev st.h) v u∧K v u {t:=jv st.t o.dst v,h:=qI st.h u}=some out:=by
 unfold Mi at h;cases hc:vu na nt o.dst with
 |false=>simp_all
 |true=>
  rw[hc] at h;exact⟨Tg hE hc,yT.elim_some h⟩
theorem yNm (hE:gd E){ops}:∀l st K (out:R) a w,(∀p∈l,ops[p.1]? =some p.2)→Mm E A k pre na nt ops l st K=some out→vW nl na nt a0 M0 w0 st a w→
  (∀bL a' w',vW nl na nt a0 M0 w0 bL a' w'→K bL=some out→Q .normal a' w')→wpOps E.P ops Q (l.map (·.1)) a w
 |[],st,K,out,a,w,_,h,r,hK=>hK st a w r h
 |(i,o)::rest,st,K,out,a,w,hl,h,r,hK=>by
  have ho:ops[i]? =some o:=hl (i,o) (by simp);have ih:=fun st K out a w=>yNm hE rest st K out a w fun p hp=>hl p (by grind)
  obtain⟨b,hb,h⟩:=ySx h;have hw:=yJc hb r;simp[wpOps,ho];cases b with
  |true=>
   rw[if_pos rfl] at h;rw[if_pos hw];obtain⟨hd,v,u,hy,h⟩:=yAy hE h;exact .inl (vW.op hE r hd hy (by grind))
  |false=>
   rw[if_neg (by simp[hw])];cases hc:vu na nt o.dst with
   |false=>simp_all
   |true=>
    rw[hc] at h;exact ih _ _ _ _ _ h (r.skip fun d hd=>(Tg hE hc d hd).1) hK
end
def Dm (o:Oper)(acc:Array Nat):Nat:=o.after.foldl (fun s e=>if Region.binds .any e then s|||2^e.on|||acc.getD e.on 0 else s) 0
theorem yBb (acc:Array Nat) i:∀(l:List Edge) s,(l.foldl (fun s e=>if Region.binds .any e then s|||2^e.on|||acc.getD e.on 0 else s) s).testBit i=true→
  s.testBit i=true∨∃e∈l,Region.binds .any e=true∧(e.on=i∨(acc.getD e.on 0).testBit i=true)
 |[],s,h=>.inl h
 |e::l,s,h=>by
  rcases yBb acc i l _ h with h|⟨e',he,h⟩
  all_goals grind
def Ih (ops:Array Oper)(acc:Array Nat):Prop:=∀j,j<acc.size→∀i,(acc.getD j 0).testBit i=true→∃o,ops[j]? =some o∧∃e∈o.after.toList,Region.binds .any e=true∧(e.on=i∨(e.on<j∧(acc.getD e.on 0).testBit i=true))
theorem vJy {ops acc o}(h:Ih ops acc)(ho:ops[acc.size]? =some o):Ih ops (acc.push (Dm o acc)):=by
 have old:∀j,j<acc.size→(acc.push (Dm o acc)).getD j 0=acc.getD j 0:=fun j hj=>by
  simp[Array.getElem?_push,Nat.ne_of_lt hj]
 intro j hj i hb;simp  at hj;by_cases bj:j<acc.size
 ·rw[old j bj] at hb;obtain⟨o',h1,e,h2,h3,h4⟩:=h j bj i hb;grind
 ·have e:j=acc.size:=by omega
  subst e;rw[show(acc.push (Dm o acc)).getD acc.size 0=Dm o acc by simp] at hb;unfold Dm at hb;rw[←Array.foldl_toList] at hb;rcases yBb acc i _ _ hb with hb|⟨e,h2,h3,h4⟩
  all_goals grind
theorem Th ops:Ih ops (Region.before ops):=by
 have key:∀(l:List Oper) (acc:Array Nat),Ih ops acc→(∀m (hm:m<l.length),ops[acc.size+m]? =some l[m])→
   Ih ops (l.foldl (fun acc o=>acc.push (Dm o acc)) acc):=by
  intro l
  induction l with
  |nil=>simp
  |cons o l ih=>
   intro acc h ho;refine ih _ (vJy h (ho 0 (by simp))) fun m hm=>?_
   have:=ho (m+1) (by simp;omega);grind
 have:=key ops.toList #[] (nofun) (by simp);unfold Region.before;rw[←Array.foldl_toList];exact this
theorem yW2 {ops i j}(h:nA (Region.before ops) i j=true):∃o,ops[j]? =some o∧∃e∈o.after.toList,Region.binds .any e=true∧(e.on=i∨(e.on<j∧nA (Region.before ops) i e.on=true)):=by
 unfold nA at h;by_cases hj:j<(Region.before ops).size
 ·exact Th ops j hj i h
 simp_all
def Ii (ops:Array Oper)(S:Nat→Bool):Prop:=∀j o,S j=true→ops[j]? =some o→∀e∈o.after.toList,Region.binds .any e=true→S e.on=true
theorem yNg {ops S}(hS:Ii ops S){i}:∀n j,j=n→nA (Region.before ops) i j=true→S j=true→S i=true:=by
 intro n
 induction n using Nat.strongRecOn with
 |_ n ih=>
  intro j hj h hs;obtain⟨o,ho,e,he,hb,h⟩:=yW2 h;have hse:=hS j o hs ho e he hb;grind
theorem vWn {ops S}(hS:Ii ops S){i j}(h:nA (Region.before ops) i j=true)(hr:∀o,ops[j]? =some o→∀e∈o.after.toList,Region.binds .any e=true→S e.on=true):S i=true:=by
 obtain⟨o,ho,e,he,hb,h⟩:=yW2 h;have hse:=hr o ho e he hb;rcases h with h|⟨h,hi⟩
 ·simp_all
 ·exact yNg hS _ _ rfl hi hse
structure It where
 i:Nat
 o:Oper
 v:zY
 u:vG
 r:Option (List Nat)
 wt:Bool
def It.dn (pre:Nat)(it:It):CJ:=⟨it.i,rK pre it.o.dst,eO it.u,it.r⟩
def app (st:St)(it:It):St:={t:=jv st.t it.o.dst it.v,h:=qI st.h it.u}
section
variable (E:Env) (A:qA) (k pre na nt:Nat) (ops:Array Oper)
structure kG (st:St) (it:It):Prop where
 w:Dl ops it.o st=some it.wt
 y:it.wt=true→(∀d,it.o.dst=some d→na≤d∧d<nt)∧yK (lg E A k pre it.o st.ev st.h) it.v it.u∧it.r=rL st.ev it.o
 n:it.wt=false→it.v=.skp∧it.u=[]∧∀d,it.o.dst=some d→na≤d∧d<nt
def Ti (b:Array Nat)(x y:It):Prop:=nA b x.i y.i=true∨(tC ops x.i y.i=true∧(x.wt=true→y.wt=true→tB (x.dn pre) (y.dn pre)=false))
end
section
variable {E:Env} {A:qA} {k pre na nt:Nat} {R:Type} {ops:Array Oper} {b:Array Nat}
theorem Tj (hE:gd E):∀rest done st K (out:R),CK E A k pre na nt ops b rest done st K=some out→
  ∃dL:List It,dL.map (fun it=>(it.i,it.o))=rest∧K (dL.foldl app st)=some out∧(∀bT it post,dL=bT++it::post→kG E A k pre na nt ops (bT.foldl app st) it)∧
   (∀d∈done,∀it∈dL,nA b d.i it.i=true∨(tC ops d.i it.i=true∧(it.wt=true→tB d (it.dn pre)=false)))∧dL.Pairwise (Ti pre ops b)
 |[],done,st,K,out,h=>⟨[],rfl,h,by simp,by simp,.nil⟩
 |(i,o)::rest,done,st,K,out,h=>by
  unfold CK at h;generalize hc:(done.all fun d=>nA b d.i i||tC ops d.i i)=c at h;cases c with
  |false=>cases h
  |true=>
   have se:∀d∈done,nA b d.i i=true∨tC ops d.i i=true:=by grind
   rw[cond_true] at h;obtain⟨bw,hb,h⟩:=ySx h;cases bw with
   |true=>
    rw[if_pos rfl] at h;obtain⟨hd,v,u,hy,h⟩:=yAy hE h;dsimp only at h;generalize cN:(done.all fun d=>nA b d.i i|| !tB d ⟨i,rK pre o.dst,eO u,rL st.ev o⟩)=c2 at h;cases c2 with
    |false=>simp_all
    |true=>
     rw[cond_true] at h;have C8:∀d∈done,nA b d.i i=true∨tB d ⟨i,rK pre o.dst,eO u,rL st.ev o⟩=false:=by grind
     obtain⟨dL,h1,h2,h3,h4,h5⟩:=Tj hE rest _ _ K out h;let it:It:=⟨i,o,v,u,rL st.ev o,true⟩;refine⟨it::dL,by grind,h2,fun bT Ij post e=>?_,fun d wi Ij oL=>?_,?_⟩
     ·cases bT with
      |nil=>
       obtain⟨rfl,rfl⟩:=e;exact⟨hb,by grind,by simp⟩
      |cons p bT=>
       simp only[List.cons_append,List.cons.injEq] at e;obtain⟨rfl,e⟩:=e;exact h3 bT Ij post e
     ·rcases List.mem_cons.1 oL with rfl|oL
      ·rcases se d wi with h|h
       ·grind
       ·rcases C8 d wi with h'|h'
        ·grind
        ·exact .inr ⟨h,fun _=>h'⟩
      simp_all
     ·refine List.pairwise_cons.2 ⟨fun y AA=>?_,h5⟩;rcases h4 (it.dn pre) (List.mem_cons_self ..) y AA with h|⟨h,h'⟩
      ·exact .inl h
      ·exact .inr ⟨h,by grind⟩
   |false=>
    rw[if_neg (by simp)] at h;have tV:vu na nt o.dst=true:=by
     grind
    rw[tV] at h;rw[cond_true] at h;obtain⟨dL,h1,h2,h3,h4,h5⟩:=Tj hE rest _ _ K out h;let it:It:=⟨i,o,.skp,[],some [],false⟩;refine⟨it::dL,by grind,h2,fun bT Ij post e=>?_,fun d wi Ij oL=>?_,?_⟩
    ·cases bT with
     |nil=>
      obtain⟨rfl,rfl⟩:=e;exact⟨hb,by simp,fun _=>⟨rfl,rfl,Tg hE tV⟩⟩
     |cons p bT=>
      simp  at e;obtain⟨rfl,e⟩:=e;exact h3 bT Ij post e
    ·grind
    ·refine List.pairwise_cons.2 ⟨fun y AA=>?_,h5⟩;rcases h4 (it.dn pre) (List.mem_cons_self ..) y AA with h|⟨h,h'⟩
     ·exact .inl h
     ·exact .inr ⟨h,by simp⟩
end
theorem yTk {t t' d v x}(h:t x=t' x):jv t d v x=jv t' d v x:=by
 cases d with
 |none=>exact h
 |some d=>
  show jX t d v x=jX t' d v x;unfold jX;simp_all
theorem MX {t d v x}(h:d≠some x):jv t d v x=t x:=by
 cases d with
 |none=>rfl
 |some d=>
  show jX t d v x=_;unfold jX;cases e:Nat.beq x d with
  |false=>rfl
  |true=>simp_all
theorem vNr {t t' v x}:jv t (some x) v x=jv t' (some x) v x:=by
 show jX t x v x=jX t' x v x;unfold jX;simp
theorem vZp {t d e v u}(h:∀x,d=some x→e≠some x):jv (jv t d v) e u=jv (jv t e u) d v:=by
 funext x;by_cases hd:d=some x
 ·subst hd;rw[MX (h x rfl)];exact vNr
 ·rw[MX hd];exact yTk (MX hd)
theorem AB {n}:∀{u h h'},h n=h' n→qI h u n=qI h' u n
 |[],_,_,e=>e
 | (id, o) :: u, h, h', e => AB (u := u) (by
   by_cases hn:n=id
   ·subst hn;rw[yO,yO]
   ·rw[yP _ _ hn,yP _ _ hn];exact e)
theorem yPf {n}:∀{u h h'},n∈eO u→qI h u n=qI h' u n
 |(id,o)::u,h,h',hm=>by
  by_cases hu:n∈eO u
  ·exact yPf (u:=u) hu
  ·have e:n=id:=by
    simp[eO] at hm hu;simp_all
   subst e;exact AB (u:=u) (by rw[yO,yO])
theorem vH8 {u v h}(hd:∀a∈eO u,a∉eO v):qI (qI h u) v=qI (qI h v) u:=by
 funext n;by_cases hu:n∈eO u
 ·rw[Dd (hd n hu)];exact yPf hu
 ·rw[Dd (u:=u) (h:=qI h v) hu];exact AB (Dd hu)
theorem Tl {st x y}(hd:∀t,x.o.dst=some t→y.o.dst≠some t)(hu:∀a∈eO x.u,a∉eO y.u):app (app st x) y=app (app st y) x:=by
 unfold app;simp;exact⟨vZp hd,vH8 hu⟩
theorem yYp {x}:∀{l:List It} {st},(∀y∈l,(∀t,x.o.dst=some t→y.o.dst≠some t)∧∀a∈eO x.u,a∉eO y.u)→app (l.foldl app st) x=l.foldl app (app st x)
 |[],_,_=>rfl
 |y::l,st,h=>by
  rw[List.foldl_cons,List.foldl_cons,Tl (by grind) (by grind)];exact yYp (by grind)
theorem MY t:∀(l:List It) st bL,st.t t=bL.t t→(l.foldl app st).t t=((l.filter fun it=>it.o.dst==some t).foldl app bL).t t
 |[],_,_,h=>h
 |y::l,st,bL,h=>by
  rw[List.foldl_cons,List.filter_cons];cases hy:y.o.dst==some t with
  |true=>
   exact MY t l _ _ (yTk h)
  |false=>
   exact MY t l _ _ (by
    show jv st.t y.o.dst y.v t=_;rw[MX (by simp_all)];exact h)
theorem MZ n:∀(l:List It) st bL,st.h n=bL.h n→(l.foldl app st).h n=((l.filter fun it=>(eO it.u).contains n).foldl app bL).h n
 |[],_,_,h=>h
 |y::l,st,bL,h=>by
  rw[List.foldl_cons,List.filter_cons];cases hy:(eO y.u).contains n with
  |true=>
   exact MZ n l _ _ (AB h)
  |false=>
   exact MZ n l _ _ (by
    show qI st.h y.u n=_;rw[Dd (by simpa[eO] using hy)];exact h)
theorem ySk {S W bT post}{it:It}(oL:S it=false)(h1:∀y∈bT,W y=true→S y=true)(h2:∀y∈post,W y=true→S y=false):((bT++it::post).filter S).filter W=bT.filter W:=by
 have e1:(bT.filter S).filter W=bT.filter W:=by
  rw[List.filter_filter];refine List.filter_congr fun y hy=>?_
  simp_all
 simp_all
def Dn (d:CJ)(a:Nat):Prop:=match d.refs with
 |none=>True
 |some l=>a∈l∨nz d.nm a=true
theorem Tm {x y}(h:tB x y=false):(∀a∈x.upd,¬Dn y a)∧(∀a∈y.upd,¬Dn x a)∧∀a∈x.upd,a∉y.upd:=by
 unfold tB at h;have key:∀(d e:CJ),Mh d.upd e.refs=false→d.upd.any (nz e.nm)=false→∀a∈d.upd,¬Dn e a:=by
  intro d e hm ho a ha hl;unfold Mh at hm;unfold Dn at hl;cases hr:e.refs with
  |none=>
   simp_all
  |some l=>
   simp_all
 refine⟨by grind,by grind,fun a ha hb=>?_⟩;simp_all
section
variable {E:Env} {A:qA} {k pre na nt:Nat} {R:Type} {ops:Array Oper}
theorem Tn {i j x y}(hi:ops[i]? =some x)(hj:ops[j]? =some y)(h:tC ops i j=true):
  (∀d,x.dst=some d→d∉y.looksAt ops)∧(∀d,x.dst=some d→y.dst≠some d)∧(∀d,y.dst=some d→d∉x.looksAt ops):=by
 unfold tC at h;rw[hi,hj] at h;exact Oper.apart_spec h
theorem To (hE:gd E)(hS:jz E.sums){S}(hC:Ii ops S){st bT post it}(gD:∀y∈bT++it::post,ops[y.i]? =some y.o)(hg:kG E A k pre na nt ops (bT.foldl app st) it)
  (hu:∀y∈bT++it::post,y.wt=false→y.u=[]) (hp:(bT++it::post).Pairwise (Ti pre ops (Region.before ops))) (oL:S it.i=false)
  (hr:∀o,ops[it.i]? =some o→∀e∈o.after.toList,Region.binds .any e=true→S e.on=true):
  kG E A k pre na nt ops (((bT++it::post).filter fun y=>S y.i).foldl app st) it∧
   (∀y∈post,S y.i=true→(∀t,it.o.dst=some t→y.o.dst≠some t)∧∀a∈eO it.u,a∉eO y.u):=by
 have wj:ops[it.i]? =some it.o:=gD it (by simp);obtain⟨MP,H9,hp3⟩:=List.pairwise_append.1 hp;have before:∀y∈bT,S y.i=false→tC ops y.i it.i=true∧(y.wt=true→it.wt=true→tB (y.dn pre) (it.dn pre)=false):=fun y hy hs=>by
  rcases hp3 y hy it (by simp) with h|h
  ·rw[vWn hC h hr] at hs;cases hs
  ·exact h
 have behind:∀y∈post,S y.i=true→tC ops it.i y.i=true∧(it.wt=true→y.wt=true→tB (it.dn pre) (y.dn pre)=false):=fun y hy hs=>by
  rcases(List.pairwise_cons.1 H9).1 y hy with h|h
  ·rw[yNg hC _ _ rfl h hs] at oL;cases oL
  ·exact h
 have wk:∀t,t∈it.o.looksAt ops→(((bT++it::post).filter fun y=>S y.i).foldl app st).t t=(bT.foldl app st).t t:=fun t ht=>by
  rw[MY t _ st st rfl,MY t bT st st rfl,ySk oL (fun y hy hw=>?_) fun y hy hw=>?_]
  ·cases hs:S y.i with
   |true=>rfl
   |false=>
    have:=(Tn (gD y (by simp[hy])) wj (before y hy hs).1).1 t (by simpa using hw);exact absurd ht this
  ·cases hs:S y.i with
   |false=>rfl
   |true=>
    have:=(Tn wj (gD y (by simp[hy])) (behind y hy hs).1).2.2 t (by simpa using hw);simp_all
 have hEq:it.wt=true→∀n,Dn (it.dn pre) n→(((bT++it::post).filter fun y=>S y.i).foldl app st).h n=(bT.foldl app st).h n:=fun hw n hn=>by
  rw[MZ n _ st st rfl,MZ n bT st st rfl,ySk oL (fun y hy AA=>?_) fun y hy AA=>?_]
  ·cases hs:S y.i with
   |true=>rfl
   |false=>
    have hm:n∈eO y.u:=by simpa using AA
    have Tp:y.wt=true:=by
     cases h:y.wt with
     |true=>rfl
     |false=>rw[hu y (by simp[hy]) h] at hm;simp[eO] at hm
    exact absurd hn ((Tm ((before y hy hs).2 Tp hw)).1 n hm)
  ·cases hs:S y.i with
   |false=>rfl
   |true=>
    have hm:n∈eO y.u:=by simpa using AA
    have Tp:y.wt=true:=by
     cases h:y.wt with
     |true=>rfl
     |false=>rw[hu y (by simp[hy]) h] at hm;simp[eO] at hm
    exact absurd hn ((Tm ((behind y hy hs).2 hw Tp)).2.1 n hm)
 generalize hL:((bT++it::post).filter fun y=>S y.i).foldl app st=M3 at wk hEq⊢;refine⟨⟨?_,fun hw=>?_,hg.n⟩,fun y hy hs=>?_⟩
 ·rw[←hg.w];unfold Dl;cases AE:it.o.guard with
  |none=>rfl
  |some p=>
   obtain⟨j,want⟩:=p;dsimp only;cases dW:Mj ops j with
   |none=>rfl
   |some s=>
    have:s∈it.o.looksAt ops:=by
     have dW:(ops[j]?).bind (·.dst)=some s:=dW;simp only[Oper.looksAt,AE,dW];simp
    simp_all
 ·obtain⟨hd,hy,hrf⟩:=hg.y hw;have aQ:∀x∈it.o.op.operands,M3.ev x=(bT.foldl app st).ev x:=fun x hx=>by
   cases x with
   |tmp t=>exact wk t (List.mem_append_left _ (List.mem_filterMap.2 ⟨.tmp t,by simpa using hx,rfl⟩))
   |_=>rfl
  have hrefs:rL M3.ev it.o=rL (bT.foldl app st).ev it.o:=by
   unfold rL;have:it.o.op.operands.toList.map M3.ev=it.o.op.operands.toList.map (bT.foldl app st).ev:=List.map_congr_left (by grind);simp only[this]
  refine⟨hd,?_,by rw[hrf,hrefs]⟩;rw[vGf aQ];have hh : lg E A k pre it.o (bT.foldl app st).ev M3.h = lg E A k pre it.o (bT.foldl app st).ev (bT.foldl app st).h := Te hS (by
   rw[←hrf];have:=hEq hw;unfold Dn at this;have hdn:(it.dn pre).refs=it.r:=rfl;rw[hdn] at this;cases h:it.r with
   |none=>
    grind
   |some l=>
    rw[h] at this;exact this)
  rw[hh];exact hy
 ·obtain⟨h1,h2⟩:=behind y hy hs;refine⟨(Tn wj (gD y (by simp[hy])) h1).2.1,fun a ha hb=>?_⟩;have hwi:it.wt=true:=by
   cases h:it.wt with
   |true=>rfl
   |false=>rw[hu it (by simp) h] at ha;simp[eO] at ha
  have hwy:y.wt=true:=by
   cases h:y.wt with
   |true=>rfl
   |false=>rw[hu y (by simp[hy]) h] at hb;simp[eO] at hb
  exact(Tm (h2 hwi hwy)).2.2 a ha hb
end
theorem vW6 {ops}(h:HH ops=true){j o}(ho:ops[j]? =some o):∀e∈o.after.toList,Region.binds .any e=true→e.on<j:=by
 intro e he hb;have hm:(o,j)∈ops.toList.zipIdx:=by
  grind
 have:=List.all_eq_true.1 (List.all_eq_true.1 h _ hm) e he;simp_all
theorem M4 {L:Array Bool}{i}(hi:i<L.size) j:(L.setIfInBounds i true).getD j false=(L.getD j false||i==j):=by
 by_cases h:i=j
 all_goals simp_all
section
variable {E:Env} {A:qA} {nl:Bool} {k pre na nt:Nat} {a0:Nat→Value} {R:Type} {ops:Array Oper} {M0:zL} {w0:World} {Q:Exit→Act→World→Prop}
theorem vOu (hE:gd E)(hS:jz E.sums)(he:HH ops=true){dL st}(hi:dL.map (·.i)=List.range ops.size)(gD:∀y∈dL,ops[y.i]? =some y.o)(hg:∀bT it post,dL=bT++it::post→kG E A k pre na nt ops (bT.foldl app st) it)
  (hp:dL.Pairwise (Ti pre ops (Region.before ops))) (hQ:∀a w,vW nl na nt a0 M0 w0 (dL.foldl app st) a w→Q .normal a w):
  ∀fuel L a w,L.size=ops.size→(∃U:List Nat,U.length≤fuel∧∀j,j<ops.size→L.getD j false=false→j∈U)→Ii ops (fun j=>L.getD j false)→
   vW nl na nt a0 M0 w0 ((dL.filter fun y=>L.getD y.i false).foldl app st) a w→wpAny E.P .any ops Q fuel L a w:=by
 have hu:∀y∈dL,y.wt=false→y.u=[]:=fun y hy hw=>by
  obtain⟨bT,post,e⟩:=List.append_of_mem hy;exact((hg bT y post e).n hw).2.1
 have Tq:∀y∈dL,y.i<ops.size:=fun y hy=>(Array.getElem?_eq_some_iff.1 (gD y hy)).1
 have dF:(dL.map (·.i)).Nodup:=by rw[hi];exact List.nodup_range
 have full:∀(L:Array Bool) (a:Act) (w:World),(∀j,j<ops.size→L.getD j false=true)→vW nl na nt a0 M0 w0 ((dL.filter fun y=>L.getD y.i false).foldl app st) a w→Q .normal a w:=fun L a w hl r=>by
  rw[List.filter_eq_self.2 fun y hy=>hl y.i (Tq y hy)] at r;exact hQ a w r
 have rdy:∀(L:Array Bool),L.size=ops.size→Region.ready .any ops L=[]→∀j,j<ops.size→L.getD j false=true:=fun L hL hr j=>by
  induction j using Nat.strongRecOn with
  |_ j ih=>
   intro hj;cases hb:L.getD j false with
   |true=>rfl
   |false=>
    have ho:ops[j]? =some ops[j]:=Array.getElem?_eq_getElem hj;have:j∈Region.ready .any ops L:=mem_ready.2 ⟨by
     have Ts:j<L.size:=by omega
     simpa[Array.getD,Ts] using hb,ops[j],ho,fun e he' bH=>by
      have bj:=vW6 he ho e (by simpa using he') bH;exact ih e.on bj (by omega)⟩
    rw[hr] at this;cases this
 intro fuel
 induction fuel with
 |zero=>
  intro L a w hL hU hC r;obtain⟨U,hUl,hU⟩:=hU;have hU0:U=[]:=List.eq_nil_of_length_eq_zero (by omega);have bo:∀j,j<ops.size→L.getD j false=true:=by grind
  refine⟨?_,full L a w bo r⟩;cases hr:Region.ready .any ops L with
  |nil=>rfl
  |cons j l=>
   have:j∈Region.ready .any ops L:=by rw[hr];exact List.mem_cons_self ..
   obtain⟨h0,o,ho,_⟩:=mem_ready.1 this;have hj:=(Array.getElem?_eq_some_iff.1 ho).1;have:=bo j hj;have Ts:j<L.size:=by omega
   simp[Array.getD,Ts] at this h0;rw[this] at h0;cases h0
 |succ fuel ih=>
  intro L a w hL hU hC r;refine⟨fun hr=>full L a w (rdy L hL hr) r,fun i hir=>?_⟩;obtain⟨h0,o,ho,AF⟩:=mem_ready.1 hir;have Ik:=(Array.getElem?_eq_some_iff.1 ho).1;have Il:i<L.size:=by omega
  have Im:L.getD i false=false:=by simpa[Array.getD,Il] using h0
  obtain⟨it,oL,tW⟩:∃it∈dL,it.i=i:=by
   have:i∈dL.map (·.i):=by rw[hi];simpa using Ik
   obtain⟨it,h1,h2⟩:=List.mem_map.1 this;exact⟨it,h1,h2⟩
  obtain⟨bT,post,e⟩:=List.append_of_mem oL;have wj:ops[it.i]? =some it.o:=gD it oL;have iE:o=it.o:=by rw[tW,ho] at wj;exact Option.some.inj wj
  subst iE;have wm:=To hE hS hC (by rw[←e];exact gD) (hg bT it post e) (by rw[←e];exact hu) (by rw[←e];exact hp) (by rw[tW];exact Im) (by grind);rw[←e] at wm;obtain⟨AE,Io⟩:=wm;have hw:=yJc AE.w r;have yI:(dL.filter fun y=>(L.setIfInBounds i true).getD y.i false).foldl app st=app ((dL.filter fun y=>L.getD y.i false).foldl app st) it:=by
   have other:∀y∈bT++post,(L.setIfInBounds i true).getD y.i false=L.getD y.i false:=fun y hy=>by
    rw[M4 Il];grind
   have e1:dL.filter (fun y=>L.getD y.i false)=bT.filter (fun y=>L.getD y.i false)++post.filter (fun y=>L.getD y.i false):=by
    conv=>lhs;rw[e]
    rw[List.filter_append,List.filter_cons,if_neg (by rw[tW,Im];simp)]
   have e2:dL.filter (fun y=>(L.setIfInBounds i true).getD y.i false)=bT.filter (fun y=>L.getD y.i false)++it::post.filter (fun y=>L.getD y.i false):=by
    conv=>lhs;rw[e]
    rw[List.filter_append,List.filter_cons,if_pos (by rw[tW,M4 Il];simp),List.filter_congr fun y hy=>other y (List.mem_append_left _ hy),List.filter_congr fun y hy=>other y (List.mem_append_right _ hy)]
   rw[e1,e2,List.foldl_append,List.foldl_append,List.foldl_cons];exact (yYp fun y hy=>by
    obtain⟨Tt,Tu⟩:=List.mem_filter.1 hy;exact Io y Tt Tu).symm
  have aE:Ii ops fun j=>(L.setIfInBounds i true).getD j false:=fun j o' hj lJ ed hed hb=>by
   dsimp only at hj⊢;rw[M4 Il] at hj;refine getD_set_true ?_;rw[Bool.or_eq_true] at hj;rcases hj with hj|hj
   ·exact hC j o' hj lJ ed hed hb
   ·have:i=j:=by simpa using hj
    subst this;rw[ho] at lJ;cases lJ;exact AF ed (by simpa using hed) hb
  have hU':∃U:List Nat,U.length≤fuel∧∀j,j<ops.size→(L.setIfInBounds i true).getD j false=false→j∈U:=by
   obtain⟨U,hl,hU⟩:=hU;refine⟨U.erase i,?_,fun j hj hb=>?_⟩
   ·rw[List.length_erase_of_mem (hU i Ik Im)];omega
   ·rw[M4 Il,Bool.or_eq_false_iff] at hb;exact(List.mem_erase_of_ne (by have:=hb.2;simp at this;exact fun h=>this h.symm)).2 (hU j hj hb.1)
  unfold wpOp;rw[ho];dsimp only;cases AG:it.wt with
  |true=>
   rw[AG] at hw;rw[if_pos hw];obtain⟨hd,hy,_⟩:=AE.y AG;refine .inl (vW.op hE r hd hy fun a' w' r'=>?_);exact ih _ _ _ (by simpa using hL) hU' aE (by rw[yI];exact r')
  |false=>
   rw[AG] at hw;rw[if_neg (by simp[hw])];obtain⟨hv,rR,tV⟩:=AE.n AG;refine ih _ _ _ (by simpa using hL) hU' aE ?_;rw[yI];have:=r.skip (dst:=it.o.dst) fun d hd=>(tV d hd).1
   unfold app;rw[hv,rR];exact this
theorem vIt (hE:gd E)(hS:jz E.sums){id st K}{out:R}{a w}(hm:E.P.follows .mixedOrders=true)(he:HH ops=true)
  (h:CK E A k pre na nt ops (Region.before ops) (ops.toList.zipIdx.map fun p=>(p.2,p.1)) [] st K=some out) (r:vW nl na nt a0 M0 w0 st a w)
  (hK:∀bL a' w',vW nl na nt a0 M0 w0 bL a' w'→K bL=some out→Q .normal a' w'):(Code.region id ops true).wp E.P Q a w:=by
 obtain⟨dL,h1,h2,h3,_,h5⟩:=Tj hE _ _ _ _ _ h;have hi:dL.map (·.i)=List.range ops.size:=by
  have:=congrArg (List.map Prod.fst) h1;rw[List.map_map,List.map_map] at this;refine Eq.trans this ?_;have e:(Prod.fst∘fun p:Oper×Nat=>(p.2,p.1))=Prod.snd:=rfl;rw[e,List.zipIdx_map_snd,←List.range_eq_range'];simp
 have gD:∀y∈dL,ops[y.i]? =some y.o:=fun y hy=>by
  have:(y.i,y.o)∈ops.toList.zipIdx.map fun p=>(p.2,p.1):=by grind
  grind
 refine wp_region_any hm (vOu hE hS he (nt:=nt) (na:=na) (a0:=a0) (M0:=M0) (w0:=w0) hi gD h3 h5 (fun a w r=>hK _ a w r h2) _ _ _ _ (by simp) ⟨List.range ops.size,by simp,by grind⟩ (fun j o hj=>?_) ?_)
 ·by_cases h:j<ops.size<;>simp[h] at hj
 ·rw[List.filter_eq_nil_iff.2 fun y hy=>by
   by_cases h:y.i<ops.size<;>simp[h]]
  exact⟨r.ex,r.defers,r.size,r.os,r.tape,r.output,r.keep⟩
end
def zL.nilObj (M:zL)(nm:Nat)(o:Obj)(sz:Nat):zL:={M with κ:=κset M.κ nm ⟨none,0,sz,0,[]⟩,h:=yI M.h nm o}
def kH (t:Ty)(rows:Bool):Obj:=bif rows then .mat 0 [] else .arr true t []
def lQ (t:Ty)(rows:Bool):Nat:=bif rows then 1 else t.size
theorem zL.nilObj_ok {M}(ok:Ok M){nm}(aS:M.h nm=none) t rows:
  Ok (M.nilObj nm (kH t rows) (lQ t rows))∧yN M (M.nilObj nm (kH t rows) (lQ t rows))∧(∀b,qM (M.nilObj nm (kH t rows) (lQ t rows)) b→qM M b):=by
 have hO:∀M':zL,yX M' (kH t rows) ⟨none,0,lQ t rows,0,[]⟩:=fun M'=>by
  cases rows with
  |false=>exact⟨rfl,rfl,by simp,rfl⟩
  |true=>exact⟨rfl,rfl,rfl,rfl,by simp[qB.fp],rfl⟩
 have x:yN M (M.nilObj nm (kH t rows) (lQ t rows)):=⟨fun id C h=>by
  have bn:id≠nm:=fun e=>by rw[e,ok.non nm aS] at h;cases h
  exact⟨C,by show κset M.κ nm _ id=_;rw[κset_ne _ _ bn];exact h,C.le_refl⟩,fun _ h=>h,fun _ h=>h,fun _ _=>rfl,fun _ _=>rfl,fun _ _=>rfl⟩
 refine⟨Ok.build ok x (fun id=>id=nm) (fun id h=>yP _ _ h) (fun id h=>κset_ne _ _ h) (fun _ _ _ _ _ _ _ _ _=>rfl) (fun id o C h1 h2 h3 h4 b hb=>(ok.own b ⟨id,o,C,h2,h3,h4,hb⟩).1) (Nat.le_refl _)
  (fun id o e h=>?_) (fun id e h=>?_) (fun id o C b e h1 h2 h3 h4=>?_) ok.GF ok.Flt,x,fun b hb=>?_⟩
 ·subst e;have e1:(M.nilObj id (kH t rows) (lQ t rows)).h id=some (kH t rows):=yO _ _ _;rw[e1] at h;cases h;exact⟨_,κset_same _ _ _,hO _⟩
 ·have e1:(M.nilObj id (kH t rows) (lQ t rows)).h id=some (kH t rows):=yO _ _ _;simp_all
 ·subst e;have e1:(M.nilObj id (kH t rows) (lQ t rows)).κ id=some _:=κset_same _ _ _;rw[e1] at h3;cases h3;simp[qB.fp] at h4
 ·obtain⟨id,o,C,h1,h2,h3,h4⟩:=hb;by_cases e:id=nm
  ·subst e;have e1:(M.nilObj id (kH t rows) (lQ t rows)).κ id=some _:=κset_same _ _ _;rw[e1] at h3;cases h3;simp[qB.fp] at h4
  ·exact⟨id,o,C,by rw[←h1];exact(yP _ _ e).symm,h2,by rw[←h3];exact(κset_ne _ _ e).symm,h4⟩
theorem j0.same_mem {M M'}(hF:M'.F=M.F)(hG:M'.G=M.G)(hH:M'.H=M.H)(ho:∀b,qM M' b→qM M b):j0 M M':=
 ⟨by grind,by grind,by grind,by grind,by grind,by simp_all,by grind,by grind,
  by grind,by grind⟩
theorem j0.refl M:j0 M M:=.same_mem rfl rfl rfl (by simp)
section
variable {na nt:Nat} {a0:Nat→Value} {M0:zL} {w0 w:World} {a:Act}
theorem zM.set_left {α β R l}{m:List β}(h:zM R l m){j}{c:α}(hc:∀(h1:j<l.length) h2,R c m[j]):zM R (l.set j c) m:=by
 refine zM.of_get (by rw[List.length_set];exact h.length) fun i hi bI=>?_
 rw[List.length_set] at hi;by_cases e:j=i
 ·simp_all
 ·rw[List.getElem_set_ne e];exact h.get i hi bI
theorem vMj {st}{s j}(r:vW false na nt a0 M0 w0 st a w):vW false na nt a0 M0 w0 (RW st s j) a w:=by
 obtain⟨M,h1,h2,h3,h4,h5⟩:=r.ex;unfold RW;split
 ·split
  ·rename_i c hs;split
   ·rename_i c' u hf;have hv:=h5 s;rw[hs] at hv;rw[←h1] at hf;obtain⟨L,k1,k2,k3,k4,k5,_⟩:=HN h3 (jB.refl _) (show zX M c _ from hv) hf;refine⟨⟨L,by rw[k2,h1],k1.trans h2,k3,h4.trans k4.grow,fun t=>?_⟩,r.defers,r.size,r.os,r.tape,r.output,r.keep⟩;show zV _ (jX st.t s _ t) _;unfold jX;cases e:Nat.beq t s with
    |false=>exact(h5 t).ext k4.ext
    |true=>
     have e:t=s:=by simpa using e
     subst e;exact k5
   ·exact r
  ·exact r
 ·rename_i j;split
  ·rename_i id hs;split
   ·rename_i cells ao;split
    ·rename_i c yQ;split
     ·rename_i c' u hf;rw[←h1] at hf ao;obtain⟨C0,rV,hO0⟩:=h3.obj id _ ao;obtain⟨B0,wo,e0,b10,b20,b30,b40,b50⟩:=hO0;have hj:j<cells.length:=(List.getElem?_eq_some_iff.1 yQ).1;have Tv:j<wo.toList.length:=by rw[←b40.length];exact hj
      have ll:=b40.get j hj Tv;have ec:cells[j]=c:=by grind
      rw[ec] at ll;obtain⟨L,k1,k2,k3,k4,k5,k6,_⟩:=HN h3 (jB.refl _) ll hf;have AH:L.h id=some (.box true cells):=by
       rcases k6 id with h|⟨own,t,xs,h,_⟩|⟨ver,xs,h,_⟩
       all_goals simp_all
      obtain⟨C,hC,hO⟩:=k3.obj id _ AH;obtain⟨B,vals,e,b1,b2,b3,b4,b5⟩:=hO;obtain⟨C1,iD,le⟩:=k4.ext.κ id C0 rV;rw[hC] at iD;cases iD;have eB:B=B0:=by rw[le.blk,b10] at b1;simp_all
      subst eB;rw[k1,b30] at b3;cases b3;have hx:=zL.write_ext (H':=L.H) k3 AH rfl hC C.le_refl (by simp) (by simp) (.box true (cells.set j c'));have hw := zL.write_ok (H' := L.H) (o' := .box true (cells.set j c')) k3 AH rfl hC C.le_refl (by simp) rfl (by simp) (by simp) (by
       refine⟨B,wo,e0,b1,b2,by show L.H[B]? =_;simp_all,?_,by simp⟩;exact(b4.mono fun _ _ h=>h.ext hx).set_left fun _ _=>k5.ext hx)
      refine⟨⟨L.write id (.box true (cells.set j c')) C L.H,?_,k1.trans h2,hw.1,(h4.trans k4.grow).trans hw.2.grow,fun t=>((h5 t).ext k4.ext).ext hx⟩,r.defers,r.size,r.os,r.tape,r.output,r.keep⟩;show yI L.h id _=yI (qI st.h u) id _;rw[k2,h1]
     ·exact r
    ·exact r
   ·exact r
  ·rename_i cells hs;split
   ·rename_i c yQ;split
    ·rename_i c' u hf;have hv:=h5 s;rw[hs] at hv;obtain⟨vs,dE,bo⟩:=hv;rw[←h1] at hf;have hj:j<cells.length:=by grind
     have Tv:j<vs.toList.length:=by rw[←bo.length];exact hj
     have ll:=bo.get j hj Tv;have ec:cells[j]=c:=by grind
     rw[ec] at ll;obtain⟨L,k1,k2,k3,k4,k5,k6,_⟩:=HN h3 (jB.refl _) ll hf;refine⟨⟨L,by rw[k2,h1],k1.trans h2,k3,h4.trans k4.grow,fun t=>?_⟩,r.defers,r.size,r.os,r.tape,r.output,r.keep⟩;show zV _ (jX st.t s _ t) _;unfold jX;cases e:Nat.beq t s with
     |false=>exact(h5 t).ext k4.ext
     |true=>
      have e:t=s:=by simpa using e
      subst e;exact⟨vs,dE,(bo.mono fun _ _ h=>h.ext k4.ext).set_left (by grind)⟩
    ·exact r
   ·exact r
  ·exact r
theorem vEc {st nm g}(r:vW false na nt a0 M0 w0 st a w)(aS:st.h nm=none):vW false na nt a0 M0 w0 (RX st nm g) a w:=by
 obtain⟨M,h1,h2,h3,h4,h5⟩:=r.ex;have hM:M.h nm=none:=by simp_all
 obtain⟨k1,k2,k3⟩:=M.nilObj_ok h3 hM g.2.2.1 g.2.2.2;have cM:zX (M.nilObj nm (kH g.2.2.1 g.2.2.2) (lQ g.2.2.1 g.2.2.2)) (.osl nm none) (.slice none 0 0):=⟨_,κset_same _ _ _,none,0,rfl,rfl,rfl,rfl⟩;have gr:tU false M0 (M.nilObj nm (kH g.2.2.1 g.2.2.2) (lQ g.2.2.1 g.2.2.2)):=h4.trans (.same_mem rfl rfl rfl k3);unfold RX;cases abd:g.2.2.2&&yU2 g.2.2.1 with
 |true=>exact vMj r
 |false=>
 split
 ·split
  ·rename_i hs;refine⟨⟨M.nilObj nm (kH g.2.2.1 g.2.2.2) (lQ g.2.2.1 g.2.2.2),?_,h2,k1,gr,fun t=>?_⟩,r.defers,r.size,r.os,r.tape,r.output,r.keep⟩
   ·show yI M.h nm _=yI st.h nm _;rw[h1];rfl
   ·show zV _ (jX st.t g.1 _ t) _;unfold jX;cases e:Nat.beq t g.1 with
    |false=>exact(h5 t).ext k2
    |true=>
     have e:t=g.1:=by simpa using e
     subst e;have hv:=h5 g.1;rw[hs] at hv;rw[hv];exact cM
  ·exact r
 ·rename_i j hj;split
  ·rename_i id hs;split
   ·rename_i cells ao;split
    ·have bn:id≠nm:=by grind
     let M1:=M.nilObj nm (kH g.2.2.1 g.2.2.2) (lQ g.2.2.1 g.2.2.2);have pC:M1.h id=some (.box true cells):=by
      show yI M.h nm _ id=_;rw[yP _ _ bn,h1];exact ao
     obtain⟨C,hC,hO⟩:=k1.obj id _ pC;obtain⟨B,vals,e,b1,b2,b3,b4,b5⟩:=hO;have hx:=zL.write_ext (H':=M1.H) k1 pC rfl hC C.le_refl (by grind) (by grind) (.box true (cells.set j (.osl nm none)));have hw := zL.write_ok (H' := M1.H) (o' := .box true (cells.set j (.osl nm none))) k1 pC rfl hC C.le_refl (by simp) rfl (by grind) (by grind) (by
      refine⟨B,vals,e,b1,b2,b3,?_,by simp⟩;have hl:=b4.length;refine zM.of_get (by simp_all) fun i hi bI=>?_
      have hb:=b4.get i (by omega) bI;by_cases eij:j=i
      ·subst eij;rw[List.getElem_set_self];have ec:cells[j]=.nsl:=by
        grind
       rw[ec] at hb;rw[hb];exact cM.ext hx
      ·rw[List.getElem_set_ne eij];exact hb.ext hx)
     refine⟨⟨M1.write id (.box true (cells.set j (.osl nm none))) C M1.H,?_,h2,hw.1,gr.trans hw.2.grow,fun t=>((h5 t).ext k2).ext hx⟩,r.defers,r.size,r.os,r.tape,r.output,r.keep⟩;show yI (yI M.h nm _) id _=yI (yI st.h nm _) id _;rw[h1];rfl
    ·exact r
   ·exact r
  ·exact r
theorem yYy:∀{l st bL nm},vW false na nt a0 M0 w0 st a w→Mn st nm l=some bL→vW false na nt a0 M0 w0 bL a w
 |[],st,bL,nm,r,h=>by cases h;exact r
 |g::l,st,bL,nm,r,h=>by
  unfold Mn at h;split at h
  ·rename_i aS;exact yYy (vEc r aS) h
  ·cases h
theorem yGq {id}:∀{l n i},fg id l n=some i→n≤i∧l[i-n]? =some id
 |x::l,n,i,h=>by
  unfold fg at h;cases e:Nat.beq x id with
  |true=>
   simp_all
  |false=>
   rw[e] at h;obtain⟨h1,h2⟩:=yGq (l:=l) h;grind
theorem Tw {h}:∀n {todo seen},seen.Nodup→(CL h n todo seen).Nodup
 |0,_,_,hs
 |n+1,[],_,hs=>hs
 |n+1,id::todo,seen,hs=>by
  unfold CL;cases e:seen.any (Nat.beq id) with
  |true=>exact Tw n hs
  |false=>
   refine Tw n (List.nodup_append.2 ⟨hs,by simp,fun x hx y hy exy=>?_⟩);have:y=id:=by simp_all
   have:=List.any_eq_false.1 e x hx;simp_all
def pH (base : Nat) (κ : Nat → Option qB) (ids : List Nat) : Nat → Option qB := fun n => if base ≤ n then (match ids[n-base]? with
 |some id=>(κ id).map fun C=>{C with ver:=0}
 |none=>none) else none
def zL.ren (M:zL)(base:Nat)(ids:List Nat):zL:={M with κ:=pH base M.κ ids,h:=zj base M.h ids}
theorem vYc {base h ids n o}(e:zj base h ids n=some o):∃id o',base≤n∧ids[n-base]? =some id∧h id=some o'∧o=vw h (fun i=>(fg i ids 0).map (base+·)) o':=by
 unfold zj at e;cases hb:Nat.ble base n with
 |false=>simp_all
 |true=>
  rw[hb] at e;split at e
  ·obtain⟨o',h1,h2⟩:=Option.map_eq_some_iff.1 e;simp_all
  ·cases e
theorem vKc {base κ ids id i C}(hi:fg id ids 0=some i)(hC:κ id=some C):pH base κ ids (base+i)=some {C with ver:=0}:=by
 obtain⟨_,h⟩:=yGq hi;unfold pH;simp_all
theorem Tx {M}(ok:Ok M){base ids c v}(h:zX M c v):zX (M.ren base ids) (vv M.h (fun i=>(fg i ids 0).map (base+·)) c) v:=by
 have h1:=h.one;have look:∀id C,M.κ id=some C→∀i,(fg id ids 0).map (base+·)=some i→(M.ren base ids).κ i=some {C with ver:=0}:=fun id C hC i hi=>by
  obtain⟨j,hj,rfl⟩:=Option.map_eq_some_iff.1 hi;exact vKc hj hC
 unfold vv;cases c with
 |osl id r=>
  dsimp only;obtain⟨C,hC,h⟩:=h;cases e:(fg id ids 0).map (base+·) with
  |none=>exact h1
  |some i=>cases r with
   |none=>exact⟨_,look id C hC i e,h⟩
   |some p=>exact⟨_,look id C hC i e,h⟩
 |bsl id x y=>
  dsimp only;obtain⟨C,B,hC,h⟩:=h;cases e:(fg id ids 0).map (base+·) with
  |none=>exact h1
  |some i=>exact⟨_,B,look id C hC i e,h⟩
 |ptr id x=>
  dsimp only;obtain⟨C,B,hC,h⟩:=h;cases e:(fg id ids 0).map (base+·) with
  |none=>exact h1
  |some i=>exact⟨_,B,look id C hC i e,h⟩
 |eptr id x y=>
  dsimp only;obtain⟨C,B,hC,h⟩:=h;cases e:(fg id ids 0).map (base+·) with
  |none=>exact h1
  |some i=>exact⟨_,B,look id C hC i e,h⟩
 |mrow id x ver=>
  dsimp only;obtain⟨C,hC,ho,hle,h⟩:=h;cases e:(fg id ids 0).map (base+·) with
  |none=>exact h1
  |some i=>
   split
   ·rename_i i' v' xs ei ao;cases ei;cases fD:Nat.beq v' ver with
    |false=>exact h1
    |true=>
     have iB:v'=ver:=by simpa using fD
     obtain⟨C',aE,hO⟩:=ok.obj id _ ao;rw[hC] at aE;cases aE;exact⟨_,look id C hC i e,h1,Nat.le_refl _,fun _=>h (by rw[hO.1,iB])⟩
   ·exact h1
 |mptr id x=>
  dsimp only;obtain⟨C,B,hC,h⟩:=h;cases e:(fg id ids 0).map (base+·) with
  |none=>exact h1
  |some i=>exact⟨_,B,look id C hC i e,h⟩
 |meptr id x y ver=>
  dsimp only;obtain⟨C,hC,ho,hle,h⟩:=h;cases e:(fg id ids 0).map (base+·) with
  |none=>exact h1
  |some i=>
   split
   ·rename_i i' v' xs ei ao;cases ei;cases fD:Nat.beq v' ver with
    |false=>exact h1
    |true=>
     have iB:v'=ver:=by simp_all
     obtain⟨C',aE,hO⟩:=ok.obj id _ ao;rw[hC] at aE;cases aE;exact⟨_,look id C hC i e,h1,by simp,fun _=>h (by rw[hO.1,iB])⟩
   ·exact h1
 |map id=>
  dsimp only;obtain⟨C,B,hC,h⟩:=h;cases e:(fg id ids 0).map (base+·) with
  |none=>exact h1
  |some i=>exact⟨_,B,look id C hC i e,h⟩
 |fn f cap=>
  dsimp only;obtain⟨cv,rfl,h⟩:=h;split
  ·rename_i c hc;refine⟨cv,rfl,?_⟩;have:=Ic _ _ _ hc;generalize cv.toList=l at h;clear hc h1
   induction cap generalizing c l with
   |nil=>cases c with
    |nil=>cases l with
     |nil=>trivial
     |cons _ _=>exact h.elim
    |cons _ _=>exact this.elim
   |cons x cap ih=>cases c with
    |nil=>exact this.elim
    |cons y c=>cases l with
     |nil=>exact h.elim
     |cons u l=>
      obtain⟨⟨C,B,hC,hh⟩,h⟩:=h;exact⟨⟨_,B,look x C hC y this.1,hh⟩,ih c this.2 l h⟩
  rfl
 |fsl sh t xs=>exact h
 |fptr sh t x off=>exact h
 |_=>exact h
theorem Ip {M}(ok:Ok M){base ids}:∀{cs vs},zM (zX M) cs vs→zM (zX (M.ren base ids)) (cs.map (vv M.h fun i=>(fg i ids 0).map (base+·))) vs
 |[],[],_=>trivial
 |_::_,_::_,h=>⟨Tx ok h.1,Ip ok h.2⟩
theorem vJc {M}(ok:Ok M){base ids x v}(h:zV M x v):zV (M.ren base ids) (yHs M.h (fun i=>(fg i ids 0).map (base+·)) x) v:=by
 cases x with
 |undef=>trivial
 |skp=>exact h
 |c x=>exact Tx (c:=x) ok h
 |agg cs=>
  obtain⟨vs,h1,h2⟩:=h;exact⟨vs,h1,Ip ok h2⟩
 |tup xs=>
  obtain⟨vs,h1,h2⟩:=h;refine⟨vs,h1,zM.map_left (h2.mono fun p u hp=>?_)⟩;obtain⟨b,cs⟩:=p;cases b with
  |true=>
   obtain⟨us,q1,q2⟩:=hp;exact⟨us,q1,Ip ok q2⟩
  |false=>
   cases cs with
   |nil=>exact hp
   |cons c cs=>cases cs with
    |nil=>exact Tx (c:=c) ok hp
    |cons _ _=>exact hp
theorem yM0 {M}(ok:Ok M){base ids o C}(h:yX M o C):yX (M.ren base ids) (vw M.h (fun i=>(fg i ids 0).map (base+·)) o) {C with ver:=0}:=by
 cases o with
 |box own cells=>
  obtain⟨B,vals,e,h1,h2,h3,h4,h5⟩:=h;exact⟨B,vals,e,h1,h2,h3,Ip ok h4,h5⟩
 |robox cells=>
  obtain⟨B,vals,e,h1,h2,h3,h4,h5⟩:=h;exact⟨B,vals,e,h1,h2,h3,Ip ok h4,h5⟩
 |arr own t xs=>exact h
 |mat ver xs=>
  obtain⟨h1,h2⟩:=h;exact⟨rfl,h2⟩
 |pmat ver xs n=>
  obtain⟨h1,h2⟩:=h;exact⟨rfl,h2⟩
 |imap de=>exact h
 |gone=>trivial
theorem Tz {h ρ} o:(vw h ρ o).owned=o.owned:=by cases o<;>rfl
theorem zL.ren_ok {M}(ok:Ok M){base ids}(dF:ids.Nodup):Ok (M.ren base ids)∧∀b,qM (M.ren base ids) b→qM M b:=by
 have at':∀n o,(M.ren base ids).h n=some o→∃id o' C,base≤n∧ids[n-base]? =some id∧M.h id=some o'∧M.κ id=some C∧o=vw M.h (fun i=>(fg i ids 0).map (base+·)) o'∧yX M o' C∧(M.ren base ids).κ n=some {C with ver:=0}:=fun n o h=>by
  obtain⟨id,o',h1,h2,h3,h4⟩:=vYc h;obtain⟨C,hC,hO⟩:=ok.obj id _ h3;refine⟨id,o',C,h1,h2,h3,hC,h4,hO,?_⟩;show pH base M.κ ids n=_;unfold pH;simp_all
 have ny:∀b,qM (M.ren base ids) b→qM M b:=fun b ⟨n,o,C,h1,h2,h3,h4⟩=>by
  obtain⟨id,o',C',k1,k2,k3,k4,k5,k6,k7⟩:=at' n o h1;rw[k7] at h3;cases h3;exact⟨id,o',C',k3,by rw[←h2,k5,Tz],k4,h4⟩
 refine⟨⟨fun n o h=>?_,fun n h=>?_,fun i j oi oj Ci Cj b oz h1 h2 h3 h4 h5 h6 h7 h8=>?_,fun b h=>ok.own b (ny b h),ok.GF,ok.Flt⟩,ny⟩
 ·obtain⟨id,o',C,k1,k2,k3,k4,rfl,k6,k7⟩:=at' n o h;exact⟨_,k7,yM0 ok k6⟩
 ·show pH base M.κ ids n=none;unfold pH;split
  ·rename_i hb;split
   ·rename_i id ao;have:M.h id=none:=by
     cases e:M.h id with
     |none=>rfl
     |some o=>
      have:(M.ren base ids).h n=some (vw M.h (fun i=>(fg i ids 0).map (base+·)) o):=by
       show zj base M.h ids n=_;unfold zj;rw[show Nat.ble base n=true from Nat.ble_eq_true_of_le hb,ao];simp[e]
      simp_all
    rw[ok.non id this];rfl
   ·rfl
  ·rfl
 ·obtain⟨id,o',C,k1,k2,k3,k4,k5,k6,k7⟩:=at' i oi h1;obtain⟨jd,p',D,q1,q2,q3,q4,q5,q6,q7⟩:=at' j oj h2;rw[k7] at h5;rw[q7] at h6;cases h5;cases h6;refine ok.disj id jd o' p' C D b (fun e=>?_) k3 q3 (by rw[←h3,k5,Tz]) (by rw[←h4,q5,Tz]) k4 q4 h7 h8;have hi:=(List.getElem?_eq_some_iff.1 k2);have hj:=(List.getElem?_eq_some_iff.1 q2);have:=(List.getElem_inj (h₀:=hi.1) (h₁:=hj.1) dF).1 (by omega);omega
theorem yDp:∀{a b},Mb a b=true→a=b
 |[],[],_=>rfl
 |x::a,y::b,h=>by
  simp only[Mb,Bool.and_eq_true] at h;rw[Nat.eq_of_beq_eq_true h.1,yDp h.2]
theorem vS2 {c v}(h:RP c v=true):c=.undef∨c=v:=by
 unfold RP at h;split at h
 ·simp
 ·simp
 ·simp
 ·simp
 ·simp
 ·simp_all
 ·simp_all
 ·simp_all
 ·simp only[Bool.and_eq_true] at h;exact .inr (by rw[Nat.eq_of_beq_eq_true h.1,yDp h.2])
 all_goals simp_all
theorem nH {α:Type}{c x}{y:α}(h:(bif c then x else none)=some y):c=true∧x=some y:=by
 grind
theorem tX {M}(ok:Ok M):∀{l cs d vs},mB l cs=some d→zM (zX M) cs vs→zM (zX M) (py l d) vs
 |[],[],_,[],_,_=>trivial
 |.int k::l,c::cs,d,v::vs,h,hv=>by
  cases c<;>first|(cases h;done)|skip
  obtain⟨hk,h⟩:=nH h;split at h
  ·rename_i d' hd;cases h;refine⟨?_,tX ok hd hv.2⟩;rw[←tt hk];exact hv.1
  ·cases h
 |.bool::l,c::cs,d,v::vs,h,hv=>by
  cases c<;>first|(cases h)|skip
  unfold mB at h;split at h
  ·rename_i d' hd;cases h;exact⟨hv.1,tX ok hd hv.2⟩
  ·cases h
 |.dat sh t::l,c::cs,d,v::vs,h,hv=>by
  cases c<;>first|(cases h;done)|skip
  ·rename_i HG s xs;obtain⟨hs,h⟩:=nH h;split at h
   ·rename_i ys d' hx hd;cases h;obtain⟨e,hx⟩:=lj hx;subst e;subst hx;refine⟨?_,tX ok hd hv.2⟩;have h1:qD M.H (bif HG then M.G else M.F) (.sl s) xs (fun _=>some v):=hv.1;cases sh with
    |true=>
     have:HG=true:=by simp_all
     subst this;exact h1
    |false=>cases HG with
     |false=>exact h1
     |true=>exact vB ok.GF (by simp) _ _ _ _ (by simp) h1
   ·cases h
  ·unfold mB at h;split at h
   ·rename_i d' hd;cases h;refine⟨?_,tX ok hd hv.2⟩;rw[show v=.slice none 0 0 from hv.1];exact⟨none,0,0,rfl,rfl,by simp,by simp⟩
   ·cases h
 |.lit c::l,x::cs,d,v::vs,h,hv=>by
  obtain⟨he,h⟩:=nH h;refine⟨?_,tX ok h hv.2⟩;rcases vS2 he with rfl|rfl
  ·exact hv.1.one
  ·exact hv.1
theorem TA {M}(ok:Ok M){v a d rv}(h:RQ v a=some d)(hv:zV M a rv):zV M (RR v d) rv:=by
 cases v with
 |c x=>
  cases a with
  |c y=>
   have:=tX ok (vs:=[rv]) (show mB [x] [y]=some d from h) ⟨hv,trivial⟩;show zV M (match py [x] d with|c::_=>.c c|[]=>.undef) rv
   match hh:py [x] d,this with
   |[c],this=>exact this.1
  |_=>cases h
 |agg l=>
  cases a with
  |agg vs=>
   obtain⟨us,rfl,hx⟩:=hv;exact⟨us,rfl,tX ok (show mB l vs=some d from h) hx⟩
  |_=>cases h
theorem vXg {M}(ok:Ok M){o x d C}(h:Md o x=some d)(hO:yX M x C)(hv:C.ver=0):yX M (Me o d) C∧(Me o d).owned=x.owned:=by
 unfold Md at h;split at h
 ·obtain⟨he,h'⟩:=nH h;have he:=eq_of_beq he;subst he;clear h;obtain⟨B,vals,e,h1,h2,h3,h4,h5⟩:=hO;exact⟨⟨B,vals,e,h1,h2,h3,tX ok h' h4,h5⟩,rfl⟩
 ·obtain⟨B,vals,e,h1,h2,h3,h4,h5⟩:=hO;exact⟨⟨B,vals,e,h1,h2,h3,tX ok h h4,h5⟩,rfl⟩
 ·obtain⟨he,h'⟩:=nH h;have he:=eq_of_beq he;subst he;obtain⟨e,hx⟩:=lj h';subst e;subst hx;exact⟨hO,rfl⟩
 ·cases h;exact⟨⟨hv,hO.2⟩,rfl⟩
 ·cases h;exact⟨⟨hv,hO.2⟩,rfl⟩
 ·cases h;exact⟨hO,rfl⟩
 ·cases h
theorem vAe {f t}:∀{l d n v},Mo f t l=some d→(CI l d).lookup n=some v→∃(s:VS) (x:SL s.cells),RQ s (f (t n))=some x∧v=RR s x
 |s::l,d,n,v,hr,h=>by
  unfold Mo at hr;split at hr
  ·rename_i x ds h1 h2;cases hr;unfold CI at h;rw[List.lookup_cons] at h;cases e:n==s.1 with
   |true=>
    grind
   |false=>
    rw[e] at h;exact vAe h2 h
  ·cases hr
theorem qZ8 {f h0}:∀{l ids d},Mp f h0 l ids=some d→(tA l d).length=ids.length∧∀(i:Nat) o,(tA l d)[i]? =some o→∃(s:OS) (x:s.den) (id:Nat) (y:Obj),ids[i]? =some id∧h0 id=some y∧Md s (f y)=some x∧o=Me s x
 |[],[],d,_=>⟨rfl,nofun⟩
 |s::l,id::ids,d,h=>by
  unfold Mp at h;split at h
  ·rename_i x ds h1 h2;cases h;obtain⟨y,h3,h4⟩:=Option.bind_eq_some_iff.1 h1;obtain⟨k1,k2⟩:=qZ8 h2;refine⟨by simp[tA,k1],fun i o hi=>?_⟩;cases i with
   |zero=>
    simp[tA] at hi;grind
   |succ i=>
    simp[tA] at hi;simp_all
  ·cases h
theorem vX5 {g0 base n:Nat}{S:zE}{st:St}{d:S.den}(r:vW false na nt a0 M0 w0 st a w)(h:RY g0 base n S st=some d):vW false na nt a0 M0 w0 (zN base S d) a w:=by
 unfold RY at h;split at h
 ·cases h
 rename_i st1 hg;have r:=yYy r hg;dsimp only at h;generalize lP:CL st1.h n _ []=ids at h;have dF:ids.Nodup:=by rw[←lP];exact Tw n List.nodup_nil
 split at h
 case h_2=>cases h
 rename_i da db ha hb;cases h;obtain⟨M,h1,h2,h3,h4,h5⟩:=r.ex;rw[←h1] at ha hb;obtain⟨k1,k2⟩:=M.ren_ok h3 (base:=base) dF;obtain⟨ol,oa⟩:=qZ8 hb;let M':zL:={M.ren base ids with h:=(zN base S (da,db)).h};have M5:∀n o',M'.h n=some o'→∃o C,(M.ren base ids).h n=some o∧M'.κ n=some C∧yX (M.ren base ids) o' C∧o'.owned=o.owned:=fun m o' e=>by
  have e:(bif Nat.ble base m then(tA S.objs db)[m-base]? else none)=some o':=e;obtain⟨hle,e⟩:=nH e;obtain⟨s,x,id,y,q1,q2,q3,rfl⟩:=oa _ _ e;obtain⟨C,hC,hO⟩:=h3.obj id y q2;have hκ:(M.ren base ids).κ m=some {C with ver:=0}:=by
   show pH base M.κ ids m=_;unfold pH;simp_all
  have hh:(M.ren base ids).h m=some (vw M.h (fun i=>(fg i ids 0).map (base+·)) y):=by
   show zj base M.h ids m=_;unfold zj;grind
  obtain⟨p1,p2⟩:=vXg k1 q3 (yM0 h3 hO) rfl;grind
 have x:yN (M.ren base ids) M':=⟨fun _ C h=>⟨C,h,C.le_refl⟩,fun _ h=>h,fun _ h=>h,fun _ _=>rfl,by grind,fun _ _=>rfl⟩;have aM:∀b,qM M' b→qM (M.ren base ids) b:=fun b ⟨id,o',C,q1,q2,q3,q4⟩=>by
  obtain⟨o,D,p1,p2,p3,p4⟩:=M5 id o' q1;exact⟨id,o,C,p1,by rw[←p4];exact q2,q3,q4⟩
 have kB:Ok M':=by
  refine⟨fun id o' q=>?_,fun id q=>?_,fun i j oi oj Ci Cj b oz q1 q2 q3 q4 q5 q6 q7 q8=>?_,fun b hb=>k1.own b (aM b hb),k1.GF,k1.Flt⟩
  ·obtain⟨o,C,p1,p2,p3,p4⟩:=M5 id o' q;exact⟨C,p2,p3.ext x (by grind)⟩
  ·have q:(bif Nat.ble base id then(tA S.objs db)[id-base]? else none)=none:=q;show pH base M.κ ids id=none;unfold pH;cases hle:Nat.ble base id with
   |false=>rw[if_neg fun h=>by rw[Nat.ble_eq_true_of_le h] at hle;cases hle]
   |true=>
    simp_all
  ·obtain⟨o1,C1,p1,p2,p3,p4⟩:=M5 i oi q1;obtain⟨o2,C2,p5,p6,p7,p8⟩:=M5 j oj q2;exact k1.disj i j o1 o2 Ci Cj b oz p1 p5 (by rw[←p4];exact q3) (by rw[←p8];exact q4) q5 q6 q7 q8
 refine⟨⟨M',rfl,h2,kB,h4.trans (.same_mem rfl rfl rfl (by grind)),fun m=>?_⟩,r.defers,r.size,r.os,r.tape,r.output,r.keep⟩;show zV M' (match(CI S.slots da).lookup m with|some v=>v|none=>.undef) _;cases hl:(CI S.slots da).lookup m with
 |none=>trivial
 |some v=>
  obtain⟨s,y,q1,rfl⟩:=vAe ha hl;exact(TA k1 q1 (vJc h3 (h5 m))).ext x
theorem M6 {pre S st d}(r:vW false na nt a0 M0 w0 st a w)(h:HI pre S st=some d):vW false na nt a0 M0 w0 (zN (pre+g9) S d) a w:=vX5 r h
end
end Go.Ab
