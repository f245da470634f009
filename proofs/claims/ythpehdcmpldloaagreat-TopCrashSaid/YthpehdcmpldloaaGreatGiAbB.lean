/- part 1 -/
import Derived.Test.YthpehdcmpldloaaGreatGiAbA
import Derived.Laws.BytesString
set_option linter.unusedVariables false
set_option linter.unusedSimpArgs false
namespace Go.Ab
def yE6 off:∀l k cells,off+k+l.length≤cells.size→
  (l.zipIdx k).foldl (fun(cs:Array Value) (p:Value×Nat)=>cs.setIfInBounds (off+p.2) p.1) cells=yV cells (off+k) l
 |[],k,cells,h=>by
  apply Array.ext_getElem?;intro j;rw[ee h];simp_all
 |c::l,k,cells,h=>by
  simp;rw[yE6 off l (k+1) _ (by grind)];apply Array.ext_getElem?;intro j;rw[ee (by grind),ee (by omega)];grind
def T5 place cells i v rest off size (h:place i=some (off,size))(h1:v.cells.size=size)(h2:off+size≤cells.size):
  Instr.fill place cells ((i,v)::rest)=Instr.fill place (yV cells off v.cells.toList) rest:=by
 have hc:¬(v.cells.size≠size||decide (off+v.cells.size>cells.size))=true:=by
  simp_all
 simp only[Instr.fill,h];rw[if_neg hc]
 congr 1
 rw[←Array.foldl_toList,Array.toList_zipIdx];have:=yE6 off v.cells.toList 0 cells (by simp;omega);omega
def AN (M:zK):(Nat×zX)→(Nat×Value)→Prop:=fun p q=>p.1=q.1∧zV M p.2 q.2
def T6 {M place}:∀{parts aM cells out vals},zM (zY M) cells vals.toList→
  zM (AN M) parts aM→Is place cells parts=some out→∃res,Instr.fill place vals aM=some res∧zM (zY M) out res.toList
 |[],[],cells,out,vals,hc,_,h=>by cases h;exact⟨vals,rfl,hc⟩
 |(i,v)::parts,(i',rv)::aM,cells,out,vals,hc,hp,h=>by
  obtain⟨⟨hi,hv⟩,hp⟩:=hp;subst hi;unfold Is at h;split at h
  ·rename_i off size vs DO dF;cases hb:(Nat.beq vs.length size&&Nat.ble (off+size) cells.length) with
   |false=>simp_all
   |true=>
    rw[hb] at h;simp only[Bool.and_eq_true] at hb;have b1:=Nat.eq_of_beq_eq_true hb.1;have b2:=Nat.le_of_ble_eq_true hb.2;split at h
    ·rename_i bK T7;obtain⟨p1,rfl⟩:=To _ _ _ _ T7;have dr:=Ny dF hv;have hl:=dr.length;have mZ:=hc.length;simp  at hl mZ;have yT:=Ts (yQ.refl M) hc dr (off:=off) (by simp_all);obtain⟨res,h1,h2⟩:=T6 yT hp h;exact⟨res,by rw[T5 place vals i rv aM off size DO (by omega) (by omega)];exact h1,h2⟩
    ·cases h
  ·cases h
def vCg {P} w:∀(l:List Field),l.all (fun f=>(P.info? f.type).isSome)=true→
  (l.mapM fun f=>(do pure (f.offset,←sizeOf f.type):Sem (Nat×Nat))).run P w=.ok (l.map fun f=>(f.offset,P.cellsOf f.type)) w
 |[],_=>by simp
 |f::l,h=>by
  simp only[List.all_cons,Bool.and_eq_true] at h;obtain⟨i,hi⟩:=Option.isSome_iff_exists.1 h.1;rw[List.mapM_cons];simp only[Sem.run_bind,iJ w hi,Result.andThen_ok,Sem.run_pure,vCg w l h.2,List.map_cons]
def vOq {P M w}(ok:Ok M)(hM:M.H=w.heap){t parts aM v u}(hp:zM (AN M) parts aM)
  (h:yL (S3 P t parts) v u):qL P (Instr.build t aM.toArray) M w v u:=by
 unfold S3 at h;split at h
 ·exact h.elim
 ·rename_i zero hz;obtain⟨i,z,h1,h2,h3,h4,rfl⟩:=yE1 hz;have hzero:=Nu M h4;split at h
  ·rename_i fs hs;obtain⟨bh,h⟩:=gA h;split at h
   ·rename_i cells hf;obtain⟨rfl,rfl⟩:=wO h;have DO:(fun(j:Nat)=>(fs[j]?).map fun(f:Field)=>(f.offset,P.cellsOf f.type))=(fun(j:Nat)=>(fs.toList.map fun f=>(f.offset,P.cellsOf f.type)).toArray[j]?):=by
     simp
    obtain⟨res,k1,k2⟩:=T6 hzero hp hf;refine qL.pure ok hM (rv:=.agg res) ?_ ⟨res,rfl,k2⟩;have hm:=vCg (P:=P) w fs.toList bh;simp[Instr.build,zeroValue,Tj w h1,run_underlying hs,Array.mapM_eq_mapM_toList];simp_all
   ·exact h.elim
  ·rename_i n e hs;obtain⟨bh,h⟩:=gA h;obtain⟨y,hy⟩:=Option.isSome_iff_exists.1 bh;split at h
   ·rename_i cells hf;obtain⟨rfl,rfl⟩:=wO h;obtain⟨res,k1,k2⟩:=T6 hzero hp hf;refine qL.pure ok hM (rv:=.agg res) ?_ ⟨res,rfl,k2⟩;simp[Instr.build,zeroValue,Sem.run_bind,Tj w h1,Result.andThen_ok,h2,Sem.run_pure,run_underlying hs,iJ w hy];simp_all
   ·exact h.elim
  ·exact h.elim
def qL.after {P s M M1 w v u1 u2}(h1:M1.h=qK M.h u1)(st:vG M M1)(h:qL P s M1 w v u2):qL P s M w v (u1++u2):=by
 obtain⟨rv,w',M',a1,a2,a3,a4,a5,a6,a7,a8,a9⟩:=h;exact⟨rv,w',M',a1,a2,a3,a4,a5,by rw[a6,h1,lz],a7,st.trans a8,a9⟩
def jH.fresh {h0 h}(hf:jH h0 h){n}(hn:h0 n=none):h n=none:=by
 rcases hf n with e|⟨o,t,xs,e1,_⟩|⟨o,xs,e1,_⟩
 all_goals simp_all
def yJx {t vs x}(h:Ip t vs=some x):vs.length=t.size∧tA t t.dflt 0 vs=some x:=by
 unfold Ip at h;cases hb:Nat.beq vs.length t.size with
 |false=>simp_all
 |true=>simp_all
def vP7 {M t vs us x}(h:Ip t vs=some x)(hv:zM (zY M) vs us){rd}(hr:∀i,i<us.length→rd i=us[i]?):qF M.H M.G t x rd:=by
 obtain⟨h1,h2⟩:=yJx h;have hl:=hv.length;refine Tx t vs us t.dflt x 0 (fun j=>(iq t)[j]?) rd (IN t _ (by simp)) h2 hv (by grind) (by grind)
def yZr {h0 t n}:∀{parts aM xs out vals u M},Ok M→jH h0 M.h→xs.length=n→vals.size=n*t.size→
  (∀k h,qF M.H M.G t xs[k] (fun j=>vals[k*t.size+j]?))→(∀p∈parts,p.1<n)→zM (AN M) parts aM→rS h0 t xs parts=some (out,u)→
  ∃res M',Instr.fill (fun i=>some (i*t.size,t.size)) vals aM=some res∧M'.H=M.H∧M'.h=qK M.h u∧Ok M'∧vG M M'∧jH h0 M'.h∧out.length=n∧res.size=n*t.size∧
   (∀k h,qF M'.H M'.G t out[k] (fun j=>res[k*t.size+j]?))
 |[],[],xs,out,vals,u,M,ok,hf,hx,hs,hE,_,_,h=>by
  cases h;exact⟨vals,M,rfl,rfl,rfl,ok,vG.refl M,hf,hx,hs,hE⟩
 |(i,v)::parts,(i',rv)::aM,xs,out,vals,u,M,ok,hf,hx,hs,hE,bm,hp,h=>by
  obtain⟨⟨hi,hv⟩,hp⟩:=hp;dsimp only at hi hv;subst hi;unfold rS at h;split at h
  ·rename_i vs dF;split at h
   ·rename_i TJ u1 DE;split at h
    ·rename_i x wk;split at h
     ·rename_i xs' us bc;cases h;have dr:=Ny dF hv;obtain⟨M1,a1,a2,a3,a4,a5,a6,a7⟩:=Tu ok hf dr DE;have hl:=a5.length;simp  at hl;have AO:=(yJx wk).1;have fH:i<n:=bm (i,v) (by simp);have aR:=Nat.mul_le_mul_right t.size (show i+1≤n by omega);rw[Nat.add_mul] at aR;have aJ:i*t.size+rv.cells.toList.length≤vals.size:=by simp_all
      have hE1:∀k (h:k<(xs.set i x).length),qF M1.H M1.G t (xs.set i x)[k] (fun j=>(yV vals (i*t.size) rv.cells.toList)[k*t.size+j]?):=by
       intro k hk;rw[List.length_set] at hk;by_cases e:k=i
       ·subst e;rw[List.getElem_set_self];refine vP7 wk a5 fun j hj=>?_
        rw[ee aJ,if_neg (by omega),if_pos (by omega)];simp
       ·rw[List.getElem_set_ne (Ne.symm e)];refine vE a4.ext.G (by grind) t _ _ _ (fun j hj=>?_) (hE k hk);rw[ee aJ,Array.length_toList];rcases yJo (Ne.symm e) hj with h|h
        all_goals grind
      obtain⟨res,M2,b1,b2,b3,b4,b5,b6,b7,b8,b9⟩:=yZr a3 a6 (by simp_all) (by rw[gQ aJ];exact hs) hE1
       (fun p hp=>bm p (by grind)) (hp.mono fun p q hpq=>⟨hpq.1,by
        obtain⟨_,hq⟩:=hpq;exact zV.ext a4.ext hq⟩) bc
      exact⟨res,M2,by rw[T5 _ vals i rv aM (i*t.size) t.size rfl (by omega) (by omega)];exact b1,b2.trans a1,by rw[b3,a2,lz],b4,a4.trans b5,b6,b7,b8,b9⟩
     ·cases h
    ·cases h
   ·cases h
  ·cases h
def yGi {P w t e n aM}{ty:Ty}{i z res}(hu:P.underlying t=some (.slice e))(hi:P.info? e=some i)
  (hz:i.zero=some z) (hs:i.size=ty.size) (cQ:n*P.cellsOf e≤16777216) (hf:Instr.fill (fun j=>some (j*ty.size,ty.size)) (madeCells z.cells (n*ty.size)) aM=some res):
  (Instr.buildSlice t n aM.toArray).run P w=.ok (.slice (some ⟨w.heap.size,0,none⟩) n n) (w.alloc (.cells res e)):=by
 have hc:P.cellsOf e=ty.size:=by rw[Ti hi];exact hs
 rw[hc] at cQ;have h1:¬2^24<n*ty.size:=by omega
 by_cases h0:n*ty.size=0
 ·have hm:madeCells z.cells (n*ty.size)=#[]:=by rw[h0];simp[madeCells]
  rw[hm] at hf;simp[Instr.buildSlice,run_underlying hu,iJ w hi,hc,h0];simp[Array.range_zero',hf,newRow]
 ·simp[Instr.buildSlice,run_underlying hu,Result.andThen_ok,iJ w hi,hc,h1,if_false,h0,Sem.run_pure,zeroValue,Tj w hi,hz];rw[show(Array.range (n*ty.size)).map (z.cells[· %z.cells.size]!)=madeCells z.cells (n*ty.size) from rfl,hf];rfl
def yS4 {parts:List (Nat×zX)}{n}(h:parts.all (fun p=>Nat.blt p.1 n)=true):∀p∈parts,p.1<n:=by
 simp only[List.all_eq_true] at h;exact fun p hp=>Tv (h p hp)
def T8 {P M w}(ok:Ok M)(hM:M.H=w.heap){nm t e n parts aM ty xs u}
  (hp:zM (AN M) parts aM) (hu:P.underlying t=some (.slice e)) (aS:M.h nm=none) (dH:kt P e=some ty) (cQ:n*P.cellsOf e≤16777216) (bm:∀p∈parts,p.1<n)
  (hf:rS M.h ty (List.replicate n ty.dflt) parts=some (xs,u)):
  qL P (Instr.buildSlice t n aM.toArray) M w (.c (.osl nm none)) (u++[(nm,.arr true ty xs)]):=by
 obtain⟨i,z,h1,h2,h3,h4,h5,h6,h7⟩:=sg dH;obtain⟨res,M',b1,b2,b3,b4,b5,b6,b7,b8,b9⟩:=yZr (n:=n) ok (jH.refl _) (by simp) (vals:=madeCells z.cells (n*ty.size)) (by rw[size_madeCells])
  (fun k hk=>by rw[yX5 hk];exact vEt h4 h7 (by simp_all)) bm hp hf
 have hr:=yGi (P:=P) (w:=w) hu h1 h2 h3 cQ b1;refine qL.after b3 b5 (yTo b4 (by grind) (b6.fresh aS) (c:=n) (us:=res) (e:=e) (by omega) (by omega) (by grind) ?_);simp_all
structure wm (M:zK) (J:List Nat) (n:Nat) (rows:List (List Int)) (vals:Array Value) (rc:List (Option Nat×Nat)):Prop where
 len:rows.length=n
 size:vals.size=n
 rlen:rc.length=n
 row:∀k (h:k<rows.length),∃rb v,rc[k]? =some (rb,rows[k].length)∧vals[k]? =some v∧mR M.H rb rows[k].length v∧
  (∀R,rb=some R→∃rv er,M.H[R]? =some (.cells rv er (0,0))∧∀j (h':j<rows[k].length),rv[j]? =some (.int .i64 rows[k][j]))
 nd:(rc.filterMap (·.1)).Nodup
 of:∀R∈rc.filterMap (·.1),∃j∈J,∃C,M.κ j=some C∧R∈C.fp
 js:∀j∈J,∃ys:List Int,M.h j=some (.arr true (.int .i64) ys)
def wm.put {M}(ok:Ok M){J n rows vals rc}(I:wm M J n rows vals rc){i}(hi:i<n){v rv r u}
  (hv:zV M v rv) (ht:Au M.h v=some (r,u)) (hJ:∀p∈u,p.1∉J):∃NK,wm M (J++u.map (·.1)) n (rows.set i r) (yV vals i rv.cells.toList) NK∧rv.cells.size=1∧(∀p∈u,p.2=.gone):=by
 have put:∀(rb:Option Nat) (J':List Nat),rv.one1=true→mR M.H rb r.length rv→(∀R,rb=some R→∃rv er,M.H[R]? =some (.cells rv er (0,0))∧∀j (h':j<r.length),rv[j]? =some (.int .i64 r[j]))→
   (∀R,rb=some R→R∉rc.filterMap (·.1))→(∀R,rb=some R→∃j∈J',∃C,M.κ j=some C∧R∈C.fp)→(∀j∈J',∃ys:List Int,M.h j=some (.arr true (.int .i64) ys))→
   wm M (J++J') n (rows.set i r) (yV vals i rv.cells.toList) (rc.set i (rb,r.length))∧rv.cells.size=1:=by
  intro rb J' h1 h2 h3 h4 h5 h6;have aF:rv.cells=#[rv]:=by cases rv<;>first|rfl|cases h1
  obtain⟨s1,s2⟩:=NB (x:=(rb,r.length)) rc i I.nd h4;have aJ:i+rv.cells.toList.length≤vals.size:=by rw[aF,I.size];show i+1≤n;omega
  refine⟨⟨by rw[List.length_set];exact I.len,by rw[gQ aJ];exact I.size,by rw[List.length_set];exact I.rlen,fun k hk=>?_,s1,fun R hR=>?_,fun j hj=>?_⟩,by rw[aF];rfl⟩
  ·rw[List.length_set] at hk;by_cases e:k=i
   ·subst e;rw[List.getElem_set_self];refine⟨rb,rv,?_,?_,h2,h3⟩
    ·rw[List.getElem?_set_self (by rw[I.rlen];exact hi)]
    ·rw[ee aJ,if_neg (by omega),if_pos (by rw[aF];show k<k+1;omega),aF];simp
   ·rw[List.getElem_set_ne (Ne.symm e)];obtain⟨pQ,v',p1,p2,p3,p4⟩:=I.row k hk;refine⟨pQ,v',by rw[List.getElem?_set_ne (Ne.symm e)];exact p1,?_,p3,p4⟩;rw[ee aJ,aF];grind
  ·rcases s2 R hR with h|h
   ·obtain⟨j,hj,hC⟩:=I.of R h;exact⟨j,by grind,hC⟩
   grind
  ·rcases List.mem_append.1 hj with h|h
   ·exact I.js j h
   ·exact h6 j h
 unfold Au at ht;split at ht
 ·rename_i jd;split at ht
  ·rename_i ys df;cases ht;obtain⟨Cj,eW,nO⟩:=ok.obj jd _ df;obtain⟨jr,jf⟩:=IF nO;obtain⟨r1,r2⟩:=TE eW nO hv;have mY:∀j∈[jd],∃ys:List Int,M.h j=some (.arr true (.int .i64) ys):=by grind
   have:=put Cj.blk [jd] (zY.one (c:=.osl jd none) hv) r1 r2 (fun R hR hm=>?_) (by grind) (fun j hj=>mY j hj)
   ·exact(by grind)
   ·obtain⟨j,hj,C,hC,hRC⟩:=I.of R hm;obtain⟨ys',mV⟩:=I.js j hj;have bo:j≠jd:=fun e=>hJ (jd,.gone) (by simp) (e▸hj)
    exact ok.disj j jd _ _ C Cj R bo mV df rfl rfl hC eW hRC (fW hR)
  ·cases ht
 ·cases ht;have e:rv=.slice none 0 0:=hv;have:=put none [] (by rw[e];rfl) ⟨e,rfl⟩ (by simp) (by simp) (by simp) (by simp);exact by grind
 ·cases ht
def DP:∀{l},tC l=true→l.Nodup
 |[],_=>by simp
 |a::l,h=>by
  simp only[tC,Bool.and_eq_true] at h;refine List.nodup_cons.2 ⟨fun hm=>?_,DP h.2⟩;have:l.any (Nat.beq a)=true:=List.any_eq_true.2 ⟨a,hm,by simp⟩;simp_all
def yO8 {M}(ok:Ok M){n}:∀{parts aM J rows out vals rc u},wm M J n rows vals rc→
  (∀p∈parts,p.1<n)→zM (AN M) parts aM→Av M.h rows parts=some (out,u)→(J++u.map (·.1)).Nodup→
  ∃res NK,Instr.fill (fun i=>some (i*1,1)) vals aM=some res∧wm M (J++u.map (·.1)) n out res NK∧(∀p∈u,p.2=.gone)
 |[],[],J,rows,out,vals,rc,u,I,_,_,h,_=>by
  cases h;exact⟨vals,rc,rfl,by simp_all,by simp⟩
 |(i,v)::parts,(i',rv)::aM,J,rows,out,vals,rc,u,I,bm,hp,h,dG=>by
  obtain⟨⟨hi,hv⟩,hp⟩:=hp;subst hi;unfold Av at h;split at h
  ·rename_i r u1 ht;split at h
   ·rename_i ix us bc;cases h;rw[List.map_append,←List.append_assoc] at dG;have fH:i<n:=bm (i,v) (by simp);obtain⟨NK,I',h1,hg⟩:=I.put ok fH hv ht (by grind);obtain⟨res,rc2,b1,b2,b3⟩:=yO8 ok I' (by grind) hp bc dG;refine⟨res,rc2,?_,by simp_all,fun p hp=>?_⟩
    ·rw[T5 _ vals i rv aM (i*1) 1 rfl h1 (by rw[I.size];omega),Nat.mul_one];exact b1
    grind
   ·cases h
  ·cases h
def T9 {j}:∀{u h},(∀p∈u,p.2=.gone)→j∈u.map (·.1)→qK h u j=some .gone
 |(id,o)::u,h,hg,hj=>by
  have ho:o=.gone:=hg (id,o) (by simp);subst ho;by_cases hm:j∈u.map (·.1)
  ·exact T9 (u:=u) (by grind) hm
  ·have e:j=id:=by
    simp_all
   subst e;show qK (yG h j .gone) u j=_;rw[NC]
   ·exact yO _ _ _
   ·rw[Bool.eq_false_iff];simp_all
def DQ {n u h}(hn:n∉u.map (·.1)):qK h u n=h n:=by
 refine NC h ?_;rw[Bool.eq_false_iff];simp_all
def vXg {P:Program}{M:zK}{w}(ok:Ok M)(hM:M.H=w.heap){nm n c}{rows res rc J}{u:vL}{e s}
  (aS:M.h nm=none) (I:wm M J n rows (res.extract 0 n) rc) (hJ:∀j,j∈J→j∈u.map (·.1)) (hg:∀p∈u,p.2=.gone∧∃o,M.h p.1=some o∧o.owned=true) (hc:n≤c) (hs:c≤res.size)
  w' (hw:w'.heap=w.heap.push (.cells res e)∧w'.os=w.os∧w'.tape=w.tape∧w'.output=w.output)
  (hr:s.run P w=.ok (.slice (some ⟨w.heap.size,0,none⟩) n c) w'):qL P s M w (.c (.osl nm none)) (u++[(nm,.mat 0 rows)]):=by
 let C:qB:=⟨some M.H.size,n,1,0,rc⟩;have hnJ:nm∉u.map (·.1):=(by grind);have aR:∀R∈rc.filterMap (·.1),∃j C,(j∈u.map (·.1))∧M.κ j=some C∧R∈C.fp:=fun R hR=>by
  obtain⟨j,hj,C,hC,hm⟩:=I.of R hR;grind
 have aed:∀R∈rc.filterMap (·.1),R<M.H.size:=fun R hR=>by
  obtain⟨j,hj,C,hC,hm⟩:=I.of R hR;obtain⟨ys,hy⟩:=I.js j hj;exact(ok.own R ⟨j,_,C,hy,rfl,hC,hm⟩).2
 have hh:∀n',(qK M.h (u++[(nm,.mat 0 rows)])) n'=if n'=nm then some (.mat 0 rows) else qK M.h u n':=fun n'=>by
  rw[lz,Tn];by_cases e:n'=nm
  ·rw[if_pos e,e,yO]
  ·rw[if_neg e,yS _ _ e]
 have:=zK.move_ok (M:=M) (nm:=nm) (o':=.mat 0 rows) (C':=C) (h':=qK M.h (u++[(nm,.mat 0 rows)])) (H':=M.H.push (.cells res e)) ok (fun j=>j∈u.map (·.1)) aS
  (fun j hj=>by
   obtain⟨p,hp,e⟩:=List.mem_map.1 hj;obtain⟨_,o,ho,iN⟩:=hg p hp;refine⟨o,by rw[←e];exact ho,iN,?_⟩;have bo:j≠nm:=by grind
   rw[hh,if_neg bo];exact T9 (by grind) hj)
  (by rw[hh,if_pos rfl]) (fun n' h1 h2=>by rw[hh,if_neg h2];exact DQ h1) (by simp) (fun b hb _=>pO hb) (fun b hb=>Dw (pO hb))
  (fun b hb=>by
   simp only[C,qB.fp,Option.toList_some,List.singleton_append,List.mem_cons] at hb;grind)
  (fun x=>by
   refine⟨rfl,I.len.symm,rfl,by rw[I.len];exact I.rlen,?_,res,e,AA,by rw[I.len];omega,fun k hk=>?_⟩
   ·simp only[C,qB.fp,Option.toList_some,List.singleton_append];exact List.nodup_cons.2 ⟨by grind,I.nd⟩
   ·obtain⟨rb,v,p1,p2,p3,p4⟩:=I.row k hk;refine⟨rb,v,p1,?_,p3.ext x,fun R hR=>?_⟩
    ·grind
    ·obtain⟨rv,er,p5,p6⟩:=p4 R hR;refine⟨rv,er,?_,p6⟩;have:R<M.H.size:=by grind
     show(M.H.push _)[R]? =_;grind)
 refine⟨_,_,_,hr,hw.2.1,hw.2.2.1,hw.2.2.2,by show M.H.push _=_;rw[hw.1,hM],rfl,this.1,this.2,C,κset_same _ _ _,_,c,rfl,?_⟩;refine⟨hc,0,by rw[hM],.inr (by simp),?_⟩;have:qW (M.H.push (.cells res e)) M.H.size=res.size:=by simp[qW]
 show(0+c)*1≤qW (M.H.push (.cells res e)) M.H.size;rw[this];omega
def vYn {P M w}(ok:Ok M)(hM:M.H=w.heap){mat nm t n parts aM v u}
  (hp:zM (AN M) parts aM) (h:yL (Dd P mat nm M.h t n parts) v u):qL P (Instr.buildSlice t n aM.toArray) M w v u:=by
 unfold Dd at h;split at h
 ·rename_i e hu aS;obtain⟨cQ,h⟩:=gA h;have cQ:=Nat.le_of_ble_eq_true cQ;cases mat with
  |true=>
   split at h
   ·rename_i rows u' dH hf;obtain⟨hb,h⟩:=gA h;simp only[Bool.and_eq_true] at hb;obtain⟨_,rfl,rfl⟩:=gP h;obtain⟨i,z,h1,h2,h3,h4,h5,h6,h7⟩:=sg dH;have NJ:z.cells.toList=[.slice none 0 0]:=h4;have T4:z.cells.size=1:=h7;have I0:wm M [] n (List.replicate n []) (madeCells z.cells (n*1)) (List.replicate n (none,0)):=by
     refine⟨by simp,by rw[size_madeCells,Nat.mul_one],by simp,fun k hk=>?_,by simp,by simp,by simp⟩;have hkn:k<n:=by simp_all
     refine⟨none,.slice none 0 0,by simp[hkn],?_,⟨rfl,by simp⟩,by simp⟩;simp only[madeCells];have:z.cells.toList[0]'(by grind)=.slice none 0 0:=by grind
     grind
    obtain⟨res,rc,b1,b2,b3⟩:=yO8 ok I0 (yS4 hb.2) hp hf (by simpa using DP hb.1);have hr:=yGi (P:=P) (w:=w) (ty:=.sl (.int .i64)) hu h1 h2 h3 cQ b1;have Ua:res.extract 0 n=res:=by
     have:=b2.size;simp_all
    refine vXg ok hM aS (by rw[Ua];exact b2) (by simp) (fun p hp=>⟨b3 p hp,?_⟩) (by simp) (by rw[b2.size];omega) (w.alloc (.cells res e)) ⟨rfl,rfl,rfl,rfl⟩ hr;obtain⟨ys,hy⟩:=b2.js p.1 (by grind);exact⟨_,hy,rfl⟩
   ·exact h.elim
  |false=>
   simp  at h;split at h
   ·rename_i ty dH;split at h
    ·rename_i xs u' hf;obtain⟨hb,h⟩:=gA h;obtain⟨_,rfl,rfl⟩:=gP h;exact T8 ok hM hp hu aS dH cQ (yS4 hb) hf
    ·exact h.elim
   ·exact h.elim
 ·exact h.elim
def Ub {H F}:∀t x rd,qF H F t x rd→∀j,j<t.size→∃v,rd j=some v∧v.one1=true
 |.int k,x,rd,h,j,hj
 |.bool,x,rd,h,j,hj=>by
  simp[Ty.size] at hj;obtain rfl:j=0:=by omega
  exact⟨_,h,rfl⟩
 |.sl t,x,rd,h,j,hj=>by
  simp[Ty.size] at hj;obtain rfl:j=0:=by omega
  obtain⟨A,n,c,h1,_⟩:=h;exact⟨_,h1,rfl⟩
 |.pair a b,x,rd,h,j,hj=>by
  simp[Ty.size] at hj;by_cases bm:j<a.size
  ·exact Ub a _ _ h.1 j bm
  ·have:=Ub b _ _ h.2 (j-a.size) (by omega);simp_all
def Rd (H : Array Go.Obj) (v : Value) (n size : Nat) (news : List Value) : Prop := ∃ A c, v = .slice A n c ∧ news.length = n * size ∧ (∀ u ∈ news, u.one1 = true) ∧ (match A with
 |none=>n=0
 |some a=>n=0∨a.spot=none∧∀j u,news[j]? =some u→yT H a.block (a.off+j)=some u)
def Rd.first {P H v n size news}(h:Rd H v n size news) w (hw:w.heap=H):(Builtin.firstCells size n v).run P w=.ok news.toArray w:=by
 obtain⟨A,c,rfl,hl,_,h⟩:=h;cases A with
 |none=>
  have h0:n=0:=h;subst h0;have:news=[]:=by grind
  subst this;rfl
 |some a=>
  rcases h with h0|⟨hs,h⟩
  ·subst h0;have:news=[]:=by grind
   subst this;simp[Builtin.firstCells,loadCells,loadCellsFrom]
  ·obtain⟨B,o,sp⟩:=a;cases hs;exact run_firstCells_some w size n ⟨B,o,none⟩ n c news hl (fun j u hu=>by rw[Addr.add_lit,tH,hw];simp_all)
def Uc {H F t}{ys:List t.den}{B o c}(hc:ys.length≤c)(h:∀i hi,qF H F t ys[i] (fun j=>yT H B (o+i*t.size+j))):
  ∃news,Rd H (.slice (some ⟨B,o,none⟩) ys.length c) ys.length t.size news∧∀i hi,qF H F t ys[i] (fun j=>news[i*t.size+j]?):=by
 have tot:∀k,k<ys.length*t.size→∃v,yT H B (o+k)=some v∧v.one1=true:=by
  intro k hk;have hi:k/t.size<ys.length:=Nat.div_lt_of_lt_mul (by grind);obtain⟨v,h1,h2⟩:=Ub t _ _ (h _ hi) (k%t.size) (Nat.mod_lt _ t.size_pos);refine⟨v,?_,h2⟩;rw[Nat.add_assoc,Nat.mul_comm,Nat.div_add_mod] at h1;exact h1
 refine⟨(List.range (ys.length*t.size)).map fun k=>(yT H B (o+k)).getD undef,⟨_,c,rfl,by simp,fun u hu=>?_,.inr ⟨rfl,fun j u hu=>?_⟩⟩,fun i hi=>?_⟩
 ·grind
 ·grind
 ·refine vE (by simp) (by simp) t _ _ _ (fun j hj=>?_) (h i hi);have aR:=Nat.mul_le_mul_right t.size (show i+1≤ys.length by omega);grind
def IP {H F t A c}:∃news,Rd H (.slice A 0 c) 0 t.size news∧∀i hi,qF H F t ([]:List t.den)[i] (fun j=>news[i*t.size+j]?):=
 ⟨[],⟨A,c,rfl,by simp,by simp,by grind⟩,by simp⟩
def Ud {H F t}{ys:List t.den}{v}(h:qF H F (.sl t) ys (fun _=>some v)):
  ∃news,Rd H v ys.length t.size news∧∀i hi,qF H F t ys[i] (fun j=>news[i*t.size+j]?):=by
 simp[qF] at h;obtain⟨A,n,c,rfl,rfl,hc,h⟩:=h;rcases h with⟨rfl,_⟩|⟨B,o,rfl,hB,hE⟩
 ·exact IP
 ·exact Uc hc hE
def AP {M own t xs C id r v}(hC:M.κ id=some C)(hO:vB M (.arr own t xs) C)(hv:zY M (.osl id r) v):
  ∃news,Rd M.H v (j4 xs r).length t.size news∧∀i hi,qF M.H M.G t (j4 xs r)[i] (fun j=>news[i*t.size+j]?):=by
 obtain⟨h1,h2,h3,h4⟩:=hO;obtain⟨C',aD,hv⟩:=hv;rw[hC] at aD;cases aD;have key:∀lo n,lo+n≤C.len→jG M.H C lo n v→∃news,Rd M.H v (qR xs lo n).length t.size news∧∀i (hi:i<(qR xs lo n).length),qF M.H M.G t (qR xs lo n)[i] (fun j=>news[i*t.size+j]?):=by
  intro lo n hn hS;obtain⟨A,c,rfl,hS⟩:=hS;have hl:=DB (xs:=xs) (lo:=lo) (n:=n) (by omega);by_cases h0:n=0
  ·subst h0;have e:qR xs lo 0=[]:=by rfl
   exact IP
  ·cases hB:C.blk with
   |none=>simp_all
   |some B=>
    rw[hB] at hS h4;obtain⟨hc,a,rfl,ha,_⟩:=hS;obtain⟨vals,e,h5,h6,h7,h8⟩:=h4;have rY:a=lo*C.sz:=by omega
    have := Uc (H := M.H) (F := M.G) (ys := qR xs lo n) (B := B) (o := a) (c := c) (by omega) (fun i hi=>by
     obtain⟨bJ,e1⟩:=Nz hi;rw[e1];refine vE (by simp) (by simp) t _ _ _ (fun j hj=>?_) (h8 (lo+i) bJ);rw[rY,h2,←Nat.add_mul];simp[yT,h5])
    simp_all
 cases r with
 |none=>
  have:=key 0 C.len (by omega) hv;rw[h1,yLj] at this;exact this
 |some p=>exact key p.1 p.2 hv.1 hv.2.1
def si {P w t e i A sLen sCap n size x news} T (hu:P.underlying t=some (.slice e))(hi:P.info? e=some i)(hs:i.size=size)
  (hx : Rd w.heap x n size news) (aO : sLen + n ≤ sCap) w' (hw:match A with
   |none=>w'=w
   |some a=>(storeCells (a.add (sLen*size)) news).run P w=.ok () w'):
  (Builtin.append_ #[t,t] T #[.slice A sLen sCap,x]).run P w=.ok (.slice A (sLen+n) sCap) w':=by
 have hf:=hx.first (P:=P) w rfl
 obtain⟨X,c,rfl,_⟩:=hx;subst hs;cases A with
 |none=>
  subst hw;simp[Builtin.append_,run_underlying hu,sizeOf,typeInfo,hi,Builtin.lenOf,aO,hf]
 |some a=>simp[Builtin.append_,run_underlying hu,sizeOf,typeInfo,hi,Builtin.lenOf,aO,hf,hw]
def Ue {P}{w}{t e}{i}{z}{A sLen sCap n size x olds news} T (hu:P.underlying t=some (.slice e))(hi:P.info? e=some i)(hz:i.zero=some z)
  (hs:i.size=size) (hb:Rd w.heap (.slice A sLen sCap) sLen size olds) (hx:Rd w.heap x n size news) (hg:sCap<sLen+n) (h46:(sLen+n)*i.bytes≤140737488355328) (aee:sLen+n≤140737488355328):
  (Builtin.append_ #[t,t] T #[.slice A sLen sCap,x]).run P w=
   .ok (.slice (some ⟨w.heap.size,0,none⟩) (sLen+n) (grownCap w (sLen+n) sCap e)) (w.drew.alloc (.cells (olds.toArray++news.toArray++Builtin.zeroCells z.cells (grownCap w (sLen+n) sCap e-(sLen+n))) e)):=by
 have hf:=hx.first (P:=P) w.drew rfl
 have hfo:=hb.first (P:=P) w.drew rfl
 obtain⟨X,c,rfl,_⟩:=hx;subst hs;have hn:¬(sLen+n≤sCap):=by omega
 have aef:¬(9223372036854775807<((sLen:Int)+(n:Int))):=by omega
 have aeg:¬(281474976710656<Builtin.nextslicecap (sLen+n) sCap*i.bytes):=by
  have h1:=Nat.mul_le_mul_right i.bytes (nextslicecap_le hg);grind
 simp[Builtin.append_,run_underlying hu,sizeOf,typeInfo,zeroValue,hi,hz,Builtin.lenOf,Question.forced,hf,hfo,newRow,grownCap];grind
def DR z n:(Builtin.zeroCells z n).size=n*z.size:=by simp[Builtin.zeroCells]
def Uf {H F t}{xs ys:List t.den}{olds news:List Value}(hl:olds.length=xs.length*t.size)(hx:∀i h,qF H F t xs[i] (fun j=>olds[i*t.size+j]?))
  (hy:∀i h,qF H F t ys[i] (fun j=>news[i*t.size+j]?)):∀i h,qF H F t (xs++ys)[i] (fun j=>(olds++news)[i*t.size+j]?):=by
 intro i hi;by_cases h:i<xs.length
 ·rw[List.getElem_append_left h];refine vE (by simp) (by simp) t _ _ _ (fun j hj=>?_) (hx i h);have:=Nat.mul_le_mul_right t.size (show i+1≤xs.length by omega);grind
 ·rw[List.getElem_append_right (by omega)];refine vE (by simp) (by simp) t _ _ _ (fun j hj=>?_) (hy (i-xs.length) (by grind));have:=Nat.mul_le_mul_right t.size (show xs.length≤i by omega);rw[List.getElem?_append_right (by omega),hl]
  congr 1
  rw[Nat.sub_mul];omega
def IQ (M:zK)(w:World)(v:zX)(u:vL)(rv:Value)(w':World):Prop:=
 ∃M',w'.os=w.os∧w'.tape=w.tape∧w'.output=w.output∧M'.H=w'.heap∧M'.h=qK M.h u∧Ok M'∧vG M M'∧zV M' v rv
def IQ.runs {P s M w w' v u rv}(h:IQ M w v u rv w')(hr:s.run P w=.ok rv w'):qL P s M w v u:=by
 obtain⟨M',h⟩:=h;exact⟨_,_,M',hr,h⟩
def yVs {M w}(ok:Ok M)(hM:M.H=w.heap){nm t zs us e c}{u:vL}(aS:M.h nm=none)
  (hg:∀p∈u,p.2=.gone∧∃o,M.h p.1=some o∧o.owned=true) (hc:zs.length≤c) (hs:c*t.size≤us.size) (hx:∀i h,qF M.H M.G t zs[i] (fun j=>us[i*t.size+j]?))
  {w':World} (hw:w'.heap=w.heap.push (.cells us e)∧w'.os=w.os∧w'.tape=w.tape∧w'.output=w.output):
  IQ M w (.c (.osl nm none)) (u++[(nm,.arr true t zs)]) (.slice (some ⟨w.heap.size,0,none⟩) zs.length c) w':=by
 let C:qB:=⟨some M.H.size,zs.length,t.size,0,[]⟩;have hh:∀n',(qK M.h (u++[(nm,.arr true t zs)])) n'=if n'=nm then some (.arr true t zs) else qK M.h u n':=fun n'=>by
  rw[lz,Tn];by_cases e:n'=nm
  ·rw[if_pos e,e,yO]
  ·rw[if_neg e,yS _ _ e]
 have hle:=Nat.mul_le_mul_right t.size hc;have:=zK.move_ok (M:=M) (nm:=nm) (o':=.arr true t zs) (C':=C) (h':=qK M.h (u++[(nm,.arr true t zs)])) (H':=M.H.push (.cells us e)) ok (fun j=>j∈u.map (·.1)) aS
  (fun j hj=>by
   obtain⟨p,hp,e⟩:=List.mem_map.1 hj;obtain⟨_,o,ho,iN⟩:=hg p hp;refine⟨o,by simp_all,iN,?_⟩;have bo:j≠nm:=by grind
   rw[hh,if_neg bo];exact T9 (by grind) hj)
  (by simp_all) (fun n' h1 h2=>by rw[hh,if_neg h2];exact DQ h1) (by simp) (by grind) (fun b hb=>Dw (pO hb))
  (fun b hb=>by
   simp only[C,qB.fp] at hb;simp_all)
  (fun x=>⟨rfl,rfl,(by grind),us,e,AA,by simp,by omega,fun i hi=>vE x.G x.sameG t _ _ _ (by simp) (hx i hi)⟩)
 refine⟨_,hw.2.1,hw.2.2.1,hw.2.2.2,by show M.H.push _=_;simp_all,rfl,this.1,this.2,C,κset_same _ _ _,_,c,rfl,?_⟩;refine⟨hc,0,by rw[hM],by simp,?_⟩;have:qW (M.H.push (.cells us e)) M.H.size=us.size:=by simp[qW]
 show(0+c)*t.size≤qW (M.H.push (.cells us e)) M.H.size;simp_all
def yY0 {P M w}(ok:Ok M)(hM:M.H=w.heap){nm t zs us e s c}{u:vL}(aS:M.h nm=none)
  (hg:∀p∈u,p.2=.gone∧∃o,M.h p.1=some o∧o.owned=true) (hc:zs.length≤c) (hs:c*t.size≤us.size) (hx:∀i h,qF M.H M.G t zs[i] (fun j=>us[i*t.size+j]?))
  {w'} (hr:s.run P w=.ok (.slice (some ⟨w.heap.size,0,none⟩) zs.length c) w') (hw:w'.heap=w.heap.push (.cells us e)∧w'.os=w.os∧w'.tape=w.tape∧w'.output=w.output):
  qL P s M w (.c (.osl nm none)) (u++[(nm,.arr true t zs)]):=
 (yVs ok hM aS hg hc hs hx hw).runs hr
def yDk {M:zK}{w:World}(ok:Ok M)(hM:M.H=w.heap){id nm:Nat}{t:Ty}{iu zs:List t.den}{C:qB}{H':Array Go.Obj}{c:Nat}{A:Option Addr}{w':World}
  (an:M.h id=some (.arr true t iu)) (hC:M.κ id=some C) (aS:M.h nm=none) (dX:H'.size=M.H.size) (hH:∀b,b∉C.fp→H'[b]? =M.H[b]?) (cP:∀b,qW H' b=qW M.H b)
  (hx:∀M',yQ M M'→M'.H=H'→M'.G=M.G→match C.blk with
   |none=>zs=[]
   |some B=>∃vals e,H'[B]? =some (.cells vals e (0,0))∧zs.length*t.size≤vals.size∧∀i (h:i<zs.length),qF M'.H M'.G t zs[i] (fun j=>vals[i*t.size+j]?))
  (hA:match C.blk with
   |none=>A=none∧zs.length=0∧c=0
   |some B=>zs.length≤c∧∃a,A=some ⟨B,a,none⟩∧(c=0∨a=0)∧c*t.size≤qW M.H B)
  (hw:w'.heap=H'∧w'.os=w.os∧w'.tape=w.tape∧w'.output=w.output):
  IQ M w (.c (.osl nm none)) [(id,.gone),(nm,.arr true t zs)] (.slice A zs.length c) w':=by
 obtain⟨C0,sj,hO⟩:=ok.obj id _ an;rw[hC] at sj;cases sj;obtain⟨fr,ff⟩:=IF hO;have bo:id≠nm:=by grind
 let C':qB:=⟨C.blk,zs.length,t.size,0,[]⟩;have hh:∀n',(qK M.h [(id,.gone),(nm,.arr true t zs)]) n'=if n'=nm then some (.arr true t zs) else if n'=id then some .gone else M.h n':=fun n'=>by
  show(yG (yG M.h id .gone) nm _) n'=_;by_cases e:n'=nm
  ·rw[if_pos e,e,yO]
  ·rw[if_neg e,yS _ _ e];by_cases e2:n'=id
   ·rw[if_pos e2,e2,yO]
   ·rw[if_neg e2,yS _ _ e2]
 have:=zK.move_ok (M:=M) (nm:=nm) (o':=.arr true t zs) (C':=C') (h':=qK M.h [(id,.gone),(nm,.arr true t zs)]) (H':=H') ok (fun j=>j=id) aS
  (fun j hj=>⟨.arr true t iu,by rw[hj];exact an,rfl,by simp_all⟩)
  (by rw[hh,if_pos rfl]) (by grind) (by omega) (by grind) (fun b _=>cP b)
  (fun b hb=>.inr ⟨id,C,rfl,hC,by
   simp only[C',qB.fp,List.filterMap_nil,List.append_nil] at hb;rw[ff];exact hb⟩)
  (fun x=>by
   refine⟨rfl,rfl,(by grind),?_⟩;have:=hx _ x rfl rfl;show match C.blk with
    |none=>_
    |some B=>_
   cases hB:C.blk with
   |none=>simp_all
   |some B=>
    rw[hB] at this;obtain⟨vals,e,h1,h2,h3⟩:=this;exact⟨vals,e,h1,by simp,h2,h3⟩)
 refine⟨_,hw.2.1,hw.2.2.1,hw.2.2.2,by rw[hw.1];rfl,rfl,this.1,this.2,C',κset_same _ _ _,_,c,rfl,?_⟩;show match C.blk with
  |none=>_
  |some B=>_
 cases hB:C.blk with
 |none=>rw[hB] at hA;exact hA
 |some B=>
  rw[hB] at hA;obtain⟨h1,a,h2,h3,h4⟩:=hA;refine⟨h1,a,h2,by simpa using h3,?_⟩;show(0+c)*t.size≤qW H' B;simp_all
def Ug {P M w}(ok:Ok M)(hM:M.H=w.heap){id nm t iu zs C H' s c A w'}
  (an:M.h id=some (.arr true t iu)) (hC:M.κ id=some C) (aS:M.h nm=none) (dX:H'.size=M.H.size) (hH:∀b,b∉C.fp→H'[b]? =M.H[b]?) (cP:∀b,qW H' b=qW M.H b)
  (hx:∀M',yQ M M'→M'.H=H'→M'.G=M.G→match C.blk with
   |none=>zs=[]
   |some B=>∃vals e,H'[B]? =some (.cells vals e (0,0))∧zs.length*t.size≤vals.size∧∀i h,qF M'.H M'.G t zs[i] (fun j=>vals[i*t.size+j]?))
  (hA:match C.blk with
   |none=>A=none∧zs.length=0∧c=0
   |some B=>zs.length≤c∧∃a,A=some ⟨B,a,none⟩∧(c=0∨a=0)∧c*t.size≤qW M.H B)
  (hw:w'.heap=H'∧w'.os=w.os∧w'.tape=w.tape∧w'.output=w.output) (hr:s.run P w=.ok (.slice A zs.length c) w'):
  qL P s M w (.c (.osl nm none)) [(id,.gone),(nm,.arr true t zs)]:=
 (yDk ok hM an hC aS dX hH cP hx hA hw).runs hr
def IS {n b}(h:(Nat.ble (n*b) 140737488355328&&Nat.ble n 140737488355328)=true):n*b≤140737488355328∧n≤140737488355328:=by
 simp_all
def Uh {H H' F F'}:∀t x rd,t.flat=true→qF H F t x rd→qF H' F' t x rd
 |.int k,n,rd,_,h
 |.bool,n,rd,_,h=>h
 |.pair a b,p,rd,hf,h=>by
  simp[Ty.flat] at hf;exact⟨Uh a _ _ hf.1 h.1,Uh b _ _ hf.2 h.2⟩
def yUp {M:zK}{sh s}{xs:List s.den}{v}(hs:(sh||s.flat)=true)(hv:qF M.H (bif sh then M.G else M.F) (.sl s) xs (fun _=>some v)):
  ∃news,Rd M.H v xs.length s.size news∧∀i hi,qF M.H M.G s xs[i] (fun j=>news[i*s.size+j]?):=by
 obtain⟨news,h1,h2⟩:=Ud hv;refine⟨news,h1,fun i hi=>?_⟩;cases sh with
 |true=>simp_all
 |false=>exact Uh _ _ _ hs (h2 i hi)
def vGg {M}(ok:Ok M){t x ys u v}(hv:zY M x v)(h:tD M.h t x=some (ys,u)):
  u=[]∧∃news,Rd M.H v ys.length t.size news∧∀i hi,qF M.H M.G t ys[i] (fun j=>news[i*t.size+j]?):=by
 unfold tD at h;split at h
 ·cases h;have e:v=.slice none 0 0:=hv;subst e;exact⟨rfl,IP⟩
 ·rename_i sh s xs;cases hs:(sh||s.flat) with
  |false=>simp_all
  |true=>
   rw[hs] at h;simp  at h;obtain⟨zs,hz,rfl,rfl⟩:=h;obtain⟨e,hz⟩:=lA hz;subst e;subst hz;exact⟨rfl,yUp hs hv⟩
 ·rename_i sh s xs;cases hs:(sh||s.flat) with
  |false=>rw[hs] at h;cases h
  |true=>
   rw[hs] at h;simp  at h;obtain⟨zs,hz,rfl,rfl⟩:=h;obtain⟨e,hz⟩:=lA hz;subst e;subst hz;exact⟨rfl,yUp hs hv.2⟩
 ·split at h
  ·rename_i own s xs an;simp  at h;obtain⟨zs,hz,rfl,rfl⟩:=h;obtain⟨e,hz⟩:=lA hz;subst e;subst hz;obtain⟨C,hC,hO⟩:=ok.obj _ _ an;exact⟨rfl,AP hC hO hv⟩
  ·cases h
 ·cases h
def Ui {P M w}(ok:Ok M)(hM:M.H=w.heap){nm t e T ty x ys news}(hu:P.underlying t=some (.slice e))(dH:kt P e=some ty)(aS:M.h nm=none)
  (hx:Rd M.H x ys.length ty.size news) (hE:∀i hi,qF M.H M.G ty ys[i] (fun j=>news[i*ty.size+j]?)) (aO:ys.length*P.bytesOf e≤140737488355328∧ys.length≤140737488355328):
  qL P (Builtin.append_ #[t,t] T #[.slice none 0 0,x]) M w (.c (.osl nm none)) [(nm,.arr true ty ys)]:=by
 obtain⟨i,z,h1,h2,h3,h4,h5,h6,h7⟩:=sg dH;by_cases h0:ys.length=0
 ·have hy:ys=[]:=by grind
  subst hy;have hr:=si (P:=P) (w:=w) (A:=none) (sLen:=0) (sCap:=0) T hu h1 h3 (by rw[←hM];exact hx) (by simp) w rfl;let C:qB:=⟨none,0,ty.size,0,[]⟩;have:=zK.move_ok (M:=M) (nm:=nm) (o':=.arr true ty []) (C':=C) (h':=yG M.h nm (.arr true ty [])) (H':=M.H) ok (fun _=>False) aS (by simp) (yO _ _ _)
   (fun n' _ h2=>yS _ _ h2) (by simp) (by simp) (by simp) (nofun) (fun x=>⟨rfl,rfl,by grind,rfl⟩)
  exact⟨_,_,M.move nm C (yG M.h nm (.arr true ty [])) M.H,hr,rfl,rfl,rfl,hM,rfl,this.1,this.2,C,κset_same _ _ _,_,_,rfl,rfl,rfl,rfl⟩
 ·have hb:Rd w.heap (.slice none 0 0) 0 ty.size []:=⟨none,0,rfl,by simp,by simp,rfl⟩;have hr:=Ue (P:=P) (w:=w) T hu h1 h2 h3 hb (by rw[←hM];exact hx) (by omega) (by simp_all) (by omega);simp  at hr;have hlen:news.length=ys.length*ty.size:=hx.choose_spec.choose_spec.2.1;have oR:=grownCap_ge w ys.length 0 e;refine yY0 (u:=[]) ok hM aS (by simp) oR ?_ (fun i hi=>?_) hr ⟨rfl,rfl,rfl,rfl⟩
  ·simp[DR,h7,hlen,←Nat.add_mul];simp_all
  ·refine vE (by simp) (by simp) ty _ _ _ (fun j hj=>?_) (hE i hi);have:=Nat.mul_le_mul_right ty.size (show i+1≤ys.length by omega);grind
def Uj {P}{M w}(ok:Ok M)(hM:M.H=w.heap){id nm t e T ty x b iu ys r news}(hu:P.underlying t=some (.slice e))(dH:kt P e=some ty)
  (aS:M.h nm=none) (an:M.h id=some (.arr true ty iu)) (hb:zY M (.osl id r) b) (tO:match r with|none=>True|some (lo,_)=>lo=0)
  (hx:Rd M.H x ys.length ty.size news) (hE:∀i hi,qF M.H M.G ty ys[i] (fun j=>news[i*ty.size+j]?))
  (aO:((j4 iu r).length+ys.length)*P.bytesOf e≤140737488355328∧(j4 iu r).length+ys.length≤140737488355328):
  qL P (Builtin.append_ #[t,t] T #[b,x]) M w (.c (.osl nm none)) [(id,.gone),(nm,.arr true ty (j4 iu r++ys))]:=by
 obtain⟨i,z,h1,h2,h3,h4,h5,h6,h7⟩:=sg dH;obtain⟨C,hC,hO⟩:=ok.obj id _ an;obtain⟨olds,ho,hEo⟩:=AP hC hO hb;have hlen:news.length=ys.length*ty.size:=hx.choose_spec.choose_spec.2.1;have nc:olds.length=(j4 iu r).length*ty.size:=ho.choose_spec.choose_spec.2.1;obtain⟨C',aD,hS⟩:=hb;rw[hC] at aD;cases aD;have oW:∃n,(j4 iu r).length=n∧jG M.H C 0 n b:=by
  cases r with
  |none=>exact⟨C.len,by rw[hO.1];rfl,hS⟩
  |some p=>
   obtain⟨lo,n⟩:=p;have:lo=0:=tO;subst this;exact⟨n,DB (by have:=hO.1;have:=hS.1;omega),hS.2.1⟩
 obtain⟨n,hn,A,sCap,rfl,oW⟩:=oW;rw[hn] at nc ho aO;have bh:=Uf (H:=M.H) (F:=M.G) (t:=ty) (xs:=j4 iu r) (ys:=ys) (olds:=olds) (news:=news) (by rw[hn];exact nc) hEo hE;have sk:(j4 iu r++ys).length=n+ys.length:=by rw[List.length_append,hn]
 by_cases cR:n+ys.length≤sCap
 ·
  cases hB:C.blk with
  |none=>
   rw[hB] at oW;obtain⟨rfl,rfl,rfl⟩:=oW;have hr:=si (P:=P) (w:=w) (A:=none) (sLen:=0) (sCap:=0) T hu h1 h3 (by rw[←hM];exact hx) cR w rfl;rw[←sk] at hr;refine Ug (s:=Builtin.append_ #[t,t] T #[.slice none 0 0,x]) (H':=M.H) ok hM an hC aS rfl (fun _ _=>rfl) (fun _=>rfl) (fun M' _ _ _=>?_) ?_ ⟨hM.symm,rfl,rfl,rfl⟩ hr
   ·rw[hB];exact List.eq_nil_of_length_eq_zero (by omega)
   ·rw[hB];exact⟨rfl,by omega,rfl⟩
  |some B=>
   rw[hB] at oW;obtain⟨hc,a,rfl,ha,hs⟩:=oW;obtain⟨k1,k2,k3,k4⟩:=hO;rw[hB] at k4;obtain⟨vals,ev,k5,k6,k7,k8⟩:=k4;rw[Nat.zero_mul] at ha;rw[Nat.zero_add,k2] at hs;have cP:qW M.H B=vals.size:=by simp only[qW,k5]
   rw[cP] at hs;have j6:w.heap[B]? =some (.cells vals ev (0,0)):=by rw[←hM];exact k5
   by_cases h0:sCap=0
   ·
    have DS:n=0:=by omega
    have Uk:ys.length=0:=by omega
    have hr := si (P := P) (w := w) (A := some ⟨B, a, none⟩) (sLen := n) (sCap := sCap) T hu h1 h3 (by rw [← hM]; exact hx) cR w (by
     have:news=[]:=List.eq_nil_of_length_eq_zero (by rw[hlen,Uk,Nat.zero_mul]);rw[this];rfl)
    rw[←sk] at hr;have NJ:j4 iu r++ys=[]:=List.eq_nil_of_length_eq_zero (by omega);refine Ug (s:=Builtin.append_ #[t,t] T #[.slice (some ⟨B,a,none⟩) n sCap,x]) (H':=M.H) ok hM an hC aS rfl (fun _ _=>rfl) (fun _=>rfl) (fun M' _ _ _=>?_) ?_ ⟨hM.symm,rfl,rfl,rfl⟩ hr
    ·rw[hB];refine⟨vals,ev,k5,by rw[NJ];simp,fun i hi=>?_⟩;rw[NJ] at hi;simp at hi
    ·rw[hB];exact⟨by omega,a,rfl,.inl h0,by rw[h0];simp⟩
   ·have nN:a=0:=by rcases ha with ha|ha<;>omega
    subst nN;have hle:=Nat.mul_le_mul_right ty.size cR;rw[Nat.add_mul] at hle;have aJ:n*ty.size+news.length≤vals.size:=by omega
    have dm:=run_storeCells_at (P:=P) B (n*ty.size) ev news 0 vals w j6 (by simpa using aJ) (fun v hv=>AB (hx.choose_spec.choose_spec.2.2.1 v hv));simp only[Nat.add_zero] at dm;have hr:=si (P:=P) (w:=w) (A:=some ⟨B,0,none⟩) (sLen:=n) (sCap:=sCap) T hu h1 h3 (by rw[←hM];exact hx) cR (w.setRow B (yV vals (n*ty.size) news)) (by show(storeCells (Addr.add ⟨B,0,none⟩ (n*ty.size)) news).run P w=_;rw[Addr.add_lit,Nat.zero_add];exact dm);rw[←sk] at hr;obtain⟨f1,f2,f3,f4⟩:=oT j6 (new:=yV vals (n*ty.size) news) (gQ aJ);refine Ug (s:=Builtin.append_ #[t,t] T #[.slice (some ⟨B,0,none⟩) n sCap,x]) (H':=(w.setRow B (yV vals (n*ty.size) news)).heap) ok hM an hC aS (by rw[hM];exact f1)
     (fun b hb=>by rw[hM];exact f3 b fun e=>hb (e▸fW hB)) (fun b=>by rw[hM];exact f4 b) (fun M' xt hH hG=>?_) ?_ ⟨rfl,rfl,rfl,rfl⟩ hr
    ·rw[hB];refine⟨_,ev,f2,by rw[sk,gQ aJ,Nat.add_mul];omega,fun i hi=>?_⟩;refine vE xt.G xt.sameG ty _ _ _ (fun j hj=>?_) (bh i hi);have aR:=Nat.mul_le_mul_right ty.size (show i+1≤n+ys.length by omega);rw[Nat.add_mul,Nat.add_mul] at aR;rw[ee aJ];by_cases bm:i*ty.size+j<n*ty.size
     ·rw[if_pos bm,List.getElem?_append_left (by omega)];obtain⟨A',c',e1,_,_,hold⟩:=ho;simp only[Value.slice.injEq] at e1;obtain⟨rfl,_,rfl⟩:=e1;rcases hold with DS|⟨_,hold⟩
      ·rw[DS] at bm;omega
      ·have sm:i*ty.size+j<olds.length:=by omega
       have:=hold (i*ty.size+j) olds[i*ty.size+j] (List.getElem?_eq_getElem sm);rw[List.getElem?_eq_getElem sm,←this];simp only[yT,k5,Nat.zero_add]
     ·rw[if_neg bm,if_pos (by omega),List.getElem?_append_right (by omega),nc]
    ·rw[hB];exact by grind
 ·
  have hr:=Ue (P:=P) (w:=w) T hu h1 h2 h3 (by rw[←hM];exact ho) (by rw[←hM];exact hx) (by omega) (by rw[h6] at aO;exact aO.1) aO.2;have oR:=grownCap_ge w (n+ys.length) sCap e;rw[←sk] at hr oR;refine yY0 (s:=Builtin.append_ #[t,t] T #[.slice A n sCap,x]) (u:=[(id,.gone)]) ok hM aS (fun p hp=>?_) oR ?_ (fun i hi=>?_) hr ⟨rfl,rfl,rfl,rfl⟩
  ·simp only[List.mem_singleton] at hp;subst hp;exact⟨rfl,_,an,rfl⟩
  ·simp only[Array.size_append,List.size_toArray,DR,h7,hlen,nc,←Nat.add_mul];exact Nat.le_of_eq (by congr 1;omega)
  ·refine vE (fun _ h=>h) (fun _ _=>rfl) ty _ _ _ (fun j hj=>?_) (bh i hi);have:=Nat.mul_le_mul_right ty.size (show i+1≤n+ys.length by omega);rw[Nat.add_mul,Nat.add_mul] at this;rw[Array.getElem?_append_left (by simp;omega)];simp
def DT (H:Array Go.Obj)(row:List Int)(m:Option (Option Nat×Nat))(c:Option Value):Prop:=∃rb v,m=some (rb,row.length)∧c=some v∧mR H rb row.length v∧
 (∀R,rb=some R→∃rv er,H[R]? =some (.cells rv er (0,0))∧∀j (h':j<row.length),rv[j]? =some (.int .i64 row[j]))
def vCw {M ver xs C}(h:vB M (.mat ver xs) C):C.len=xs.length∧C.sz=1∧C.rows.length=xs.length∧C.fp.Nodup∧
  ∃cI:List Value,cI.length=xs.length∧(∀k (h:k<xs.length),DT M.H xs[k] C.rows[k]? cI[k]?)∧
   (match C.blk with
    |none=>xs=[]
    |some B=>∃vals e,M.H[B]? =some (.cells vals e (0,0))∧xs.length≤vals.size∧∀k,k<xs.length→vals[k]? =cI[k]?):=by
 obtain⟨h1,h2,h3,h4,h5,h6⟩:=h;refine⟨h2,h3,h4,h5,?_⟩;cases hB:C.blk with
 |none=>
  simp_all
 |some B=>
  rw[hB] at h6;obtain⟨vals,e,h7,h8,h9⟩:=h6;refine⟨vals.toList.take xs.length,by simp;omega,fun k hk=>?_,vals,e,h7,h8,by grind⟩;obtain⟨rb,v,k1,k2,k3,k4⟩:=h9 k hk;exact⟨rb,v,k1,by grind,k3,k4⟩
def DT.one {H row m v}(h:DT H row m (some v)):v.one1=true:=by
 obtain⟨rb,v',_,e,h,_⟩:=h;cases e;exact h.one
def yDg {M}{xs:List (List Int)}{C id v}(hC:M.κ id=some C)(hv:zY M (.osl id none) v){cI}(hl:cI.length=xs.length)(hlen:C.len=xs.length)(dX:C.sz=1)
  (cq : ∀ u ∈ cI, u.one1 = true) (hb:match C.blk with
    |none=>xs=[]
    |some B=>∃vals e,M.H[B]? =some (.cells vals e (0,0))∧xs.length≤vals.size∧∀k,k<xs.length→vals[k]? =cI[k]?):Rd M.H v xs.length 1 cI:=by
 obtain⟨C',aD,A,c,rfl,hS⟩:=hv;rw[hC] at aD;cases aD;rw[hlen];refine⟨A,c,rfl,by omega,cq,?_⟩;cases hB:C.blk with
 |none=>
  simp_all
 |some B=>
  rw[hB] at hS hb;obtain⟨hc,a,rfl,ha,_⟩:=hS;obtain⟨vals,e,h1,h2,h3⟩:=hb;by_cases h0:xs.length=0
  ·omega
  ·refine .inr ⟨rfl,fun j u hu=>?_⟩;have nN:a=0:=by omega
   have hj:j<xs.length:=by
    grind
   simp[yT];simp_all
def yPq {C D:qB}(hC:C.fp.Nodup)(hD:D.fp.Nodup)(eg:∀b,b∈C.fp→b∉D.fp):((C.rows++D.rows).filterMap (·.1)).Nodup:=by
 rw[List.filterMap_append];refine List.nodup_append.2 ⟨(List.nodup_append.1 hC).2.1,(List.nodup_append.1 hD).2.1,fun a ha b hb e=>?_⟩;exact eg a (by simp[qB.fp];simp_all) (by simp[qB.fp];simp_all)
def NL {P M w w'}(ok:Ok M)(hM:M.H=w.heap){id jd nm v1 v2 xs ys C Cj C' s A c H'}
  (an:M.h id=some (.mat v1 xs)) (df:M.h jd=some (.mat v2 ys)) (bo:id≠jd) (hC:M.κ id=some C) (eW:M.κ jd=some Cj) (aS:M.h nm=none) (dX:M.H.size≤H'.size)
  (hH:∀b,b<M.H.size→C.blk≠some b→H'[b]? =M.H[b]?) (cP:∀b,b<M.H.size→qW H' b=qW M.H b)
  (hl:C'.len=(xs++ys).length) (DU:C'.sz=1) (AQ:C'.ver=0) (nf:C'.rows=C.rows++Cj.rows) (Ul:∀B,C'.blk=some B→(M.H.size≤B∧B<H'.size)∨C.blk=some B)
  (hx:match C'.blk with
   |none=>xs++ys=[]
   |some B=>∃vals e,H'[B]? =some (.cells vals e (0,0))∧(xs++ys).length≤vals.size∧∀k (h:k<(xs++ys).length),DT M.H (xs++ys)[k] (C.rows++Cj.rows)[k]? vals[k]?)
  (hA:jG H' C' 0 C'.len (.slice A (xs++ys).length c))
  (hw:w'.heap=H'∧w'.os=w.os∧w'.tape=w.tape∧w'.output=w.output) (hr:s.run P w=.ok (.slice A (xs++ys).length c) w'):
  qL P s M w (.c (.osl nm none)) [(id,.gone),(jd,.gone),(nm,.mat 0 (xs++ys))]:=by
 obtain⟨C0,sj,hO⟩:=ok.obj id _ an;rw[hC] at sj;cases sj;obtain⟨C1,iM,nO⟩:=ok.obj jd _ df;rw[eW] at iM;cases iM;have Um:=hO.2.2.2.2.1;have ndD:=nO.2.2.2.2.1;have eg:∀b,b∈C.fp→b∉Cj.fp:=fun b h1 h2=>ok.disj id jd _ _ C Cj b bo an df rfl rfl hC eW h1 h2
 have NM:id≠nm:=by grind
 have hnj:jd≠nm:=by grind
 have hh:∀n',(qK M.h [(id,.gone),(jd,.gone),(nm,.mat 0 (xs++ys))]) n'=if n'=nm then some (.mat 0 (xs++ys)) else if n'=jd then some .gone else if n'=id then some .gone else M.h n':=fun n'=>by
  show(yG (yG (yG M.h id .gone) jd .gone) nm _) n'=_;by_cases e:n'=nm
  ·rw[if_pos e,e,yO]
  ·rw[if_neg e,yS _ _ e];by_cases e2:n'=jd
   ·rw[if_pos e2,e2,yO]
   ·rw[if_neg e2,yS _ _ e2];by_cases e3:n'=id
    ·rw[if_pos e3,e3,yO]
    ·rw[if_neg e3,yS _ _ e3]
 have IT:∀b∈C.fp,b<M.H.size:=fun b hb=>(ok.own b ⟨id,_,C,an,rfl,hC,hb⟩).2
 have IU:∀b∈Cj.fp,b<M.H.size:=fun b hb=>(ok.own b ⟨jd,_,Cj,df,rfl,eW,hb⟩).2
 have aY:∀R∈(C.rows++Cj.rows).filterMap (·.1),R∈C.fp∧C.blk≠some R∨R∈Cj.fp:=fun R hR=>by
  rw[List.filterMap_append] at hR;rcases List.mem_append.1 hR with h|h
  ·refine .inl ⟨by simp only[qB.fp,List.mem_append];exact .inr h,fun e=>?_⟩;exact(List.nodup_append.1 Um).2.2 R (by simp[e]) R h rfl
  ·exact .inr (by simp only[qB.fp,List.mem_append];exact .inr h)
 have IV:∀R∈(C.rows++Cj.rows).filterMap (·.1),R<M.H.size∧C.blk≠some R:=fun R hR=>by
  rcases aY R hR with⟨h1,h2⟩|h
  ·exact⟨IT R h1,h2⟩
  ·exact⟨IU R h,fun e=>eg R (fW e) h⟩
 have nd':C'.fp.Nodup:=by
  simp only[qB.fp,nf];cases hB:C'.blk with
  |none=>simpa using yPq Um ndD eg
  |some B=>
   simp only[Option.toList_some,List.singleton_append];refine List.nodup_cons.2 ⟨fun hm=>?_,yPq Um ndD eg⟩;grind
 have:=zK.move_ok (M:=M) (nm:=nm) (o':=.mat 0 (xs++ys)) (C':=C') (h':=qK M.h [(id,.gone),(jd,.gone),(nm,.mat 0 (xs++ys))]) (H':=H') ok (fun j=>j=id∨j=jd) aS
  (fun j hj=>by
   rcases hj with rfl|rfl
   ·exact⟨_,an,rfl,by rw[hh,if_neg NM,if_neg bo,if_pos rfl]⟩
   ·exact⟨_,df,rfl,by rw[hh,if_neg hnj,if_pos rfl]⟩)
  (by rw[hh,if_pos rfl]) (fun n' h1 h2=>by rw[hh,if_neg h2,if_neg (fun e=>h1 (.inr e)),if_neg (fun e=>h1 (.inl e))]) dX
  (fun b hb hn=>hH b hb fun e=>hn id C (.inl rfl) hC (fW e)) cP
  (fun b hb=>by
   simp only[qB.fp,nf,List.mem_append] at hb;rcases hb with hb|hb
   ·cases hB:C'.blk with
    |none=>rw[hB] at hb;simp at hb
    |some B=>
     rw[hB] at hb;simp at hb;subst hb;rcases Ul b hB with h|h
     ·exact .inl h
     ·exact .inr ⟨id,C,.inl rfl,hC,fW h⟩
   simp_all)
  (fun x=>by
   refine⟨AQ,hl,DU,?_,nd',?_⟩
   ·rw[nf,List.length_append,hO.2.2.2.1,nO.2.2.2.1,List.length_append]
   ·cases hB:C'.blk with
    |none=>rw[hB] at hx;exact hx
    |some B=>
     rw[hB] at hx;obtain⟨vals,e,k1,k2,k3⟩:=hx;refine⟨vals,e,k1,k2,fun k hk=>?_⟩;obtain⟨rb,v,q1,q2,q3,q4⟩:=k3 k hk;refine⟨rb,v,by rw[nf];exact q1,q2,q3.ext x,fun R hR=>?_⟩;obtain⟨rv,er,q5,q6⟩:=q4 R hR;have hRm:=IV R (List.mem_filterMap.2 ⟨_,List.mem_of_getElem? q1,hR⟩);exact⟨rv,er,by show H'[R]? =_;rw[hH R hRm.1 hRm.2];exact q5,q6⟩)
 exact⟨_,_,M.move nm C' (qK M.h [(id,.gone),(jd,.gone),(nm,.mat 0 (xs++ys))]) H',hr,hw.2.1,hw.2.2.1,hw.2.2.2,hw.1.symm,rfl,this.1,this.2,C',κset_same _ _ _,by rw[hl] at hA⊢;exact hA⟩
def Un {H}{xs:List (List Int)}{rc:List (Option Nat×Nat)}{cI:List Value}(hl:cI.length=xs.length)(h:∀k (h:k<xs.length),DT H xs[k] rc[k]? cI[k]?):∀u∈cI,u.one1=true:=by
 intro u hu;obtain⟨k,hk,rfl⟩:=List.getElem_of_mem hu;have:=h k (by omega);rw[List.getElem?_eq_getElem hk] at this;exact this.one
def Uo {P M w}(ok:Ok M)(hM:M.H=w.heap){id jd nm v1 v2 t e T x b xs ys}(hu:P.underlying t=some (.slice e))(dH:kt P e=some (.sl (.int .i64)))
  (aS:M.h nm=none) (an:M.h id=some (.mat v1 xs)) (df:M.h jd=some (.mat v2 ys)) (bo:id≠jd) (hb:zY M (.osl id none) b) (hx:zY M (.osl jd none) x)
  (aO:(xs.length+ys.length)*P.bytesOf e≤140737488355328∧xs.length+ys.length≤140737488355328):
  qL P (Builtin.append_ #[t,t] T #[b,x]) M w (.c (.osl nm none)) [(id,.gone),(jd,.gone),(nm,.mat 0 (xs++ys))]:=by
 obtain⟨i,z,h1,h2,h3,h4,h5,h6,h7⟩:=sg dH;obtain⟨C,hC,hO⟩:=ok.obj id _ an;obtain⟨Cj,eW,nO⟩:=ok.obj jd _ df;obtain⟨a1,a2,a3,a4,olds,a5,a6,a7⟩:=vCw hO;obtain⟨b1,b2,b3,b4,news,b5,b6,b7⟩:=vCw nO;have ho:=yDg hC hb a5 a1 a2 (Un a5 a6) a7;have hn:=yDg eW hx b5 b1 b2 (Un b5 b6) b7;have sk:(xs++ys).length=xs.length+ys.length:=List.length_append;have cq:=Un b5 b6;have bh:∀k (h:k<(xs++ys).length),DT M.H (xs++ys)[k] (C.rows++Cj.rows)[k]? (olds++news)[k]? :=by
  intro k hk;by_cases bm:k<xs.length
  ·rw[List.getElem_append_left bm,List.getElem?_append_left (by omega),List.getElem?_append_left (by omega)];exact a6 k bm
  ·rw[List.getElem_append_right (by omega),List.getElem?_append_right (by omega),List.getElem?_append_right (by omega),a3,a5];exact b6 _ (by omega)
 obtain⟨C',aD,A,sCap,rfl,oW⟩:=hb;rw[hC] at aD;cases aD;rw[a1] at ho oW;have tR:i.size=1:=h3;have T4:z.cells.size=1:=h7;by_cases cR:xs.length+ys.length≤sCap
 ·cases hB:C.blk with
  |none=>
   rw[hB] at oW;obtain⟨rfl,h0,rfl⟩:=oW;have hr:=si (P:=P) (w:=w) (A:=none) (sLen:=xs.length) (sCap:=0) T hu h1 tR (by rw[←hM];exact hn) cR w rfl;rw[←sk] at hr;have cM:xs++ys=[]:=List.eq_nil_of_length_eq_zero (by omega);rw[a1];refine NL (C':=⟨none,(xs++ys).length,1,0,C.rows++Cj.rows⟩) (H':=M.H) ok hM an df bo hC eW aS (Nat.le_refl _) (fun _ _ _=>rfl) (fun _ _=>rfl) rfl rfl rfl rfl (fun B hB=>by cases hB) cM ⟨none,0,rfl,rfl,(by show(xs++ys).length=0;omega),rfl⟩ ⟨hM.symm,rfl,rfl,rfl⟩ hr
  |some B=>
   rw[hB] at oW a7;obtain⟨hc,a,rfl,ha,hs⟩:=oW;obtain⟨vals,ev,k5,k6,k7⟩:=a7;rw[Nat.zero_mul] at ha;rw[Nat.zero_add,a2,Nat.mul_one] at hs;have cP:qW M.H B=vals.size:=by simp only[qW,k5]
   rw[cP] at hs;have j6:w.heap[B]? =some (.cells vals ev (0,0)):=by rw[←hM];exact k5
   by_cases h0:sCap=0
   ·have hr := si (P := P) (w := w) (A := some ⟨B, a, none⟩) (sLen := xs.length) (sCap := sCap) T hu h1 tR (by rw [← hM]; exact hn) cR w (by
     have:news=[]:=List.eq_nil_of_length_eq_zero (by omega);rw[this];rfl)
    rw[←sk] at hr;have cM:xs++ys=[]:=List.eq_nil_of_length_eq_zero (by omega);rw[a1];refine NL (C':=⟨some B,(xs++ys).length,1,0,C.rows++Cj.rows⟩) (H':=M.H) ok hM an df bo hC eW aS (Nat.le_refl _) (fun _ _ _=>rfl) (fun _ _=>rfl) rfl rfl rfl rfl (fun B' kC=>.inr (by cases kC;exact hB))
     ⟨vals,ev,k5,by rw[cM];simp,fun k hk=>by rw[cM] at hk;simp at hk⟩ ⟨_,sCap,rfl,(by show(xs++ys).length≤sCap;omega),a,rfl,.inl h0,by rw[h0];simp⟩ ⟨hM.symm,rfl,rfl,rfl⟩ hr
   ·have nN:a=0:=by rcases ha with ha|ha<;>omega
    subst nN;have aJ:xs.length+news.length≤vals.size:=by omega
    have dm:=run_storeCells_at (P:=P) B xs.length ev news 0 vals w j6 (by simpa using aJ) (fun v hv=>AB (cq v hv));simp only[Nat.add_zero] at dm;have hr:=si (P:=P) (w:=w) (A:=some ⟨B,0,none⟩) (sLen:=xs.length) (sCap:=sCap) T hu h1 tR (by rw[←hM];exact hn) cR (w.setRow B (yV vals xs.length news))
     (by show(storeCells (Addr.add ⟨B,0,none⟩ (xs.length*1)) news).run P w=_;rw[Addr.add_lit,Nat.zero_add,Nat.mul_one];exact dm)
    rw[←sk] at hr;obtain⟨f1,f2,f3,f4⟩:=oT j6 (new:=yV vals xs.length news) (gQ aJ);rw[a1];refine NL (C':=⟨some B,(xs++ys).length,1,0,C.rows++Cj.rows⟩) (H':=(w.setRow B (yV vals xs.length news)).heap) ok hM an df bo hC eW aS (by rw[hM,f1];exact Nat.le_refl _) (fun b hb hn=>by rw[hM];exact f3 b fun e=>hn (e▸hB))
     (fun b _=>by rw[hM];exact f4 b) rfl rfl rfl rfl (fun B' kC=>.inr (by cases kC;exact hB)) ⟨_,ev,f2,by rw[gQ aJ];omega,fun k hk=>?_⟩ ⟨_,sCap,rfl,(by show(xs++ys).length≤sCap;omega),0,rfl,.inr (by simp),by show(0+sCap)*1≤qW _ B;rw[f4,←hM,cP];omega⟩ ⟨rfl,rfl,rfl,rfl⟩ hr
    have:=bh k hk;rw[ee aJ];by_cases bm:k<xs.length
    ·rw[if_pos bm,k7 k bm];rw[List.getElem?_append_left (l₁:=olds) (by omega)] at this;exact this
    ·rw[if_neg bm,if_pos (by omega)];rw[List.getElem?_append_right (l₁:=olds) (by omega),a5] at this;exact this
 ·have hr:=Ue (P:=P) (w:=w) T hu h1 h2 tR (by rw[←hM];exact ho) (by rw[←hM];exact hn) (by omega) (by rw[h6] at aO;exact aO.1) aO.2;have oR:=grownCap_ge w (xs.length+ys.length) sCap e;rw[←sk] at hr oR;generalize oS:olds.toArray++news.toArray++Builtin.zeroCells z.cells (grownCap w (xs++ys).length sCap e-(xs++ys).length)=us at hr;have Uq:us.size=grownCap w (xs++ys).length sCap e:=by
   rw[←oS];simp only[Array.size_append,List.size_toArray,DR,T4];omega
  have Ur:∀k,k<(xs++ys).length→us[k]? =(olds++news)[k]? :=fun k hk=>by
   rw[←oS,Array.getElem?_append_left (by simp;omega)];simp
  have hbz:∀us:Array Value,qW (M.H.push (.cells us e)) M.H.size=us.size:=fun us=>by simp[qW]
  rw[a1];refine NL (C':=⟨some M.H.size,(xs++ys).length,1,0,C.rows++Cj.rows⟩) (H':=M.H.push (.cells us e)) (w':=w.drew.alloc (.cells us e)) ok hM an df bo hC eW aS (by simp) (fun b hb _=>pO hb) (fun b hb=>Dw (pO hb)) rfl rfl rfl rfl
   (fun B' kC=>.inl (by cases kC;exact⟨Nat.le_refl _,by simp⟩)) ⟨us,e,AA,by omega,fun k hk=>?_⟩ ⟨_,_,rfl,oR,0,by rw[hM],.inr (by simp),(by rw[hbz,Uq];show(0+_)*1≤_;omega)⟩ ⟨(by rw[hM];rfl),rfl,rfl,rfl⟩ hr
  rw[Ur k hk];exact bh k hk
def AR {c s v u}(h:yL (bif c then s else .stuck) v u):c=true∧yL s v u:=by
 cases c with
 |true=>simp_all
 |false=>exact h.elim
def yPd {c a b v u}(h:yL (bif c then a else b) v u):(c=true∧yL a v u)∨(c=false∧yL b v u):=by
 grind
def yR7 {z:Value}{t}(h:z.cells.toList=iq t)(hs:z.cells.size=t.size){n i j}(hj:j<t.size)(hi:i<n):(Builtin.zeroCells z.cells n).toList[i*t.size+j]? =(iq t)[j]? :=by
 have aR:=Nat.mul_le_mul_right t.size (show i+1≤n by omega);rw[List.getElem?_eq_getElem (l:=iq t) (by grind),←yM4 h hs (i:=i) hj];simp[Builtin.zeroCells];grind
def Us {z:Value}{t}(h:z.cells.toList=iq t)(hs:z.cells.size=t.size){n}:∀v∈(Builtin.zeroCells z.cells n).toList,v.one1=true:=by
 intro v hv;have hz:∀u∈iq t,u.one1=true:=by
  clear h hs hv
  induction t with
  |pair a b DM DN=>
   intro u hu;rcases List.mem_append.1 hu with hu|hu
   all_goals simp_all
  |_=>
   intro u hu;rw[List.mem_singleton.1 hu];rfl
 obtain⟨k,hk,rfl⟩:=List.getElem_of_mem hv;have pR:k<n*t.size:=by rw[Array.length_toList,DR,hs] at hk;exact hk
 have h0:=t.size_pos;have := yR7 h hs (n := n) (i := k / t.size) (j := k % t.size) (Nat.mod_lt _ h0) (by
  rw[Nat.div_lt_iff_lt_mul h0];omega)
 rw[Nat.div_add_mod' k t.size,List.getElem?_eq_getElem hk,List.getElem?_eq_getElem (by grind),Option.some.injEq] at this;simp_all
def Ut {P}{M:zK}{w:World}(ok:Ok M)(hM:M.H=w.heap){id nm n':Nat}{t:Ty}{iu zs}{C:qB}{H'}{s:Sem Value}{c:Nat}{A:Option Addr}{w':World}
  (an:M.h id=some (.arr true t iu)) (hC:M.κ id=some C) (aS:M.h nm=none) (dX:H'.size=M.H.size) (hH:∀b,b∉C.fp→H'[b]? =M.H[b]?) (cP:∀b,qW H' b=qW M.H b)
  (hx:∀M',yQ M M'→M'.H=H'→M'.G=M.G→match C.blk with
   |none=>zs=[]
   |some B=>∃vals e,H'[B]? =some (.cells vals e (0,0))∧zs.length*t.size≤vals.size∧∀i (h:i<zs.length),qF M'.H M'.G t zs[i] (fun j=>vals[i*t.size+j]?))
  (hn : n' ≤ zs.length) (hc : zs.length ≤ c) (hA:match C.blk with
   |none=>A=none∧n'=0∧c=0
   |some B=>∃a,A=some ⟨B,a,none⟩∧(c=0∨a=0)∧c*t.size≤qW M.H B)
  (hw:w'.heap=H'∧w'.os=w.os∧w'.tape=w.tape∧w'.output=w.output) (hr:s.run P w=.ok (.slice A n' c) w'):
  qL P s M w (.c (.osl nm (some (0,n')))) [(id,.gone),(nm,.arr true t zs)]:=by
 obtain⟨C0,sj,hO⟩:=ok.obj id _ an;rw[hC] at sj;cases sj;obtain⟨fr,ff⟩:=IF hO;have bo:id≠nm:=fun e=>by simp_all
 let C':qB:=⟨C.blk,zs.length,t.size,0,[]⟩;have hh:∀n',(qK M.h [(id,.gone),(nm,.arr true t zs)]) n'=if n'=nm then some (.arr true t zs) else if n'=id then some .gone else M.h n':=fun n'=>by
  show(yG (yG M.h id .gone) nm _) n'=_;by_cases e:n'=nm
  ·rw[if_pos e,e,yO]
  ·rw[if_neg e,yS _ _ e];by_cases e2:n'=id
   ·rw[if_pos e2,e2,yO]
   ·rw[if_neg e2,yS _ _ e2]
 have:=zK.move_ok (M:=M) (nm:=nm) (o':=.arr true t zs) (C':=C') (h':=qK M.h [(id,.gone),(nm,.arr true t zs)]) (H':=H') ok (fun j=>j=id) aS
  (fun j hj=>⟨.arr true t iu,by rw[hj];exact an,rfl,by simp_all⟩)
  (by rw[hh,if_pos rfl]) (by grind) (by omega) (fun b hb hn=>hH b (hn id C rfl hC)) (fun b _=>cP b)
  (fun b hb=>.inr ⟨id,C,rfl,hC,by
   simp only[C',qB.fp,List.filterMap_nil,List.append_nil] at hb;rw[ff];exact hb⟩)
  (fun x=>by
   refine⟨rfl,rfl,fun _=>rfl,?_⟩;have:=hx _ x rfl rfl;cases hB:C.blk with
   |none=>simp_all
   |some B=>
    rw[hB] at this;obtain⟨vals,e,h1,h2,h3⟩:=this;exact⟨vals,e,h1,by simp,h2,h3⟩)
 refine⟨_,_,_,hr,hw.2.1,hw.2.2.1,hw.2.2.2,by rw[hw.1];rfl,rfl,this.1,this.2,C',κset_same _ _ _,by grind,⟨_,c,rfl,?_⟩,_,_,_,rfl,by grind⟩;show match C.blk with
  |none=>_
  |some B=>_
 cases hB:C.blk with
 |none=>rw[hB] at hA;exact hA
 |some B=>
  rw[hB] at hA;obtain⟨a,h2,h3,h4⟩:=hA;refine⟨by omega,a,h2,by simpa using h3,?_⟩;show(0+c)*t.size≤qW H' B;simp_all
def vJp {P}{M w}(ok:Ok M)(hM:M.H=w.heap){id nm i j m t e T ty x b xs}(hu:P.underlying t=some (.slice e))(dH:kt P e=some ty)
  (aS:M.h nm=none) (an:M.h id=some (.arr true ty xs)) (hb:zY M (.osl id (some (0,i))) b) (hx:zY M (.osl id (some (j,m))) x) (oP:i≤j):
  qL P (Builtin.append_ #[t,t] T #[b,x]) M w (.c (.osl nm (some (0,i+m)))) [(id,.gone),(nm,.arr true ty (xs.take i++qR xs j m++xs.drop (i+m)))]:=by
 obtain⟨inf,z,h1,h2,h3,h4,h5,h6,h7⟩:=sg dH;obtain⟨C,hC,hO⟩:=ok.obj id _ an;obtain⟨news,hR,hE⟩:=AP hC hO hx;obtain⟨C1,iM,dp,_⟩:=hx;rw[hC] at iM;cases iM;obtain⟨C1,iM,fG,⟨A,c,rfl,hS⟩,iL⟩:=hb;rw[hC] at iM;cases iM;obtain⟨_,_,_,iL,DL⟩:=iL;cases iL;have hlen:=hO.1;have oX:(j4 xs (some (j,m))).length=m:=DB (by omega);rw[oX] at hR;have NN:news.length=m*ty.size:=hR.choose_spec.choose_spec.2.1;have tS:(qR xs j m).length=m:=oX;have tT:(xs.take i).length=i:=by rw[List.length_take];omega
 have IW:(xs.take i++qR xs j m++xs.drop (i+m)).length=xs.length:=by
  rw[List.length_append,List.length_append,tS,tT,List.length_drop];omega
 have aO:i+m≤c:=by omega
 cases hB:C.blk with
 |none=>
  rw[hB] at hS;obtain⟨rfl,rfl,rfl⟩:=hS;have hr:=si (P:=P) (w:=w) (A:=none) (sLen:=0) (sCap:=0) T hu h1 h3 (by rw[←hM];exact hR) aO w rfl;refine Ut (s:=Builtin.append_ #[t,t] T #[.slice none 0 0,x]) (H':=M.H) ok hM an hC aS rfl (fun _ _=>rfl) (fun _=>rfl) (fun M' _ _ _=>?_) (by omega) (by omega) ?_ ⟨hM.symm,rfl,rfl,rfl⟩ hr
  ·rw[hB];exact List.eq_nil_of_length_eq_zero (by omega)
  ·rw[hB];exact⟨rfl,by omega,rfl⟩
 |some B=>
  rw[hB] at hS;obtain⟨hc,a,rfl,ha,hs⟩:=hS;obtain⟨k1,k2,k3,k4⟩:=hO;rw[hB] at k4;obtain⟨vals,ev,k5,k6,k7,k8⟩:=k4;rw[Nat.zero_mul] at ha;rw[Nat.zero_add,k2] at hs;have cP:qW M.H B=vals.size:=by simp only[qW,k5]
  have j6:w.heap[B]? =some (.cells vals ev (0,0)):=by rw[←hM];exact k5
  by_cases h0:c=0
  ·have hm0:m=0:=by omega
   have hr := si (P := P) (w := w) (A := some ⟨B, a, none⟩) (sLen := i) (sCap := c) T hu h1 h3 (by rw [← hM]; exact hR) aO w (by
    have:news=[]:=List.eq_nil_of_length_eq_zero (by rw[NN,hm0,Nat.zero_mul]);rw[this];rfl)
   refine Ut (s:=Builtin.append_ #[t,t] T #[.slice (some ⟨B,a,none⟩) i c,x]) (H':=M.H) ok hM an hC aS rfl (fun _ _=>rfl) (fun _=>rfl) (fun M' _ _ _=>?_) (by omega) (by omega) ?_ ⟨hM.symm,rfl,rfl,rfl⟩ hr
   ·rw[hB];refine⟨vals,ev,k5,by rw[IW];exact k7,fun p hp=>?_⟩;rw[IW] at hp;omega
   ·rw[hB];exact⟨a,rfl,.inl h0,by rw[h0];simp⟩
  ·have nN:a=0:=by rcases ha with ha|ha<;>omega
   subst nN;have hle:=Nat.mul_le_mul_right ty.size (show i+m≤xs.length by omega);rw[Nat.add_mul] at hle;have aJ:i*ty.size+news.length≤vals.size:=by omega
   have dm:=run_storeCells_at (P:=P) B (i*ty.size) ev news 0 vals w j6 (by simpa using aJ) (fun v hv=>AB (hR.choose_spec.choose_spec.2.2.1 v hv));simp only[Nat.add_zero] at dm;have hr:=si (P:=P) (w:=w) (A:=some ⟨B,0,none⟩) (sLen:=i) (sCap:=c) T hu h1 h3 (by rw[←hM];exact hR) aO (w.setRow B (yV vals (i*ty.size) news)) (by show(storeCells (Addr.add ⟨B,0,none⟩ (i*ty.size)) news).run P w=_;rw[Addr.add_lit,Nat.zero_add];exact dm);obtain⟨f1,f2,f3,f4⟩:=oT j6 (new:=yV vals (i*ty.size) news) (gQ aJ);refine Ut (s:=Builtin.append_ #[t,t] T #[.slice (some ⟨B,0,none⟩) i c,x]) (H':=(w.setRow B (yV vals (i*ty.size) news)).heap) ok hM an hC aS (by rw[hM];exact f1)
    (fun b hb=>by rw[hM];exact f3 b fun e=>hb (e▸fW hB)) (fun b=>by rw[hM];exact f4 b) (fun M' xt hH hG=>?_) (by omega) (by omega) ?_ ⟨rfl,rfl,rfl,rfl⟩ hr
   ·rw[hB];refine⟨_,ev,f2,by rw[IW,gQ aJ];exact k7,fun p hp=>?_⟩;rw[IW] at hp;have aR:=Nat.mul_le_mul_right ty.size (show p+1≤xs.length by omega);rw[Nat.add_mul] at aR;have old:(xs.take i++qR xs j m++xs.drop (i+m))[p]? =xs[p]? →(∀q,q<ty.size→(yV vals (i*ty.size) news)[p*ty.size+q]? =vals[p*ty.size+q]?)→qF M'.H M'.G ty ((xs.take i++qR xs j m++xs.drop (i+m))[p]'(by omega)) (fun q=>(yV vals (i*ty.size) news)[p*ty.size+q]?):=fun e1 e2=>by
     have e3:(xs.take i++qR xs j m++xs.drop (i+m))[p]'(by omega)=xs[p]:=by
      rw[List.getElem?_eq_getElem (by omega),List.getElem?_eq_getElem hp,Option.some.injEq] at e1;exact e1
     rw[e3];exact vE xt.G xt.sameG ty _ _ _ e2 (k8 p hp)
    by_cases NO:p<i
    ·refine old ?_ fun q hq=>?_
     ·rw[List.append_assoc,List.getElem?_append_left (by omega),List.getElem?_take,if_pos NO]
     ·have:=Nat.mul_le_mul_right ty.size (show p+1≤i by omega);rw[Nat.add_mul] at this;rw[ee aJ,if_pos (by omega)]
    ·by_cases IX:p<i+m
     ·have e3:(xs.take i++qR xs j m++xs.drop (i+m))[p]'(by omega)=(j4 xs (some (j,m)))[p-i]'(by omega):=by
       rw[List.getElem_append_left (by rw[List.length_append,tT,tS];exact IX),List.getElem_append_right (by omega)];simp only[tT];rfl
      rw[e3];refine vE xt.G xt.sameG ty _ _ _ (fun q hq=>?_) (hE (p-i) (by omega));have q1:=Nat.mul_le_mul_right ty.size (show i≤p by omega);have q2:=Nat.mul_le_mul_right ty.size (show p-i+1≤m by omega);rw[Nat.add_mul] at q2;have q3:(p-i)*ty.size=p*ty.size-i*ty.size:=Nat.sub_mul ..
      rw[ee aJ,if_neg (by omega),if_pos (by omega)]
      congr 1;omega
     ·refine old ?_ fun q hq=>?_
      ·rw[List.getElem?_append_right (by rw[List.length_append,tT,tS];omega),List.getElem?_drop]
       congr 1
       rw[List.length_append,tT,tS];omega
      ·have:=Nat.mul_le_mul_right ty.size (show i+m≤p by omega);rw[Nat.add_mul] at this;rw[ee aJ,if_neg (by omega),if_neg (by omega)]
   ·rw[hB];exact⟨0,rfl,.inr rfl,by rw[←k2] at hs⊢;exact hs⟩
def vNx {P M w}(ok:Ok M)(hM:M.H=w.heap){t T id lo n rx v u}(hx:zY M (.osl id (some (lo,n))) rx)
  (h:yL (M9 P M.h t id lo n) v u):qL P (Builtin.clear_ #[t] T #[rx]) M w v u:=by
 unfold M9 at h;split at h
 case h_2=>exact h.elim
 rename_i e s xs hu an;split at h
 case h_2=>exact h.elim
 rename_i ty dH;obtain⟨heq,h⟩:=AR h;have:=Io heq;subst this;obtain⟨_,rfl,rfl⟩:=gP h;obtain⟨inf,z,h1,h2,h3,h4,h5,h6,h7⟩:=sg dH;obtain⟨C,hC,dp,⟨A,c,rfl,hS⟩,_⟩:=hx;obtain⟨C1,iM,hO⟩:=ok.obj id _ an;rw[hC] at iM;cases iM;by_cases DS:n=0
 ·subst DS;have e0:xs.take lo++List.replicate 0 ty.dflt++xs.drop (lo+0)=xs:=by simp
  rw[e0];refine⟨.tuple #[],w,M,?_,rfl,rfl,rfl,hM,?_,ok,vG.refl M,trivial⟩
  ·cases A with
   |none=>simp[Builtin.clear_,run_underlying hu]
   |some a=>simp[Builtin.clear_,run_underlying hu]
  ·rw[Tn,DA an]
 ·obtain⟨k1,k2,k3,k4⟩:=hO;cases hB:C.blk with
  |none=>rw[hB] at hS;omega
  |some B=>
   rw[hB] at hS k4;obtain⟨hc,a,rfl,ha,hs⟩:=hS;obtain⟨vals,ev,k5,k6,k7,k8⟩:=k4;have rY:a=lo*ty.size:=by rw[←k2];rcases ha with ha|ha<;>omega
   subst rY;have j6:w.heap[B]? =some (.cells vals ev (0,0)):=by rw[←hM];exact k5
   have IW:(Builtin.zeroCells z.cells n).toList.length=n*ty.size:=by rw[Array.length_toList,DR,h7]
   have hle:=Nat.mul_le_mul_right ty.size (show lo+n≤xs.length by omega);rw[Nat.add_mul] at hle;have aJ:lo*ty.size+(Builtin.zeroCells z.cells n).toList.length≤vals.size:=by omega
   have cq:∀v∈(Builtin.zeroCells z.cells n).toList,v.one1=true:=Us h4 h7;have dm:=run_storeCells_at (P:=P) B (lo*ty.size) ev (Builtin.zeroCells z.cells n).toList 0 vals w j6 (by simpa using aJ) (fun v hv=>AB (cq v hv));simp only[Nat.add_zero] at dm;obtain⟨f1,f2,f3,f4⟩:=oT j6 (new:=yV vals (lo*ty.size) (Builtin.zeroCells z.cells n).toList) (gQ aJ);have nS:(Builtin.clear_ #[t] T #[.slice (some ⟨B,lo*ty.size,none⟩) n c]).run P w=.ok (.tuple #[]) (w.setRow B (yV vals (lo*ty.size) (Builtin.zeroCells z.cells n).toList)):=by
    obtain⟨n',rfl⟩:∃n',n=n'+1:=⟨n-1,by omega⟩;have e:(storeCells ⟨B,lo*ty.size,none⟩ (Builtin.zeroCells z.cells (n'+1)).toList).run P w=.ok () (w.setRow B (yV vals (lo*ty.size) (Builtin.zeroCells z.cells (n'+1)).toList)):=dm;simp[Builtin.clear_,run_underlying hu,zeroValue,typeInfo,h1,h2,e]
   have hH:∀b,b∉C.fp→(w.setRow B (yV vals (lo*ty.size) (Builtin.zeroCells z.cells n).toList)).heap[b]? =M.H[b]? :=fun b tL=>by
    rw[hM];exact f3 b fun e=>tL (e▸fW hB)
   have cP:∀b,b<M.H.size→qW (w.setRow B (yV vals (lo*ty.size) (Builtin.zeroCells z.cells n).toList)).heap b=qW M.H b:=fun b _=>by rw[hM];exact f4 b
   have hol:(xs.take lo++List.replicate n ty.dflt++xs.drop (lo+n)).length=xs.length:=by
    simp only[List.length_append,List.length_take,List.length_replicate,List.length_drop];omega
   have x:=zK.write_ext ok an rfl hC C.le_refl hH cP (.arr true ty (xs.take lo++List.replicate n ty.dflt++xs.drop (lo+n)));have := zK.write_ok ok an rfl hC C.le_refl (fun _ h => h) (by rw [hM]; exact f1) hH cP (o' := .arr true ty (xs.take lo ++ List.replicate n ty.dflt ++ xs.drop (lo + n))) (by
    refine⟨by rw[hol];exact k1,k2,k3,?_⟩;rw[hB];refine⟨_,ev,f2,fun h=>(by cases h),by rw[hol,gQ aJ];exact k7,fun p hp=>?_⟩;rw[hol] at hp;have aR:=Nat.mul_le_mul_right ty.size (show p+1≤xs.length by omega);rw[Nat.add_mul] at aR;have pU:(xs.take lo).length=lo:=by rw[List.length_take];omega
    have old:(xs.take lo++List.replicate n ty.dflt++xs.drop (lo+n))[p]? =xs[p]? →(∀q,q<ty.size→(yV vals (lo*ty.size) (Builtin.zeroCells z.cells n).toList)[p*ty.size+q]? =vals[p*ty.size+q]?)→
      qF (M.write id (.arr true ty (xs.take lo++List.replicate n ty.dflt++xs.drop (lo+n))) C (w.setRow B (yV vals (lo*ty.size) (Builtin.zeroCells z.cells n).toList)).heap).H (M.write id (.arr true ty (xs.take lo++List.replicate n ty.dflt++xs.drop (lo+n))) C (w.setRow B (yV vals (lo*ty.size) (Builtin.zeroCells z.cells n).toList)).heap).G ty ((xs.take lo++List.replicate n ty.dflt++xs.drop (lo+n))[p]'(by omega)) (fun q=>(yV vals (lo*ty.size) (Builtin.zeroCells z.cells n).toList)[p*ty.size+q]?):=fun e1 e2=>by
     have e3:(xs.take lo++List.replicate n ty.dflt++xs.drop (lo+n))[p]'(by omega)=xs[p]:=by
      rw[List.getElem?_eq_getElem (by omega),List.getElem?_eq_getElem hp,Option.some.injEq] at e1;exact e1
     rw[e3];exact vE x.G x.sameG ty _ _ _ e2 (k8 p hp)
    by_cases NO:p<lo
    ·refine old ?_ fun q hq=>?_
     ·rw[List.append_assoc,List.getElem?_append_left (by omega),List.getElem?_take,if_pos NO]
     ·have:=Nat.mul_le_mul_right ty.size (show p+1≤lo by omega);rw[Nat.add_mul] at this;rw[ee aJ,if_pos (by omega)]
    ·by_cases IX:p<lo+n
     ·have e3:(xs.take lo++List.replicate n ty.dflt++xs.drop (lo+n))[p]'(by omega)=ty.dflt:=by
       rw[List.getElem_append_left (by rw[List.length_append,pU,List.length_replicate];exact IX),List.getElem_append_right (by omega)];simp
      rw[e3];refine IN ty _ fun q hq=>?_
      have q1:=Nat.mul_le_mul_right ty.size (show lo≤p by omega);have q2:=Nat.mul_le_mul_right ty.size (show p-lo+1≤n by omega);rw[Nat.add_mul] at q2;have q3:(p-lo)*ty.size=p*ty.size-lo*ty.size:=Nat.sub_mul ..
      rw[ee aJ,if_neg (by omega),if_pos (by omega),show p*ty.size+q-lo*ty.size=(p-lo)*ty.size+q by omega,yR7 h4 h7 hq (by omega)]
     ·refine old ?_ fun q hq=>?_
      ·rw[List.getElem?_append_right (by rw[List.length_append,pU,List.length_replicate];omega),List.getElem?_drop]
       congr 1
       rw[List.length_append,pU,List.length_replicate];omega
      ·have:=Nat.mul_le_mul_right ty.size (show lo+n≤p by omega);rw[Nat.add_mul] at this;rw[ee aJ,if_neg (by omega),if_neg (by omega)])
   exact⟨_,_,_,nS,rfl,rfl,rfl,rfl,rfl,this.1,this.2,trivial⟩
def Uu {P M w}(ok:Ok M)(hM:M.H=w.heap){mat nm t T b x v u rb rx}
  (hb:zV M b rb) (hx:zV M x rx) (h:yL (Dm P mat nm M.h t b x) v u):qL P (Builtin.append_ #[t,t] T #[rb,rx]) M w v u:=by
 unfold Dm at h;split at h
 case h_2=>exact h.elim
 rename_i e b x hu aS;split at h
 ·exact h.elim
 rename_i ty dH;cases mat with
 |true=>
  split at h
  ·rename_i id jd;split at h
   ·rename_i v1 xs v2 ys an df;cases bo:Nat.beq id jd with
    |true=>rw[bo] at h;exact h.elim
    |false=>
     rw[bo] at h;obtain⟨hr,rfl,rfl⟩:=gP h;exact Uo ok hM hu dH aS an df (fun e=>by subst e;simp at bo) hb hx (IS hr)
   ·exact h.elim
  ·exact h.elim
 |false=>
  simp only[cond_false] at h;split at h
  ·split at h
   ·rename_i ys u1 ht;obtain⟨hr,rfl,rfl⟩:=gP h;obtain⟨rfl,news,h1,h2⟩:=vGg ok hx ht;rw[show rb=.slice none 0 0 from hb];exact Ui ok hM hu dH aS h1 h2 (IS hr)
   ·exact h.elim
  ·split at h
   ·rename_i s xs an;split at h
    ·rename_i zs ys u1 hz ht;obtain⟨e1,hz⟩:=lA hz;subst e1;subst hz;obtain⟨rfl,news,h1,h2⟩:=vGg ok hx ht;split at h
     ·rcases yPd h with⟨hc,h⟩|⟨_,h⟩
      ·split at h
       ·rename_i i' jd j m zs e1 e2 _;cases e1;have:=Nat.eq_of_beq_eq_true hc;subst this;obtain⟨_,hz⟩:=lA e2;subst hz;obtain⟨hr,rfl,rfl⟩:=gP h;exact vJp ok hM hu dH aS an hb hx (Nat.le_of_ble_eq_true hr)
       ·exact h.elim
      ·obtain⟨hr,rfl,rfl⟩:=gP h;exact Uj ok hM hu dH aS an hb rfl h1 h2 (IS hr)
     ·rcases yPd h with⟨hc,h⟩|⟨_,h⟩
      ·exact h.elim
      ·obtain⟨hr,rfl,rfl⟩:=gP h;exact Uj ok hM hu dH aS an hb trivial h1 h2 (IS hr)
     ·exact h.elim
    ·exact h.elim
   ·exact h.elim
  ·exact h.elim
def Uv {M}(ok:Ok M){c v t ys}(hv:zY M c v)(h:ku M.h c=some ⟨t,ys⟩){kd}(ht:t=.int kd):
  ∃news,Rd M.H v ys.length t.size news∧∃F,∀i hi,qF M.H F t ys[i] (fun j=>news[i*t.size+j]?):=by
 unfold ku at h;split at h
 ·cases h;obtain⟨news,h1,h2⟩:=Ud hv;exact⟨news,h1,_,h2⟩
 ·split at h
  ·rename_i own s xs an;cases h;obtain⟨C,hC,hO⟩:=ok.obj _ _ an;obtain⟨news,h1,h2⟩:=AP hC hO hv;exact⟨news,h1,_,h2⟩
  all_goals grind
 ·rename_i id i ver;split at h
  ·rename_i v' xs an;cases fZ:Nat.beq v' ver with
   |false=>simp_all
   |true=>
    rw[fZ] at h;cases h;have e:v'=ver:=by simp_all
    subst e;obtain⟨C,hC,hO⟩:=ok.obj _ _ an;obtain⟨C',aD,cq,_,aR⟩:=hv;rw[hC] at aD;cases aD;obtain⟨rb,rl,wo,sn⟩:=aR hO.1;by_cases hi:i<xs.length
    ·obtain⟨B,pQ,v2,k1,k2,k3,k4,k5,k6⟩:=Dz hO hi;rw[wo] at k3;cases k3;rw[show xs.getD i []=xs[i] by simp_all];cases rb with
     |none=>
      obtain⟨rfl,h0⟩:=sn;have cM:xs[i]=[]:=by grind
      rw[cM];obtain⟨news,q1,q2⟩:=IP (H:=M.H) (F:=M.G) (t:=.int .i64) (A:=none) (c:=0);exact⟨news,q1,_,q2⟩
     |some R=>
      obtain⟨a,c,rfl,h1,h2,h3⟩:=sn;by_cases h0:xs[i].length=0
      ·have cM:xs[i]=[]:=by grind
       rw[cM];obtain⟨news,q1,q2⟩:=IP (H:=M.H) (F:=M.G) (t:=.int .i64) (A:=some ⟨R,a,none⟩) (c:=c);exact⟨news,q1,_,q2⟩
      ·have ha:a=0:=by omega
       subst ha;obtain ⟨news, q1, q2⟩ := Uc (H := M.H) (F := fun _ => True) (t := .int .i64) (ys := xs[i]) (B := R) (o := 0) (c := c) h1 (fun j hj=>by
        simp[qF,Ty.size];simp_all)
       exact⟨news,q1,_,q2⟩
    ·have:C.rows[i]? =none:=List.getElem?_eq_none (by have:=hO.2.2.2.1;omega);simp_all
  ·cases h
 ·cases h
def vSq {M}(ok:Ok M){c v t ys}(hv:zY M c v)(h:ku M.h c=some ⟨t,ys⟩):∃A k,v=.slice A ys.length k:=by
 by_cases ht:t=.int .i64
 ·obtain⟨news,⟨A,k,e,_⟩,_⟩:=Uv ok hv h ht;simp_all
 unfold ku at h;split at h
 ·cases h;obtain⟨news,⟨A,k,e,_⟩,_⟩:=Ud hv;simp_all
 ·rename_i id r;split at h
  ·rename_i own s xs an;cases h;obtain⟨C,hC,hO⟩:=ok.obj _ _ an;obtain⟨news,⟨A,k,e,_⟩,_⟩:=AP hC hO hv;simp_all
  ·rename_i ver xs an;cases r with
   |none=>
    cases h;obtain⟨C,hC,hO⟩:=ok.obj _ _ an;obtain⟨C',aD,A,k,e,_⟩:=hv;rw[hC] at aD;cases aD;exact⟨A,k,by rw[e,hO.2.1]⟩
   |some p=>cases h
  ·cases h
 all_goals grind
def vH4 {M}(ok:Ok M){c v n}(hv:zY M c v)(h:C7 M.h c=some n):∃A k,v=.slice A n k:=by
 unfold C7 at h;split at h
 ·cases h;exact⟨none,0,hv⟩
 ·obtain⟨C,B,_,_,e⟩:=hv;simp_all
 ·split at h
  ·rename_i t xs hr;cases h;exact vSq ok hv hr
  ·cases h
def vJe {P w t e A n k T ts}(h0:ts[0]? =some t)(hu:P.underlying t=some (.slice e)):
  (Builtin.len_ ts T #[.slice A n k]).run P w=.ok (.int .i64 n) w:=by
 have hr:(underlying t).run P w=.ok (.slice e) w:=by simp[underlying,hu]
 simp[Builtin.len_,h0,hr,goInt]
def vFa {P M w}(ok:Ok M)(hM:M.H=w.heap){lt l rl v u ts T}(hl:zM (zV M) l rl.toList)
  (h:yL (Na lt l) v u):qL P (bif lt then Builtin.min_ ts T rl else Builtin.max_ ts T rl) M w v u:=by
 unfold Na at h;split at h
 ·rename_i k x j y;obtain⟨rfl,rfl⟩:=wO h;obtain⟨rl⟩:=rl
  match rl,hl with
  |[a,b],⟨h1,h2,_⟩=>
   rw[show a=.int k x from h1,show b=.int j y from h2];refine .pure (rv:=.int k (bif lt then(bif decide (y<x) then y else x) else(bif decide (y>x) then y else x))) ok hM ?_ rfl;cases lt<;>simp[Builtin.min_,Builtin.max_,Builtin.min2,Builtin.max2,Bool.cond_decide]
 ·rename_i k x j y i z;obtain⟨rfl,rfl⟩:=wO h;obtain⟨rl⟩:=rl
  match rl,hl with
  |[a,b,c],⟨h1,h2,h3,_⟩=>
   rw[show a=.int k x from h1,show b=.int j y from h2,show c=.int i z from h3];refine .pure (rv:=_) ok hM ?_ rfl;cases lt<;>simp[Builtin.min_,Builtin.max_,Builtin.min2,Builtin.max2,Bool.cond_decide]
 ·exact h.elim
def yD9 {M:zK}:∀{cs ns},Aw cs=some ns→cs=ns.map (.int .i64)
 |[],ns,h=>by cases h;rfl
 |.int .i64 n::l,ns,h=>by
  unfold Aw at h;split at h
  ·rename_i r hr;cases h;rw[yD9 (M:=M) hr];rfl
  ·cases h
def yY4 xs:∀(ns:List Int) i,Ax xs i (ns.map (.int .i64))=(((xs.drop i).take ns.length)++ns.drop ((xs.drop i).take ns.length).length).map (.int .i64)
 |[],i=>by rfl
 |n::ns,i=>by
  simp only[List.map_cons,Ax,yY4 xs ns (i+1)];by_cases hi:i<xs.length
  ·have hb:Nat.blt i xs.length=true:=by simp_all
   rw[hb,List.drop_eq_getElem_cons hi];grind
  ·have hb:Nat.blt i xs.length=false:=by
    cases h:Nat.blt i xs.length with
    |false=>rfl
    |true=>exact absurd (by simp_all) hi
   have e1:xs.drop i=[]:=List.drop_eq_nil_of_le (by omega);grind
def vWh {P M w}(ok:Ok M)(hM:M.H=w.heap){t e ts T d s v u rd rs}(h0:ts[0]? =some t)(hu:P.underlying t=some (.slice e))(he:P.cellsOf e=1)
  (hd:zV M d rd) (hs:zV M s rs) (h:yL (Dn M.h d s) v u):qL P (Builtin.copy_ ts T #[rd,rs]) M w v u:=by
 unfold Dn at h;split at h
 case h_2=>exact h.elim
 rename_i id off n s;split at h
 case h_2=>exact h.elim
 rename_i cells ys an pV;split at h
 case h_2=>exact h.elim
 rename_i vs fm;split at h
 case h_2=>exact h.elim
 rename_i ns T2;obtain⟨_,rfl,rfl⟩:=gP h;clear h;obtain⟨C,B,hC,hB,rfl⟩:=hd;obtain⟨C',aD,B',vals,ev,k1,k2,k3,k4,k5⟩:=ok.obj id _ an;rw[hC] at aD;cases aD;rw[hB] at k1;cases k1;obtain⟨c1,c2,c3⟩:=IB fm;obtain⟨i,hi⟩:=oQ (P:=P) (t:=e) (by omega);obtain⟨A,k,rfl,kA⟩:∃A k,rs=.slice A ys.length k∧∃news,Rd M.H (.slice A ys.length k) ys.length 1 news∧news=ys.map (.int .i64):=by
  split at pV
  ·cases pV;exact⟨none,0,hs,[],⟨none,0,rfl,rfl,by simp,rfl⟩,rfl⟩
  ·obtain⟨news,hR,F,hE⟩:=Uv ok hs pV rfl;obtain⟨A,k,e,hl,r⟩:=hR;refine⟨A,k,e,news,⟨A,k,rfl,hl,r⟩,?_⟩;refine List.ext_getElem (by simpa[Ty.size] using hl) fun j h1 h2=>?_
   have:=hE j (by simpa using h2);simp only[qF,Ty.size,Nat.mul_one,Nat.add_zero] at this;rw[List.getElem?_eq_getElem h1,Option.some.injEq] at this;rw[this];simp
 obtain⟨news,⟨A',k',e',hl,cq,kA⟩,IY⟩:=kA;cases e';let m:=min ys.length n;have hm:Nat.min ys.length n=m:=rfl;have AT:(Builtin.firstCells 1 m (.slice A ys.length k)).run P w=.ok (news.take m).toArray w:=by
  have:Rd M.H (.slice A m k) m 1 (news.take m):=by
   refine⟨A,k,rfl,?_,fun u hu=>cq u (List.mem_of_mem_take hu),?_⟩;all_goals grind
  have:=this.first (P:=P) w hM.symm
  cases A<;>exact this
 have NP:w.heap[B]? =some (.cells vals ev (0,0)):=by rw[←hM];exact k3
 have bP:=k4.length;have NN:(news.take m).length=m:=by rw[List.length_take,hl];omega
 have aJ:off+(news.take m).length≤vals.size:=by
  rw[NN];simp at bP;omega
 have dm:=run_storeCells_at (P:=P) B off ev (news.take m) 0 vals w NP (by simpa using aJ) (fun v hv=>AB (cq v (List.mem_of_mem_take hv)));simp only[Nat.add_zero] at dm;have nS:(Builtin.copy_ ts T #[.slice (some ⟨B,off,none⟩) n n,.slice A ys.length k]).run P w=.ok (.int .i64 (m:Nat)) (w.setRow B (yV vals off (news.take m))):=by
  simp[Builtin.copy_,h0,run_underlying hu,Builtin.lenOf,iJ w hi,he,hm,AT,goInt];have e:(storeCells ⟨B,off,none⟩ (news.take m)).run P w=.ok () (w.setRow B (yV vals off (news.take m))):=dm;rw[e];rfl
 obtain⟨f1,f2,f3,f4⟩:=oT NP (new:=yV vals off (news.take m)) (gQ aJ);have hH:∀b,b∉C.fp→(w.setRow B (yV vals off (news.take m))).heap[b]? =M.H[b]? :=fun b tL=>by
  rw[hM];exact f3 b fun e=>tL (e▸fW hB)
 have cP:∀b,b<M.H.size→qW (w.setRow B (yV vals off (news.take m))).heap b=qW M.H b:=fun b _=>by rw[hM];exact f4 b
 let o':Obj:=.box true (cells.take off++Ax ys 0 vs++cells.drop (off+n));have x:=zK.write_ext ok an rfl hC C.le_refl hH cP o';have aF:cells.take off++Ax ys 0 vs++cells.drop (off+n)=cells.take off++(ys.take m).map (.int .i64)++cells.drop (off+((ys.take m).map (zZ.int .i64)).length):=by
  have hv:=yD9 (M:=M) T2;have hnn:ns.length=n:=by rw[←c3,hv];simp
  have IZ:(ys.drop 0).take ns.length=ys.take m:=by
   grind
  rw[hv,yY4,IZ,List.map_append,List.map_drop,←hv,List.append_assoc,List.append_assoc,List.append_assoc]
  congr 2
  have NQ:(ys.take m).length=m:=by rw[List.length_take];omega
  have e1:cells.drop (off+n)=(cells.drop (off+m)).drop (n-m):=by
   rw[List.drop_drop];congr 1;omega
  rw[List.length_map,NQ,c2,List.drop_take,List.drop_drop,e1,List.take_append_drop]
 have := zK.write_ok ok an rfl hC C.le_refl (fun _ h => h) (by rw [hM]; exact f1) hH cP (o' := o') (by
  refine⟨B,_,ev,hB,k2,f2,?_,fun h=>(by cases h)⟩;rw[aF];refine Ts x k4 (us:=news.take m) ?_ (by simpa using aJ);rw[IY];refine zM.of_get (by simp) fun j h1 h2=>?_
  simp[zY])
 exact⟨_,_,_,nS,rfl,rfl,rfl,rfl,rfl,this.1,this.2,rfl⟩
def yN9 {P t}(h:Iu P t=true):∃k e i,P.underlying t=some (.map k e)∧P.underlying k=some (.int .i64)∧P.info? e=some i∧i.zero=some (.bool false):=by
 unfold Iu at h;split at h
 ·split at h
  ·rename_i hk hz;obtain⟨i,h1,h2⟩:=Option.bind_eq_some_iff.1 hz;grind
  ·cases h
 ·cases h
def Uw {P M w}(ok:Ok M)(hM:M.H=w.heap){nm t v u}(h:yL (Df P nm M.h t) v u):qL P (Instr.makeMap t none) M w v u:=by
 unfold Df at h;split at h
 case h_2=>exact h.elim
 rename_i aS;obtain⟨_,h⟩:=AR h;obtain⟨_,rfl,rfl⟩:=gP h;let C:qB:=⟨some M.H.size,0,0,0,[]⟩;have := zK.new_ok ok aS (.imap []) C (.map #[] 0) (by simp [C, qB.fp]) (by
  refine⟨M.H.size,#[],0,rfl,rfl,AA,by simp,fun n=>rfl⟩)
 refine⟨.map (some w.heap.size),w.alloc (.map #[] 0),_,?_,rfl,rfl,rfl,?_,rfl,this.1,this.2,C,M.H.size,κset_same _ _ _,rfl,by rw[hM]⟩
 ·rfl
 ·show M.H.push _=w.heap.push _;rw[hM]
def Ux {n}:∀{es i},(∀e∈es,∃m b,e.key=.int .i64 m∧e.val=.bool b)→
  (fF n es=none∧Instr.findNow (.int .i64) (.int .i64 n) es i=some none)∨
  (∃j b e,fF n es=some (.bool b)∧Instr.findNow (.int .i64) (.int .i64 n) es i=some (some (i+j,.bool b))∧es[j]? =some e∧e.key=.int .i64 n∧
   ∀f:MapEntry→MapEntry,(∀e,(f e).key=.int .i64 n)→fF n (es.modify j f)=some (f e).val∧(∀m,m≠n→fF m (es.modify j f)=fF m es)∧∀e'∈es.modify j f,e'∈es∨e'=f e)
 |[],i,_=>.inl ⟨rfl,rfl⟩
 |e::es,i,h=>by
  obtain⟨m,b,h1,h2⟩:=h e (by simp);by_cases hm:n=m
  ·subst hm;refine .inr ⟨0,b,e,?_,?_,rfl,h1,fun f hf=>⟨?_,fun m bo=>?_,fun e' he=>?_⟩⟩
   ·simp[fF,h1,h2]
   ·simp[Instr.findNow,Instr.sameNow,h1,h2]
   ·simp[fF,hf]
   ·simp[fF,hf,h1,bo]
   grind
  ·have hs:Instr.findNow (.int .i64) (.int .i64 n) (e::es) i=Instr.findNow (.int .i64) (.int .i64 n) es (i+1):=by
    have hb:(n==m)=false:=by simp[hm]
    simp[Instr.findNow,Instr.sameNow,h1,hb]
   have hf:fF n (e::es)=fF n es:=by simp[fF,h1,hm]
   rcases Ux (es:=es) (i:=i+1) (by grind) with⟨k1,k2⟩|⟨j,b',e',k1,k2,k3,k4,k5⟩
   ·exact .inl ⟨hf.trans k1,hs.trans k2⟩
   ·refine .inr ⟨j+1,b',e',hf.trans k1,by grind,by simp_all,k4,fun f hfk=>?_⟩;obtain⟨q1,q2,q3⟩:=k5 f hfk;refine⟨by simp[fF,h1,hm,q1],fun m' bo=>?_,fun e'' he=>?_⟩
    ·rw[List.modify_succ_cons];simp[fF,q2 m' bo]
    grind
def NR {P w r es ck}(h:w.heap[r]? =some (.map es ck)):(getObj r).run P w=.ok (.map es ck) w:=by
 simp[getObj,Sem.run,h]
def ySf {P w r es ck} o (h:w.heap[r]? =some (.map es ck)):(setObj r o).run P w=.ok () {w with heap:=w.heap.setIfInBounds r o}:=by
 simp[setObj,Sem.run,h]
def NS {P w k b n}(h:P.underlying k=some (.int .i64)):(Instr.checkKey b 10000 k (.int .i64 n)).run P w=.ok () w:=by
 unfold Instr.checkKey;simp[run_underlying h]
def NT {P w k n es r}(h:P.underlying k=some (.int .i64))(hf:Instr.findNow (.int .i64) (.int .i64 n) es 0=some r):(Instr.findKey k (.int .i64 n) es).run P w=.ok r w:=by
 unfold Instr.findKey;simp[run_underlying h,hf]
def Uy {P M w}(ok:Ok M)(hM:M.H=w.heap){t x i v u rx ri}(hx:zV M x rx)(hi:zV M i ri)(h:yL (Dg P M.h t x i) v u):qL P (Instr.lookup t rx ri false) M w v u:=by
 unfold Dg at h;split at h
 case h_2=>exact h.elim
 rename_i id n;split at h
 case h_2=>exact h.elim
 rename_i de an;obtain⟨hb,h⟩:=AR h;obtain⟨rfl,rfl⟩:=wO h;obtain⟨k,e,inf,h1,h2,h3,h4⟩:=yN9 hb;obtain⟨C,B,hC,hB,rfl⟩:=hx;obtain⟨C',aD,B',es,ck,k1,k2,k3,k4,k5⟩:=ok.obj id _ an;rw[hC] at aD;cases aD;rw[hB] at k1;cases k1;have nP:ri=.int .i64 n:=hi;subst nP;rw[hM] at k3;refine .pure (rv:=.bool ((de.lookup n).getD false)) ok hM ?_ rfl;have h5:=k5 n;unfold Instr.lookup;rcases Ux (n:=n) (i:=0) k4 with⟨q1,q2⟩|⟨j,b,e',q1,q2,q3,q4,q5⟩
 ·have:de.lookup n=none:=by cases hl:de.lookup n with|none=>rfl|some b=>simp_all
  simp[run_underlying h1,NR k3,NS h2,NT h2 q2,zeroValue,typeInfo,h3,h4,this]
 ·have:de.lookup n=some b:=by cases hl:de.lookup n with|none=>simp_all|some b=>simp_all
  simp[run_underlying h1,NR k3,NS h2,NT h2 q2,this]
def Uz {n b c}:∀{es},fF n es=none→∀m,fF m (es++[⟨.int .i64 n,.bool b,c⟩])=if m=n then some (.bool b) else fF m es
 |[],_,m=>by rfl
 |e::es,h,m=>by
  rw[List.cons_append];have aK:∀(m:Int) (l:List MapEntry),fF m (e::l)=match e.key with|.int .i64 k=>if m=k then some e.val else fF m l|_=>fF m l:=fun m l=>rfl
  rw[aK] at h;rw[aK,aK];split at h
  ·rename_i k hk;split at h
   ·cases h
   ·by_cases hm:m=k
    ·grind
    ·rw[if_neg hm,Uz h m,if_neg hm]
  ·exact Uz h m
def vIl {P M w}(ok:Ok M)(hM:M.H=w.heap){t x i y v u rx ri ry}(hx:zV M x rx)(hi:zV M i ri)(hy:zV M y ry)(h:yL (Dh P M.h t x i y) v u):
  v=.undef∧mW P (Instr.mapUpdate t rx ri ry) M w u:=by
 unfold Dh at h;split at h
 case h_2=>exact h.elim
 rename_i id n b;split at h
 case h_2=>exact h.elim
 rename_i de an;obtain⟨hb,h⟩:=AR h;obtain⟨_,rfl,rfl⟩:=gP h;obtain⟨k,e,inf,h1,h2,h3,h4⟩:=yN9 hb;obtain⟨C,B,hC,hB,rfl⟩:=hx;obtain⟨C',aD,B',es,ck,k1,k2,k3,k4,k5⟩:=ok.obj id _ an;rw[hC] at aD;cases aD;rw[hB] at k1;cases k1;have nP:ri=.int .i64 n:=hi;subst nP;have hry:ry=.bool b:=hy;subst hry;have k3':=k3;rw[hM] at k3;have write:∀(so:Array MapEntry) (wq:Nat),(Instr.mapUpdate t (.map (some B)) (.int .i64 n) (.bool b)).run P w=.ok () {w with heap:=w.heap.setIfInBounds B (.map so wq)}→
   (∀e∈so.toList,∃m b,e.key=.int .i64 m∧e.val=.bool b)→(∀m,fF m so.toList=if m=n then some (.bool b) else fF m es.toList)→mW P (Instr.mapUpdate t (.map (some B)) (.int .i64 n) (.bool b)) M w [(id,.imap ((n,b)::de))]:=by
  intro so wq hr he hf;have AU:∀c,(w.heap.setIfInBounds B (.map so wq))[c]? =if c=B then some (.map so wq) else w.heap[c]? :=by grind
  have hH:∀c,c∉C.fp→(w.heap.setIfInBounds B (.map so wq))[c]? =M.H[c]? :=fun c hc=>by
   rw[AU,if_neg (fun(e:c=B)=>hc (by rw[e];exact fW hB)),hM]
  have cP:∀c,c<M.H.size→qW (w.heap.setIfInBounds B (.map so wq)) c=qW M.H c:=fun c _=>by
   unfold qW;grind
  have := zK.write_ok ok an rfl hC C.le_refl (by simp) (by rw [hM]; simp) hH cP (o' := .imap ((n, b) :: de)) (by
   refine⟨B,so,wq,hB,k2,?_,he,fun m=>?_⟩
   ·show(w.heap.setIfInBounds B (.map so wq))[B]? =_;rw[AU,if_pos rfl]
   grind)
  exact⟨_,_,hr,rfl,rfl,rfl,rfl,rfl,this.1,this.2⟩
 refine⟨rfl,?_⟩;rcases Ux (n:=n) (i:=0) k4 with⟨q1,q2⟩|⟨j,b',e',q1,q2,q3,q4,q5⟩
 ·refine write (es.push ⟨.int .i64 n,.bool b,ck⟩) (ck+1) ?_ (fun e he=>?_) fun m=>?_
  ·unfold Instr.mapUpdate;simp[run_underlying h1,NR k3,NS h2,NT h2 q2,ySf _ k3]
  ·grind
  ·rw[Array.toList_push];exact Uz q1 m
 ·refine write (es.modify j fun e=>{e with key:=.int .i64 n,val:=.bool b}) ck ?_ (by grind) fun m=>?_
  ·unfold Instr.mapUpdate;rw[Nat.zero_add] at q2;simp only[Array.getElem?_toList] at q3;simp[run_underlying h1,NR k3,NS h2,NT h2 q2,ySf _ k3,q3,q4,Instr.keyThatStays,Instr.sameBits]
  all_goals grind
def yWa:∀(ns:List Int) (b:ByteArray),ns.foldl (fun r n=>r.push (UInt8.ofNat n.toNat)) b=⟨(b.data.toList++oN ns).toArray⟩
 |[],b=>by simp[oN]
 |n::ns,b=>by
  rw[List.foldl_cons,yWa ns];simp[oN]
def vMv {P M}(ok:Ok M){c v xs}(hv:zY M c v)(h:C6 M.h c=some xs){w}(hM:M.H=w.heap):
  ∃A n k,v=.slice A n k∧(Conv.bytesToString v).run P w=.ok (.string ⟨(oN xs).toArray⟩) w:=by
 unfold C6 at h;split at h
 ·cases h;refine⟨none,0,0,hv,?_⟩;rw[show v=.slice none 0 0 from hv];rfl
 ·split at h
  ·rename_i ys hr;obtain rfl:ys=xs:=by simp_all
   obtain⟨news,⟨A,k,e,hl,cq,kA⟩,F,hE⟩:=Uv ok hv hr rfl;refine⟨A,_,k,e,?_⟩;have hn:news=ys.map (Value.int .u8):=by
    refine List.ext_getElem (by simpa[Ty.size] using hl) fun j h1 h2=>?_
    have:=hE j (by simp_all);simp[qF,Ty.size] at this;grind
   subst e;cases A with
   |none=>
    have h1:ys=[]:=by grind
    subst h1;rfl
   |some a=>
    have mU:(loadCells a ys.length).run P w=.ok (ys.map (Value.int .u8)).toArray w:=by
     rcases kA with h0|⟨h1,h2⟩
     ·have h1:ys=[]:=by grind
      subst h1;rfl
     ·have:=Rd.first (P:=P) (H:=M.H) (v:=.slice (some a) ys.length k) (n:=ys.length) (size:=1) (news:=news) ⟨_,k,rfl,by grind,cq,by grind⟩ w hM.symm
      rw[hn] at this
      simpa[Builtin.firstCells] using this
    rw[run_bytesToString w a _ k ys mU,yWa];rfl
  ·cases h
structure tU (M:zK) (w:World) (u:vL) (M':zK) (w':World):Prop where
 os:w'.os=w.os
 tape:w'.tape=w.tape
 output:w'.output=w.output
 H:M'.H=w'.heap
 h:M'.h=qK M.h u
 ok:Ok M'
 step:vG M M'
def tV (P:Program)(f:Nat)(args:List zX)(h:Hp)(v:zX)(u:vL):Prop:=
 ∀(M:zK) (w:World) (vs:Array Value),M.h=h→M.H=w.heap→Ok M→zM (zV M) args vs.toList→
  ((callFunc f vs).run P w=.ok (.enter f vs) w∧Calls P f vs w fun
   |.returned rv,w'=>∃M',tU M w u M' w'∧zV M' v rv
   |_,_=>False)∨∃rv w' M',(callFunc f vs).run P w=.ok (.value rv) w'∧tU M w u M' w'∧zV M' v rv
def vDd (P:Program)(S:Nb):Prop:=∀k nm f args h v u,yL (S k nm f args h) v u→tV P f args h v u
structure gC (E:Env):Prop where
 eq:II E.P E.eqT
 sums:vDd E.P E.sums
section
variable {P:Program} {Q:Exit→Act→World→Prop} {o:Oper} {a:Act} {w:World} {M:zK} {next:Act→World→Prop} {v:zX} {u:vL}
def gT {s}(hr:qL P s M w v u)(he:execOp a.eval o=(do pure (.value (←s)):Sem Next))(hn:∀M' w' rv,tU M w u M' w'→zV M' v rv→next (a.put o.dst rv) w'):
  o.wp P a w next Q:=by
 obtain⟨rv,w',M',h1,h2,h3,h4,h5,h6,h7,h8,h9⟩:=hr;unfold Oper.wp;rw[he];simp[h1];exact hn M' w' rv ⟨h2,h3,h4,h5,h6,h7,h8⟩ h9
def yU5 {s}(hr:mW P s M w u)(he:execOp a.eval o=(do s;pure .skip:Sem Next))(hn:∀M' w' rv,tU M w u M' w'→zV M' .undef rv→next (a.put o.dst rv) w'):
  o.wp P a w next Q:=by
 obtain⟨w',M',h1,h2,h3,h4,h5,h6,h7,h8⟩:=hr;unfold Oper.wp;rw[he];simp[h1];exact hn M' w' undef ⟨h2,h3,h4,h5,h6,h7,h8⟩ trivial
def pW (ok:Ok M)(hM:M.H=w.heap){rv}(hu:u=[])(hv:zV M v rv)(he:(execOp a.eval o).run P w=.ok (.value rv) w)(hn:∀M' w' rv,tU M w u M' w'→zV M' v rv→next (a.put o.dst rv) w'):
  o.wp P a w next Q:=by
 unfold Oper.wp;rw[he];subst hu;exact hn M w rv ⟨rfl,rfl,rfl,hM,rfl,ok,.refl M⟩ hv
end
def I1 {α β} f:∀(l:List α) (r:List β),l.mapM f=some r→zM (fun a b=>f a=some b) l r
 |[],r,h=>by simp at h;subst h;trivial
 |a::l,r,h=>by
  simp[Option.bind_eq_some_iff] at h;obtain⟨b,h1,bs,h2,h3⟩:=h;cases h3;exact⟨h1,I1 f l bs h2⟩
def zM.map_left {α β γ R}{f:α→γ}:∀{l} {m:List β},zM (fun a b=>R (f a) b) l m→zM R (l.map f) m
 |[],[],_=>trivial
 |_::_,_::_,h=>⟨h.1,zM.map_left h.2⟩
def _root_.Go.Operand.lit:Operand→Value
 |.const c=>c
 |_=>undef
def vSu {P:Program}{M:zK}{w:World}{t:TypeId}{d}{y:Operand}{x:zZ}{rx ry:Value}{b:Bool}(hu:P.underlying t=some d)(hx:zY M x rx)(hy:ry=y.lit)
  (h:SU d y x=some b) op (sr:op=.eql∨op=.neq) ox oy:
  (eqGuard op t ox oy rx ry).run P w=.ok () w∧(binOp op t rx ry).run P w=.ok (.bool (rQ op b)) w:=by
 have key:∀n,(Op.equalIn (n+1) t rx ry).run P w=.ok b w→(eqGuard op t ox oy rx ry).run P w=.ok () w→(binOp op t rx ry=match op with|.eql=>(do pure (.bool (←Op.equal t rx ry)))|_=>(do pure (.bool (!(←Op.equal t rx ry)))))→
   n=9999→(eqGuard op t ox oy rx ry).run P w=.ok () w∧(binOp op t rx ry).run P w=.ok (.bool (rQ op b)) w:=by
  intro n h1 h2 h3 hn;have gz:(Op.equal t rx ry).run P w=.ok b w:=by subst hn;exact h1
  refine⟨h2,?_⟩;rw[h3];rcases sr with rfl|rfl<;>simp[gz,rQ]
 unfold SU at h;split at h<;>cases h<;>simp only[Operand.lit] at hy<;>subst hy;all_goals (try obtain rfl:rx=_:=hx)
 all_goals (try obtain⟨C,B,_,_,_,rfl⟩:=hx)
 all_goals (try obtain⟨B,o,rfl,_⟩:=hx)
 all_goals (try obtain⟨cv,rfl,_⟩:=hx)
 all_goals (try obtain⟨⟨_,_,_,rfl⟩,_⟩:=hx)
 all_goals
  refine key 9999 ?_ ?_ ?_ rfl
  ·generalize 9999=n;unfold Op.equalIn;simp[run_underlying hu]
  ·rcases sr with rfl|rfl<;>simp[eqGuard]
  ·rcases sr with rfl|rfl<;>rfl
def UA {M}(ok:Ok M){c v n}(hv:zY M c v)(h:C8 M.h c=some n)(hn:0<n):∃a k,v=.slice (some a) n k:=by
 unfold C8 at h;split at h
 ·rename_i sh t xs;cases h;have hv:qF M.H (bif sh then M.G else M.F) (.sl t) xs (fun _=>some v):=hv;simp[qF] at hv;obtain⟨A,m,c,rfl,rfl,hc,h⟩:=hv;rcases h with⟨rfl,_⟩|⟨B,o,rfl,_⟩
  ·simp at hn
  ·exact⟨_,_,rfl⟩
 ·rename_i id;split at h
  ·rename_i own t xs an;cases h;obtain⟨C,hC,hO⟩:=ok.obj _ _ an;obtain⟨C',aD,A,k,e,hS⟩:=hv;rw[hC] at aD;cases aD;have hl:C.len=xs.length:=hO.1;rw[e,hl];cases hB:C.blk with
   |none=>rw[hB] at hS;omega
   |some B=>
    rw[hB] at hS;obtain⟨_,a,rfl,_⟩:=hS;exact⟨_,_,rfl⟩
  ·cases h
 ·cases h
def UB {P:Program}{w:World}{t e}{a n k}(hu:P.underlying t=some (.slice e)) op (sr:op=.eql∨op=.neq) ox oy:
  (eqGuard op t ox oy (.slice (some a) n k) (.slice none 0 0)).run P w=.ok () w∧(binOp op t (.slice (some a) n k) (.slice none 0 0)).run P w=.ok (.bool (rQ op false)) w:=by
 have key:∀m,(Op.equalIn (m+1) t (.slice (some a) n k) (.slice none 0 0)).run P w=.ok false w:=fun m=>by
  unfold Op.equalIn;simp[run_underlying hu]
 have h1:(Op.equal t (.slice (some a) n k) (.slice none 0 0)).run P w=.ok false w:=key 9999;rcases sr with rfl|rfl
 ·refine⟨by simp[eqGuard],?_⟩;rw[show binOp .eql t (.slice (some a) n k) (.slice none 0 0)=(do pure (.bool (←Op.equal t (.slice (some a) n k) (.slice none 0 0)))) from rfl];simp[h1,rQ]
 ·refine⟨by simp[eqGuard],?_⟩;rw[show binOp .neq t (.slice (some a) n k) (.slice none 0 0)=(do pure (.bool (!(←Op.equal t (.slice (some a) n k) (.slice none 0 0))))) from rfl];simp[h1,rQ]
def UC {M}{ev:Operand→zX}{ρ:Operand→Value}(aN:∀x,zV M (ev x) (ρ x)):∀(l:List (Nat×Operand)),zM (AN M) (l.map fun p=>(p.1,ev p.2)) (l.map fun p=>(p.1,ρ p.2))
 |[]=>trivial
 |p::l=>⟨⟨rfl,aN p.2⟩,UC aN l⟩
def yW9 {f:Operand→Value}(parts:Array (Nat×Operand)):(parts.map fun(i,x)=>(i,f x))=(parts.toList.map fun p=>(p.1,f p.2)).toArray:=by
 grind
def yQ1 {M}{ev:Operand→zX}{ρ}(aN:∀x,zV M (ev x) (ρ x)):∀{l ids},zM (fun x id=>vz (ev x)=some id) l ids→
  zM (fun id u=>∃C B,M.κ id=some C∧C.blk=some B∧u=.pointer (some ⟨B,0,none⟩)) ids (l.map ρ)
 |[],[],_=>trivial
 |x::l,id::ids,h=>by
  refine⟨?_,yQ1 aN h.2⟩;have h1:vz (ev x)=some id:=h.1;have hx:=aN x;unfold vz at h1;split at h1
  ·rename_i DV hc;cases h1;rw[hc] at hx;exact hx
  ·cases h1
def yR9 {M ev ρ}(aN:∀x,zV M (ev x) (ρ x)):∀(l:List Operand),zM (zV M) (l.map ev) (l.map ρ)
 |[]=>trivial
 |x::l=>⟨aN x,yR9 aN l⟩
def UD {E}(hE:gC E){A}{k pre}{Q}{o}{a}{w}{M}{next}{v}{u ev}(ok:Ok M)(hM:M.H=w.heap)
  (aN:∀x,zV M (ev x) (a.eval x)) (h:yL (lv E A k pre o ev M.h) v u) (hn:∀M' w' rv,tU M w u M' w'→zV M' v rv→next (a.put o.dst rv) w'):o.wp E.P a w next Q:=by
 unfold lv at h;dsimp only at h;split at h
 ·rename_i x ho;obtain⟨rfl,rfl⟩:=wO h;exact pW ok hM rfl (aN x) (by cases o;cases ho;rfl) hn
 ·rename_i x ho;obtain⟨rfl,rfl⟩:=wO h;exact pW ok hM rfl (aN x) (by cases o;cases ho;rfl) hn
 ·rename_i c x y ho;split at h
  ·rename_i cb hc;have lC:=aN c;rw[hc] at lC;have lC:a.eval c=.bool cb:=lC;split at h
   ·rename_i xb yb hx hy;obtain⟨rfl,rfl⟩:=wO h;have h1:=aN x;have h2:=aN y;rw[hx] at h1;rw[hy] at h2;refine pW (rv:=.bool (bif cb then xb else yb)) ok hM rfl (show zV M (.c (.bool _)) (.bool _) from rfl) ?_ hn;have h1:a.eval x=.bool xb:=h1;have h2:a.eval y=.bool yb:=h2;cases o;cases ho;show(do pure (.value (if←asBool (a.eval c) then a.eval x else a.eval y)):Sem Next).run E.P w=_;cases cb<;>simp[lC,asBool,h1,h2]
   ·refine pW (rv:=if cb then a.eval x else a.eval y) ok hM ?_ ?_ ?_ hn
    ·rcases h with⟨_,_,rfl⟩|⟨_,⟨_,_,rfl⟩|⟨_,h⟩⟩
     ·rfl
     ·rfl
     ·exact h.elim
    ·rcases h with⟨rfl,rfl,_⟩|⟨rfl,⟨_,rfl,_⟩|⟨_,h⟩⟩
     ·exact aN x
     ·exact aN y
     ·exact h.elim
    ·cases o;cases ho;show(do pure (.value (if←asBool (a.eval c) then a.eval x else a.eval y)):Sem Next).run E.P w=_;cases cb<;>simp[lC,asBool]
  ·exact h.elim
 ·rename_i t ho;split at h
  ·rename_i zs aS hz;obtain⟨_,rfl,rfl⟩:=gP h;exact gT (vRk ok hM aS hz) (by cases o;cases ho;rfl) hn
  ·exact h.elim
 ·rename_i t x ho;split at h
  ·rename_i vs aS hv;obtain⟨_,rfl,rfl⟩:=gP h;exact gT (vNq ok hM aS (aN x) hv _) (by cases o;cases ho;rfl) hn
  ·exact h.elim
 ·rename_i t parts ho;have hp:=UC aN parts.toList;have:=vOq ok hM hp h;exact gT this (by cases o;cases ho;rw[←yW9];rfl) hn
 ·rename_i t n parts ho;have hp:=UC aN parts.toList;exact gT (vYn ok hM hp h) (by cases o;cases ho;rw[←yW9];rfl) hn
 ·rename_i t x ho;exact gT (Tm ok hM (aN x) h) (by cases o;cases ho;rfl) hn
 ·rename_i t x y ho;obtain⟨rfl,hr⟩:=TI ok hM (aN x) (aN y) h;exact yU5 hr (by cases o;cases ho;rfl) hn
 ·rename_i x ho;have hx:=aN x;have key:∀c,ev x=.c c→v=.c c→u=[]→(match a.eval x with|.pointer none|.nilIface|.nilFunc=>False|.func (.method _) _ _=>False|_=>True)→o.wp E.P a w next Q:=by
   intro c hc hv hu hm;rw[hc] at hx;refine pW (rv:=a.eval x) ok hM hu (by rw[hv];exact hx) ?_ hn;cases o;cases ho;simp only[execOp];generalize a.eval x=r at*
   split<;>first|rfl|exact hm.elim
  split at h
  ·rename_i i j hc;obtain⟨rfl,rfl⟩:=wO h;refine key _ hc rfl rfl ?_;rw[hc] at hx;obtain⟨C,B,_,_,e⟩:=hx;rw[e];trivial
  ·rename_i i j k hc;obtain⟨rfl,rfl⟩:=wO h;refine key _ hc rfl rfl ?_;rw[hc] at hx;obtain⟨C,B,_,_,_,e⟩:=hx;rw[e];trivial
  ·rename_i i j k l hc;obtain⟨rfl,rfl⟩:=wO h;refine key _ hc rfl rfl ?_;rw[hc] at hx;obtain⟨B,o,e,_⟩:=hx;rw[e];trivial
  ·rename_i i j hc;obtain⟨rfl,rfl⟩:=wO h;refine key _ hc rfl rfl ?_;rw[hc] at hx;obtain⟨cv,e,_⟩:=hx;rw[e];trivial
  ·exact h.elim
 ·rename_i op t x y _ ho;cases hc:(SX y&&SW op) with
  |false=>
   rw[hc] at h;exact gT (TW hE.eq ok hM (aN x) (aN y) h) (by cases o;cases ho;rfl) hn
  |true=>
   rw[hc] at h;rw[Bool.and_eq_true] at hc;have sr:op=.eql∨op=.neq:=by cases op<;>first|(left;rfl)|(right;rfl)|(cases hc.2)
   split at h
   ·rename_i d cv hu lC;split at h
    ·rename_i b hb;obtain⟨rfl,rfl⟩:=wO h;have hx:=aN x;rw[lC] at hx;have hy:a.eval y=y.lit:=by
      cases y<;>first|rfl|(cases hc.1)
     obtain⟨h1,h2⟩:=vSu (w:=w) hu hx hy hb op sr x y;refine pW (rv:=.bool (rQ op b)) ok hM rfl (show zV M (.c (.bool _)) (.bool _) from rfl) ?_ hn;cases o;cases ho;show(do pure (.value (←(do eqGuard op t x y (a.eval x) (a.eval y);binOp op t (a.eval x) (a.eval y)))):Sem Next).run E.P w=_;simp only[Sem.run_bind,h1,Result.andThen_ok,h2,Sem.run_pure]
    ·split at h
     ·rename_i n hln adY;obtain⟨lV,rfl,rfl⟩:=mT h;have hx:=aN x;rw[lC] at hx;obtain⟨a',k',hx⟩:=UA ok hx hln (by simpa using lV);obtain⟨h1,h2⟩:=UB (P:=E.P) (w:=w) (a:=a') (n:=n) (k:=k') hu op sr x (.const (.slice none 0 0));have hy:a.eval (.const (.slice none 0 0))=.slice none 0 0:=rfl;refine pW (rv:=.bool (rQ op false)) ok hM rfl (show zV M (.c (.bool _)) (.bool _) from rfl) ?_ hn;cases o;cases ho;show(do pure (.value (←(do eqGuard op t x (.const (.slice none 0 0)) (a.eval x) (a.eval (.const (.slice none 0 0)));binOp op t (a.eval x) (a.eval (.const (.slice none 0 0)))))):Sem Next).run E.P w=_;rw[hx,hy];simp only[Sem.run_bind,h1,Result.andThen_ok,h2,Sem.run_pure]
     ·exact h.elim
   ·exact h.elim
 ·rename_i op t x ho;exact gT (TX ok hM (aN x) h) (by cases o;cases ho;rfl) hn
 ·rename_i s d x ho;split at h
  ·rename_i k1 k k2 n hs hd hx;obtain⟨rfl,rfl⟩:=wO h;have lW:=aN x;rw[hx] at lW;have lW:a.eval x=.int k2 n:=lW;refine pW (rv:=.int k (k.wrap n)) ok hM rfl (show zV M (.c (.int _ _)) (.int _ _) from rfl) ?_ hn;cases o;cases ho;show(do pure (.value (←convert s d (a.eval x))):Sem Next).run E.P w=_;simp[convert,run_underlying hs,run_underlying hd,lW,Conv.intToInt]
  ·rename_i e c hs hd hx;split at h
   ·rename_i xs he I2;obtain⟨rfl,rfl⟩:=wO h;have lW:=aN x;rw[hx] at lW;obtain⟨A,n,k,e1,e2⟩:=vMv (P:=E.P) (w:=w) ok lW I2 hM;refine pW (rv:=.string ⟨(oN xs).toArray⟩) ok hM rfl (show zV M (.c (.str xs)) _ from rfl) ?_ hn;cases o;cases ho;show(do pure (.value (←convert s d (a.eval x))):Sem Next).run E.P w=_;rw[e1] at e2⊢;simp only[Sem.run_bind,run_convert_bytes_string w s d e A n k hs he hd,e2,Result.andThen_ok,Sem.run_pure]
   ·exact h.elim
  ·exact h.elim
 ·rename_i f first captured ho
  cases hf:Nat.beq first.size 0 with
  |false=>rw[hf] at h;exact h.elim
  |true=>
   rw[hf] at h;simp only[cond_true] at h;split at h
   ·rename_i ids kG;obtain⟨rfl,rfl⟩:=wO h;have h0:first=#[]:=Array.eq_empty_of_size_eq_zero (by simpa using hf)
    refine pW (rv:=.func (.func f) #[] (captured.map a.eval)) ok hM rfl ?_ ?_ hn
    case refine_2=>
     cases o;cases ho;show(do pure (.value (←Instr.makeFunc (.func f) (first.map a.eval) (captured.map a.eval))):Sem Next).run E.P w=_;subst h0;simp[Instr.makeFunc]
    refine⟨_,rfl,?_⟩;rw[Array.toList_map];exact yQ1 aN (I1 _ _ _ kG)
   ·exact h.elim
 ·rename_i t l c ho;exact gT (vQg ok hM (aN l) (aN c) h) (by cases o;cases ho;rfl) hn
 ·rename_i t ho;exact gT (Uw ok hM h) (by cases o;cases ho;rfl) hn
 ·rename_i t x i ho;exact gT (Uy ok hM (aN x) (aN i) h) (by cases o;cases ho;rfl) hn
 ·rename_i t x i y ho;obtain⟨rfl,hr⟩:=vIl ok hM (aN x) (aN i) (aN y) h;exact yU5 hr (by cases o;cases ho;rfl) hn
 ·rename_i t x lo hi mx ho;have hO:∀y:Option Operand,DI M (y.map ev) (y.map a.eval):=fun y=>by
   cases y with
   |none=>trivial
   |some y=>exact aN y
  exact gT (vY4 ok hM (aN x) (hO lo) (hO hi) (hO mx) h) (by cases o;cases ho;rfl) hn
 ·rename_i t x f ho;exact gT (vV3 ok hM (aN x) h) (by cases o;cases ho;rfl) hn
 ·rename_i t x f ho;exact gT (TL ok hM (aN x) h) (by cases o;cases ho;rfl) hn
 ·rename_i t x i ho;exact gT (vQ1 ok hM (aN x) (aN i) h) (by cases o;cases ho;rfl) hn
 ·rename_i t x i ho;exact gT (TM ok hM (aN x) (aN i) h) (by cases o;cases ho;rfl) hn
 ·rename_i t i ho;have ht:=aN t;split at h
  ·rename_i xs I2;rw[I2] at ht;obtain⟨vs,dF,bh⟩:=ht;split at h
   ·rename_i g cs hi;obtain⟨hp,rfl⟩:=Th h;have hl:=bh.length;have bm:i<xs.length:=by
     rcases Nat.lt_or_ge i xs.length with h|h
     ·exact h
     ·rw[List.getElem?_eq_none h] at hi;cases hi
    have kz:i<vs.size:=by simp at hl;omega
    have hc:=bh.get i bm (by simpa using kz);rw[List.getElem?_eq_getElem bm,Option.some.injEq] at hi;rw[hi] at hc;refine pW (rv:=vs[i]) ok hM rfl ?_ ?_ hn
    ·rcases Tl hp with⟨e1,rfl⟩|⟨e1,c,rfl,rfl⟩
     ·cases e1;exact hc
     ·cases e1;exact hc
    ·cases o;cases ho;show(do pure (.value (←Instr.extract (a.eval t) i)):Sem Next).run E.P w=_;rw[dF];simp[Instr.extract,kz]
   ·exact h.elim
  ·exact h.elim
 ·rename_i c ho;have cJ:=yR9 aN c.args.toList;have exec:∀b,c.callee=.builtin b→∀s:Sem Value,(∀C,Go.builtin b c.argTypes o.type C (c.args.map a.eval)=(do pure (.value (←s)):Sem Next))→execOp a.eval o=(do pure (.value (←s)):Sem Next):=fun b hb s hs=>by
   cases o;cases ho;show(do let d←resolve a.eval c _;invoke d.target d.args:Sem Next)=_;unfold resolve;rw[hb];exact hs _
  have kH:c.args.map a.eval=(c.args.toList.map a.eval).toArray:=by cases c.args;simp
  split at h
  ·rename_i b kI;unfold S9 at h;split at h
   ·split at h
    case h_2=>exact h.elim
    rename_i x hx;have h1:∃rx,(c.args.toList.map a.eval).toArray=#[rx]∧zY M x rx:=by
     rw[hx] at cJ
     match hl:c.args.toList.map a.eval,cJ with
     |[rx],hh=>exact⟨rx,rfl,hh.1⟩
    obtain⟨rx,AV,lW⟩:=h1;split at h
    ·rename_i e hu;split at h
     ·rename_i n hlen;obtain⟨rfl,rfl⟩:=wO h;obtain⟨t,ht,hu⟩:=Option.bind_eq_some_iff.1 hu;obtain⟨A,k,rfl⟩:=vH4 ok lW hlen;refine gT (s:=Builtin.len_ c.argTypes o.type (c.args.map a.eval)) ?_ (exec _ kI _ fun _=>rfl) hn;rw[kH,AV];exact .pure ok hM (vJe ht hu) rfl
     ·exact h.elim
    ·exact h.elim
   ·split at h
    case h_2=>exact h.elim
    rename_i b x hx;have h1:∃rb rx,(c.args.toList.map a.eval).toArray=#[rb,rx]∧zV M b rb∧zV M x rx:=by
     rw[hx] at cJ
     match hl:c.args.toList.map a.eval,cJ with
     |[rb,rx],hh=>exact⟨rb,rx,rfl,hh.1,hh.2.1⟩
    obtain⟨rb,rx,AV,UE,lW⟩:=h1;split at h
    ·rename_i t t' hts;obtain⟨htt,h'⟩:=AR h;have:t=t':=by simpa using htt
     subst this;refine gT (s:=Builtin.append_ c.argTypes o.type (c.args.map a.eval)) ?_ (exec _ kI _ fun _=>rfl) hn;have ht:c.argTypes=#[t,t]:=by
      have:=congrArg List.toArray hts
      simpa using this
     rw[kH,AV,ht];exact Uu ok hM UE lW h'
    ·exact h.elim
   ·split at h
    case h_2=>exact h.elim
    rename_i d s hx;have h1:∃rb rx,(c.args.toList.map a.eval).toArray=#[rb,rx]∧zV M d rb∧zV M s rx:=by
     rw[hx] at cJ
     match hl:c.args.toList.map a.eval,cJ with
     |[rb,rx],hh=>exact⟨rb,rx,rfl,hh.1,hh.2.1⟩
    obtain⟨rb,rx,AV,UE,lW⟩:=h1;split at h
    ·rename_i e hu;obtain⟨UF,h⟩:=AR h;obtain⟨t,ht,hu⟩:=Option.bind_eq_some_iff.1 hu;refine gT (s:=Builtin.copy_ c.argTypes o.type (c.args.map a.eval)) ?_ (exec _ kI _ fun _=>rfl) hn;rw[kH,AV];exact vWh ok hM ht hu (by simpa using UF) UE lW h
    ·exact h.elim
   ·split at h
    case h_2=>exact h.elim
    rename_i id lo n hx;have h1:∃rx,(c.args.toList.map a.eval).toArray=#[rx]∧zY M (.osl id (some (lo,n))) rx:=by
     rw[hx] at cJ
     match hl:c.args.toList.map a.eval,cJ with
     |[rx],hh=>exact⟨rx,rfl,hh.1⟩
    obtain⟨rx,AV,lW⟩:=h1;split at h
    ·rename_i t ht;refine gT (s:=Builtin.clear_ c.argTypes o.type (c.args.map a.eval)) ?_ (exec _ kI _ fun _=>rfl) hn;rw[kH,AV];obtain⟨rv,w',M',q1,q2⟩:=vNx (T:=o.type) ok hM lW h;refine⟨rv,w',M',?_,q2⟩;have e:(Builtin.clear_ c.argTypes o.type #[rx]).run E.P w=(Builtin.clear_ #[t] o.type #[rx]).run E.P w:=by
      simp only[Builtin.clear_,ht];rfl
     rw[e];exact q1
    ·exact h.elim
   ·refine gT (s:=Builtin.max_ c.argTypes o.type (c.args.map a.eval)) ?_ (exec _ kI _ fun _=>rfl) hn;rw[kH];exact vFa (lt:=false) (ts:=c.argTypes) (T:=o.type) ok hM cJ h
   ·refine gT (s:=Builtin.min_ c.argTypes o.type (c.args.map a.eval)) ?_ (exec _ kI _ fun _=>rfl) hn;rw[kH];exact vFa (lt:=true) (ts:=c.argTypes) (T:=o.type) ok hM cJ h
   ·exact h.elim
  ·rename_i f kI;split at h
   ·rename_i UG cap hf;have hfv:=aN f;rw[hf] at hfv;obtain⟨cv,lC,I3⟩:=hfv;have bh:zM (zV M) (c.args.toList.map ev++cap.map fun id=>.c (.ptr id 0)) (c.args.map a.eval++cv).toList:=by
     rw[Array.toList_append,Array.toList_map];exact cJ.append (zM.map_left I3)
    have tO:(execOp a.eval o).run E.P w=(callFunc UG (c.args.map a.eval++cv)).run E.P w:=by
     cases o;cases ho;show(do let d←resolve a.eval c _;invoke d.target d.args:Sem Next).run E.P w=_;unfold resolve;rw[kI];simp only[lC,Deferred.ofValue,Sem.run_bind,Sem.run_pure,Result.andThen_ok,invoke,Array.empty_append]
    rcases hE.sums k _ UG _ M.h v u h M w _ rfl hM ok bh with⟨h1,h2⟩|⟨rv,w',M',h1,hB,hv⟩
    case inr=>
     unfold Oper.wp;rw[tO,h1];exact hn M' w' rv hB hv
    unfold Oper.wp;rw[tO,h1,Oper.upon_enter];refine Calls.mono h2 fun e w' he=>?_
    cases e with
    |returned rv=>
     obtain⟨M',hB,hv⟩:=he;exact hn M' w' rv hB hv
    |panicked _=>exact he.elim
    |outgrown=>exact he.elim
   ·exact h.elim
  ·exact h.elim
 ·exact h.elim
section
variable {P:Program} {h h':Hp}
def vYm {t a}(hh:∀id∈yP a,h id=h' id):Da P h t a=Da P h' t a:=by
 unfold Da;cases a with
 |c v=>cases v<;>first|rfl|(have:=hh _ (List.mem_singleton.2 rfl);simp_all)
 |_=>rfl
def yOa {v}(hh:∀id∈vQ v,h id=h' id):oO h v=oO h' v:=by
 unfold oO;cases v<;>first|rfl|(have:=hh _ (List.mem_singleton.2 rfl);simp_all)
def UH:∀{vs},(∀id∈vs.flatMap vQ,h id=h' id)→nJ h vs=nJ h' vs
 |[],_=>rfl
 |v::vs,hh=>by
  simp  at hh;unfold nJ;rw[yOa fun id hi=>hh id (.inl hi),UH (by grind)]
def vFe {v vs}(e:oM v=some vs):vs.flatMap vQ=yP v:=by
 unfold oM at e;split at e
 ·cases e;simp[yP]
 ·cases e;rfl
 ·cases e
def vWz {t a v}(ha:∀id∈yP a,h id=h' id)(hv:∀id∈yP v,h id=h' id):Db P h t a v=Db P h' t a v:=by
 unfold Db;cases e:oM v with
 |none=>rfl
 |some vs=>
  have hf:nJ h vs=nJ h' vs:=UH (by rw[vFe e];exact hv);cases a with
  |c x=>
   cases x with
   |mptr id i=>
    have h1:=ha _ (List.mem_singleton.2 rfl);simp only[h1];generalize h' id=ob;rcases ob with _|(_|_|_|_|_|_|_)<;>first|rfl|skip
    all_goals cases v with
    |c y=>cases y with
     |osl jd r=>cases r with
      |none=>
       have h2:=hv _ (List.mem_singleton.2 rfl);simp_all
      |some _=>rfl
     |_=>rfl
    |_=>rfl
   |ptr id off=>
    have h1:=ha _ (List.mem_singleton.2 rfl);simp_all
   |eptr id i off=>
    have h1:=ha _ (List.mem_singleton.2 rfl);simp_all
   |meptr id i j ver=>
    have h1:=ha _ (List.mem_singleton.2 rfl);simp[h1]
   |_=>rfl
  |_=>rfl
def NU {v}(hh:∀id∈vQ v,h id=h' id):ku h v=ku h' v:=by
 unfold ku;cases v<;>first|rfl|(have:=hh _ (List.mem_singleton.2 rfl);simp_all)
def UI {v}(hh:∀id∈vQ v,h id=h' id):C7 h v=C7 h' v:=by
 have e:=NU hh;unfold C7;grind
def UJ {t x i}(hh:∀id∈yP x,h id=h' id):Dc P h t x i=Dc P h' t x i:=by
 unfold Dc;generalize P.underlying t=d;rcases d with _|d
 ·rfl
 ·cases d with
  |slice e=>
   cases x with
   |c v=>
    cases i with
    |c iv=>
     cases iv with
     |int k n=>cases v<;>first|rfl|(have:=hh _ (List.mem_singleton.2 rfl);simp_all)
     |_=>cases v<;>rfl
    |_=>rfl
   |_=>rfl
  |array n e=>
   grind
  |_=>rfl
def vTy {nm t}(h0:h nm=h' nm):Df P nm h t=Df P nm h' t:=by
 unfold Df;rw[h0]
def vPa {t x i}(hh:∀id∈yP x,h id=h' id):Dg P h t x i=Dg P h' t x i:=by
 unfold Dg;split
 ·rename_i id n;rw[hh id (by simp[yP,vQ])]
 ·rfl
def UK {t x i y}(hh:∀id∈yP x,h id=h' id):Dh P h t x i y=Dh P h' t x i y:=by
 unfold Dh;split
 ·rename_i id n b;rw[hh id (by simp[yP,vQ])]
 ·rfl
def vYs {t x lo hi mx}(hh:∀id∈yP x,h id=h' id):Dl P h t x lo hi mx=Dl P h' t x lo hi mx:=by
 unfold Dl;split
 ·rfl
 ·rename_i id r _;rw[hh id (by simp[yP,vQ])]
 ·rename_i id _;rw[hh id (by simp[yP,vQ])]
 ·rename_i id off _;rw[hh id (by simp[yP,vQ])]
 ·rfl
def vXv {v}(hh:∀id∈yP v,h id=h' id):Au h v=Au h' v:=by
 unfold Au;cases v with
 |c v=>cases v with
  |osl jd r=>cases r with
   |none=>
    have h2:=hh _ (List.mem_singleton.2 rfl);simp_all
   |some _=>rfl
  |_=>rfl
 |_=>rfl
def vFn:∀{parts rows},(∀id∈(parts.map (·.2)).flatMap yP,h id=h' id)→Av h rows parts=Av h' rows parts
 |[],_,_=>rfl
 |(i,v)::rest,rows,hh=>by
  simp only[List.map_cons,List.flatMap_cons,List.mem_append] at hh;unfold Av;rw[vXv fun id hi=>hh id (.inl hi)];cases Au h' v with
  |none=>rfl
  |some p=>simp[vFn fun id hi=>hh id (.inr hi)]
def yP3 {t}:∀{parts xs},(∀id∈(parts.map (·.2)).flatMap yP,h id=h' id)→rS h t xs parts=rS h' t xs parts
 |[],_,_=>rfl
 |(i,v)::rest,xs,hh=>by
  simp only[List.map_cons,List.flatMap_cons,List.mem_append] at hh;unfold rS;cases e:oM v with
  |none=>rfl
  |some vs=>
   have hf:nJ h vs=nJ h' vs:=UH (by rw[vFe e];simp_all);simp[hf];cases nJ h' vs with
   |none=>rfl
   |some p=>
    dsimp only;cases Ip t p.1 with
    |none=>rfl
    |some x=>simp[yP3 fun id hi=>hh id (.inr hi)]
def vYd {mat nm t n parts}(h0:h nm=h' nm)(hh:∀id∈(parts.map (·.2)).flatMap yP,h id=h' id):
  Dd P mat nm h t n parts=Dd P mat nm h' t n parts:=by
 have e':∀ty:Ty,rS h ty (List.replicate n ty.dflt) parts=rS h' ty (List.replicate n ty.dflt) parts:=fun ty=>yP3 hh
 unfold Dd;rw[h0,vFn hh];simp_all
def vLe {mat nm t l c}(h0:h nm=h' nm):De P mat nm h t l c=De P mat nm h' t l c:=by
 unfold De;rw[h0]
def vL7 {t v}(hh:∀id∈vQ v,h id=h' id):tD h t v=tD h' t v:=by
 unfold tD;cases v with
 |osl id r=>
  have:=hh _ (List.mem_singleton.2 rfl);simp_all
 |_=>rfl
def UL {mat:Bool}{nm:Nat}{t:TypeId}{b x:zX}(h0:h nm=h' nm)(hb:∀id∈yP b,h id=h' id)(hx:∀id∈yP x,h id=h' id):Dm P mat nm h t b x=Dm P mat nm h' t b x:=by
 unfold Dm;rw[h0];generalize P.underlying t=d;rcases d with _|d
 ·rfl
 cases d with
 |slice e=>
  generalize h' nm=on;cases on with
  |some _=>rfl
  |none=>
   cases b with
   |c b=>
    cases x with
    |c x=>
     have ht:∀ty,tD h ty x=tD h' ty x:=fun ty=>vL7 hx
     simp only[ht];cases b with
     |osl id r=>
      have h1:=hb _ (List.mem_singleton.2 rfl);simp only[h1];cases x with
      |osl jd r2=>
       have h2:=hx _ (List.mem_singleton.2 rfl);grind
      |_=>cases mat with
       |false=>rfl
       |true=>
        generalize kt P e=et;rcases et with _|(_|_|_|_)<;>first|rfl|skip
        rename_i t2;cases t2<;>first|rfl|skip
        rename_i k;cases k<;>cases r<;>rfl
     |_=>cases mat with
      |false=>rfl
      |true=>
       generalize kt P e=et;rcases et with _|(_|_|_|_)<;>first|rfl|skip
       rename_i t2;cases t2<;>first|rfl|skip
       rename_i k;cases k<;>rfl
    |_=>rfl
   |_=>rfl
 |_=>rfl
def vXk {d s}(hd:∀id∈yP d,h id=h' id)(hs:∀id∈yP s,h id=h' id):Dn h d s=Dn h' d s:=by
 unfold Dn;cases d with
 |c d=>
  cases s with
  |c s=>
   cases d with
   |bsl id off n=>
    have h1:=hd _ (List.mem_singleton.2 rfl);have h2:ku h s=ku h' s:=NU hs;grind
   |_=>rfl
  |_=>simp
 |_=>rfl
end
def UM {E}{A}{k pre}{o}{ev tW}{h}(he:∀x∈o.op.operands,ev x=tW x):lv E A k pre o ev h=lv E A k pre o tW h:=by
 obtain⟨dst,op,type,pos,after,guard⟩:=o;have fV:∀ps:Array (Nat×Operand),(∀x∈ps.map (·.2),ev x=tW x)→(ps.toList.map fun p=>(p.1,ev p.2))=(ps.toList.map fun p=>(p.1,tW p.2)):=fun ps hp=>
  List.map_congr_left (by grind)
 have maps:∀xs:Array Operand,(∀x∈xs,ev x=tW x)→xs.toList.map ev=xs.toList.map tW:=by simp
 cases op<;>simp only[Op.operands] at he<;>simp only[lv]
 case build t ps=>rw[fV ps fun x hx=>he x (by simpa using hx)]
 case buildSlice t n ps=>rw[fV ps fun x hx=>he x (by simpa using hx)]
 case makeFunc fn first captured=>
  cases fn<;>first|rfl|skip
  have:captured.toList.mapM (fun x=>vz (ev x))=captured.toList.mapM (fun x=>vz (tW x)):=by
   have h2:∀l:List Operand,(∀x∈l,ev x=tW x)→l.mapM (fun x=>vz (ev x))=l.mapM (fun x=>vz (tW x)):=fun l=>by
    induction l with
    |nil=>exact fun _=>rfl
    |cons y l ih=>simp_all
   exact by grind
  simp only[this]
 case call c=>
  obtain⟨callee,args,ats⟩:=c;have ha:=maps args fun x hx=>he x (by simp[Call.operands,hx])
  cases callee with
  |value f=>
   have hf:=he f (by simp[Call.operands]);simp only[hf,ha]
  |builtin b=>simp only[ha]
  |invoke _ _=>rfl
 case makeMap t r=>cases r<;>rfl
 case lookup t x i ok=>cases ok<;>simp_all
 case slice t x lo hi mx=>
  have h1:=he x (by simp);cases lo<;>cases hi<;>cases mx<;>simp_all
 all_goals (first|rfl|(simp only[he _ (by simp:_∈#[_])];done)|(simp_all;done))
def j7 (S:Nb):Prop:=∀k nm f (args:List zX) h h',(args.any wW=false→∀id,(id∈args.flatMap yP∨nL nm id=true)→h id=h' id)→(args.any wW=true→h=h')→S k nm f args h=S k nm f args h'
def UN nm:nL nm nm=true:=by
 simp[nL]
def UO {E}(hS:j7 E.sums){A k pre o ev h h'}
  (hh:match rV ev o with|none=>h=h'|some l=>∀id,(id∈l∨nL (rU pre o.dst) id=true)→h id=h' id):lv E A k pre o ev h=lv E A k pre o ev h':=by
 have full:h=h'→lv E A k pre o ev h=lv E A k pre o ev h':=fun e=>by rw[e]
 unfold rV at hh;dsimp only at hh;cases hq:yWi o.op with
 |true=>
  obtain⟨dst,op,type,pos,after,guard⟩:=o;cases op<;>first|rfl|cases hq
 |false=>
 rw[hq] at hh;simp only[cond_false] at hh;cases hc:(Ta o.op&&(o.op.operands.toList.map ev).any wW) with
 |true=>rw[hc] at hh;exact full hh
 |false=>
  rw[hc] at hh;replace hh:∀id,(id∈(o.op.operands.toList.map ev).flatMap yP∨nL (rU pre o.dst) id=true)→h id=h' id:=hh;have h0:h (rU pre o.dst)=h' (rU pre o.dst):=hh _ (.inr (UN _));have hx:∀x∈o.op.operands,∀id∈yP (ev x),h id=h' id:=by grind
  obtain⟨dst,op,type,pos,after,guard⟩:=o;dsimp only at h0 hx hc;cases op<;>simp only[Op.operands] at hx<;>simp only[lv]
  case alloc t=>rw[h0]
  case box t x=>rw[h0]
  case buildSlice t n ps=>
   exact vYd h0 (by grind)
  case load t x=>exact vYm (hx x (by simp))
  case store t x y=>exact vWz (hx x (by simp)) (hx y (by simp))
  case makeSlice t l c=>exact vLe h0
  case slice t x lo hi mx=>exact vYs (hx x (by simp))
  case makeMap t r=>cases r<;>first|rfl|exact vTy h0
  case lookup t x i ok=>cases ok<;>first|rfl|exact vPa (hx x (by simp))
  case mapUpdate t x i y=>exact UK (hx x (by simp))
  case indexAddr t x i=>exact UJ (hx x (by simp))
  case binOp op t x y p=>
   have hx:=hx x (by simp);have hl:∀v,ev x=.c v→C8 h v=C8 h' v:=fun v e=>by
    cases v with
    |osl id r=>cases r with
     |none=>simp only[C8,hx id (by rw[e];simp[yP,vQ])]
     |some p=>rfl
    |_=>rfl
   split
   ·cases SX y&&SW op with
    |false=>rfl
    |true=>
     rename_i d v hu hv;simp only[hl v hv]
   ·rfl
  case convert s d x=>
   have hx:=hx x (by simp);have hs:∀v,ev x=.c v→C6 h v=C6 h' v:=fun v e=>by
    have:=NU (h:=h) (h':=h') (v:=v) fun id an=>hx id (by rw[e];exact an)
    unfold C6;cases v<;>first|rfl|simp only[this]
   split
   ·rfl
   ·rename_i e c _ _ hc;rw[hs c hc]
   ·rfl
  case call c=>
   obtain⟨callee,args,ats⟩:=c;have ha:∀v∈args.toList.map ev,∀id∈yP v,h id=h' id:=fun v hv=>by
    obtain⟨x,AW,rfl⟩:=List.mem_map.1 hv;exact hx x (by simp at AW;simp[Call.operands,AW])
   cases callee with
   |value f=>
    dsimp only;cases hf:ev f with
    |c fv=>cases fv with
     |fn UG cap=>
      dsimp only;simp only[Ta,Bool.true_and] at hc;have iL:cap=[]:=by
       have hm:ev f∈(Op.call ⟨.value f,args,ats⟩).operands.toList.map ev:=List.mem_map_of_mem (by simp[Op.operands,Call.operands]);have:=List.any_eq_false.1 hc _ hm;rw[hf] at this
       simpa[wW] using this
      subst iL;simp only[List.map_nil,List.append_nil];have hb:(args.toList.map ev).any wW=false:=by
       refine List.any_eq_false.2 fun v hv=>?_
       obtain⟨x,AW,rfl⟩:=List.mem_map.1 hv;exact List.any_eq_false.1 hc _ (List.mem_map_of_mem (by simp at AW;simp[Op.operands,Call.operands,AW]))
      refine hS _ _ _ _ _ _ (fun _ id an=>?_) fun ht=>?_
      ·rcases an with an|an
       ·obtain⟨v,hv,an⟩:=List.mem_flatMap.1 an;exact ha v hv id an
       ·exact hh id (.inr an)
      ·rw[hb] at ht;cases ht
     |_=>rfl
    |_=>rfl
   |invoke _ _=>rfl
   |builtin b=>
    generalize hl:args.toList.map ev=l at ha;unfold S9;cases b<;>first|rfl|skip
    case len=>
     match l,ha with
     |[],_=>rfl
     |[v],ha=>cases v with
      |c v=>
       have:=UI (ha (.c v) (by simp));simp only[this]
      |_=>rfl
     |v::_::_,_=>cases v<;>rfl
    case append=>
     match l,ha with
     |[],_|[_],_|_::_::_::_,_=>rfl
     |[b,x],ha=>
      have:=fun mat t=>UL (P:=E.P) (mat:=mat) (t:=t) h0 (ha b (by simp)) (ha x (by simp))
      simp only[this]
    case clear=>
     match l,ha with
     |[],_=>rfl
     |[v],ha=>cases v with
      |c v=>cases v with
       |osl id r=>cases r with
        |none=>rfl
        |some p=>
         have e:=ha (.c (.osl id (some p))) (by simp) id (by simp[yP,vQ]);dsimp only;split
         ·unfold M9;rw[e]
         ·rfl
       |_=>rfl
      |_=>rfl
     |v::_::_,_=>cases v with
      |c v=>cases v with
       |osl id r=>cases r<;>rfl
       |_=>rfl
      |_=>rfl
    case copy=>
     match l,ha with
     |[],_|[_],_|_::_::_::_,_=>rfl
     |[b,x],ha=>
      have:=vXk (ha b (by simp)) (ha x (by simp));simp only[this]
  case makeFunc fn first captured=>cases fn<;>rfl
  all_goals rfl
end Go.Ab
set_option linter.unusedSectionVars false
namespace Go.Ab
structure j8 (M M':zK):Prop where
 F:∀b,M.F b→M'.F b
 G:∀b,M.G b→M'.G b
 same:∀b,M.F b→M'.H[b]? =M.H[b]?
 sameG:∀b,M.G b→M'.H[b]? =M.H[b]?
 bsz:∀b,b<M.H.size→qW M'.H b=qW M.H b
 size:M.H.size≤M'.H.size
 frame:∀b,b<M.H.size→¬qO M b→M'.H[b]? =M.H[b]?
 own:∀b,qO M' b→b<M.H.size→qO M b
 Gb:∀b,M'.G b→b<M.H.size→M.G b∨qO M b
 Fb:∀b,M'.F b→b<M.H.size→M.F b∨qO M b
def vG.grow {M M'}(s:vG M M'):j8 M M':=⟨s.ext.F,s.ext.G,s.ext.same,s.ext.sameG,s.ext.bsz,s.size,s.frame,s.own,s.Gb,s.Fb⟩
def j8.trans {M M' mS}(x:j8 M M')(y:j8 M' mS):j8 M mS where
 F b h:=y.F b (x.F b h)
 G b h:=y.G b (x.G b h)
 same b h:=(y.same b (x.F b h)).trans (x.same b h)
 sameG b h:=(y.sameG b (x.G b h)).trans (x.sameG b h)
 bsz b h:=(y.bsz b (by have:=x.size;omega)).trans (x.bsz b h)
 size:=Nat.le_trans x.size y.size
 frame b h hn:=by
  have:=x.size;rw[y.frame b (by omega) fun ho=>hn (x.own b ho h),x.frame b h hn]
 own b ho h:=x.own b (y.own b ho (by have:=x.size;omega)) h
 Gb b hg h:=by
  rcases y.Gb b hg (by have:=x.size;omega) with k|k
  ·exact x.Gb b k h
  ·exact .inr (x.own b k h)
 Fb b hg h:=by
  rcases y.Fb b hg (by have:=x.size;omega) with k|k
  ·exact x.Fb b k h
  ·exact .inr (x.own b k h)
def ga (M M':zK):Prop:=∀id C,M.κ id=some C→∃C',M'.κ id=some C'∧C'.blk=C.blk
structure tX (nl:Bool) (M M':zK):Prop where
 g:j8 M M'
 k:nl=true→ga M M'
def tX.step {nl M M' mS}(x:tX nl M M')(s:vG M' mS):tX nl M mS:=
 ⟨x.g.trans s.grow,fun h id C hC=>by
  obtain⟨C1,h1,e1⟩:=x.k h id C hC;obtain⟨C2,h2,le⟩:=s.ext.κ id C1 h1;exact⟨C2,h2,le.blk.trans e1⟩⟩
def tX.trans {M M' mS}(x:tX false M M')(y:j8 M' mS):tX false M mS:=⟨x.g.trans y,by simp⟩
structure vZ (nl:Bool) (na nt:Nat) (a0:Nat→Value) (M0:zK) (w0:World) (st:St) (a:Act) (w:World):Prop where
 ex:∃M:zK,M.h=st.h∧M.H=w.heap∧Ok M∧tX nl M0 M∧∀t,zV M (st.t t) (a.tmps.getD t undef)
 defers:a.defers=[]
 size:a.tmps.size=nt
 os:w.os=w0.os
 tape:w.tape=w0.tape
 output:w.output=w0.output
 keep:∀t,t<na→a.tmps.getD t undef=a0 t
def yLv {M}{st:St}{a:Act}(h:∀t,zV M (st.t t) (a.tmps.getD t undef)) x:zV M (st.ev x) (a.eval x):=by
 cases x with
 |tmp t=>exact h t
 |const v=>exact vZo M v
 |global g=>trivial
 |func f=>exact⟨#[],rfl,trivial⟩
def UP {t s v}(h:t s=v):dY t s v=t:=by
 funext n;unfold dY;cases e:Nat.beq n s with
 |false=>rfl
 |true=>
  simp_all
def DW (ops:Array Oper)(o:Oper)(st:St):Option Bool:=match o.guard with
 |none=>some true
 |some (j,want)=>match Ni ops j with
  |none=>none
  |some s=>match st.t s with
   |.c (.bool b)=>some (b==want)
   |.skp=>some false
   |_=>none
def yN7 {R ops o st yes no}{out:R}(h:Nj ops o st yes no=some out):
  ∃b,DW ops o st=some b∧(if b=true then yes st else no st)=some out:=by
 unfold Nj at h;unfold DW;cases hg:o.guard with
 |none=>simp_all
 |some p=>
  obtain⟨j,want⟩:=p;rw[hg] at h;dsimp only at h⊢;cases hs:Ni ops j with
  |none=>simp_all
  |some s=>
   rw[hs] at h;dsimp only at h⊢;split at h
   ·rename_i b hb;rw[hb];refine⟨b==want,rfl,?_⟩;cases b with
    |true=>
     simp[UP hb] at h;cases want<;>exact h
    |false=>
     simp[UP hb] at h;cases want<;>exact h
   all_goals simp_all
def getD_some {a:Array Value}{s v}(h:a.getD s undef=v)(hv:v≠undef):a[s]? =some v:=by
 by_cases hs:s<a.size
 all_goals simp_all
def yMm {ops o st b nl na nt a0 M0 w0 w a}(h:DW ops o st=some b)(R:vZ nl na nt a0 M0 w0 st a w):Region.wanted o (yielded ops a.tmps)=b:=by
 obtain⟨M,_,_,_,_,ht⟩:=R.ex;unfold DW at h;unfold Region.wanted;split at h
 ·simp_all
 ·rename_i j want hg;rw[hg];split at h
  ·cases h
  ·rename_i s hs;have hv:=ht s;have tY:(ops[j]?).bind (·.dst)=some s:=hs;split at h
   ·rename_i b' hb;cases h;rw[hb] at hv;have:=getD_some hv (by nofun);simp only[yielded,tY,Option.bind_some,this];rfl
   ·rename_i hb;cases h;rw[hb] at hv;have hv:a.tmps.getD s undef=undef:=hv;have:∀x:Option Value,(x=none∨x=some undef)→((match x with|some (.bool b)=>some b|_=>none:Option Bool)==some want)=false:=fun x hx=>by
     rcases hx with rfl|rfl<;>cases want<;>rfl
    refine this _ ?_;by_cases bm:s<a.tmps.size
    all_goals simp_all
   ·cases h
def tU.rel {nl na nt a0 M0 M M' w0 w w' st a dst v u rv}(R:vZ nl na nt a0 M0 w0 st a w)(hh:M.h=st.h)(hs:tX nl M0 M)(ht:∀t,zV M (st.t t) (a.tmps.getD t undef))
  (hd:∀d,dst=some d→na≤d∧d<nt) (hB:tU M w u M' w') (hv:zV M' v rv):vZ nl na nt a0 M0 w0 {t:=j3 st.t dst v,h:=qK st.h u} (a.put dst rv) w' where
 ex:=by
  refine⟨M',by rw[hB.h,hh],hB.H,hB.ok,hs.step hB.step,fun t=>?_⟩;cases dst with
  |none=>exact(ht t).ext hB.step.ext
  |some d=>
   show zV M' (dY st.t d v t) ((a.tmps.setIfInBounds d rv).getD t undef);have bm:d<a.tmps.size:=by rw[R.size];simp_all
   unfold dY;cases e:Nat.beq t d with
   |true=>
    simp_all
   |false=>
    have e:t≠d:=fun e'=>by simp_all
    have:=(ht t).ext hB.step.ext;simp[Array.getElem?_setIfInBounds_ne (Ne.symm e)] at this⊢;exact this
 defers:=by cases dst<;>exact R.defers
 size:=by cases dst<;>simp[Act.put,R.size]
 os:=hB.os.trans R.os
 tape:=hB.tape.trans R.tape
 output:=hB.output.trans R.output
 keep t h:=by
  cases dst with
  |none=>exact R.keep t h
  |some d=>
   have bo:d≠t:=by grind
   rw[←R.keep t h];simp[Act.put,Array.getElem?_setIfInBounds_ne bo]
def vZ.skip {nl na nt a0 M0 w0 w st a dst}(hd:∀d,dst=some d→na≤d)(R:vZ nl na nt a0 M0 w0 st a w):vZ nl na nt a0 M0 w0 {st with t:=j3 st.t dst .skp} (a.put dst undef) w where
 ex:=by
  obtain⟨M,h1,h2,h3,h4,ht⟩:=R.ex;refine⟨M,h1,h2,h3,h4,fun t=>?_⟩;cases dst with
  |none=>exact ht t
  |some d=>
   show zV M (dY st.t d .skp t) ((a.tmps.setIfInBounds d undef).getD t undef);unfold dY;cases e:Nat.beq t d with
   |true=>
    have e:t=d:=by simp_all
    subst e;show(a.tmps.setIfInBounds t undef).getD t undef=undef;simp
   |false=>
    have e:t≠d:=fun e'=>by simp_all
    have:=ht t;simp[Array.getElem?_setIfInBounds_ne (Ne.symm e)] at this⊢;exact this
 defers:=by cases dst<;>exact R.defers
 size:=by cases dst<;>simp[Act.put,R.size]
 os:=R.os
 tape:=R.tape
 output:=R.output
 keep t h:=by
  cases dst with
  |none=>exact R.keep t h
  |some d=>
   have bo:d≠t:=by grind
   rw[←R.keep t h];simp[Act.put,Array.getElem?_setIfInBounds_ne bo]
section
variable {E:Env} {A:zW} {nl:Bool} {k pre na nt:Nat} {a0:Nat→Value} {R:Type} {M0:zK} {w0:World} {Q:Exit→Act→World→Prop}
def vZ.op (hE:gC E){st a w}{o:Oper}{v u next}(r:vZ nl na nt a0 M0 w0 st a w)(hd:∀d,o.dst=some d→na≤d∧d<nt)(hy:yL (lv E A k pre o st.ev st.h) v u)
  (hn:∀a' w',vZ nl na nt a0 M0 w0 {t:=j3 st.t o.dst v,h:=qK st.h u} a' w'→next a' w'):o.wp E.P a w next Q:=by
 obtain⟨M,h1,h2,h3,h4,ht⟩:=r.ex;rw[←h1] at hy;exact UD hE h3 h2 (yLv ht) hy fun M' w' rv hB hv=>hn _ _ (hB.rel r h1 h4 ht hd hv)
def UQ (hE:gC E){dst}(h:v9 na nt dst=true):∀d,dst=some d→na≤d∧d<nt:=fun d hd=>by
 simp[v9] at h;simp_all
def yJe (hE:gC E){o st K}{out:R}(h:Nh E A k pre na nt o st K=some out):
  (∀d,o.dst=some d→na≤d∧d<nt)∧∃v u,yL (lv E A k pre o st.ev st.h) v u∧K v u {t:=j3 st.t o.dst v,h:=qK st.h u}=some out:=by
 unfold Nh at h;cases hc:v9 na nt o.dst with
 |false=>simp_all
 |true=>
  rw[hc] at h;exact⟨UQ hE hc,yU.elim_some h⟩
def vB4 (hE:gC E){ops}:∀l st K (out:R) a w,(∀p∈l,ops[p.1]? =some p.2)→Nk E A k pre na nt ops l st K=some out→vZ nl na nt a0 M0 w0 st a w→
  (∀bN a' w',vZ nl na nt a0 M0 w0 bN a' w'→K bN=some out→Q .normal a' w')→wpOps E.P ops Q (l.map (·.1)) a w
 |[],st,K,out,a,w,_,h,r,hK=>hK st a w r h
 |(i,o)::rest,st,K,out,a,w,hl,h,r,hK=>by
  have ho:ops[i]? =some o:=hl (i,o) (by simp);have ih:=fun st K out a w=>vB4 hE rest st K out a w fun p hp=>hl p (by grind)
  obtain⟨b,hb,h⟩:=yN7 h;have hw:=yMm hb r;simp[wpOps,ho];cases b with
  |true=>
   rw[if_pos rfl] at h;rw[if_pos hw];obtain⟨hd,v,u,hy,h⟩:=yJe hE h;exact .inl (vZ.op hE r hd hy (by grind))
  |false=>
   rw[if_neg (by simp[hw])];cases hc:v9 na nt o.dst with
   |false=>simp_all
   |true=>
    rw[hc] at h;exact ih _ _ _ _ _ h (r.skip fun d hd=>(UQ hE hc d hd).1) hK
end
def DX (o:Oper)(acc:Array Nat):Nat:=o.after.foldl (fun s e=>if Region.binds .any e then s|||2^e.on|||acc.getD e.on 0 else s) 0
def yJ4 (acc:Array Nat) i:∀(l:List Edge) s,(l.foldl (fun s e=>if Region.binds .any e then s|||2^e.on|||acc.getD e.on 0 else s) s).testBit i=true→
  s.testBit i=true∨∃e∈l,Region.binds .any e=true∧(e.on=i∨(acc.getD e.on 0).testBit i=true)
 |[],s,h=>.inl h
 |e::l,s,h=>by
  rcases yJ4 acc i l _ h with h|⟨e',he,h⟩
  all_goals grind
def I4 (ops:Array Oper)(acc:Array Nat):Prop:=∀j,j<acc.size→∀i,(acc.getD j 0).testBit i=true→∃o,ops[j]? =some o∧∃e∈o.after.toList,Region.binds .any e=true∧(e.on=i∨(e.on<j∧(acc.getD e.on 0).testBit i=true))
def vIo {ops acc o}(h:I4 ops acc)(ho:ops[acc.size]? =some o):I4 ops (acc.push (DX o acc)):=by
 have old:∀j,j<acc.size→(acc.push (DX o acc)).getD j 0=acc.getD j 0:=fun j hj=>by
  simp[Array.getElem?_push,Nat.ne_of_lt hj]
 intro j hj i hb;simp  at hj;by_cases bm:j<acc.size
 ·rw[old j bm] at hb;obtain⟨o',h1,e,h2,h3,h4⟩:=h j bm i hb;grind
 ·have e:j=acc.size:=by omega
  subst e;rw[show(acc.push (DX o acc)).getD acc.size 0=DX o acc by simp] at hb;unfold DX at hb;rw[←Array.foldl_toList] at hb;rcases yJ4 acc i _ _ hb with hb|⟨e,h2,h3,h4⟩
  all_goals grind
def vT5 ops:I4 ops (Region.before ops):=by
 have key:∀(l:List Oper) (acc:Array Nat),I4 ops acc→(∀m (hm:m<l.length),ops[acc.size+m]? =some l[m])→
   I4 ops (l.foldl (fun acc o=>acc.push (DX o acc)) acc):=by
  intro l
  induction l with
  |nil=>simp
  |cons o l ih=>
   intro acc h ho;refine ih _ (vIo h (ho 0 (by simp))) fun m hm=>?_
   have:=ho (m+1) (by simp;omega);grind
 have:=key ops.toList #[] (nofun) (by simp);unfold Region.before;rw[←Array.foldl_toList];exact this
def yIn {ops i j}(h:nM (Region.before ops) i j=true):∃o,ops[j]? =some o∧∃e∈o.after.toList,Region.binds .any e=true∧(e.on=i∨(e.on<j∧nM (Region.before ops) i e.on=true)):=by
 unfold nM at h;by_cases hj:j<(Region.before ops).size
 ·exact vT5 ops j hj i h
 simp_all
def I5 (ops:Array Oper)(S:Nat→Bool):Prop:=∀j o,S j=true→ops[j]? =some o→∀e∈o.after.toList,Region.binds .any e=true→S e.on=true
def yQl {ops S}(hS:I5 ops S){i}:∀n j,j=n→nM (Region.before ops) i j=true→S j=true→S i=true:=by
 intro n
 induction n using Nat.strongRecOn with
 |_ n ih=>
  intro j hj h hs;obtain⟨o,ho,e,he,hb,h⟩:=yIn h;have hse:=hS j o hs ho e he hb;grind
def vNg {ops S}(hS:I5 ops S){i j}(h:nM (Region.before ops) i j=true)(hr:∀o,ops[j]? =some o→∀e∈o.after.toList,Region.binds .any e=true→S e.on=true):S i=true:=by
 obtain⟨o,ho,e,he,hb,h⟩:=yIn h;have hse:=hr o ho e he hb;rcases h with h|⟨h,hi⟩
 ·simp_all
 ·exact yQl hS _ _ rfl hi hse
structure It where
 i:Nat
 o:Oper
 v:zX
 u:vL
 r:Option (List Nat)
 wt:Bool
def It.dn (pre:Nat)(it:It):Dq:=⟨it.i,rU pre it.o.dst,fl it.u,it.r⟩
def app (st:St)(it:It):St:={t:=j3 st.t it.o.dst it.v,h:=qK st.h it.u}
section
variable (E:Env) (A:zW) (k pre na nt:Nat) (ops:Array Oper)
structure fI (st:St) (it:It):Prop where
 w:DW ops it.o st=some it.wt
 y:it.wt=true→(∀d,it.o.dst=some d→na≤d∧d<nt)∧yL (lv E A k pre it.o st.ev st.h) it.v it.u∧it.r=rV st.ev it.o
 n:it.wt=false→it.v=.skp∧it.u=[]∧∀d,it.o.dst=some d→na≤d∧d<nt
def UR (b:Array Nat)(x y:It):Prop:=nM b x.i y.i=true∨(tG ops x.i y.i=true∧(x.wt=true→y.wt=true→tF (x.dn pre) (y.dn pre)=false))
end
section
variable {E:Env} {A:zW} {k pre na nt:Nat} {R:Type} {ops:Array Oper} {b:Array Nat}
def US (hE:gC E):∀rest done st K (out:R),Dr E A k pre na nt ops b rest done st K=some out→
  ∃dM:List It,dM.map (fun it=>(it.i,it.o))=rest∧K (dM.foldl app st)=some out∧(∀bV it post,dM=bV++it::post→fI E A k pre na nt ops (bV.foldl app st) it)∧
   (∀d∈done,∀it∈dM,nM b d.i it.i=true∨(tG ops d.i it.i=true∧(it.wt=true→tF d (it.dn pre)=false)))∧dM.Pairwise (UR pre ops b)
 |[],done,st,K,out,h=>⟨[],rfl,h,by simp,by simp,.nil⟩
 |(i,o)::rest,done,st,K,out,h=>by
  unfold Dr at h;generalize hc:(done.all fun d=>nM b d.i i||tG ops d.i i)=c at h;cases c with
  |false=>cases h
  |true=>
   have ss:∀d∈done,nM b d.i i=true∨tG ops d.i i=true:=by grind
   rw[cond_true] at h;obtain⟨bw,hb,h⟩:=yN7 h;cases bw with
   |true=>
    rw[if_pos rfl] at h;obtain⟨hd,v,u,hy,h⟩:=yJe hE h;dsimp only at h;generalize cN:(done.all fun d=>nM b d.i i|| !tF d ⟨i,rU pre o.dst,fl u,rV st.ev o⟩)=c2 at h;cases c2 with
    |false=>simp_all
    |true=>
     rw[cond_true] at h;have DL:∀d∈done,nM b d.i i=true∨tF d ⟨i,rU pre o.dst,fl u,rV st.ev o⟩=false:=by grind
     obtain⟨dM,h1,h2,h3,h4,h5⟩:=US hE rest _ _ K out h;let it:It:=⟨i,o,v,u,rV st.ev o,true⟩;refine⟨it::dM,by grind,h2,fun bV I6 post e=>?_,fun d wu I6 oY=>?_,?_⟩
     ·cases bV with
      |nil=>
       obtain⟨rfl,rfl⟩:=e;exact⟨hb,by grind,by simp⟩
      |cons p bV=>
       simp only[List.cons_append,List.cons.injEq] at e;obtain⟨rfl,e⟩:=e;exact h3 bV I6 post e
     ·rcases List.mem_cons.1 oY with rfl|oY
      ·rcases ss d wu with h|h
       ·grind
       ·rcases DL d wu with h'|h'
        ·grind
        ·exact .inr ⟨h,fun _=>h'⟩
      simp_all
     ·refine List.pairwise_cons.2 ⟨fun y AY=>?_,h5⟩;rcases h4 (it.dn pre) (List.mem_cons_self ..) y AY with h|⟨h,h'⟩
      ·exact .inl h
      ·exact .inr ⟨h,by grind⟩
   |false=>
    rw[if_neg (by simp)] at h;have tZ:v9 na nt o.dst=true:=by
     grind
    rw[tZ] at h;rw[cond_true] at h;obtain⟨dM,h1,h2,h3,h4,h5⟩:=US hE rest _ _ K out h;let it:It:=⟨i,o,.skp,[],some [],false⟩;refine⟨it::dM,by grind,h2,fun bV I6 post e=>?_,fun d wu I6 oY=>?_,?_⟩
    ·cases bV with
     |nil=>
      obtain⟨rfl,rfl⟩:=e;exact⟨hb,by simp,fun _=>⟨rfl,rfl,UQ hE tZ⟩⟩
     |cons p bV=>
      simp  at e;obtain⟨rfl,e⟩:=e;exact h3 bV I6 post e
    ·grind
    ·refine List.pairwise_cons.2 ⟨fun y AY=>?_,h5⟩;rcases h4 (it.dn pre) (List.mem_cons_self ..) y AY with h|⟨h,h'⟩
     ·exact .inl h
     ·exact .inr ⟨h,by simp⟩
end
def yY6 {t t' d v x}(h:t x=t' x):j3 t d v x=j3 t' d v x:=by
 cases d with
 |none=>exact h
 |some d=>
  show dY t d v x=dY t' d v x;unfold dY;simp_all
def NV {t d v x}(h:d≠some x):j3 t d v x=t x:=by
 cases d with
 |none=>rfl
 |some d=>
  show dY t d v x=_;unfold dY;cases e:Nat.beq x d with
  |false=>rfl
  |true=>simp_all
def vZj {t t' v x}:j3 t (some x) v x=j3 t' (some x) v x:=by
 show dY t x v x=dY t' x v x;unfold dY;simp
def vKd {t d e v u}(h:∀x,d=some x→e≠some x):j3 (j3 t d v) e u=j3 (j3 t e u) d v:=by
 funext x;by_cases hd:d=some x
 ·subst hd;rw[NV (h x rfl)];exact vZj
 ·rw[NV hd];exact yY6 (NV hd)
def AZ {n}:∀{u h h'},h n=h' n→qK h u n=qK h' u n
 |[],_,_,e=>e
 | (id, o) :: u, h, h', e => AZ (u := u) (by
   by_cases hn:n=id
   ·subst hn;rw[yO,yO]
   ·rw[yS _ _ hn,yS _ _ hn];exact e)
def yYv {n}:∀{u h h'},n∈fl u→qK h u n=qK h' u n
 |(id,o)::u,h,h',hm=>by
  by_cases hu:n∈fl u
  ·exact yYv (u:=u) hu
  ·have e:n=id:=by
    simp[fl] at hm hu;simp_all
   subst e;exact AZ (u:=u) (by rw[yO,yO])
def vHr {u v h}(hd:∀a∈fl u,a∉fl v):qK (qK h u) v=qK (qK h v) u:=by
 funext n;by_cases hu:n∈fl u
 ·rw[DQ (hd n hu)];exact yYv hu
 ·rw[DQ (u:=u) (h:=qK h v) hu];exact AZ (DQ hu)
def UT {st x y}(hd:∀t,x.o.dst=some t→y.o.dst≠some t)(hu:∀a∈fl x.u,a∉fl y.u):app (app st x) y=app (app st y) x:=by
 unfold app;simp;exact⟨vKd hd,vHr hu⟩
def yDz {x}:∀{l:List It} {st},(∀y∈l,(∀t,x.o.dst=some t→y.o.dst≠some t)∧∀a∈fl x.u,a∉fl y.u)→app (l.foldl app st) x=l.foldl app (app st x)
 |[],_,_=>rfl
 |y::l,st,h=>by
  rw[List.foldl_cons,List.foldl_cons,UT (by grind) (by grind)];exact yDz (by grind)
def NW t:∀(l:List It) st bN,st.t t=bN.t t→(l.foldl app st).t t=((l.filter fun it=>it.o.dst==some t).foldl app bN).t t
 |[],_,_,h=>h
 |y::l,st,bN,h=>by
  rw[List.foldl_cons,List.filter_cons];cases hy:y.o.dst==some t with
  |true=>
   exact NW t l _ _ (yY6 h)
  |false=>
   exact NW t l _ _ (by
    show j3 st.t y.o.dst y.v t=_;rw[NV (by simp_all)];exact h)
def NX n:∀(l:List It) st bN,st.h n=bN.h n→(l.foldl app st).h n=((l.filter fun it=>(fl it.u).contains n).foldl app bN).h n
 |[],_,_,h=>h
 |y::l,st,bN,h=>by
  rw[List.foldl_cons,List.filter_cons];cases hy:(fl y.u).contains n with
  |true=>
   exact NX n l _ _ (AZ h)
  |false=>
   exact NX n l _ _ (by
    show qK st.h y.u n=_;rw[DQ (by simpa[fl] using hy)];exact h)
def ySh {S W bV post}{it:It}(oY:S it=false)(h1:∀y∈bV,W y=true→S y=true)(h2:∀y∈post,W y=true→S y=false):((bV++it::post).filter S).filter W=bV.filter W:=by
 have e1:(bV.filter S).filter W=bV.filter W:=by
  rw[List.filter_filter];refine List.filter_congr fun y hy=>?_
  simp_all
 simp_all
def DY (d:Dq)(a:Nat):Prop:=match d.refs with
 |none=>True
 |some l=>a∈l∨nL d.nm a=true
def UU {x y}(h:tF x y=false):(∀a∈x.upd,¬DY y a)∧(∀a∈y.upd,¬DY x a)∧∀a∈x.upd,a∉y.upd:=by
 unfold tF at h;have key:∀(d e:Dq),Ng d.upd e.refs=false→d.upd.any (nL e.nm)=false→∀a∈d.upd,¬DY e a:=by
  intro d e hm ho a ha hl;unfold Ng at hm;unfold DY at hl;cases hr:e.refs with
  |none=>
   simp_all
  |some l=>
   simp_all
 refine⟨by grind,by grind,fun a ha hb=>?_⟩;simp_all
section
variable {E:Env} {A:zW} {k pre na nt:Nat} {R:Type} {ops:Array Oper}
def UW {i j x y}(hi:ops[i]? =some x)(hj:ops[j]? =some y)(h:tG ops i j=true):
  (∀d,x.dst=some d→d∉y.looksAt ops)∧(∀d,x.dst=some d→y.dst≠some d)∧(∀d,y.dst=some d→d∉x.looksAt ops):=by
 unfold tG at h;rw[hi,hj] at h;exact Oper.apart_spec h
def UX (hE:gC E)(hS:j7 E.sums){S}(hC:I5 ops S){st bV post it}(gU:∀y∈bV++it::post,ops[y.i]? =some y.o)(hg:fI E A k pre na nt ops (bV.foldl app st) it)
  (hu:∀y∈bV++it::post,y.wt=false→y.u=[]) (hp:(bV++it::post).Pairwise (UR pre ops (Region.before ops))) (oY:S it.i=false)
  (hr:∀o,ops[it.i]? =some o→∀e∈o.after.toList,Region.binds .any e=true→S e.on=true):
  fI E A k pre na nt ops (((bV++it::post).filter fun y=>S y.i).foldl app st) it∧
   (∀y∈post,S y.i=true→(∀t,it.o.dst=some t→y.o.dst≠some t)∧∀a∈fl it.u,a∉fl y.u):=by
 have wv:ops[it.i]? =some it.o:=gU it (by simp);obtain⟨NO,IX,hp3⟩:=List.pairwise_append.1 hp;have before:∀y∈bV,S y.i=false→tG ops y.i it.i=true∧(y.wt=true→it.wt=true→tF (y.dn pre) (it.dn pre)=false):=fun y hy hs=>by
  rcases hp3 y hy it (by simp) with h|h
  ·rw[vNg hC h hr] at hs;cases hs
  ·exact h
 have behind:∀y∈post,S y.i=true→tG ops it.i y.i=true∧(it.wt=true→y.wt=true→tF (it.dn pre) (y.dn pre)=false):=fun y hy hs=>by
  rcases(List.pairwise_cons.1 IX).1 y hy with h|h
  ·rw[yQl hC _ _ rfl h hs] at oY;cases oY
  ·exact h
 have wx:∀t,t∈it.o.looksAt ops→(((bV++it::post).filter fun y=>S y.i).foldl app st).t t=(bV.foldl app st).t t:=fun t ht=>by
  rw[NW t _ st st rfl,NW t bV st st rfl,ySh oY (fun y hy hw=>?_) fun y hy hw=>?_]
  ·cases hs:S y.i with
   |true=>rfl
   |false=>
    have:=(UW (gU y (by simp[hy])) wv (before y hy hs).1).1 t (by simpa using hw);exact absurd ht this
  ·cases hs:S y.i with
   |false=>rfl
   |true=>
    have:=(UW wv (gU y (by simp[hy])) (behind y hy hs).1).2.2 t (by simpa using hw);simp_all
 have hEq:it.wt=true→∀n,DY (it.dn pre) n→(((bV++it::post).filter fun y=>S y.i).foldl app st).h n=(bV.foldl app st).h n:=fun hw n hn=>by
  rw[NX n _ st st rfl,NX n bV st st rfl,ySh oY (fun y hy AY=>?_) fun y hy AY=>?_]
  ·cases hs:S y.i with
   |true=>rfl
   |false=>
    have hm:n∈fl y.u:=by simpa using AY
    have UY:y.wt=true:=by
     cases h:y.wt with
     |true=>rfl
     |false=>rw[hu y (by simp[hy]) h] at hm;simp[fl] at hm
    exact absurd hn ((UU ((before y hy hs).2 UY hw)).1 n hm)
  ·cases hs:S y.i with
   |false=>rfl
   |true=>
    have hm:n∈fl y.u:=by simpa using AY
    have UY:y.wt=true:=by
     cases h:y.wt with
     |true=>rfl
     |false=>rw[hu y (by simp[hy]) h] at hm;simp[fl] at hm
    exact absurd hn ((UU ((behind y hy hs).2 hw UY)).2.1 n hm)
 generalize hL:((bV++it::post).filter fun y=>S y.i).foldl app st=NY at wx hEq⊢;refine⟨⟨?_,fun hw=>?_,hg.n⟩,fun y hy hs=>?_⟩
 ·rw[←hg.w];unfold DW;cases A0:it.o.guard with
  |none=>rfl
  |some p=>
   obtain⟨j,want⟩:=p;dsimp only;cases eX:Ni ops j with
   |none=>rfl
   |some s=>
    have:s∈it.o.looksAt ops:=by
     have eX:(ops[j]?).bind (·.dst)=some s:=eX;simp only[Oper.looksAt,A0,eX];simp
    simp_all
 ·obtain⟨hd,hy,hrf⟩:=hg.y hw;have aN:∀x∈it.o.op.operands,NY.ev x=(bV.foldl app st).ev x:=fun x hx=>by
   cases x with
   |tmp t=>exact wx t (List.mem_append_left _ (List.mem_filterMap.2 ⟨.tmp t,by simpa using hx,rfl⟩))
   |_=>rfl
  have hrefs:rV NY.ev it.o=rV (bV.foldl app st).ev it.o:=by
   unfold rV;have:it.o.op.operands.toList.map NY.ev=it.o.op.operands.toList.map (bV.foldl app st).ev:=List.map_congr_left (by grind);simp only[this]
  refine⟨hd,?_,by rw[hrf,hrefs]⟩;rw[UM aN];have hh : lv E A k pre it.o (bV.foldl app st).ev NY.h = lv E A k pre it.o (bV.foldl app st).ev (bV.foldl app st).h := UO hS (by
   rw[←hrf];have:=hEq hw;unfold DY at this;have hdn:(it.dn pre).refs=it.r:=rfl;rw[hdn] at this;cases h:it.r with
   |none=>
    grind
   |some l=>
    rw[h] at this;exact this)
  rw[hh];exact hy
 ·obtain⟨h1,h2⟩:=behind y hy hs;refine⟨(UW wv (gU y (by simp[hy])) h1).2.1,fun a ha hb=>?_⟩;have hwi:it.wt=true:=by
   cases h:it.wt with
   |true=>rfl
   |false=>rw[hu it (by simp) h] at ha;simp[fl] at ha
  have hwy:y.wt=true:=by
   cases h:y.wt with
   |true=>rfl
   |false=>rw[hu y (by simp[hy]) h] at hb;simp[fl] at hb
  exact(UU (h2 hwi hwy)).2.2 a ha hb
end
def vR5 {ops}(h:Iw ops=true){j o}(ho:ops[j]? =some o):∀e∈o.after.toList,Region.binds .any e=true→e.on<j:=by
 intro e he hb;have hm:(o,j)∈ops.toList.zipIdx:=by
  grind
 have:=List.all_eq_true.1 (List.all_eq_true.1 h _ hm) e he;simp_all
def NZ {L:Array Bool}{i}(hi:i<L.size) j:(L.setIfInBounds i true).getD j false=(L.getD j false||i==j):=by
 by_cases h:i=j
 all_goals simp_all
section
variable {E:Env} {A:zW} {nl:Bool} {k pre na nt:Nat} {a0:Nat→Value} {R:Type} {ops:Array Oper} {M0:zK} {w0:World} {Q:Exit→Act→World→Prop}
def UZ (hE:gC E)(hS:j7 E.sums)(he:Iw ops=true){dM st}(hi:dM.map (·.i)=List.range ops.size)(gU:∀y∈dM,ops[y.i]? =some y.o)(hg:∀bV it post,dM=bV++it::post→fI E A k pre na nt ops (bV.foldl app st) it)
  (hp:dM.Pairwise (UR pre ops (Region.before ops))) (hQ:∀a w,vZ nl na nt a0 M0 w0 (dM.foldl app st) a w→Q .normal a w):
  ∀fuel L a w,L.size=ops.size→(∃U:List Nat,U.length≤fuel∧∀j,j<ops.size→L.getD j false=false→j∈U)→I5 ops (fun j=>L.getD j false)→
   vZ nl na nt a0 M0 w0 ((dM.filter fun y=>L.getD y.i false).foldl app st) a w→wpAny E.P .any ops Q fuel L a w:=by
 have hu:∀y∈dM,y.wt=false→y.u=[]:=fun y hy hw=>by
  obtain⟨bV,post,e⟩:=List.append_of_mem hy;exact((hg bV y post e).n hw).2.1
 have U0:∀y∈dM,y.i<ops.size:=fun y hy=>(Array.getElem?_eq_some_iff.1 (gU y hy)).1
 have dG:(dM.map (·.i)).Nodup:=by rw[hi];exact List.nodup_range
 have full:∀(L:Array Bool) (a:Act) (w:World),(∀j,j<ops.size→L.getD j false=true)→vZ nl na nt a0 M0 w0 ((dM.filter fun y=>L.getD y.i false).foldl app st) a w→Q .normal a w:=fun L a w hl r=>by
  rw[List.filter_eq_self.2 fun y hy=>hl y.i (U0 y hy)] at r;exact hQ a w r
 have rdy:∀(L:Array Bool),L.size=ops.size→Region.ready .any ops L=[]→∀j,j<ops.size→L.getD j false=true:=fun L hL hr j=>by
  induction j using Nat.strongRecOn with
  |_ j ih=>
   intro hj;cases hb:L.getD j false with
   |true=>rfl
   |false=>
    have ho:ops[j]? =some ops[j]:=Array.getElem?_eq_getElem hj;have:j∈Region.ready .any ops L:=mem_ready.2 ⟨by
     have U1:j<L.size:=by omega
     simpa[Array.getD,U1] using hb,ops[j],ho,fun e he' bE=>by
      have bm:=vR5 he ho e (by simpa using he') bE;exact ih e.on bm (by omega)⟩
    rw[hr] at this;cases this
 intro fuel
 induction fuel with
 |zero=>
  intro L a w hL hU hC r;obtain⟨U,hUl,hU⟩:=hU;have hU0:U=[]:=List.eq_nil_of_length_eq_zero (by omega);have bh:∀j,j<ops.size→L.getD j false=true:=by grind
  refine⟨?_,full L a w bh r⟩;cases hr:Region.ready .any ops L with
  |nil=>rfl
  |cons j l=>
   have:j∈Region.ready .any ops L:=by rw[hr];exact List.mem_cons_self ..
   obtain⟨h0,o,ho,_⟩:=mem_ready.1 this;have hj:=(Array.getElem?_eq_some_iff.1 ho).1;have:=bh j hj;have U1:j<L.size:=by omega
   simp[Array.getD,U1] at this h0;rw[this] at h0;cases h0
 |succ fuel ih=>
  intro L a w hL hU hC r;refine⟨fun hr=>full L a w (rdy L hL hr) r,fun i hir=>?_⟩;obtain⟨h0,o,ho,A2⟩:=mem_ready.1 hir;have I7:=(Array.getElem?_eq_some_iff.1 ho).1;have I8:i<L.size:=by omega
  have I9:L.getD i false=false:=by simpa[Array.getD,I8] using h0
  obtain⟨it,oY,ua⟩:∃it∈dM,it.i=i:=by
   have:i∈dM.map (·.i):=by rw[hi];simpa using I7
   obtain⟨it,h1,h2⟩:=List.mem_map.1 this;exact⟨it,h1,h2⟩
  obtain⟨bV,post,e⟩:=List.append_of_mem oY;have wv:ops[it.i]? =some it.o:=gU it oY;have iN:o=it.o:=by rw[ua,ho] at wv;exact Option.some.inj wv
  subst iN;have wy:=UX hE hS hC (by rw[←e];exact gU) (hg bV it post e) (by rw[←e];exact hu) (by rw[←e];exact hp) (by rw[ua];exact I9) (by grind);rw[←e] at wy;obtain⟨A0,Ja⟩:=wy;have hw:=yMm A0.w r;have yG:(dM.filter fun y=>(L.setIfInBounds i true).getD y.i false).foldl app st=app ((dM.filter fun y=>L.getD y.i false).foldl app st) it:=by
   have other:∀y∈bV++post,(L.setIfInBounds i true).getD y.i false=L.getD y.i false:=fun y hy=>by
    rw[NZ I8];grind
   have e1:dM.filter (fun y=>L.getD y.i false)=bV.filter (fun y=>L.getD y.i false)++post.filter (fun y=>L.getD y.i false):=by
    conv=>lhs;rw[e]
    rw[List.filter_append,List.filter_cons,if_neg (by rw[ua,I9];simp)]
   have e2:dM.filter (fun y=>(L.setIfInBounds i true).getD y.i false)=bV.filter (fun y=>L.getD y.i false)++it::post.filter (fun y=>L.getD y.i false):=by
    conv=>lhs;rw[e]
    rw[List.filter_append,List.filter_cons,if_pos (by rw[ua,NZ I8];simp),List.filter_congr fun y hy=>other y (List.mem_append_left _ hy),List.filter_congr fun y hy=>other y (List.mem_append_right _ hy)]
   rw[e1,e2,List.foldl_append,List.foldl_append,List.foldl_cons];exact (yDz fun y hy=>by
    obtain⟨U2,U3⟩:=List.mem_filter.1 hy;exact Ja y U2 U3).symm
  have aD:I5 ops fun j=>(L.setIfInBounds i true).getD j false:=fun j o' hj lR ed hed hb=>by
   dsimp only at hj⊢;rw[NZ I8] at hj;refine getD_set_true ?_;rw[Bool.or_eq_true] at hj;rcases hj with hj|hj
   ·exact hC j o' hj lR ed hed hb
   ·have:i=j:=by simpa using hj
    subst this;rw[ho] at lR;cases lR;exact A2 ed (by simpa using hed) hb
  have hU':∃U:List Nat,U.length≤fuel∧∀j,j<ops.size→(L.setIfInBounds i true).getD j false=false→j∈U:=by
   obtain⟨U,hl,hU⟩:=hU;refine⟨U.erase i,?_,fun j hj hb=>?_⟩
   ·rw[List.length_erase_of_mem (hU i I7 I9)];omega
   ·rw[NZ I8,Bool.or_eq_false_iff] at hb;exact(List.mem_erase_of_ne (by have:=hb.2;simp at this;exact fun h=>this h.symm)).2 (hU j hj hb.1)
  unfold wpOp;rw[ho];dsimp only;cases A3:it.wt with
  |true=>
   rw[A3] at hw;rw[if_pos hw];obtain⟨hd,hy,_⟩:=A0.y A3;refine .inl (vZ.op hE r hd hy fun a' w' r'=>?_);exact ih _ _ _ (by simpa using hL) hU' aD (by rw[yG];exact r')
  |false=>
   rw[A3] at hw;rw[if_neg (by simp[hw])];obtain⟨hv,se,tZ⟩:=A0.n A3;refine ih _ _ _ (by simpa using hL) hU' aD ?_;rw[yG];have:=r.skip (dst:=it.o.dst) fun d hd=>(tZ d hd).1
   unfold app;rw[hv,se];exact this
def U4 (hE:gC E)(hS:j7 E.sums){id st K}{out:R}{a w}(hm:E.P.follows .mixedOrders=true)(he:Iw ops=true)
  (h:Dr E A k pre na nt ops (Region.before ops) (ops.toList.zipIdx.map fun p=>(p.2,p.1)) [] st K=some out) (r:vZ nl na nt a0 M0 w0 st a w)
  (hK:∀bN a' w',vZ nl na nt a0 M0 w0 bN a' w'→K bN=some out→Q .normal a' w'):(Code.region id ops true).wp E.P Q a w:=by
 obtain⟨dM,h1,h2,h3,_,h5⟩:=US hE _ _ _ _ _ h;have hi:dM.map (·.i)=List.range ops.size:=by
  have:=congrArg (List.map Prod.fst) h1;rw[List.map_map,List.map_map] at this;refine Eq.trans this ?_;have e:(Prod.fst∘fun p:Oper×Nat=>(p.2,p.1))=Prod.snd:=rfl;rw[e,List.zipIdx_map_snd,←List.range_eq_range'];simp
 have gU:∀y∈dM,ops[y.i]? =some y.o:=fun y hy=>by
  have:(y.i,y.o)∈ops.toList.zipIdx.map fun p=>(p.2,p.1):=by grind
  grind
 refine wp_region_any hm (UZ hE hS he (nt:=nt) (na:=na) (a0:=a0) (M0:=M0) (w0:=w0) hi gU h3 h5 (fun a w r=>hK _ a w r h2) _ _ _ _ (by simp) ⟨List.range ops.size,by simp,by grind⟩ (fun j o hj=>?_) ?_)
 ·by_cases h:j<ops.size<;>simp[h] at hj
 ·rw[List.filter_eq_nil_iff.2 fun y hy=>by
   by_cases h:y.i<ops.size<;>simp[h]]
  exact⟨r.ex,r.defers,r.size,r.os,r.tape,r.output,r.keep⟩
end
def zK.nilObj (M:zK)(nm:Nat)(o:Obj)(sz:Nat):zK:={M with κ:=κset M.κ nm ⟨none,0,sz,0,[]⟩,h:=yG M.h nm o}
def kJ (t:Ty)(rows:Bool):Obj:=bif rows then .mat 0 [] else .arr true t []
def lX (t:Ty)(rows:Bool):Nat:=bif rows then 1 else t.size
def zK.nilObj_ok {M}(ok:Ok M){nm}(aS:M.h nm=none) t rows:
  Ok (M.nilObj nm (kJ t rows) (lX t rows))∧yQ M (M.nilObj nm (kJ t rows) (lX t rows))∧(∀b,qO (M.nilObj nm (kJ t rows) (lX t rows)) b→qO M b):=by
 have hO:∀M':zK,vB M' (kJ t rows) ⟨none,0,lX t rows,0,[]⟩:=fun M'=>by
  cases rows with
  |false=>exact⟨rfl,rfl,by simp,rfl⟩
  |true=>exact⟨rfl,rfl,rfl,rfl,by simp[qB.fp],rfl⟩
 have x:yQ M (M.nilObj nm (kJ t rows) (lX t rows)):=⟨fun id C h=>by
  have bo:id≠nm:=fun e=>by rw[e,ok.non nm aS] at h;cases h
  exact⟨C,by show κset M.κ nm _ id=_;rw[κset_ne _ _ bo];exact h,C.le_refl⟩,fun _ h=>h,fun _ h=>h,fun _ _=>rfl,fun _ _=>rfl,fun _ _=>rfl⟩
 refine⟨Ok.build ok x (fun id=>id=nm) (fun id h=>yS _ _ h) (fun id h=>κset_ne _ _ h) (fun _ _ _ _ _ _ _ _ _=>rfl) (fun id o C h1 h2 h3 h4 b hb=>(ok.own b ⟨id,o,C,h2,h3,h4,hb⟩).1) (Nat.le_refl _)
  (fun id o e h=>?_) (fun id e h=>?_) (fun id o C b e h1 h2 h3 h4=>?_) ok.GF ok.Flt,x,fun b hb=>?_⟩
 ·subst e;have e1:(M.nilObj id (kJ t rows) (lX t rows)).h id=some (kJ t rows):=yO _ _ _;rw[e1] at h;cases h;exact⟨_,κset_same _ _ _,hO _⟩
 ·have e1:(M.nilObj id (kJ t rows) (lX t rows)).h id=some (kJ t rows):=yO _ _ _;simp_all
 ·subst e;have e1:(M.nilObj id (kJ t rows) (lX t rows)).κ id=some _:=κset_same _ _ _;rw[e1] at h3;cases h3;simp[qB.fp] at h4
 ·obtain⟨id,o,C,h1,h2,h3,h4⟩:=hb;by_cases e:id=nm
  ·subst e;have e1:(M.nilObj id (kJ t rows) (lX t rows)).κ id=some _:=κset_same _ _ _;rw[e1] at h3;cases h3;simp[qB.fp] at h4
  ·exact⟨id,o,C,by rw[←h1];exact(yS _ _ e).symm,h2,by rw[←h3];exact(κset_ne _ _ e).symm,h4⟩
def j8.same_mem {M M'}(hF:M'.F=M.F)(hG:M'.G=M.G)(hH:M'.H=M.H)(ho:∀b,qO M' b→qO M b):j8 M M':=
 ⟨by grind,by grind,by grind,by grind,by grind,by simp_all,by grind,by grind,
  by grind,by grind⟩
def j8.refl M:j8 M M:=.same_mem rfl rfl rfl (by simp)
section
variable {na nt:Nat} {a0:Nat→Value} {M0:zK} {w0 w:World} {a:Act}
def zM.set_left {α β R l}{m:List β}(h:zM R l m){j}{c:α}(hc:∀(h1:j<l.length) h2,R c m[j]):zM R (l.set j c) m:=by
 refine zM.of_get (by rw[List.length_set];exact h.length) fun i hi bJ=>?_
 rw[List.length_set] at hi;by_cases e:j=i
 ·simp_all
 ·rw[List.getElem_set_ne e];exact h.get i hi bJ
def vNl {st}{s j}(r:vZ false na nt a0 M0 w0 st a w):vZ false na nt a0 M0 w0 (Tb st s j) a w:=by
 obtain⟨M,h1,h2,h3,h4,h5⟩:=r.ex;unfold Tb;split
 ·split
  ·rename_i c hs;split
   ·rename_i c' u hf;have hv:=h5 s;rw[hs] at hv;rw[←h1] at hf;obtain⟨L,k1,k2,k3,k4,k5,_⟩:=IC h3 (jH.refl _) (show zY M c _ from hv) hf;refine⟨⟨L,by rw[k2,h1],k1.trans h2,k3,h4.trans k4.grow,fun t=>?_⟩,r.defers,r.size,r.os,r.tape,r.output,r.keep⟩;show zV _ (dY st.t s _ t) _;unfold dY;cases e:Nat.beq t s with
    |false=>exact(h5 t).ext k4.ext
    |true=>
     have e:t=s:=by simpa using e
     subst e;exact k5
   ·exact r
  ·exact r
 ·rename_i j;split
  ·rename_i id hs;split
   ·rename_i cells an;split
    ·rename_i c yT;split
     ·rename_i c' u hf;rw[←h1] at hf an;obtain⟨C0,sj,hO0⟩:=h3.obj id _ an;obtain⟨B0,wz,e0,b10,b20,b30,b40,b50⟩:=hO0;have hj:j<cells.length:=(List.getElem?_eq_some_iff.1 yT).1;have U5:j<wz.toList.length:=by rw[←b40.length];exact hj
      have lC:=b40.get j hj U5;have ec:cells[j]=c:=by grind
      rw[ec] at lC;obtain⟨L,k1,k2,k3,k4,k5,k6,_⟩:=IC h3 (jH.refl _) lC hf;have A4:L.h id=some (.box true cells):=by
       rcases k6 id with h|⟨own,t,xs,h,_⟩|⟨ver,xs,h,_⟩
       all_goals simp_all
      obtain⟨C,hC,hO⟩:=k3.obj id _ A4;obtain⟨B,vals,e,b1,b2,b3,b4,b5⟩:=hO;obtain⟨C1,iM,le⟩:=k4.ext.κ id C0 sj;rw[hC] at iM;cases iM;have eB:B=B0:=by rw[le.blk,b10] at b1;simp_all
      subst eB;rw[k1,b30] at b3;cases b3;have hx:=zK.write_ext (H':=L.H) k3 A4 rfl hC C.le_refl (by simp) (by simp) (.box true (cells.set j c'));have hw := zK.write_ok (H' := L.H) (o' := .box true (cells.set j c')) k3 A4 rfl hC C.le_refl (by simp) rfl (by simp) (by simp) (by
       refine⟨B,wz,e0,b1,b2,by show L.H[B]? =_;simp_all,?_,by simp⟩;exact(b4.mono fun _ _ h=>h.ext hx).set_left fun _ _=>k5.ext hx)
      refine⟨⟨L.write id (.box true (cells.set j c')) C L.H,?_,k1.trans h2,hw.1,(h4.trans k4.grow).trans hw.2.grow,fun t=>((h5 t).ext k4.ext).ext hx⟩,r.defers,r.size,r.os,r.tape,r.output,r.keep⟩;show yG L.h id _=yG (qK st.h u) id _;rw[k2,h1]
     ·exact r
    ·exact r
   ·exact r
  ·rename_i cells hs;split
   ·rename_i c yT;split
    ·rename_i c' u hf;have hv:=h5 s;rw[hs] at hv;obtain⟨vs,dF,bh⟩:=hv;rw[←h1] at hf;have hj:j<cells.length:=by grind
     have U5:j<vs.toList.length:=by rw[←bh.length];exact hj
     have lC:=bh.get j hj U5;have ec:cells[j]=c:=by grind
     rw[ec] at lC;obtain⟨L,k1,k2,k3,k4,k5,k6,_⟩:=IC h3 (jH.refl _) lC hf;refine⟨⟨L,by rw[k2,h1],k1.trans h2,k3,h4.trans k4.grow,fun t=>?_⟩,r.defers,r.size,r.os,r.tape,r.output,r.keep⟩;show zV _ (dY st.t s _ t) _;unfold dY;cases e:Nat.beq t s with
     |false=>exact(h5 t).ext k4.ext
     |true=>
      have e:t=s:=by simpa using e
      subst e;exact⟨vs,dF,(bh.mono fun _ _ h=>h.ext k4.ext).set_left (by grind)⟩
    ·exact r
   ·exact r
  ·exact r
def U6 {st nm g}(r:vZ false na nt a0 M0 w0 st a w)(aS:st.h nm=none):vZ false na nt a0 M0 w0 (Tc st nm g) a w:=by
 obtain⟨M,h1,h2,h3,h4,h5⟩:=r.ex;have hM:M.h nm=none:=by simp_all
 obtain⟨k1,k2,k3⟩:=M.nilObj_ok h3 hM g.2.2.1 g.2.2.2;have cM:zY (M.nilObj nm (kJ g.2.2.1 g.2.2.2) (lX g.2.2.1 g.2.2.2)) (.osl nm none) (.slice none 0 0):=⟨_,κset_same _ _ _,none,0,rfl,rfl,rfl,rfl⟩;have gr:tX false M0 (M.nilObj nm (kJ g.2.2.1 g.2.2.2) (lX g.2.2.1 g.2.2.2)):=h4.trans (.same_mem rfl rfl rfl k3);unfold Tc;cases adZ:g.2.2.2&&yMr g.2.2.1 with
 |true=>exact vNl r
 |false=>
 split
 ·split
  ·rename_i hs;refine⟨⟨M.nilObj nm (kJ g.2.2.1 g.2.2.2) (lX g.2.2.1 g.2.2.2),?_,h2,k1,gr,fun t=>?_⟩,r.defers,r.size,r.os,r.tape,r.output,r.keep⟩
   ·show yG M.h nm _=yG st.h nm _;rw[h1];rfl
   ·show zV _ (dY st.t g.1 _ t) _;unfold dY;cases e:Nat.beq t g.1 with
    |false=>exact(h5 t).ext k2
    |true=>
     have e:t=g.1:=by simpa using e
     subst e;have hv:=h5 g.1;rw[hs] at hv;rw[hv];exact cM
  ·exact r
 ·rename_i j hj;split
  ·rename_i id hs;split
   ·rename_i cells an;split
    ·have bo:id≠nm:=by grind
     let M1:=M.nilObj nm (kJ g.2.2.1 g.2.2.2) (lX g.2.2.1 g.2.2.2);have pS:M1.h id=some (.box true cells):=by
      show yG M.h nm _ id=_;rw[yS _ _ bo,h1];exact an
     obtain⟨C,hC,hO⟩:=k1.obj id _ pS;obtain⟨B,vals,e,b1,b2,b3,b4,b5⟩:=hO;have hx:=zK.write_ext (H':=M1.H) k1 pS rfl hC C.le_refl (by grind) (by grind) (.box true (cells.set j (.osl nm none)));have hw := zK.write_ok (H' := M1.H) (o' := .box true (cells.set j (.osl nm none))) k1 pS rfl hC C.le_refl (by simp) rfl (by grind) (by grind) (by
      refine⟨B,vals,e,b1,b2,b3,?_,by simp⟩;have hl:=b4.length;refine zM.of_get (by simp_all) fun i hi bJ=>?_
      have hb:=b4.get i (by omega) bJ;by_cases eij:j=i
      ·subst eij;rw[List.getElem_set_self];have ec:cells[j]=.nsl:=by
        grind
       rw[ec] at hb;rw[hb];exact cM.ext hx
      ·rw[List.getElem_set_ne eij];exact hb.ext hx)
     refine⟨⟨M1.write id (.box true (cells.set j (.osl nm none))) C M1.H,?_,h2,hw.1,gr.trans hw.2.grow,fun t=>((h5 t).ext k2).ext hx⟩,r.defers,r.size,r.os,r.tape,r.output,r.keep⟩;show yG (yG M.h nm _) id _=yG (yG st.h nm _) id _;rw[h1];rfl
    ·exact r
   ·exact r
  ·exact r
def vDw:∀{l st bN nm},vZ false na nt a0 M0 w0 st a w→Nl st nm l=some bN→vZ false na nt a0 M0 w0 bN a w
 |[],st,bN,nm,r,h=>by cases h;exact r
 |g::l,st,bN,nm,r,h=>by
  unfold Nl at h;split at h
  ·rename_i aS;exact vDw (U6 r aS) h
  ·cases h
def vGl {id}:∀{l n i},fE id l n=some i→n≤i∧l[i-n]? =some id
 |x::l,n,i,h=>by
  unfold fE at h;cases e:Nat.beq x id with
  |true=>
   simp_all
  |false=>
   rw[e] at h;obtain⟨h1,h2⟩:=vGl (l:=l) h;grind
def U7 {h}:∀n {todo seen},seen.Nodup→(Ds h n todo seen).Nodup
 |0,_,_,hs
 |n+1,[],_,hs=>hs
 |n+1,id::todo,seen,hs=>by
  unfold Ds;cases e:seen.any (Nat.beq id) with
  |true=>exact U7 n hs
  |false=>
   refine U7 n (List.nodup_append.2 ⟨hs,by simp,fun x hx y hy exy=>?_⟩);have:y=id:=by simp_all
   have:=List.any_eq_false.1 e x hx;simp_all
def pX (base : Nat) (κ : Nat → Option qB) (ids : List Nat) : Nat → Option qB := fun n => if base ≤ n then (match ids[n-base]? with
 |some id=>(κ id).map fun C=>{C with ver:=0}
 |none=>none) else none
def zK.ren (M:zK)(base:Nat)(ids:List Nat):zK:={M with κ:=pX base M.κ ids,h:=Ay base M.h ids}
def U8 {base h ids n o}(e:Ay base h ids n=some o):∃id o',base≤n∧ids[n-base]? =some id∧h id=some o'∧o=wb h (fun i=>(fE i ids 0).map (base+·)) o':=by
 unfold Ay at e;cases hb:Nat.ble base n with
 |false=>simp_all
 |true=>
  rw[hb] at e;split at e
  ·obtain⟨o',h1,h2⟩:=Option.map_eq_some_iff.1 e;simp_all
  ·cases e
def vZ6 {base κ ids id i C}(hi:fE id ids 0=some i)(hC:κ id=some C):pX base κ ids (base+i)=some {C with ver:=0}:=by
 obtain⟨_,h⟩:=vGl hi;unfold pX;simp_all
def U9 {M}(ok:Ok M){base ids c v}(h:zY M c v):zY (M.ren base ids) (wa M.h (fun i=>(fE i ids 0).map (base+·)) c) v:=by
 have h1:=h.one;have look:∀id C,M.κ id=some C→∀i,(fE id ids 0).map (base+·)=some i→(M.ren base ids).κ i=some {C with ver:=0}:=fun id C hC i hi=>by
  obtain⟨j,hj,rfl⟩:=Option.map_eq_some_iff.1 hi;exact vZ6 hj hC
 unfold wa;cases c with
 |osl id r=>
  dsimp only;obtain⟨C,hC,h⟩:=h;cases e:(fE id ids 0).map (base+·) with
  |none=>exact h1
  |some i=>cases r with
   |none=>exact⟨_,look id C hC i e,h⟩
   |some p=>exact⟨_,look id C hC i e,h⟩
 |bsl id x y=>
  dsimp only;obtain⟨C,B,hC,h⟩:=h;cases e:(fE id ids 0).map (base+·) with
  |none=>exact h1
  |some i=>exact⟨_,B,look id C hC i e,h⟩
 |ptr id x=>
  dsimp only;obtain⟨C,B,hC,h⟩:=h;cases e:(fE id ids 0).map (base+·) with
  |none=>exact h1
  |some i=>exact⟨_,B,look id C hC i e,h⟩
 |eptr id x y=>
  dsimp only;obtain⟨C,B,hC,h⟩:=h;cases e:(fE id ids 0).map (base+·) with
  |none=>exact h1
  |some i=>exact⟨_,B,look id C hC i e,h⟩
 |mrow id x ver=>
  dsimp only;obtain⟨C,hC,ho,hle,h⟩:=h;cases e:(fE id ids 0).map (base+·) with
  |none=>exact h1
  |some i=>
   split
   ·rename_i i' v' xs ei an;cases ei;cases fZ:Nat.beq v' ver with
    |false=>exact h1
    |true=>
     have iK:v'=ver:=by simpa using fZ
     obtain⟨C',aD,hO⟩:=ok.obj id _ an;rw[hC] at aD;cases aD;exact⟨_,look id C hC i e,h1,Nat.le_refl _,fun _=>h (by rw[hO.1,iK])⟩
   ·exact h1
 |mptr id x=>
  dsimp only;obtain⟨C,B,hC,h⟩:=h;cases e:(fE id ids 0).map (base+·) with
  |none=>exact h1
  |some i=>exact⟨_,B,look id C hC i e,h⟩
 |meptr id x y ver=>
  dsimp only;obtain⟨C,hC,ho,hle,h⟩:=h;cases e:(fE id ids 0).map (base+·) with
  |none=>exact h1
  |some i=>
   split
   ·rename_i i' v' xs ei an;cases ei;cases fZ:Nat.beq v' ver with
    |false=>exact h1
    |true=>
     have iK:v'=ver:=by simp_all
     obtain⟨C',aD,hO⟩:=ok.obj id _ an;rw[hC] at aD;cases aD;exact⟨_,look id C hC i e,h1,by simp,fun _=>h (by rw[hO.1,iK])⟩
   ·exact h1
 |map id=>
  dsimp only;obtain⟨C,B,hC,h⟩:=h;cases e:(fE id ids 0).map (base+·) with
  |none=>exact h1
  |some i=>exact⟨_,B,look id C hC i e,h⟩
 |fn f cap=>
  dsimp only;obtain⟨cv,rfl,h⟩:=h;split
  ·rename_i c hc;refine⟨cv,rfl,?_⟩;have:=I1 _ _ _ hc;generalize cv.toList=l at h;clear hc h1
   induction cap generalizing c l with
   |nil=>cases c with
    |nil=>cases l with
     |nil=>trivial
     |cons _ _=>exact h.elim
    |cons _ _=>exact this.elim
   |cons x cap ih=>cases c with
    |nil=>exact this.elim
    |cons y c=>cases l with
     |nil=>exact h.elim
     |cons u l=>
      obtain⟨⟨C,B,hC,hh⟩,h⟩:=h;exact⟨⟨_,B,look x C hC y this.1,hh⟩,ih c this.2 l h⟩
  rfl
 |fsl sh t xs=>exact h
 |fptr sh t x off=>exact h
 |_=>exact h
def Jb {M}(ok:Ok M){base ids}:∀{cs vs},zM (zY M) cs vs→zM (zY (M.ren base ids)) (cs.map (wa M.h fun i=>(fE i ids 0).map (base+·))) vs
 |[],[],_=>trivial
 |_::_,_::_,h=>⟨U9 ok h.1,Jb ok h.2⟩
def vGr {M}(ok:Ok M){base ids x v}(h:zV M x v):zV (M.ren base ids) (vAd M.h (fun i=>(fE i ids 0).map (base+·)) x) v:=by
 cases x with
 |undef=>trivial
 |skp=>exact h
 |c x=>exact U9 (c:=x) ok h
 |agg cs=>
  obtain⟨vs,h1,h2⟩:=h;exact⟨vs,h1,Jb ok h2⟩
 |tup xs=>
  obtain⟨vs,h1,h2⟩:=h;refine⟨vs,h1,zM.map_left (h2.mono fun p u hp=>?_)⟩;obtain⟨b,cs⟩:=p;cases b with
  |true=>
   obtain⟨us,q1,q2⟩:=hp;exact⟨us,q1,Jb ok q2⟩
  |false=>
   cases cs with
   |nil=>exact hp
   |cons c cs=>cases cs with
    |nil=>exact U9 (c:=c) ok hp
    |cons _ _=>exact hp
def yC8 {M}(ok:Ok M){base ids o C}(h:vB M o C):vB (M.ren base ids) (wb M.h (fun i=>(fE i ids 0).map (base+·)) o) {C with ver:=0}:=by
 cases o with
 |box own cells=>
  obtain⟨B,vals,e,h1,h2,h3,h4,h5⟩:=h;exact⟨B,vals,e,h1,h2,h3,Jb ok h4,h5⟩
 |robox cells=>
  obtain⟨B,vals,e,h1,h2,h3,h4,h5⟩:=h;exact⟨B,vals,e,h1,h2,h3,Jb ok h4,h5⟩
 |arr own t xs=>exact h
 |mat ver xs=>
  obtain⟨h1,h2⟩:=h;exact⟨rfl,h2⟩
 |pmat ver xs n=>
  obtain⟨h1,h2⟩:=h;exact⟨rfl,h2⟩
 |imap de=>exact h
 |gone=>trivial
def Va {h ρ} o:(wb h ρ o).owned=o.owned:=by cases o<;>rfl
def zK.ren_ok {M}(ok:Ok M){base ids}(dG:ids.Nodup):Ok (M.ren base ids)∧∀b,qO (M.ren base ids) b→qO M b:=by
 have at':∀n o,(M.ren base ids).h n=some o→∃id o' C,base≤n∧ids[n-base]? =some id∧M.h id=some o'∧M.κ id=some C∧o=wb M.h (fun i=>(fE i ids 0).map (base+·)) o'∧vB M o' C∧(M.ren base ids).κ n=some {C with ver:=0}:=fun n o h=>by
  obtain⟨id,o',h1,h2,h3,h4⟩:=U8 h;obtain⟨C,hC,hO⟩:=ok.obj id _ h3;refine⟨id,o',C,h1,h2,h3,hC,h4,hO,?_⟩;show pX base M.κ ids n=_;unfold pX;simp_all
 have nK:∀b,qO (M.ren base ids) b→qO M b:=fun b ⟨n,o,C,h1,h2,h3,h4⟩=>by
  obtain⟨id,o',C',k1,k2,k3,k4,k5,k6,k7⟩:=at' n o h1;rw[k7] at h3;cases h3;exact⟨id,o',C',k3,by rw[←h2,k5,Va],k4,h4⟩
 refine⟨⟨fun n o h=>?_,fun n h=>?_,fun i j oi oj Ci Cj b oP h1 h2 h3 h4 h5 h6 h7 h8=>?_,fun b h=>ok.own b (nK b h),ok.GF,ok.Flt⟩,nK⟩
 ·obtain⟨id,o',C,k1,k2,k3,k4,rfl,k6,k7⟩:=at' n o h;exact⟨_,k7,yC8 ok k6⟩
 ·show pX base M.κ ids n=none;unfold pX;split
  ·rename_i hb;split
   ·rename_i id an;have:M.h id=none:=by
     cases e:M.h id with
     |none=>rfl
     |some o=>
      have:(M.ren base ids).h n=some (wb M.h (fun i=>(fE i ids 0).map (base+·)) o):=by
       show Ay base M.h ids n=_;unfold Ay;rw[show Nat.ble base n=true from Nat.ble_eq_true_of_le hb,an];simp[e]
      simp_all
    rw[ok.non id this];rfl
   ·rfl
  ·rfl
 ·obtain⟨id,o',C,k1,k2,k3,k4,k5,k6,k7⟩:=at' i oi h1;obtain⟨jd,p',D,q1,q2,q3,q4,q5,q6,q7⟩:=at' j oj h2;rw[k7] at h5;rw[q7] at h6;cases h5;cases h6;refine ok.disj id jd o' p' C D b (fun e=>?_) k3 q3 (by rw[←h3,k5,Va]) (by rw[←h4,q5,Va]) k4 q4 h7 h8;have hi:=(List.getElem?_eq_some_iff.1 k2);have hj:=(List.getElem?_eq_some_iff.1 q2);have:=(List.getElem_inj (h₀:=hi.1) (h₁:=hj.1) dG).1 (by omega);omega
def vAh:∀{a b},Nc a b=true→a=b
 |[],[],_=>rfl
 |x::a,y::b,h=>by
  simp only[Nc,Bool.and_eq_true] at h;rw[Nat.eq_of_beq_eq_true h.1,vAh h.2]
def vO4 {c v}(h:S5 c v=true):c=.undef∨c=v:=by
 unfold S5 at h;split at h
 ·simp
 ·simp
 ·simp
 ·simp
 ·simp
 ·simp_all
 ·simp_all
 ·simp_all
 ·simp only[Bool.and_eq_true] at h;exact .inr (by rw[Nat.eq_of_beq_eq_true h.1,vAh h.2])
 all_goals simp_all
def nT {α:Type}{c x}{y:α}(h:(bif c then x else none)=some y):c=true∧x=some y:=by
 grind
def ub {M}(ok:Ok M):∀{l cs d vs},mP l cs=some d→zM (zY M) cs vs→zM (zY M) (pN l d) vs
 |[],[],_,[],_,_=>trivial
 |.int k::l,c::cs,d,v::vs,h,hv=>by
  cases c<;>first|(cases h;done)|skip
  obtain⟨hk,h⟩:=nT h;split at h
  ·rename_i d' hd;cases h;refine⟨?_,ub ok hd hv.2⟩;rw[←tx hk];exact hv.1
  ·cases h
 |.bool::l,c::cs,d,v::vs,h,hv=>by
  cases c<;>first|(cases h)|skip
  unfold mP at h;split at h
  ·rename_i d' hd;cases h;exact⟨hv.1,ub ok hd hv.2⟩
  ·cases h
 |.dat sh t::l,c::cs,d,v::vs,h,hv=>by
  cases c<;>first|(cases h;done)|skip
  ·rename_i Iv s xs;obtain⟨hs,h⟩:=nT h;split at h
   ·rename_i ys d' hx hd;cases h;obtain⟨e,hx⟩:=lA hx;subst e;subst hx;refine⟨?_,ub ok hd hv.2⟩;have h1:qF M.H (bif Iv then M.G else M.F) (.sl s) xs (fun _=>some v):=hv.1;cases sh with
    |true=>
     have:Iv=true:=by simp_all
     subst this;exact h1
    |false=>cases Iv with
     |false=>exact h1
     |true=>exact vE ok.GF (by simp) _ _ _ _ (by simp) h1
   ·cases h
  ·unfold mP at h;split at h
   ·rename_i d' hd;cases h;refine⟨?_,ub ok hd hv.2⟩;rw[show v=.slice none 0 0 from hv.1];exact⟨none,0,0,rfl,rfl,by simp,by simp⟩
   ·cases h
 |.lit c::l,x::cs,d,v::vs,h,hv=>by
  obtain⟨he,h⟩:=nT h;refine⟨?_,ub ok h hv.2⟩;rcases vO4 he with rfl|rfl
  ·exact hv.1.one
  ·exact hv.1
def Vb {M}(ok:Ok M){v a d rv}(h:S6 v a=some d)(hv:zV M a rv):zV M (S7 v d) rv:=by
 cases v with
 |c x=>
  cases a with
  |c y=>
   have:=ub ok (vs:=[rv]) (show mP [x] [y]=some d from h) ⟨hv,trivial⟩;show zV M (match pN [x] d with|c::_=>.c c|[]=>.undef) rv
   match hh:pN [x] d,this with
   |[c],this=>exact this.1
  |_=>cases h
 |agg l=>
  cases a with
  |agg vs=>
   obtain⟨us,rfl,hx⟩:=hv;exact⟨us,rfl,ub ok (show mP l vs=some d from h) hx⟩
  |_=>cases h
def vKv {M}(ok:Ok M){o x d C}(h:Nd o x=some d)(hO:vB M x C)(hv:C.ver=0):vB M (Nf o d) C∧(Nf o d).owned=x.owned:=by
 unfold Nd at h;split at h
 ·obtain⟨he,h'⟩:=nT h;have he:=eq_of_beq he;subst he;clear h;obtain⟨B,vals,e,h1,h2,h3,h4,h5⟩:=hO;exact⟨⟨B,vals,e,h1,h2,h3,ub ok h' h4,h5⟩,rfl⟩
 ·obtain⟨B,vals,e,h1,h2,h3,h4,h5⟩:=hO;exact⟨⟨B,vals,e,h1,h2,h3,ub ok h h4,h5⟩,rfl⟩
 ·obtain⟨he,h'⟩:=nT h;have he:=eq_of_beq he;subst he;obtain⟨e,hx⟩:=lA h';subst e;subst hx;exact⟨hO,rfl⟩
 ·cases h;exact⟨⟨hv,hO.2⟩,rfl⟩
 ·cases h;exact⟨⟨hv,hO.2⟩,rfl⟩
 ·cases h;exact⟨hO,rfl⟩
 ·cases h
def yC4 {f t}:∀{l d n v},Nm f t l=some d→(Dp l d).lookup n=some v→∃(s:VS) (x:SL s.cells),S6 s (f (t n))=some x∧v=S7 s x
 |s::l,d,n,v,hr,h=>by
  unfold Nm at hr;split at hr
  ·rename_i x ds h1 h2;cases hr;unfold Dp at h;rw[List.lookup_cons] at h;cases e:n==s.1 with
   |true=>
    grind
   |false=>
    rw[e] at h;exact yC4 h2 h
  ·cases hr
def yTk {f h0}:∀{l ids d},Nn f h0 l ids=some d→(tE l d).length=ids.length∧∀(i:Nat) o,(tE l d)[i]? =some o→∃(s:OS) (x:s.den) (id:Nat) (y:Obj),ids[i]? =some id∧h0 id=some y∧Nd s (f y)=some x∧o=Nf s x
 |[],[],d,_=>⟨rfl,nofun⟩
 |s::l,id::ids,d,h=>by
  unfold Nn at h;split at h
  ·rename_i x ds h1 h2;cases h;obtain⟨y,h3,h4⟩:=Option.bind_eq_some_iff.1 h1;obtain⟨k1,k2⟩:=yTk h2;refine⟨by simp[tE,k1],fun i o hi=>?_⟩;cases i with
   |zero=>
    simp[tE] at hi;grind
   |succ i=>
    simp[tE] at hi;simp_all
  ·cases h
def vRz {g0 base n:Nat}{S:zE}{st:St}{d:S.den}(r:vZ false na nt a0 M0 w0 st a w)(h:Td g0 base n S st=some d):vZ false na nt a0 M0 w0 (zN base S d) a w:=by
 unfold Td at h;split at h
 ·cases h
 rename_i st1 hg;have r:=vDw r hg;dsimp only at h;generalize kG:Ds st1.h n _ []=ids at h;have dG:ids.Nodup:=by rw[←kG];exact U7 n List.nodup_nil
 split at h
 case h_2=>cases h
 rename_i da db ha hb;cases h;obtain⟨M,h1,h2,h3,h4,h5⟩:=r.ex;rw[←h1] at ha hb;obtain⟨k1,k2⟩:=M.ren_ok h3 (base:=base) dG;obtain⟨ol,oa⟩:=yTk hb;let M':zK:={M.ren base ids with h:=(zN base S (da,db)).h};have N0:∀n o',M'.h n=some o'→∃o C,(M.ren base ids).h n=some o∧M'.κ n=some C∧vB (M.ren base ids) o' C∧o'.owned=o.owned:=fun m o' e=>by
  have e:(bif Nat.ble base m then(tE S.objs db)[m-base]? else none)=some o':=e;obtain⟨hle,e⟩:=nT e;obtain⟨s,x,id,y,q1,q2,q3,rfl⟩:=oa _ _ e;obtain⟨C,hC,hO⟩:=h3.obj id y q2;have hκ:(M.ren base ids).κ m=some {C with ver:=0}:=by
   show pX base M.κ ids m=_;unfold pX;simp_all
  have hh:(M.ren base ids).h m=some (wb M.h (fun i=>(fE i ids 0).map (base+·)) y):=by
   show Ay base M.h ids m=_;unfold Ay;grind
  obtain⟨p1,p2⟩:=vKv k1 q3 (yC8 h3 hO) rfl;grind
 have x:yQ (M.ren base ids) M':=⟨fun _ C h=>⟨C,h,C.le_refl⟩,fun _ h=>h,fun _ h=>h,fun _ _=>rfl,by grind,fun _ _=>rfl⟩;have aL:∀b,qO M' b→qO (M.ren base ids) b:=fun b ⟨id,o',C,q1,q2,q3,q4⟩=>by
  obtain⟨o,D,p1,p2,p3,p4⟩:=N0 id o' q1;exact⟨id,o,C,p1,by rw[←p4];exact q2,q3,q4⟩
 have kD:Ok M':=by
  refine⟨fun id o' q=>?_,fun id q=>?_,fun i j oi oj Ci Cj b oP q1 q2 q3 q4 q5 q6 q7 q8=>?_,fun b hb=>k1.own b (aL b hb),k1.GF,k1.Flt⟩
  ·obtain⟨o,C,p1,p2,p3,p4⟩:=N0 id o' q;exact⟨C,p2,p3.ext x (by grind)⟩
  ·have q:(bif Nat.ble base id then(tE S.objs db)[id-base]? else none)=none:=q;show pX base M.κ ids id=none;unfold pX;cases hle:Nat.ble base id with
   |false=>rw[if_neg fun h=>by rw[Nat.ble_eq_true_of_le h] at hle;cases hle]
   |true=>
    simp_all
  ·obtain⟨o1,C1,p1,p2,p3,p4⟩:=N0 i oi q1;obtain⟨o2,C2,p5,p6,p7,p8⟩:=N0 j oj q2;exact k1.disj i j o1 o2 Ci Cj b oP p1 p5 (by rw[←p4];exact q3) (by rw[←p8];exact q4) q5 q6 q7 q8
 refine⟨⟨M',rfl,h2,kD,h4.trans (.same_mem rfl rfl rfl (by grind)),fun m=>?_⟩,r.defers,r.size,r.os,r.tape,r.output,r.keep⟩;show zV M' (match(Dp S.slots da).lookup m with|some v=>v|none=>.undef) _;cases hl:(Dp S.slots da).lookup m with
 |none=>trivial
 |some v=>
  obtain⟨s,y,q1,rfl⟩:=yC4 ha hl;exact(Vb k1 q1 (vGr h3 (h5 m))).ext x
def N1 {pre S st d}(r:vZ false na nt a0 M0 w0 st a w)(h:Ix pre S st=some d):vZ false na nt a0 M0 w0 (zN (pre+iw) S d) a w:=vRz r h
end
end Go.Ab
