/- part 1 -/
import Derived.Test.YtpgcgnfpnjolpaaGreatGiAbA
import Derived.Laws.BytesString
set_option linter.unusedVariables false
set_option linter.unusedSimpArgs false
namespace Go.Ab
theorem Y0 off:∀l k cells,off+k+l.length≤cells.size→
  (l.zipIdx k).foldl (fun(cs:Array Value) (p:Value×Nat)=>cs.setIfInBounds (off+p.2) p.1) cells=yK cells (off+k) l
 |[],k,cells,h=>by
  apply Array.ext_getElem?;intro j;rw[wP h];simp_all
 |c::l,k,cells,h=>by
  simp;rw[Y0 off l (k+1) _ (by grind)];apply Array.ext_getElem?;intro j;rw[wP (by grind),wP (by omega)];grind
theorem Oe place cells i v rest off size (h:place i=some (off,size))(h1:v.cells.size=size)(h2:off+size≤cells.size):
  Instr.fill place cells ((i,v)::rest)=Instr.fill place (yK cells off v.cells.toList) rest:=by
 have hc:¬(v.cells.size≠size||decide (off+v.cells.size>cells.size))=true:=by
  simp_all
 simp only[Instr.fill,h];rw[if_neg hc]
 congr 1
 rw[←Array.foldl_toList,Array.toList_zipIdx];have:=Y0 off v.cells.toList 0 cells (by simp;omega);omega
def uF (M:zI):(Nat×zW)→(Nat×Value)→Prop:=fun p q=>p.1=q.1∧zP M p.2 q.2
theorem Of {M place}:∀{parts aK cells out vals},zK (zQ M) cells vals.toList→
  zK (uF M) parts aK→D8 place cells parts=some out→∃res,Instr.fill place vals aK=some res∧zK (zQ M) out res.toList
 |[],[],cells,out,vals,hc,_,h=>by cases h;exact⟨vals,rfl,hc⟩
 |(i,v)::parts,(i',rv)::aK,cells,out,vals,hc,hp,h=>by
  obtain⟨⟨hi,hv⟩,hp⟩:=hp;subst hi;unfold D8 at h;split at h
  ·rename_i off size vs zk de;cases hb:(Nat.beq vs.length size&&Nat.ble (off+size) cells.length) with
   |false=>simp_all
   |true=>
    rw[hb] at h;simp only[Bool.and_eq_true] at hb;have b1:=Nat.eq_of_beq_eq_true hb.1;have b2:=Nat.le_of_ble_eq_true hb.2;split at h
    ·rename_i bB Og;obtain⟨p1,rfl⟩:=NJ _ _ _ _ Og;have cS:=IU de hv;have hl:=cS.length;have kX:=hc.length;simp  at hl kX;have yH:=NM (yD.refl M) hc cS (off:=off) (by simp_all);obtain⟨res,h1,h2⟩:=Of yH hp h;exact⟨res,by rw[Oe place vals i rv aK off size zk (by omega) (by omega)];exact h1,h2⟩
    ·cases h
  ·cases h
theorem Y1 {P} w:∀(l:List Field),l.all (fun f=>(P.info? f.type).isSome)=true→
  (l.mapM fun f=>(do pure (f.offset,←sizeOf f.type):Sem (Nat×Nat))).run P w=.ok (l.map fun f=>(f.offset,P.cellsOf f.type)) w
 |[],_=>by simp
 |f::l,h=>by
  simp only[List.all_cons,Bool.and_eq_true] at h;obtain⟨i,hi⟩:=Option.isSome_iff_exists.1 h.1;rw[List.mapM_cons];simp only[Sem.run_bind,fR w hi,Result.andThen_ok,Sem.run_pure,Y1 w l h.2,List.map_cons]
theorem vO5 {P M w}(ok:Ok M)(hM:M.H=w.heap){t parts aK v u}(hp:zK (uF M) parts aK)
  (h:yE (Np P t parts) v u):qH P (Instr.build t aK.toArray) M w v u:=by
 unfold Np at h;split at h
 ·exact h.elim
 ·rename_i zero hz;obtain⟨i,z,h1,h2,h3,h4,rfl⟩:=Yq hz;have hzero:=IP M h4;split at h
  ·rename_i fs hs;obtain⟨bb,h⟩:=jZ h;split at h
   ·rename_i cells hf;obtain⟨rfl,rfl⟩:=vQ h;have zk:(fun(j:Nat)=>(fs[j]?).map fun(f:Field)=>(f.offset,P.cellsOf f.type))=(fun(j:Nat)=>(fs.toList.map fun f=>(f.offset,P.cellsOf f.type)).toArray[j]?):=by
     simp
    obtain⟨res,k1,k2⟩:=Of hzero hp hf;refine qH.pure ok hM (rv:=.agg res) ?_ ⟨res,rfl,k2⟩;have hm:=Y1 (P:=P) w fs.toList bb;simp[Instr.build,zeroValue,NG w h1,run_underlying hs,Array.mapM_eq_mapM_toList];simp_all
   ·exact h.elim
  ·rename_i n e hs;obtain⟨bb,h⟩:=jZ h;obtain⟨y,hy⟩:=Option.isSome_iff_exists.1 bb;split at h
   ·rename_i cells hf;obtain⟨rfl,rfl⟩:=vQ h;obtain⟨res,k1,k2⟩:=Of hzero hp hf;refine qH.pure ok hM (rv:=.agg res) ?_ ⟨res,rfl,k2⟩;simp[Instr.build,zeroValue,Sem.run_bind,NG w h1,Result.andThen_ok,h2,Sem.run_pure,run_underlying hs,fR w hy];simp_all
   ·exact h.elim
  ·exact h.elim
theorem qH.after {P s M M1 w v u1 u2}(h1:M1.h=qF M.h u1)(st:yS M M1)(h:qH P s M1 w v u2):qH P s M w v (u1++u2):=by
 obtain⟨rv,w',M',a1,a2,a3,a4,a5,a6,a7,a8,a9⟩:=h;exact⟨rv,w',M',a1,a2,a3,a4,a5,by rw[a6,h1,iN],a7,st.trans a8,a9⟩
theorem wF.fresh {h0 h}(hf:wF h0 h){n}(hn:h0 n=none):h n=none:=by
 rcases hf n with e|⟨o,t,xs,e1,_⟩|⟨o,xs,e1,_⟩
 all_goals simp_all
theorem Y2 {t vs x}(h:D5 t vs=some x):vs.length=t.size∧oX t t.dflt 0 vs=some x:=by
 unfold D5 at h;cases hb:Nat.beq vs.length t.size with
 |false=>simp_all
 |true=>simp_all
theorem vC8 {M t vs us x}(h:D5 t vs=some x)(hv:zK (zQ M) vs us){rd}(hr:∀i,i<us.length→rd i=us[i]?):qB M.H M.G t x rd:=by
 obtain⟨h1,h2⟩:=Y2 h;have hl:=hv.length;refine NR t vs us t.dflt x 0 (fun j=>(fy t)[j]?) rd (Ew t _ (by simp)) h2 hv (by grind) (by grind)
theorem Y3 {h0 t n}:∀{parts aK xs out vals u M},Ok M→wF h0 M.h→xs.length=n→vals.size=n*t.size→
  (∀k h,qB M.H M.G t xs[k] (fun j=>vals[k*t.size+j]?))→(∀p∈parts,p.1<n)→zK (uF M) parts aK→nB h0 t xs parts=some (out,u)→
  ∃res M',Instr.fill (fun i=>some (i*t.size,t.size)) vals aK=some res∧M'.H=M.H∧M'.h=qF M.h u∧Ok M'∧yS M M'∧wF h0 M'.h∧out.length=n∧res.size=n*t.size∧
   (∀k h,qB M'.H M'.G t out[k] (fun j=>res[k*t.size+j]?))
 |[],[],xs,out,vals,u,M,ok,hf,hx,hs,hE,_,_,h=>by
  cases h;exact⟨vals,M,rfl,rfl,rfl,ok,yS.refl M,hf,hx,hs,hE⟩
 |(i,v)::parts,(i',rv)::aK,xs,out,vals,u,M,ok,hf,hx,hs,hE,bn,hp,h=>by
  obtain⟨⟨hi,hv⟩,hp⟩:=hp;dsimp only at hi hv;subst hi;unfold nB at h;split at h
  ·rename_i vs de;split at h
   ·rename_i NZ u1 za;split at h
    ·rename_i x sb;split at h
     ·rename_i xs' us bS;cases h;have cS:=IU de hv;obtain⟨M1,a1,a2,a3,a4,a5,a6,a7⟩:=NO ok hf cS za;have hl:=a5.length;simp  at hl;have I7:=(Y2 sb).1;have dZ:i<n:=bn (i,v) (by simp);have aU:=Nat.mul_le_mul_right t.size (show i+1≤n by omega);rw[Nat.add_mul] at aU;have aG:i*t.size+rv.cells.toList.length≤vals.size:=by simp_all
      have hE1:∀k (h:k<(xs.set i x).length),qB M1.H M1.G t (xs.set i x)[k] (fun j=>(yK vals (i*t.size) rv.cells.toList)[k*t.size+j]?):=by
       intro k hk;rw[List.length_set] at hk;by_cases e:k=i
       ·subst e;rw[List.getElem_set_self];refine vC8 sb a5 fun j hj=>?_
        rw[wP aG,if_neg (by omega),if_pos (by omega)];simp
       ·rw[List.getElem_set_ne (Ne.symm e)];refine yR a4.ext.G (by grind) t _ _ _ (fun j hj=>?_) (hE k hk);rw[wP aG,Array.length_toList];rcases YG (Ne.symm e) hj with h|h
        all_goals grind
      obtain⟨res,M2,b1,b2,b3,b4,b5,b6,b7,b8,b9⟩:=Y3 a3 a6 (by simp_all) (by rw[eZ aG];exact hs) hE1
       (fun p hp=>bn p (by grind)) (hp.mono fun p q Y4=>⟨Y4.1,by
        obtain⟨_,hq⟩:=Y4;exact zP.ext a4.ext hq⟩) bS
      exact⟨res,M2,by rw[Oe _ vals i rv aK (i*t.size) t.size rfl (by omega) (by omega)];exact b1,b2.trans a1,by rw[b3,a2,iN],b4,a4.trans b5,b6,b7,b8,b9⟩
     ·cases h
    ·cases h
   ·cases h
  ·cases h
theorem Y5 {P w t e n aK}{ty:Ty}{i z res}(hu:P.underlying t=some (.slice e))(hi:P.info? e=some i)
  (hz:i.zero=some z) (hs:i.size=ty.size) (cD:n*P.cellsOf e≤16777216) (hf:Instr.fill (fun j=>some (j*ty.size,ty.size)) (madeCells z.cells (n*ty.size)) aK=some res):
  (Instr.buildSlice t n aK.toArray).run P w=.ok (.slice (some ⟨w.heap.size,0,none⟩) n n) (w.alloc (.cells res e)):=by
 have hc:P.cellsOf e=ty.size:=by rw[NF hi];exact hs
 rw[hc] at cD;have h1:¬2^24<n*ty.size:=by omega
 by_cases h0:n*ty.size=0
 ·have hm:madeCells z.cells (n*ty.size)=#[]:=by rw[h0];simp[madeCells]
  rw[hm] at hf;simp[Instr.buildSlice,run_underlying hu,fR w hi,hc,h0];simp[Array.range_zero',hf,newRow]
 ·simp[Instr.buildSlice,run_underlying hu,Result.andThen_ok,fR w hi,hc,h1,if_false,h0,Sem.run_pure,zeroValue,NG w hi,hz];rw[show(Array.range (n*ty.size)).map (z.cells[· %z.cells.size]!)=madeCells z.cells (n*ty.size) from rfl,hf];rfl
theorem Y6 {parts:List (Nat×zW)}{n}(h:parts.all (fun p=>Nat.blt p.1 n)=true):∀p∈parts,p.1<n:=by
 simp only[List.all_eq_true] at h;exact fun p hp=>NP (h p hp)
theorem vG1 {P M w}(ok:Ok M)(hM:M.H=w.heap){nm t e n parts aK ty xs u}
  (hp:zK (uF M) parts aK) (hu:P.underlying t=some (.slice e)) (aO:M.h nm=none) (dh:gW P e=some ty) (cD:n*P.cellsOf e≤16777216) (bn:∀p∈parts,p.1<n)
  (hf:nB M.h ty (List.replicate n ty.dflt) parts=some (xs,u)):
  qH P (Instr.buildSlice t n aK.toArray) M w (.c (.osl nm none)) (u++[(nm,.arr true ty xs)]):=by
 obtain⟨i,z,h1,h2,h3,h4,h5,h6,h7⟩:=nJ dh;obtain⟨res,M',b1,b2,b3,b4,b5,b6,b7,b8,b9⟩:=Y3 (n:=n) ok (wF.refl _) (by simp) (vals:=madeCells z.cells (n*ty.size)) (by rw[size_madeCells])
  (fun k hk=>by rw[YZ hk];exact YW h4 h7 (by simp_all)) bn hp hf
 have hr:=Y5 (P:=P) (w:=w) hu h1 h2 h3 cD b1;refine qH.after b3 b5 (YX b4 (by grind) (b6.fresh aO) (c:=n) (us:=res) (e:=e) (by omega) (by omega) (by grind) ?_);simp_all
structure sd (M:zI) (J:List Nat) (n:Nat) (rows:List (List Int)) (vals:Array Value) (rc:List (Option Nat×Nat)):Prop where
 len:rows.length=n
 size:vals.size=n
 rlen:rc.length=n
 row:∀k (h:k<rows.length),∃rb v,rc[k]? =some (rb,rows[k].length)∧vals[k]? =some v∧kk M.H rb rows[k].length v∧
  (∀R,rb=some R→∃rv er,M.H[R]? =some (.cells rv er (0,0))∧∀j (h':j<rows[k].length),rv[j]? =some (.int .i64 rows[k][j]))
 nd:(rc.filterMap (·.1)).Nodup
 of:∀R∈rc.filterMap (·.1),∃j∈J,∃C,M.κ j=some C∧R∈C.fp
 js:∀j∈J,∃ys:List Int,M.h j=some (.arr true (.int .i64) ys)
theorem sd.put {M}(ok:Ok M){J n rows vals rc}(I:sd M J n rows vals rc){i}(hi:i<n){v rv r u}
  (hv:zP M v rv) (ht:ui M.h v=some (r,u)) (hJ:∀p∈u,p.1∉J):∃I8,sd M (J++u.map (·.1)) n (rows.set i r) (yK vals i rv.cells.toList) I8∧rv.cells.size=1∧(∀p∈u,p.2=.gone):=by
 have put:∀(rb:Option Nat) (J':List Nat),rv.one1=true→kk M.H rb r.length rv→(∀R,rb=some R→∃rv er,M.H[R]? =some (.cells rv er (0,0))∧∀j (h':j<r.length),rv[j]? =some (.int .i64 r[j]))→
   (∀R,rb=some R→R∉rc.filterMap (·.1))→(∀R,rb=some R→∃j∈J',∃C,M.κ j=some C∧R∈C.fp)→(∀j∈J',∃ys:List Int,M.h j=some (.arr true (.int .i64) ys))→
   sd M (J++J') n (rows.set i r) (yK vals i rv.cells.toList) (rc.set i (rb,r.length))∧rv.cells.size=1:=by
  intro rb J' h1 h2 h3 h4 h5 h6;have aA:rv.cells=#[rv]:=by cases rv<;>first|rfl|cases h1
  obtain⟨s1,s2⟩:=IX (x:=(rb,r.length)) rc i I.nd h4;have aG:i+rv.cells.toList.length≤vals.size:=by rw[aA,I.size];show i+1≤n;omega
  refine⟨⟨by rw[List.length_set];exact I.len,by rw[eZ aG];exact I.size,by rw[List.length_set];exact I.rlen,fun k hk=>?_,s1,fun R hR=>?_,fun j hj=>?_⟩,by rw[aA];rfl⟩
  ·rw[List.length_set] at hk;by_cases e:k=i
   ·subst e;rw[List.getElem_set_self];refine⟨rb,rv,?_,?_,h2,h3⟩
    ·rw[List.getElem?_set_self (by rw[I.rlen];exact hi)]
    ·rw[wP aG,if_neg (by omega),if_pos (by rw[aA];show k<k+1;omega),aA];simp
   ·rw[List.getElem_set_ne (Ne.symm e)];obtain⟨mA,v',p1,p2,p3,p4⟩:=I.row k hk;refine⟨mA,v',by rw[List.getElem?_set_ne (Ne.symm e)];exact p1,?_,p3,p4⟩;rw[wP aG,aA];grind
  ·rcases s2 R hR with h|h
   ·obtain⟨j,hj,hC⟩:=I.of R h;exact⟨j,by grind,hC⟩
   grind
  ·rcases List.mem_append.1 hj with h|h
   ·exact I.js j h
   ·exact h6 j h
 unfold ui at ht;split at ht
 ·rename_i jd;split at ht
  ·rename_i ys cM;cases ht;obtain⟨Cj,dO,kW⟩:=ok.obj jd _ cM;obtain⟨jr,jf⟩:=Ek kW;obtain⟨r1,r2⟩:=NW dO kW hv;have rV:∀j∈[jd],∃ys:List Int,M.h j=some (.arr true (.int .i64) ys):=by grind
   have:=put Cj.blk [jd] (zQ.one (c:=.osl jd none) hv) r1 r2 (fun R hR hm=>?_) (by grind) (fun j hj=>rV j hj)
   ·exact(by grind)
   ·obtain⟨j,hj,C,hC,hRC⟩:=I.of R hm;obtain⟨ys',kq⟩:=I.js j hj;have bh:j≠jd:=fun e=>hJ (jd,.gone) (by simp) (e▸hj)
    exact ok.disj j jd _ _ C Cj R bh kq cM rfl rfl hC dO hRC (jT hR)
  ·cases ht
 ·cases ht;have e:rv=.slice none 0 0:=hv;have:=put none [] (by rw[e];rfl) ⟨e,rfl⟩ (by simp) (by simp) (by simp) (by simp);exact by grind
 ·cases ht
theorem zl:∀{l},oZ l=true→l.Nodup
 |[],_=>by simp
 |a::l,h=>by
  simp only[oZ,Bool.and_eq_true] at h;refine List.nodup_cons.2 ⟨fun hm=>?_,zl h.2⟩;have:l.any (Nat.beq a)=true:=List.any_eq_true.2 ⟨a,hm,by simp⟩;simp_all
theorem Y7 {M}(ok:Ok M){n}:∀{parts aK J rows out vals rc u},sd M J n rows vals rc→
  (∀p∈parts,p.1<n)→zK (uF M) parts aK→uj M.h rows parts=some (out,u)→(J++u.map (·.1)).Nodup→
  ∃res I8,Instr.fill (fun i=>some (i*1,1)) vals aK=some res∧sd M (J++u.map (·.1)) n out res I8∧(∀p∈u,p.2=.gone)
 |[],[],J,rows,out,vals,rc,u,I,_,_,h,_=>by
  cases h;exact⟨vals,rc,rfl,by simp_all,by simp⟩
 |(i,v)::parts,(i',rv)::aK,J,rows,out,vals,rc,u,I,bn,hp,h,df=>by
  obtain⟨⟨hi,hv⟩,hp⟩:=hp;subst hi;unfold uj at h;split at h
  ·rename_i r u1 ht;split at h
   ·rename_i Y8 us bS;cases h;rw[List.map_append,←List.append_assoc] at df;have dZ:i<n:=bn (i,v) (by simp);obtain⟨I8,I',h1,hg⟩:=I.put ok dZ hv ht (by grind);obtain⟨res,rc2,b1,b2,b3⟩:=Y7 ok I' (by grind) hp bS df;refine⟨res,rc2,?_,by simp_all,fun p hp=>?_⟩
    ·rw[Oe _ vals i rv aK (i*1) 1 rfl h1 (by rw[I.size];omega),Nat.mul_one];exact b1
    grind
   ·cases h
  ·cases h
theorem Oh {j}:∀{u h},(∀p∈u,p.2=.gone)→j∈u.map (·.1)→qF h u j=some .gone
 |(id,o)::u,h,hg,hj=>by
  have ho:o=.gone:=hg (id,o) (by simp);subst ho;by_cases hm:j∈u.map (·.1)
  ·exact Oh (u:=u) (by grind) hm
  ·have e:j=id:=by
    simp_all
   subst e;show qF (qW h j .gone) u j=_;rw[IZ]
   ·exact yG _ _ _
   ·rw[Bool.eq_false_iff];simp_all
theorem zm {n u h}(hn:n∉u.map (·.1)):qF h u n=h n:=by
 refine IZ h ?_;rw[Bool.eq_false_iff];simp_all
theorem vRs {P:Program}{M:zI}{w}(ok:Ok M)(hM:M.H=w.heap){nm n c}{rows res rc J}{u:yV}{e s}
  (aO:M.h nm=none) (I:sd M J n rows (res.extract 0 n) rc) (hJ:∀j,j∈J→j∈u.map (·.1)) (hg:∀p∈u,p.2=.gone∧∃o,M.h p.1=some o∧o.owned=true) (hc:n≤c) (hs:c≤res.size)
  w' (hw:w'.heap=w.heap.push (.cells res e)∧w'.os=w.os∧w'.tape=w.tape∧w'.output=w.output)
  (hr:s.run P w=.ok (.slice (some ⟨w.heap.size,0,none⟩) n c) w'):qH P s M w (.c (.osl nm none)) (u++[(nm,.mat 0 rows)]):=by
 let C:zZ:=⟨some M.H.size,n,1,0,rc⟩;have hnJ:nm∉u.map (·.1):=(by grind);have aU:∀R∈rc.filterMap (·.1),∃j C,(j∈u.map (·.1))∧M.κ j=some C∧R∈C.fp:=fun R hR=>by
  obtain⟨j,hj,C,hC,hm⟩:=I.of R hR;grind
 have aal:∀R∈rc.filterMap (·.1),R<M.H.size:=fun R hR=>by
  obtain⟨j,hj,C,hC,hm⟩:=I.of R hR;obtain⟨ys,hy⟩:=I.js j hj;exact(ok.own R ⟨j,_,C,hy,rfl,hC,hm⟩).2
 have hh:∀n',(qF M.h (u++[(nm,.mat 0 rows)])) n'=if n'=nm then some (.mat 0 rows) else qF M.h u n':=fun n'=>by
  rw[iN,NI];by_cases e:n'=nm
  ·rw[if_pos e,e,yG]
  ·rw[if_neg e,yI _ _ e]
 have:=zI.move_ok (M:=M) (nm:=nm) (o':=.mat 0 rows) (C':=C) (h':=qF M.h (u++[(nm,.mat 0 rows)])) (H':=M.H.push (.cells res e)) ok (fun j=>j∈u.map (·.1)) aO
  (fun j hj=>by
   obtain⟨p,hp,e⟩:=List.mem_map.1 hj;obtain⟨_,o,ho,fV⟩:=hg p hp;refine⟨o,by rw[←e];exact ho,fV,?_⟩;have bh:j≠nm:=by grind
   rw[hh,if_neg bh];exact Oh (by grind) hj)
  (by rw[hh,if_pos rfl]) (fun n' h1 h2=>by rw[hh,if_neg h2];exact zm h1) (by simp) (fun b hb _=>my hb) (fun b hb=>yu (my hb))
  (fun b hb=>by
   simp only[C,zZ.fp,Option.toList_some,List.singleton_append,List.mem_cons] at hb;grind)
  (fun x=>by
   refine⟨rfl,I.len.symm,rfl,by rw[I.len];exact I.rlen,?_,res,e,ur,by rw[I.len];omega,fun k hk=>?_⟩
   ·simp only[C,zZ.fp,Option.toList_some,List.singleton_append];exact List.nodup_cons.2 ⟨by grind,I.nd⟩
   ·obtain⟨rb,v,p1,p2,p3,p4⟩:=I.row k hk;refine⟨rb,v,p1,?_,p3.ext x,fun R hR=>?_⟩
    ·grind
    ·obtain⟨rv,er,p5,p6⟩:=p4 R hR;refine⟨rv,er,?_,p6⟩;have:R<M.H.size:=by grind
     show(M.H.push _)[R]? =_;grind)
 refine⟨_,_,_,hr,hw.2.1,hw.2.2.1,hw.2.2.2,by show M.H.push _=_;rw[hw.1,hM],rfl,this.1,this.2,C,κset_same _ _ _,_,c,rfl,?_⟩;refine⟨hc,0,by rw[hM],.inr (by simp),?_⟩;have:qP (M.H.push (.cells res e)) M.H.size=res.size:=by simp[qP]
 show(0+c)*1≤qP (M.H.push (.cells res e)) M.H.size;rw[this];omega
theorem vHb {P M w}(ok:Ok M)(hM:M.H=w.heap){mat nm t n parts aK v u}
  (hp:zK (uF M) parts aK) (h:yE (ye P mat nm M.h t n parts) v u):qH P (Instr.buildSlice t n aK.toArray) M w v u:=by
 unfold ye at h;split at h
 ·rename_i e hu aO;obtain⟨cD,h⟩:=jZ h;have cD:=Nat.le_of_ble_eq_true cD;cases mat with
  |true=>
   split at h
   ·rename_i rows u' dh hf;obtain⟨hb,h⟩:=jZ h;simp only[Bool.and_eq_true] at hb;obtain⟨_,rfl,rfl⟩:=eY h;obtain⟨i,z,h1,h2,h3,h4,h5,h6,h7⟩:=nJ dh;have I6:z.cells.toList=[.slice none 0 0]:=h4;have Od:z.cells.size=1:=h7;have I0:sd M [] n (List.replicate n []) (madeCells z.cells (n*1)) (List.replicate n (none,0)):=by
     refine⟨by simp,by rw[size_madeCells,Nat.mul_one],by simp,fun k hk=>?_,by simp,by simp,by simp⟩;have hkn:k<n:=by simp_all
     refine⟨none,.slice none 0 0,by simp[hkn],?_,⟨rfl,by simp⟩,by simp⟩;simp only[madeCells];have:z.cells.toList[0]'(by grind)=.slice none 0 0:=by grind
     grind
    obtain⟨res,rc,b1,b2,b3⟩:=Y7 ok I0 (Y6 hb.2) hp hf (by simpa using zl hb.1);have hr:=Y5 (P:=P) (w:=w) (ty:=.sl (.int .i64)) hu h1 h2 h3 cD b1;have Oi:res.extract 0 n=res:=by
     have:=b2.size;simp_all
    refine vRs ok hM aO (by rw[Oi];exact b2) (by simp) (fun p hp=>⟨b3 p hp,?_⟩) (by simp) (by rw[b2.size];omega) (w.alloc (.cells res e)) ⟨rfl,rfl,rfl,rfl⟩ hr;obtain⟨ys,hy⟩:=b2.js p.1 (by grind);exact⟨_,hy,rfl⟩
   ·exact h.elim
  |false=>
   simp  at h;split at h
   ·rename_i ty dh;split at h
    ·rename_i xs u' hf;obtain⟨hb,h⟩:=jZ h;obtain⟨_,rfl,rfl⟩:=eY h;exact vG1 ok hM hp hu aO dh cD (Y6 hb) hf
    ·exact h.elim
   ·exact h.elim
 ·exact h.elim
theorem Oj {H F}:∀t x rd,qB H F t x rd→∀j,j<t.size→∃v,rd j=some v∧v.one1=true
 |.int k,x,rd,h,j,hj
 |.bool,x,rd,h,j,hj=>by
  simp[Ty.size] at hj;obtain rfl:j=0:=by omega
  exact⟨_,h,rfl⟩
 |.sl t,x,rd,h,j,hj=>by
  simp[Ty.size] at hj;obtain rfl:j=0:=by omega
  obtain⟨A,n,c,h1,_⟩:=h;exact⟨_,h1,rfl⟩
 |.pair a b,x,rd,h,j,hj=>by
  simp[Ty.size] at hj;by_cases bn:j<a.size
  ·exact Oj a _ _ h.1 j bn
  ·have:=Oj b _ _ h.2 (j-a.size) (by omega);simp_all
def Rd (H : Array Go.Obj) (v : Value) (n size : Nat) (news : List Value) : Prop := ∃ A c, v = .slice A n c ∧ news.length = n * size ∧ (∀ u ∈ news, u.one1 = true) ∧ (match A with
 |none=>n=0
 |some a=>n=0∨a.spot=none∧∀j u,news[j]? =some u→yH H a.block (a.off+j)=some u)
theorem Rd.first {P H v n size news}(h:Rd H v n size news) w (hw:w.heap=H):(Builtin.firstCells size n v).run P w=.ok news.toArray w:=by
 obtain⟨A,c,rfl,hl,_,h⟩:=h;cases A with
 |none=>
  have h0:n=0:=h;subst h0;have:news=[]:=by grind
  subst this;rfl
 |some a=>
  rcases h with h0|⟨hs,h⟩
  ·subst h0;have:news=[]:=by grind
   subst this;simp[Builtin.firstCells,loadCells,loadCellsFrom]
  ·obtain⟨B,o,sp⟩:=a;cases hs;exact run_firstCells_some w size n ⟨B,o,none⟩ n c news hl (fun j u hu=>by rw[Addr.add_lit,pf,hw];simp_all)
theorem Ol {H F t}{ys:List t.den}{B o c}(hc:ys.length≤c)(h:∀i hi,qB H F t ys[i] (fun j=>yH H B (o+i*t.size+j))):
  ∃news,Rd H (.slice (some ⟨B,o,none⟩) ys.length c) ys.length t.size news∧∀i hi,qB H F t ys[i] (fun j=>news[i*t.size+j]?):=by
 have tot:∀k,k<ys.length*t.size→∃v,yH H B (o+k)=some v∧v.one1=true:=by
  intro k hk;have hi:k/t.size<ys.length:=Nat.div_lt_of_lt_mul (by grind);obtain⟨v,h1,h2⟩:=Oj t _ _ (h _ hi) (k%t.size) (Nat.mod_lt _ t.size_pos);refine⟨v,?_,h2⟩;rw[Nat.add_assoc,Nat.mul_comm,Nat.div_add_mod] at h1;exact h1
 refine⟨(List.range (ys.length*t.size)).map fun k=>(yH H B (o+k)).getD undef,⟨_,c,rfl,by simp,fun u hu=>?_,.inr ⟨rfl,fun j u hu=>?_⟩⟩,fun i hi=>?_⟩
 ·grind
 ·grind
 ·refine yR (by simp) (by simp) t _ _ _ (fun j hj=>?_) (h i hi);have aU:=Nat.mul_le_mul_right t.size (show i+1≤ys.length by omega);grind
theorem Ey {H F t A c}:∃news,Rd H (.slice A 0 c) 0 t.size news∧∀i hi,qB H F t ([]:List t.den)[i] (fun j=>news[i*t.size+j]?):=
 ⟨[],⟨A,c,rfl,by simp,by simp,by grind⟩,by simp⟩
theorem Om {H F t}{ys:List t.den}{v}(h:qB H F (.sl t) ys (fun _=>some v)):
  ∃news,Rd H v ys.length t.size news∧∀i hi,qB H F t ys[i] (fun j=>news[i*t.size+j]?):=by
 simp[qB] at h;obtain⟨A,n,c,rfl,rfl,hc,h⟩:=h;rcases h with⟨rfl,_⟩|⟨B,o,rfl,hB,hE⟩
 ·exact Ey
 ·exact Ol hc hE
theorem uG {M own t xs C id r v}(hC:M.κ id=some C)(hO:yP M (.arr own t xs) C)(hv:zQ M (.osl id r) v):
  ∃news,Rd M.H v (gA xs r).length t.size news∧∀i hi,qB M.H M.G t (gA xs r)[i] (fun j=>news[i*t.size+j]?):=by
 obtain⟨h1,h2,h3,h4⟩:=hO;obtain⟨C',aw,hv⟩:=hv;rw[hC] at aw;cases aw;have key:∀lo n,lo+n≤C.len→wG M.H C lo n v→∃news,Rd M.H v (qZ xs lo n).length t.size news∧∀i (hi:i<(qZ xs lo n).length),qB M.H M.G t (qZ xs lo n)[i] (fun j=>news[i*t.size+j]?):=by
  intro lo n hn hS;obtain⟨A,c,rfl,hS⟩:=hS;have hl:=yz (xs:=xs) (lo:=lo) (n:=n) (by omega);by_cases h0:n=0
  ·subst h0;have e:qZ xs lo 0=[]:=by rfl
   exact Ey
  ·cases hB:C.blk with
   |none=>simp_all
   |some B=>
    rw[hB] at hS h4;obtain⟨hc,a,rfl,ha,_⟩:=hS;obtain⟨vals,e,h5,h6,h7,h8⟩:=h4;have nF:a=lo*C.sz:=by omega
    have := Ol (H := M.H) (F := M.G) (ys := qZ xs lo n) (B := B) (o := a) (c := c) (by omega) (fun i hi=>by
     obtain⟨bE,e1⟩:=IV hi;rw[e1];refine yR (by simp) (by simp) t _ _ _ (fun j hj=>?_) (h8 (lo+i) bE);rw[nF,h2,←Nat.add_mul];simp[yH,h5])
    simp_all
 cases r with
 |none=>
  have:=key 0 C.len (by omega) hv;rw[h1,Yv] at this;exact this
 |some p=>exact key p.1 p.2 hv.1 hv.2.1
theorem nK {P w t e i A sLen sCap n size x news} T (hu:P.underlying t=some (.slice e))(hi:P.info? e=some i)(hs:i.size=size)
  (hx : Rd w.heap x n size news) (aS : sLen + n ≤ sCap) w' (hw:match A with
   |none=>w'=w
   |some a=>(storeCells (a.add (sLen*size)) news).run P w=.ok () w'):
  (Builtin.append_ #[t,t] T #[.slice A sLen sCap,x]).run P w=.ok (.slice A (sLen+n) sCap) w':=by
 have hf:=hx.first (P:=P) w rfl
 obtain⟨X,c,rfl,_⟩:=hx;subst hs;cases A with
 |none=>
  subst hw;simp[Builtin.append_,run_underlying hu,sizeOf,typeInfo,hi,Builtin.lenOf,aS,hf]
 |some a=>simp[Builtin.append_,run_underlying hu,sizeOf,typeInfo,hi,Builtin.lenOf,aS,hf,hw]
theorem On {P}{w}{t e}{i}{z}{A sLen sCap n size x olds news} T (hu:P.underlying t=some (.slice e))(hi:P.info? e=some i)(hz:i.zero=some z)
  (hs:i.size=size) (hb:Rd w.heap (.slice A sLen sCap) sLen size olds) (hx:Rd w.heap x n size news) (hg:sCap<sLen+n) (h46:(sLen+n)*i.bytes≤140737488355328) (aam:sLen+n≤140737488355328):
  (Builtin.append_ #[t,t] T #[.slice A sLen sCap,x]).run P w=
   .ok (.slice (some ⟨w.heap.size,0,none⟩) (sLen+n) (grownCap w (sLen+n) sCap e)) (w.drew.alloc (.cells (olds.toArray++news.toArray++Builtin.zeroCells z.cells (grownCap w (sLen+n) sCap e-(sLen+n))) e)):=by
 have hf:=hx.first (P:=P) w.drew rfl
 have hfo:=hb.first (P:=P) w.drew rfl
 obtain⟨X,c,rfl,_⟩:=hx;subst hs;have hn:¬(sLen+n≤sCap):=by omega
 have aan:¬(9223372036854775807<((sLen:Int)+(n:Int))):=by omega
 have aao:¬(281474976710656<Builtin.nextslicecap (sLen+n) sCap*i.bytes):=by
  have h1:=Nat.mul_le_mul_right i.bytes (nextslicecap_le hg);grind
 simp[Builtin.append_,run_underlying hu,sizeOf,typeInfo,zeroValue,hi,hz,Builtin.lenOf,Question.forced,hf,hfo,newRow,grownCap];grind
theorem zn z n:(Builtin.zeroCells z n).size=n*z.size:=by simp[Builtin.zeroCells]
theorem Oo {H F t}{xs ys:List t.den}{olds news:List Value}(hl:olds.length=xs.length*t.size)(hx:∀i h,qB H F t xs[i] (fun j=>olds[i*t.size+j]?))
  (hy:∀i h,qB H F t ys[i] (fun j=>news[i*t.size+j]?)):∀i h,qB H F t (xs++ys)[i] (fun j=>(olds++news)[i*t.size+j]?):=by
 intro i hi;by_cases h:i<xs.length
 ·rw[List.getElem_append_left h];refine yR (by simp) (by simp) t _ _ _ (fun j hj=>?_) (hx i h);have:=Nat.mul_le_mul_right t.size (show i+1≤xs.length by omega);grind
 ·rw[List.getElem_append_right (by omega)];refine yR (by simp) (by simp) t _ _ _ (fun j hj=>?_) (hy (i-xs.length) (by grind));have:=Nat.mul_le_mul_right t.size (show xs.length≤i by omega);rw[List.getElem?_append_right (by omega),hl]
  congr 1
  rw[Nat.sub_mul];omega
def Ez (M:zI)(w:World)(v:zW)(u:yV)(rv:Value)(w':World):Prop:=
 ∃M',w'.os=w.os∧w'.tape=w.tape∧w'.output=w.output∧M'.H=w'.heap∧M'.h=qF M.h u∧Ok M'∧yS M M'∧zP M' v rv
theorem Ez.runs {P s M w w' v u rv}(h:Ez M w v u rv w')(hr:s.run P w=.ok rv w'):qH P s M w v u:=by
 obtain⟨M',h⟩:=h;exact⟨_,_,M',hr,h⟩
theorem Y9 {M w}(ok:Ok M)(hM:M.H=w.heap){nm t zs us e c}{u:yV}(aO:M.h nm=none)
  (hg:∀p∈u,p.2=.gone∧∃o,M.h p.1=some o∧o.owned=true) (hc:zs.length≤c) (hs:c*t.size≤us.size) (hx:∀i h,qB M.H M.G t zs[i] (fun j=>us[i*t.size+j]?))
  {w':World} (hw:w'.heap=w.heap.push (.cells us e)∧w'.os=w.os∧w'.tape=w.tape∧w'.output=w.output):
  Ez M w (.c (.osl nm none)) (u++[(nm,.arr true t zs)]) (.slice (some ⟨w.heap.size,0,none⟩) zs.length c) w':=by
 let C:zZ:=⟨some M.H.size,zs.length,t.size,0,[]⟩;have hh:∀n',(qF M.h (u++[(nm,.arr true t zs)])) n'=if n'=nm then some (.arr true t zs) else qF M.h u n':=fun n'=>by
  rw[iN,NI];by_cases e:n'=nm
  ·rw[if_pos e,e,yG]
  ·rw[if_neg e,yI _ _ e]
 have hle:=Nat.mul_le_mul_right t.size hc;have:=zI.move_ok (M:=M) (nm:=nm) (o':=.arr true t zs) (C':=C) (h':=qF M.h (u++[(nm,.arr true t zs)])) (H':=M.H.push (.cells us e)) ok (fun j=>j∈u.map (·.1)) aO
  (fun j hj=>by
   obtain⟨p,hp,e⟩:=List.mem_map.1 hj;obtain⟨_,o,ho,fV⟩:=hg p hp;refine⟨o,by simp_all,fV,?_⟩;have bh:j≠nm:=by grind
   rw[hh,if_neg bh];exact Oh (by grind) hj)
  (by simp_all) (fun n' h1 h2=>by rw[hh,if_neg h2];exact zm h1) (by simp) (by grind) (fun b hb=>yu (my hb))
  (fun b hb=>by
   simp only[C,zZ.fp] at hb;simp_all)
  (fun x=>⟨rfl,rfl,(by grind),us,e,ur,by simp,by omega,fun i hi=>yR x.G x.sameG t _ _ _ (by simp) (hx i hi)⟩)
 refine⟨_,hw.2.1,hw.2.2.1,hw.2.2.2,by show M.H.push _=_;simp_all,rfl,this.1,this.2,C,κset_same _ _ _,_,c,rfl,?_⟩;refine⟨hc,0,by rw[hM],by simp,?_⟩;have:qP (M.H.push (.cells us e)) M.H.size=us.size:=by simp[qP]
 show(0+c)*t.size≤qP (M.H.push (.cells us e)) M.H.size;simp_all
theorem Za {P M w}(ok:Ok M)(hM:M.H=w.heap){nm t zs us e s c}{u:yV}(aO:M.h nm=none)
  (hg:∀p∈u,p.2=.gone∧∃o,M.h p.1=some o∧o.owned=true) (hc:zs.length≤c) (hs:c*t.size≤us.size) (hx:∀i h,qB M.H M.G t zs[i] (fun j=>us[i*t.size+j]?))
  {w'} (hr:s.run P w=.ok (.slice (some ⟨w.heap.size,0,none⟩) zs.length c) w') (hw:w'.heap=w.heap.push (.cells us e)∧w'.os=w.os∧w'.tape=w.tape∧w'.output=w.output):
  qH P s M w (.c (.osl nm none)) (u++[(nm,.arr true t zs)]):=
 (Y9 ok hM aO hg hc hs hx hw).runs hr
theorem Zb {M:zI}{w:World}(ok:Ok M)(hM:M.H=w.heap){id nm:Nat}{t:Ty}{fB zs:List t.den}{C:zZ}{H':Array Go.Obj}{c:Nat}{A:Option Addr}{w':World}
  (ah:M.h id=some (.arr true t fB)) (hC:M.κ id=some C) (aO:M.h nm=none) (dA:H'.size=M.H.size) (hH:∀b,b∉C.fp→H'[b]? =M.H[b]?) (cC:∀b,qP H' b=qP M.H b)
  (hx:∀M',yD M M'→M'.H=H'→M'.G=M.G→match C.blk with
   |none=>zs=[]
   |some B=>∃vals e,H'[B]? =some (.cells vals e (0,0))∧zs.length*t.size≤vals.size∧∀i (h:i<zs.length),qB M'.H M'.G t zs[i] (fun j=>vals[i*t.size+j]?))
  (hA:match C.blk with
   |none=>A=none∧zs.length=0∧c=0
   |some B=>zs.length≤c∧∃a,A=some ⟨B,a,none⟩∧(c=0∨a=0)∧c*t.size≤qP M.H B)
  (hw:w'.heap=H'∧w'.os=w.os∧w'.tape=w.tape∧w'.output=w.output):
  Ez M w (.c (.osl nm none)) [(id,.gone),(nm,.arr true t zs)] (.slice A zs.length c) w':=by
 obtain⟨C0,nL,hO⟩:=ok.obj id _ ah;rw[hC] at nL;cases nL;obtain⟨fr,ff⟩:=Ek hO;have bh:id≠nm:=by grind
 let C':zZ:=⟨C.blk,zs.length,t.size,0,[]⟩;have hh:∀n',(qF M.h [(id,.gone),(nm,.arr true t zs)]) n'=if n'=nm then some (.arr true t zs) else if n'=id then some .gone else M.h n':=fun n'=>by
  show(qW (qW M.h id .gone) nm _) n'=_;by_cases e:n'=nm
  ·rw[if_pos e,e,yG]
  ·rw[if_neg e,yI _ _ e];by_cases e2:n'=id
   ·rw[if_pos e2,e2,yG]
   ·rw[if_neg e2,yI _ _ e2]
 have:=zI.move_ok (M:=M) (nm:=nm) (o':=.arr true t zs) (C':=C') (h':=qF M.h [(id,.gone),(nm,.arr true t zs)]) (H':=H') ok (fun j=>j=id) aO
  (fun j hj=>⟨.arr true t fB,by rw[hj];exact ah,rfl,by simp_all⟩)
  (by rw[hh,if_pos rfl]) (by grind) (by omega) (by grind) (fun b _=>cC b)
  (fun b hb=>.inr ⟨id,C,rfl,hC,by
   simp only[C',zZ.fp,List.filterMap_nil,List.append_nil] at hb;rw[ff];exact hb⟩)
  (fun x=>by
   refine⟨rfl,rfl,(by grind),?_⟩;have:=hx _ x rfl rfl;show match C.blk with
    |none=>_
    |some B=>_
   cases hB:C.blk with
   |none=>simp_all
   |some B=>
    rw[hB] at this;obtain⟨vals,e,h1,h2,h3⟩:=this;exact⟨vals,e,h1,by simp,h2,h3⟩)
 refine⟨_,hw.2.1,hw.2.2.1,hw.2.2.2,by rw[hw.1];rfl,rfl,this.1,this.2,C',κset_same _ _ _,_,c,rfl,?_⟩;show match C.blk with
  |none=>_
  |some B=>_
 cases hB:C.blk with
 |none=>rw[hB] at hA;exact hA
 |some B=>
  rw[hB] at hA;obtain⟨h1,a,h2,h3,h4⟩:=hA;refine⟨h1,a,h2,by simpa using h3,?_⟩;show(0+c)*t.size≤qP H' B;simp_all
theorem Oq {P M w}(ok:Ok M)(hM:M.H=w.heap){id nm t fB zs C H' s c A w'}
  (ah:M.h id=some (.arr true t fB)) (hC:M.κ id=some C) (aO:M.h nm=none) (dA:H'.size=M.H.size) (hH:∀b,b∉C.fp→H'[b]? =M.H[b]?) (cC:∀b,qP H' b=qP M.H b)
  (hx:∀M',yD M M'→M'.H=H'→M'.G=M.G→match C.blk with
   |none=>zs=[]
   |some B=>∃vals e,H'[B]? =some (.cells vals e (0,0))∧zs.length*t.size≤vals.size∧∀i h,qB M'.H M'.G t zs[i] (fun j=>vals[i*t.size+j]?))
  (hA:match C.blk with
   |none=>A=none∧zs.length=0∧c=0
   |some B=>zs.length≤c∧∃a,A=some ⟨B,a,none⟩∧(c=0∨a=0)∧c*t.size≤qP M.H B)
  (hw:w'.heap=H'∧w'.os=w.os∧w'.tape=w.tape∧w'.output=w.output) (hr:s.run P w=.ok (.slice A zs.length c) w'):
  qH P s M w (.c (.osl nm none)) [(id,.gone),(nm,.arr true t zs)]:=
 (Zb ok hM ah hC aO dA hH cC hx hA hw).runs hr
theorem EA {n b}(h:(Nat.ble (n*b) 140737488355328&&Nat.ble n 140737488355328)=true):n*b≤140737488355328∧n≤140737488355328:=by
 simp_all
theorem Ot {H H' F F'}:∀t x rd,t.flat=true→qB H F t x rd→qB H' F' t x rd
 |.int k,n,rd,_,h
 |.bool,n,rd,_,h=>h
 |.pair a b,p,rd,hf,h=>by
  simp[Ty.flat] at hf;exact⟨Ot a _ _ hf.1 h.1,Ot b _ _ hf.2 h.2⟩
theorem Zc {M:zI}{sh s}{xs:List s.den}{v}(hs:(sh||s.flat)=true)(hv:qB M.H (bif sh then M.G else M.F) (.sl s) xs (fun _=>some v)):
  ∃news,Rd M.H v xs.length s.size news∧∀i hi,qB M.H M.G s xs[i] (fun j=>news[i*s.size+j]?):=by
 obtain⟨news,h1,h2⟩:=Om hv;refine⟨news,h1,fun i hi=>?_⟩;cases sh with
 |true=>simp_all
 |false=>exact Ot _ _ _ hs (h2 i hi)
theorem Zd {M}(ok:Ok M){t x ys u v}(hv:zQ M x v)(h:o0 M.h t x=some (ys,u)):
  u=[]∧∃news,Rd M.H v ys.length t.size news∧∀i hi,qB M.H M.G t ys[i] (fun j=>news[i*t.size+j]?):=by
 unfold o0 at h;split at h
 ·cases h;have e:v=.slice none 0 0:=hv;subst e;exact⟨rfl,Ey⟩
 ·rename_i sh s xs;cases hs:(sh||s.flat) with
  |false=>simp_all
  |true=>
   rw[hs] at h;simp  at h;obtain⟨zs,hz,rfl,rfl⟩:=h;obtain⟨e,hz⟩:=iO hz;subst e;subst hz;exact⟨rfl,Zc hs hv⟩
 ·rename_i sh s xs;cases hs:(sh||s.flat) with
  |false=>rw[hs] at h;cases h
  |true=>
   rw[hs] at h;simp  at h;obtain⟨zs,hz,rfl,rfl⟩:=h;obtain⟨e,hz⟩:=iO hz;subst e;subst hz;exact⟨rfl,Zc hs hv.2⟩
 ·split at h
  ·rename_i own s xs ah;simp  at h;obtain⟨zs,hz,rfl,rfl⟩:=h;obtain⟨e,hz⟩:=iO hz;subst e;subst hz;obtain⟨C,hC,hO⟩:=ok.obj _ _ ah;exact⟨rfl,uG hC hO hv⟩
  ·cases h
 ·cases h
theorem vGt {P M w}(ok:Ok M)(hM:M.H=w.heap){nm t e T ty x ys news}(hu:P.underlying t=some (.slice e))(dh:gW P e=some ty)(aO:M.h nm=none)
  (hx:Rd M.H x ys.length ty.size news) (hE:∀i hi,qB M.H M.G ty ys[i] (fun j=>news[i*ty.size+j]?)) (aS:ys.length*P.bytesOf e≤140737488355328∧ys.length≤140737488355328):
  qH P (Builtin.append_ #[t,t] T #[.slice none 0 0,x]) M w (.c (.osl nm none)) [(nm,.arr true ty ys)]:=by
 obtain⟨i,z,h1,h2,h3,h4,h5,h6,h7⟩:=nJ dh;by_cases h0:ys.length=0
 ·have hy:ys=[]:=by grind
  subst hy;have hr:=nK (P:=P) (w:=w) (A:=none) (sLen:=0) (sCap:=0) T hu h1 h3 (by rw[←hM];exact hx) (by simp) w rfl;let C:zZ:=⟨none,0,ty.size,0,[]⟩;have:=zI.move_ok (M:=M) (nm:=nm) (o':=.arr true ty []) (C':=C) (h':=qW M.h nm (.arr true ty [])) (H':=M.H) ok (fun _=>False) aO (by simp) (yG _ _ _)
   (fun n' _ h2=>yI _ _ h2) (by simp) (by simp) (by simp) (nofun) (fun x=>⟨rfl,rfl,by grind,rfl⟩)
  exact⟨_,_,M.move nm C (qW M.h nm (.arr true ty [])) M.H,hr,rfl,rfl,rfl,hM,rfl,this.1,this.2,C,κset_same _ _ _,_,_,rfl,rfl,rfl,rfl⟩
 ·have hb:Rd w.heap (.slice none 0 0) 0 ty.size []:=⟨none,0,rfl,by simp,by simp,rfl⟩;have hr:=On (P:=P) (w:=w) T hu h1 h2 h3 hb (by rw[←hM];exact hx) (by omega) (by simp_all) (by omega);simp  at hr;have hlen:news.length=ys.length*ty.size:=hx.choose_spec.choose_spec.2.1;have lN:=grownCap_ge w ys.length 0 e;refine Za (u:=[]) ok hM aO (by simp) lN ?_ (fun i hi=>?_) hr ⟨rfl,rfl,rfl,rfl⟩
  ·simp[zn,h7,hlen,←Nat.add_mul];simp_all
  ·refine yR (by simp) (by simp) ty _ _ _ (fun j hj=>?_) (hE i hi);have:=Nat.mul_le_mul_right ty.size (show i+1≤ys.length by omega);grind
theorem Ou {P}{M w}(ok:Ok M)(hM:M.H=w.heap){id nm t e T ty x b fB ys r news}(hu:P.underlying t=some (.slice e))(dh:gW P e=some ty)
  (aO:M.h nm=none) (ah:M.h id=some (.arr true ty fB)) (hb:zQ M (.osl id r) b) (pt:match r with|none=>True|some (lo,_)=>lo=0)
  (hx:Rd M.H x ys.length ty.size news) (hE:∀i hi,qB M.H M.G ty ys[i] (fun j=>news[i*ty.size+j]?))
  (aS:((gA fB r).length+ys.length)*P.bytesOf e≤140737488355328∧(gA fB r).length+ys.length≤140737488355328):
  qH P (Builtin.append_ #[t,t] T #[b,x]) M w (.c (.osl nm none)) [(id,.gone),(nm,.arr true ty (gA fB r++ys))]:=by
 obtain⟨i,z,h1,h2,h3,h4,h5,h6,h7⟩:=nJ dh;obtain⟨C,hC,hO⟩:=ok.obj id _ ah;obtain⟨olds,ho,hEo⟩:=uG hC hO hb;have hlen:news.length=ys.length*ty.size:=hx.choose_spec.choose_spec.2.1;have kx:olds.length=(gA fB r).length*ty.size:=ho.choose_spec.choose_spec.2.1;obtain⟨C',aw,hS⟩:=hb;rw[hC] at aw;cases aw;have lS:∃n,(gA fB r).length=n∧wG M.H C 0 n b:=by
  cases r with
  |none=>exact⟨C.len,by rw[hO.1];rfl,hS⟩
  |some p=>
   obtain⟨lo,n⟩:=p;have:lo=0:=pt;subst this;exact⟨n,yz (by have:=hO.1;have:=hS.1;omega),hS.2.1⟩
 obtain⟨n,hn,A,sCap,rfl,lS⟩:=lS;rw[hn] at kx ho aS;have bb:=Oo (H:=M.H) (F:=M.G) (t:=ty) (xs:=gA fB r) (ys:=ys) (olds:=olds) (news:=news) (by rw[hn];exact kx) hEo hE;have nM:(gA fB r++ys).length=n+ys.length:=by rw[List.length_append,hn]
 by_cases cE:n+ys.length≤sCap
 ·
  cases hB:C.blk with
  |none=>
   rw[hB] at lS;obtain⟨rfl,rfl,rfl⟩:=lS;have hr:=nK (P:=P) (w:=w) (A:=none) (sLen:=0) (sCap:=0) T hu h1 h3 (by rw[←hM];exact hx) cE w rfl;rw[←nM] at hr;refine Oq (s:=Builtin.append_ #[t,t] T #[.slice none 0 0,x]) (H':=M.H) ok hM ah hC aO rfl (fun _ _=>rfl) (fun _=>rfl) (fun M' _ _ _=>?_) ?_ ⟨hM.symm,rfl,rfl,rfl⟩ hr
   ·rw[hB];exact List.eq_nil_of_length_eq_zero (by omega)
   ·rw[hB];exact⟨rfl,by omega,rfl⟩
  |some B=>
   rw[hB] at lS;obtain⟨hc,a,rfl,ha,hs⟩:=lS;obtain⟨k1,k2,k3,k4⟩:=hO;rw[hB] at k4;obtain⟨vals,ev,k5,k6,k7,k8⟩:=k4;rw[Nat.zero_mul] at ha;rw[Nat.zero_add,k2] at hs;have cC:qP M.H B=vals.size:=by simp only[qP,k5]
   rw[cC] at hs;have gF:w.heap[B]? =some (.cells vals ev (0,0)):=by rw[←hM];exact k5
   by_cases h0:sCap=0
   ·
    have EB:n=0:=by omega
    have Ov:ys.length=0:=by omega
    have hr := nK (P := P) (w := w) (A := some ⟨B, a, none⟩) (sLen := n) (sCap := sCap) T hu h1 h3 (by rw [← hM]; exact hx) cE w (by
     have:news=[]:=List.eq_nil_of_length_eq_zero (by rw[hlen,Ov,Nat.zero_mul]);rw[this];rfl)
    rw[←nM] at hr;have I6:gA fB r++ys=[]:=List.eq_nil_of_length_eq_zero (by omega);refine Oq (s:=Builtin.append_ #[t,t] T #[.slice (some ⟨B,a,none⟩) n sCap,x]) (H':=M.H) ok hM ah hC aO rfl (fun _ _=>rfl) (fun _=>rfl) (fun M' _ _ _=>?_) ?_ ⟨hM.symm,rfl,rfl,rfl⟩ hr
    ·rw[hB];refine⟨vals,ev,k5,by rw[I6];simp,fun i hi=>?_⟩;rw[I6] at hi;simp at hi
    ·rw[hB];exact⟨by omega,a,rfl,.inl h0,by rw[h0];simp⟩
   ·have kV:a=0:=by rcases ha with ha|ha<;>omega
    subst kV;have hle:=Nat.mul_le_mul_right ty.size cE;rw[Nat.add_mul] at hle;have aG:n*ty.size+news.length≤vals.size:=by omega
    have gC:=run_storeCells_at (P:=P) B (n*ty.size) ev news 0 vals w gF (by simpa using aG) (fun v hv=>uu (hx.choose_spec.choose_spec.2.2.1 v hv));simp only[Nat.add_zero] at gC;have hr:=nK (P:=P) (w:=w) (A:=some ⟨B,0,none⟩) (sLen:=n) (sCap:=sCap) T hu h1 h3 (by rw[←hM];exact hx) cE (w.setRow B (yK vals (n*ty.size) news)) (by show(storeCells (Addr.add ⟨B,0,none⟩ (n*ty.size)) news).run P w=_;rw[Addr.add_lit,Nat.zero_add];exact gC);rw[←nM] at hr;obtain⟨f1,f2,f3,f4⟩:=lP gF (new:=yK vals (n*ty.size) news) (eZ aG);refine Oq (s:=Builtin.append_ #[t,t] T #[.slice (some ⟨B,0,none⟩) n sCap,x]) (H':=(w.setRow B (yK vals (n*ty.size) news)).heap) ok hM ah hC aO (by rw[hM];exact f1)
     (fun b hb=>by rw[hM];exact f3 b fun e=>hb (e▸jT hB)) (fun b=>by rw[hM];exact f4 b) (fun M' xt hH hG=>?_) ?_ ⟨rfl,rfl,rfl,rfl⟩ hr
    ·rw[hB];refine⟨_,ev,f2,by rw[nM,eZ aG,Nat.add_mul];omega,fun i hi=>?_⟩;refine yR xt.G xt.sameG ty _ _ _ (fun j hj=>?_) (bb i hi);have aU:=Nat.mul_le_mul_right ty.size (show i+1≤n+ys.length by omega);rw[Nat.add_mul,Nat.add_mul] at aU;rw[wP aG];by_cases bn:i*ty.size+j<n*ty.size
     ·rw[if_pos bn,List.getElem?_append_left (by omega)];obtain⟨A',c',e1,_,_,hold⟩:=ho;simp only[Value.slice.injEq] at e1;obtain⟨rfl,_,rfl⟩:=e1;rcases hold with EB|⟨_,hold⟩
      ·rw[EB] at bn;omega
      ·have uH:i*ty.size+j<olds.length:=by omega
       have:=hold (i*ty.size+j) olds[i*ty.size+j] (List.getElem?_eq_getElem uH);rw[List.getElem?_eq_getElem uH,←this];simp only[yH,k5,Nat.zero_add]
     ·rw[if_neg bn,if_pos (by omega),List.getElem?_append_right (by omega),kx]
    ·rw[hB];exact by grind
 ·
  have hr:=On (P:=P) (w:=w) T hu h1 h2 h3 (by rw[←hM];exact ho) (by rw[←hM];exact hx) (by omega) (by rw[h6] at aS;exact aS.1) aS.2;have lN:=grownCap_ge w (n+ys.length) sCap e;rw[←nM] at hr lN;refine Za (s:=Builtin.append_ #[t,t] T #[.slice A n sCap,x]) (u:=[(id,.gone)]) ok hM aO (fun p hp=>?_) lN ?_ (fun i hi=>?_) hr ⟨rfl,rfl,rfl,rfl⟩
  ·simp only[List.mem_singleton] at hp;subst hp;exact⟨rfl,_,ah,rfl⟩
  ·simp only[Array.size_append,List.size_toArray,zn,h7,hlen,kx,←Nat.add_mul];exact Nat.le_of_eq (by congr 1;omega)
  ·refine yR (fun _ h=>h) (fun _ _=>rfl) ty _ _ _ (fun j hj=>?_) (bb i hi);have:=Nat.mul_le_mul_right ty.size (show i+1≤n+ys.length by omega);rw[Nat.add_mul,Nat.add_mul] at this;rw[Array.getElem?_append_left (by simp;omega)];simp
def zo (H:Array Go.Obj)(row:List Int)(m:Option (Option Nat×Nat))(c:Option Value):Prop:=∃rb v,m=some (rb,row.length)∧c=some v∧kk H rb row.length v∧
 (∀R,rb=some R→∃rv er,H[R]? =some (.cells rv er (0,0))∧∀j (h':j<row.length),rv[j]? =some (.int .i64 row[j]))
theorem Ze {M ver xs C}(h:yP M (.mat ver xs) C):C.len=xs.length∧C.sz=1∧C.rows.length=xs.length∧C.fp.Nodup∧
  ∃cw:List Value,cw.length=xs.length∧(∀k (h:k<xs.length),zo M.H xs[k] C.rows[k]? cw[k]?)∧
   (match C.blk with
    |none=>xs=[]
    |some B=>∃vals e,M.H[B]? =some (.cells vals e (0,0))∧xs.length≤vals.size∧∀k,k<xs.length→vals[k]? =cw[k]?):=by
 obtain⟨h1,h2,h3,h4,h5,h6⟩:=h;refine⟨h2,h3,h4,h5,?_⟩;cases hB:C.blk with
 |none=>
  simp_all
 |some B=>
  rw[hB] at h6;obtain⟨vals,e,h7,h8,h9⟩:=h6;refine⟨vals.toList.take xs.length,by simp;omega,fun k hk=>?_,vals,e,h7,h8,by grind⟩;obtain⟨rb,v,k1,k2,k3,k4⟩:=h9 k hk;exact⟨rb,v,k1,by grind,k3,k4⟩
theorem zo.one {H row m v}(h:zo H row m (some v)):v.one1=true:=by
 obtain⟨rb,v',_,e,h,_⟩:=h;cases e;exact h.one
theorem Zf {M}{xs:List (List Int)}{C id v}(hC:M.κ id=some C)(hv:zQ M (.osl id none) v){cw}(hl:cw.length=xs.length)(hlen:C.len=xs.length)(dA:C.sz=1)
  (cc : ∀ u ∈ cw, u.one1 = true) (hb:match C.blk with
    |none=>xs=[]
    |some B=>∃vals e,M.H[B]? =some (.cells vals e (0,0))∧xs.length≤vals.size∧∀k,k<xs.length→vals[k]? =cw[k]?):Rd M.H v xs.length 1 cw:=by
 obtain⟨C',aw,A,c,rfl,hS⟩:=hv;rw[hC] at aw;cases aw;rw[hlen];refine⟨A,c,rfl,by omega,cc,?_⟩;cases hB:C.blk with
 |none=>
  simp_all
 |some B=>
  rw[hB] at hS hb;obtain⟨hc,a,rfl,ha,_⟩:=hS;obtain⟨vals,e,h1,h2,h3⟩:=hb;by_cases h0:xs.length=0
  ·omega
  ·refine .inr ⟨rfl,fun j u hu=>?_⟩;have kV:a=0:=by omega
   have hj:j<xs.length:=by
    grind
   simp[yH];simp_all
theorem Zg {C D:zZ}(hC:C.fp.Nodup)(hD:D.fp.Nodup)(dE:∀b,b∈C.fp→b∉D.fp):((C.rows++D.rows).filterMap (·.1)).Nodup:=by
 rw[List.filterMap_append];refine List.nodup_append.2 ⟨(List.nodup_append.1 hC).2.1,(List.nodup_append.1 hD).2.1,fun a ha b hb e=>?_⟩;exact dE a (by simp[zZ.fp];simp_all) (by simp[zZ.fp];simp_all)
theorem I9 {P M w w'}(ok:Ok M)(hM:M.H=w.heap){id jd nm v1 v2 xs ys C Cj C' s A c H'}
  (ah:M.h id=some (.mat v1 xs)) (cM:M.h jd=some (.mat v2 ys)) (bh:id≠jd) (hC:M.κ id=some C) (dO:M.κ jd=some Cj) (aO:M.h nm=none) (dA:M.H.size≤H'.size)
  (hH:∀b,b<M.H.size→C.blk≠some b→H'[b]? =M.H[b]?) (cC:∀b,b<M.H.size→qP H' b=qP M.H b)
  (hl:C'.len=(xs++ys).length) (zp:C'.sz=1) (uI:C'.ver=0) (ky:C'.rows=C.rows++Cj.rows) (Ow:∀B,C'.blk=some B→(M.H.size≤B∧B<H'.size)∨C.blk=some B)
  (hx:match C'.blk with
   |none=>xs++ys=[]
   |some B=>∃vals e,H'[B]? =some (.cells vals e (0,0))∧(xs++ys).length≤vals.size∧∀k (h:k<(xs++ys).length),zo M.H (xs++ys)[k] (C.rows++Cj.rows)[k]? vals[k]?)
  (hA:wG H' C' 0 C'.len (.slice A (xs++ys).length c))
  (hw:w'.heap=H'∧w'.os=w.os∧w'.tape=w.tape∧w'.output=w.output) (hr:s.run P w=.ok (.slice A (xs++ys).length c) w'):
  qH P s M w (.c (.osl nm none)) [(id,.gone),(jd,.gone),(nm,.mat 0 (xs++ys))]:=by
 obtain⟨C0,nL,hO⟩:=ok.obj id _ ah;rw[hC] at nL;cases nL;obtain⟨C1,fU,kW⟩:=ok.obj jd _ cM;rw[dO] at fU;cases fU;have Ox:=hO.2.2.2.2.1;have Zh:=kW.2.2.2.2.1;have dE:∀b,b∈C.fp→b∉Cj.fp:=fun b h1 h2=>ok.disj id jd _ _ C Cj b bh ah cM rfl rfl hC dO h1 h2
 have Ja:id≠nm:=by grind
 have hnj:jd≠nm:=by grind
 have hh:∀n',(qF M.h [(id,.gone),(jd,.gone),(nm,.mat 0 (xs++ys))]) n'=if n'=nm then some (.mat 0 (xs++ys)) else if n'=jd then some .gone else if n'=id then some .gone else M.h n':=fun n'=>by
  show(qW (qW (qW M.h id .gone) jd .gone) nm _) n'=_;by_cases e:n'=nm
  ·rw[if_pos e,e,yG]
  ·rw[if_neg e,yI _ _ e];by_cases e2:n'=jd
   ·rw[if_pos e2,e2,yG]
   ·rw[if_neg e2,yI _ _ e2];by_cases e3:n'=id
    ·rw[if_pos e3,e3,yG]
    ·rw[if_neg e3,yI _ _ e3]
 have EC:∀b∈C.fp,b<M.H.size:=fun b hb=>(ok.own b ⟨id,_,C,ah,rfl,hC,hb⟩).2
 have ED:∀b∈Cj.fp,b<M.H.size:=fun b hb=>(ok.own b ⟨jd,_,Cj,cM,rfl,dO,hb⟩).2
 have dD:∀R∈(C.rows++Cj.rows).filterMap (·.1),R∈C.fp∧C.blk≠some R∨R∈Cj.fp:=fun R hR=>by
  rw[List.filterMap_append] at hR;rcases List.mem_append.1 hR with h|h
  ·refine .inl ⟨by simp only[zZ.fp,List.mem_append];exact .inr h,fun e=>?_⟩;exact(List.nodup_append.1 Ox).2.2 R (by simp[e]) R h rfl
  ·exact .inr (by simp only[zZ.fp,List.mem_append];exact .inr h)
 have EE:∀R∈(C.rows++Cj.rows).filterMap (·.1),R<M.H.size∧C.blk≠some R:=fun R hR=>by
  rcases dD R hR with⟨h1,h2⟩|h
  ·exact⟨EC R h1,h2⟩
  ·exact⟨ED R h,fun e=>dE R (jT e) h⟩
 have nd':C'.fp.Nodup:=by
  simp only[zZ.fp,ky];cases hB:C'.blk with
  |none=>simpa using Zg Ox Zh dE
  |some B=>
   simp only[Option.toList_some,List.singleton_append];refine List.nodup_cons.2 ⟨fun hm=>?_,Zg Ox Zh dE⟩;grind
 have:=zI.move_ok (M:=M) (nm:=nm) (o':=.mat 0 (xs++ys)) (C':=C') (h':=qF M.h [(id,.gone),(jd,.gone),(nm,.mat 0 (xs++ys))]) (H':=H') ok (fun j=>j=id∨j=jd) aO
  (fun j hj=>by
   rcases hj with rfl|rfl
   ·exact⟨_,ah,rfl,by rw[hh,if_neg Ja,if_neg bh,if_pos rfl]⟩
   ·exact⟨_,cM,rfl,by rw[hh,if_neg hnj,if_pos rfl]⟩)
  (by rw[hh,if_pos rfl]) (fun n' h1 h2=>by rw[hh,if_neg h2,if_neg (fun e=>h1 (.inr e)),if_neg (fun e=>h1 (.inl e))]) dA
  (fun b hb hn=>hH b hb fun e=>hn id C (.inl rfl) hC (jT e)) cC
  (fun b hb=>by
   simp only[zZ.fp,ky,List.mem_append] at hb;rcases hb with hb|hb
   ·cases hB:C'.blk with
    |none=>rw[hB] at hb;simp at hb
    |some B=>
     rw[hB] at hb;simp at hb;subst hb;rcases Ow b hB with h|h
     ·exact .inl h
     ·exact .inr ⟨id,C,.inl rfl,hC,jT h⟩
   simp_all)
  (fun x=>by
   refine⟨uI,hl,zp,?_,nd',?_⟩
   ·rw[ky,List.length_append,hO.2.2.2.1,kW.2.2.2.1,List.length_append]
   ·cases hB:C'.blk with
    |none=>rw[hB] at hx;exact hx
    |some B=>
     rw[hB] at hx;obtain⟨vals,e,k1,k2,k3⟩:=hx;refine⟨vals,e,k1,k2,fun k hk=>?_⟩;obtain⟨rb,v,q1,q2,q3,q4⟩:=k3 k hk;refine⟨rb,v,by rw[ky];exact q1,q2,q3.ext x,fun R hR=>?_⟩;obtain⟨rv,er,q5,q6⟩:=q4 R hR;have Zi:=EE R (List.mem_filterMap.2 ⟨_,List.mem_of_getElem? q1,hR⟩);exact⟨rv,er,by show H'[R]? =_;rw[hH R Zi.1 Zi.2];exact q5,q6⟩)
 exact⟨_,_,M.move nm C' (qF M.h [(id,.gone),(jd,.gone),(nm,.mat 0 (xs++ys))]) H',hr,hw.2.1,hw.2.2.1,hw.2.2.2,hw.1.symm,rfl,this.1,this.2,C',κset_same _ _ _,by rw[hl] at hA⊢;exact hA⟩
theorem Oy {H}{xs:List (List Int)}{rc:List (Option Nat×Nat)}{cw:List Value}(hl:cw.length=xs.length)(h:∀k (h:k<xs.length),zo H xs[k] rc[k]? cw[k]?):∀u∈cw,u.one1=true:=by
 intro u hu;obtain⟨k,hk,rfl⟩:=List.getElem_of_mem hu;have:=h k (by omega);rw[List.getElem?_eq_getElem hk] at this;exact this.one
theorem vPw {P M w}(ok:Ok M)(hM:M.H=w.heap){id jd nm v1 v2 t e T x b xs ys}(hu:P.underlying t=some (.slice e))(dh:gW P e=some (.sl (.int .i64)))
  (aO:M.h nm=none) (ah:M.h id=some (.mat v1 xs)) (cM:M.h jd=some (.mat v2 ys)) (bh:id≠jd) (hb:zQ M (.osl id none) b) (hx:zQ M (.osl jd none) x)
  (aS:(xs.length+ys.length)*P.bytesOf e≤140737488355328∧xs.length+ys.length≤140737488355328):
  qH P (Builtin.append_ #[t,t] T #[b,x]) M w (.c (.osl nm none)) [(id,.gone),(jd,.gone),(nm,.mat 0 (xs++ys))]:=by
 obtain⟨i,z,h1,h2,h3,h4,h5,h6,h7⟩:=nJ dh;obtain⟨C,hC,hO⟩:=ok.obj id _ ah;obtain⟨Cj,dO,kW⟩:=ok.obj jd _ cM;obtain⟨a1,a2,a3,a4,olds,a5,a6,a7⟩:=Ze hO;obtain⟨b1,b2,b3,b4,news,b5,b6,b7⟩:=Ze kW;have ho:=Zf hC hb a5 a1 a2 (Oy a5 a6) a7;have hn:=Zf dO hx b5 b1 b2 (Oy b5 b6) b7;have nM:(xs++ys).length=xs.length+ys.length:=List.length_append;have cc:=Oy b5 b6;have bb:∀k (h:k<(xs++ys).length),zo M.H (xs++ys)[k] (C.rows++Cj.rows)[k]? (olds++news)[k]? :=by
  intro k hk;by_cases bn:k<xs.length
  ·rw[List.getElem_append_left bn,List.getElem?_append_left (by omega),List.getElem?_append_left (by omega)];exact a6 k bn
  ·rw[List.getElem_append_right (by omega),List.getElem?_append_right (by omega),List.getElem?_append_right (by omega),a3,a5];exact b6 _ (by omega)
 obtain⟨C',aw,A,sCap,rfl,lS⟩:=hb;rw[hC] at aw;cases aw;rw[a1] at ho lS;have pw:i.size=1:=h3;have Od:z.cells.size=1:=h7;by_cases cE:xs.length+ys.length≤sCap
 ·cases hB:C.blk with
  |none=>
   rw[hB] at lS;obtain⟨rfl,h0,rfl⟩:=lS;have hr:=nK (P:=P) (w:=w) (A:=none) (sLen:=xs.length) (sCap:=0) T hu h1 pw (by rw[←hM];exact hn) cE w rfl;rw[←nM] at hr;have cA:xs++ys=[]:=List.eq_nil_of_length_eq_zero (by omega);rw[a1];refine I9 (C':=⟨none,(xs++ys).length,1,0,C.rows++Cj.rows⟩) (H':=M.H) ok hM ah cM bh hC dO aO (Nat.le_refl _) (fun _ _ _=>rfl) (fun _ _=>rfl) rfl rfl rfl rfl (fun B hB=>by cases hB) cA ⟨none,0,rfl,rfl,(by show(xs++ys).length=0;omega),rfl⟩ ⟨hM.symm,rfl,rfl,rfl⟩ hr
  |some B=>
   rw[hB] at lS a7;obtain⟨hc,a,rfl,ha,hs⟩:=lS;obtain⟨vals,ev,k5,k6,k7⟩:=a7;rw[Nat.zero_mul] at ha;rw[Nat.zero_add,a2,Nat.mul_one] at hs;have cC:qP M.H B=vals.size:=by simp only[qP,k5]
   rw[cC] at hs;have gF:w.heap[B]? =some (.cells vals ev (0,0)):=by rw[←hM];exact k5
   by_cases h0:sCap=0
   ·have hr := nK (P := P) (w := w) (A := some ⟨B, a, none⟩) (sLen := xs.length) (sCap := sCap) T hu h1 pw (by rw [← hM]; exact hn) cE w (by
     have:news=[]:=List.eq_nil_of_length_eq_zero (by omega);rw[this];rfl)
    rw[←nM] at hr;have cA:xs++ys=[]:=List.eq_nil_of_length_eq_zero (by omega);rw[a1];refine I9 (C':=⟨some B,(xs++ys).length,1,0,C.rows++Cj.rows⟩) (H':=M.H) ok hM ah cM bh hC dO aO (Nat.le_refl _) (fun _ _ _=>rfl) (fun _ _=>rfl) rfl rfl rfl rfl (fun B' hZ=>.inr (by cases hZ;exact hB))
     ⟨vals,ev,k5,by rw[cA];simp,fun k hk=>by rw[cA] at hk;simp at hk⟩ ⟨_,sCap,rfl,(by show(xs++ys).length≤sCap;omega),a,rfl,.inl h0,by rw[h0];simp⟩ ⟨hM.symm,rfl,rfl,rfl⟩ hr
   ·have kV:a=0:=by rcases ha with ha|ha<;>omega
    subst kV;have aG:xs.length+news.length≤vals.size:=by omega
    have gC:=run_storeCells_at (P:=P) B xs.length ev news 0 vals w gF (by simpa using aG) (fun v hv=>uu (cc v hv));simp only[Nat.add_zero] at gC;have hr:=nK (P:=P) (w:=w) (A:=some ⟨B,0,none⟩) (sLen:=xs.length) (sCap:=sCap) T hu h1 pw (by rw[←hM];exact hn) cE (w.setRow B (yK vals xs.length news))
     (by show(storeCells (Addr.add ⟨B,0,none⟩ (xs.length*1)) news).run P w=_;rw[Addr.add_lit,Nat.zero_add,Nat.mul_one];exact gC)
    rw[←nM] at hr;obtain⟨f1,f2,f3,f4⟩:=lP gF (new:=yK vals xs.length news) (eZ aG);rw[a1];refine I9 (C':=⟨some B,(xs++ys).length,1,0,C.rows++Cj.rows⟩) (H':=(w.setRow B (yK vals xs.length news)).heap) ok hM ah cM bh hC dO aO (by rw[hM,f1];exact Nat.le_refl _) (fun b hb hn=>by rw[hM];exact f3 b fun e=>hn (e▸hB))
     (fun b _=>by rw[hM];exact f4 b) rfl rfl rfl rfl (fun B' hZ=>.inr (by cases hZ;exact hB)) ⟨_,ev,f2,by rw[eZ aG];omega,fun k hk=>?_⟩ ⟨_,sCap,rfl,(by show(xs++ys).length≤sCap;omega),0,rfl,.inr (by simp),by show(0+sCap)*1≤qP _ B;rw[f4,←hM,cC];omega⟩ ⟨rfl,rfl,rfl,rfl⟩ hr
    have:=bb k hk;rw[wP aG];by_cases bn:k<xs.length
    ·rw[if_pos bn,k7 k bn];rw[List.getElem?_append_left (l₁:=olds) (by omega)] at this;exact this
    ·rw[if_neg bn,if_pos (by omega)];rw[List.getElem?_append_right (l₁:=olds) (by omega),a5] at this;exact this
 ·have hr:=On (P:=P) (w:=w) T hu h1 h2 pw (by rw[←hM];exact ho) (by rw[←hM];exact hn) (by omega) (by rw[h6] at aS;exact aS.1) aS.2;have lN:=grownCap_ge w (xs.length+ys.length) sCap e;rw[←nM] at hr lN;generalize lO:olds.toArray++news.toArray++Builtin.zeroCells z.cells (grownCap w (xs++ys).length sCap e-(xs++ys).length)=us at hr;have Oz:us.size=grownCap w (xs++ys).length sCap e:=by
   rw[←lO];simp only[Array.size_append,List.size_toArray,zn,Od];omega
  have OA:∀k,k<(xs++ys).length→us[k]? =(olds++news)[k]? :=fun k hk=>by
   rw[←lO,Array.getElem?_append_left (by simp;omega)];simp
  have hbz:∀us:Array Value,qP (M.H.push (.cells us e)) M.H.size=us.size:=fun us=>by simp[qP]
  rw[a1];refine I9 (C':=⟨some M.H.size,(xs++ys).length,1,0,C.rows++Cj.rows⟩) (H':=M.H.push (.cells us e)) (w':=w.drew.alloc (.cells us e)) ok hM ah cM bh hC dO aO (by simp) (fun b hb _=>my hb) (fun b hb=>yu (my hb)) rfl rfl rfl rfl
   (fun B' hZ=>.inl (by cases hZ;exact⟨Nat.le_refl _,by simp⟩)) ⟨us,e,ur,by omega,fun k hk=>?_⟩ ⟨_,_,rfl,lN,0,by rw[hM],.inr (by simp),(by rw[hbz,Oz];show(0+_)*1≤_;omega)⟩ ⟨(by rw[hM];rfl),rfl,rfl,rfl⟩ hr
  rw[OA k hk];exact bb k hk
theorem uJ {c s v u}(h:yE (bif c then s else .stuck) v u):c=true∧yE s v u:=by
 cases c with
 |true=>simp_all
 |false=>exact h.elim
theorem Zj {c a b v u}(h:yE (bif c then a else b) v u):(c=true∧yE a v u)∨(c=false∧yE b v u):=by
 grind
theorem Zk {z:Value}{t}(h:z.cells.toList=fy t)(hs:z.cells.size=t.size){n i j}(hj:j<t.size)(hi:i<n):(Builtin.zeroCells z.cells n).toList[i*t.size+j]? =(fy t)[j]? :=by
 have aU:=Nat.mul_le_mul_right t.size (show i+1≤n by omega);rw[List.getElem?_eq_getElem (l:=fy t) (by grind),←YV h hs (i:=i) hj];simp[Builtin.zeroCells];grind
theorem vJg {z:Value}{t}(h:z.cells.toList=fy t)(hs:z.cells.size=t.size){n}:∀v∈(Builtin.zeroCells z.cells n).toList,v.one1=true:=by
 intro v hv;have hz:∀u∈fy t,u.one1=true:=by
  clear h hs hv
  induction t with
  |pair a b zi zj=>
   intro u hu;rcases List.mem_append.1 hu with hu|hu
   all_goals simp_all
  |_=>
   intro u hu;rw[List.mem_singleton.1 hu];rfl
 obtain⟨k,hk,rfl⟩:=List.getElem_of_mem hv;have IY:k<n*t.size:=by rw[Array.length_toList,zn,hs] at hk;exact hk
 have h0:=t.size_pos;have := Zk h hs (n := n) (i := k / t.size) (j := k % t.size) (Nat.mod_lt _ h0) (by
  rw[Nat.div_lt_iff_lt_mul h0];omega)
 rw[Nat.div_add_mod' k t.size,List.getElem?_eq_getElem hk,List.getElem?_eq_getElem (by grind),Option.some.injEq] at this;simp_all
theorem OB {P}{M:zI}{w:World}(ok:Ok M)(hM:M.H=w.heap){id nm n':Nat}{t:Ty}{fB zs}{C:zZ}{H'}{s:Sem Value}{c:Nat}{A:Option Addr}{w':World}
  (ah:M.h id=some (.arr true t fB)) (hC:M.κ id=some C) (aO:M.h nm=none) (dA:H'.size=M.H.size) (hH:∀b,b∉C.fp→H'[b]? =M.H[b]?) (cC:∀b,qP H' b=qP M.H b)
  (hx:∀M',yD M M'→M'.H=H'→M'.G=M.G→match C.blk with
   |none=>zs=[]
   |some B=>∃vals e,H'[B]? =some (.cells vals e (0,0))∧zs.length*t.size≤vals.size∧∀i (h:i<zs.length),qB M'.H M'.G t zs[i] (fun j=>vals[i*t.size+j]?))
  (hn : n' ≤ zs.length) (hc : zs.length ≤ c) (hA:match C.blk with
   |none=>A=none∧n'=0∧c=0
   |some B=>∃a,A=some ⟨B,a,none⟩∧(c=0∨a=0)∧c*t.size≤qP M.H B)
  (hw:w'.heap=H'∧w'.os=w.os∧w'.tape=w.tape∧w'.output=w.output) (hr:s.run P w=.ok (.slice A n' c) w'):
  qH P s M w (.c (.osl nm (some (0,n')))) [(id,.gone),(nm,.arr true t zs)]:=by
 obtain⟨C0,nL,hO⟩:=ok.obj id _ ah;rw[hC] at nL;cases nL;obtain⟨fr,ff⟩:=Ek hO;have bh:id≠nm:=fun e=>by simp_all
 let C':zZ:=⟨C.blk,zs.length,t.size,0,[]⟩;have hh:∀n',(qF M.h [(id,.gone),(nm,.arr true t zs)]) n'=if n'=nm then some (.arr true t zs) else if n'=id then some .gone else M.h n':=fun n'=>by
  show(qW (qW M.h id .gone) nm _) n'=_;by_cases e:n'=nm
  ·rw[if_pos e,e,yG]
  ·rw[if_neg e,yI _ _ e];by_cases e2:n'=id
   ·rw[if_pos e2,e2,yG]
   ·rw[if_neg e2,yI _ _ e2]
 have:=zI.move_ok (M:=M) (nm:=nm) (o':=.arr true t zs) (C':=C') (h':=qF M.h [(id,.gone),(nm,.arr true t zs)]) (H':=H') ok (fun j=>j=id) aO
  (fun j hj=>⟨.arr true t fB,by rw[hj];exact ah,rfl,by simp_all⟩)
  (by rw[hh,if_pos rfl]) (by grind) (by omega) (fun b hb hn=>hH b (hn id C rfl hC)) (fun b _=>cC b)
  (fun b hb=>.inr ⟨id,C,rfl,hC,by
   simp only[C',zZ.fp,List.filterMap_nil,List.append_nil] at hb;rw[ff];exact hb⟩)
  (fun x=>by
   refine⟨rfl,rfl,fun _=>rfl,?_⟩;have:=hx _ x rfl rfl;cases hB:C.blk with
   |none=>simp_all
   |some B=>
    rw[hB] at this;obtain⟨vals,e,h1,h2,h3⟩:=this;exact⟨vals,e,h1,by simp,h2,h3⟩)
 refine⟨_,_,_,hr,hw.2.1,hw.2.2.1,hw.2.2.2,by rw[hw.1];rfl,rfl,this.1,this.2,C',κset_same _ _ _,by grind,⟨_,c,rfl,?_⟩,_,_,_,rfl,by grind⟩;show match C.blk with
  |none=>_
  |some B=>_
 cases hB:C.blk with
 |none=>rw[hB] at hA;exact hA
 |some B=>
  rw[hB] at hA;obtain⟨a,h2,h3,h4⟩:=hA;refine⟨by omega,a,h2,by simpa using h3,?_⟩;show(0+c)*t.size≤qP H' B;simp_all
theorem yUl {P}{M w}(ok:Ok M)(hM:M.H=w.heap){id nm i j m t e T ty x b xs}(hu:P.underlying t=some (.slice e))(dh:gW P e=some ty)
  (aO:M.h nm=none) (ah:M.h id=some (.arr true ty xs)) (hb:zQ M (.osl id (some (0,i))) b) (hx:zQ M (.osl id (some (j,m))) x) (iZ:i≤j):
  qH P (Builtin.append_ #[t,t] T #[b,x]) M w (.c (.osl nm (some (0,i+m)))) [(id,.gone),(nm,.arr true ty (xs.take i++qZ xs j m++xs.drop (i+m)))]:=by
 obtain⟨inf,z,h1,h2,h3,h4,h5,h6,h7⟩:=nJ dh;obtain⟨C,hC,hO⟩:=ok.obj id _ ah;obtain⟨news,hR,hE⟩:=uG hC hO hx;obtain⟨C1,fU,cR,_⟩:=hx;rw[hC] at fU;cases fU;obtain⟨C1,fU,gD,⟨A,c,rfl,hS⟩,fT⟩:=hb;rw[hC] at fU;cases fU;obtain⟨_,_,_,fT,Et⟩:=fT;cases fT;have hlen:=hO.1;have lT:(gA xs (some (j,m))).length=m:=yz (by omega);rw[lT] at hR;have Jb:news.length=m*ty.size:=hR.choose_spec.choose_spec.2.1;have px:(qZ xs j m).length=m:=lT;have py:(xs.take i).length=i:=by rw[List.length_take];omega
 have EF:(xs.take i++qZ xs j m++xs.drop (i+m)).length=xs.length:=by
  rw[List.length_append,List.length_append,px,py,List.length_drop];omega
 have aS:i+m≤c:=by omega
 cases hB:C.blk with
 |none=>
  rw[hB] at hS;obtain⟨rfl,rfl,rfl⟩:=hS;have hr:=nK (P:=P) (w:=w) (A:=none) (sLen:=0) (sCap:=0) T hu h1 h3 (by rw[←hM];exact hR) aS w rfl;refine OB (s:=Builtin.append_ #[t,t] T #[.slice none 0 0,x]) (H':=M.H) ok hM ah hC aO rfl (fun _ _=>rfl) (fun _=>rfl) (fun M' _ _ _=>?_) (by omega) (by omega) ?_ ⟨hM.symm,rfl,rfl,rfl⟩ hr
  ·rw[hB];exact List.eq_nil_of_length_eq_zero (by omega)
  ·rw[hB];exact⟨rfl,by omega,rfl⟩
 |some B=>
  rw[hB] at hS;obtain⟨hc,a,rfl,ha,hs⟩:=hS;obtain⟨k1,k2,k3,k4⟩:=hO;rw[hB] at k4;obtain⟨vals,ev,k5,k6,k7,k8⟩:=k4;rw[Nat.zero_mul] at ha;rw[Nat.zero_add,k2] at hs;have cC:qP M.H B=vals.size:=by simp only[qP,k5]
  have gF:w.heap[B]? =some (.cells vals ev (0,0)):=by rw[←hM];exact k5
  by_cases h0:c=0
  ·have hm0:m=0:=by omega
   have hr := nK (P := P) (w := w) (A := some ⟨B, a, none⟩) (sLen := i) (sCap := c) T hu h1 h3 (by rw [← hM]; exact hR) aS w (by
    have:news=[]:=List.eq_nil_of_length_eq_zero (by rw[Jb,hm0,Nat.zero_mul]);rw[this];rfl)
   refine OB (s:=Builtin.append_ #[t,t] T #[.slice (some ⟨B,a,none⟩) i c,x]) (H':=M.H) ok hM ah hC aO rfl (fun _ _=>rfl) (fun _=>rfl) (fun M' _ _ _=>?_) (by omega) (by omega) ?_ ⟨hM.symm,rfl,rfl,rfl⟩ hr
   ·rw[hB];refine⟨vals,ev,k5,by rw[EF];exact k7,fun p hp=>?_⟩;rw[EF] at hp;omega
   ·rw[hB];exact⟨a,rfl,.inl h0,by rw[h0];simp⟩
  ·have kV:a=0:=by rcases ha with ha|ha<;>omega
   subst kV;have hle:=Nat.mul_le_mul_right ty.size (show i+m≤xs.length by omega);rw[Nat.add_mul] at hle;have aG:i*ty.size+news.length≤vals.size:=by omega
   have gC:=run_storeCells_at (P:=P) B (i*ty.size) ev news 0 vals w gF (by simpa using aG) (fun v hv=>uu (hR.choose_spec.choose_spec.2.2.1 v hv));simp only[Nat.add_zero] at gC;have hr:=nK (P:=P) (w:=w) (A:=some ⟨B,0,none⟩) (sLen:=i) (sCap:=c) T hu h1 h3 (by rw[←hM];exact hR) aS (w.setRow B (yK vals (i*ty.size) news)) (by show(storeCells (Addr.add ⟨B,0,none⟩ (i*ty.size)) news).run P w=_;rw[Addr.add_lit,Nat.zero_add];exact gC);obtain⟨f1,f2,f3,f4⟩:=lP gF (new:=yK vals (i*ty.size) news) (eZ aG);refine OB (s:=Builtin.append_ #[t,t] T #[.slice (some ⟨B,0,none⟩) i c,x]) (H':=(w.setRow B (yK vals (i*ty.size) news)).heap) ok hM ah hC aO (by rw[hM];exact f1)
    (fun b hb=>by rw[hM];exact f3 b fun e=>hb (e▸jT hB)) (fun b=>by rw[hM];exact f4 b) (fun M' xt hH hG=>?_) (by omega) (by omega) ?_ ⟨rfl,rfl,rfl,rfl⟩ hr
   ·rw[hB];refine⟨_,ev,f2,by rw[EF,eZ aG];exact k7,fun p hp=>?_⟩;rw[EF] at hp;have aU:=Nat.mul_le_mul_right ty.size (show p+1≤xs.length by omega);rw[Nat.add_mul] at aU;have uK:(xs.take i++qZ xs j m++xs.drop (i+m))[p]? =xs[p]? →(∀q,q<ty.size→(yK vals (i*ty.size) news)[p*ty.size+q]? =vals[p*ty.size+q]?)→qB M'.H M'.G ty ((xs.take i++qZ xs j m++xs.drop (i+m))[p]'(by omega)) (fun q=>(yK vals (i*ty.size) news)[p*ty.size+q]?):=fun e1 e2=>by
     have e3:(xs.take i++qZ xs j m++xs.drop (i+m))[p]'(by omega)=xs[p]:=by
      rw[List.getElem?_eq_getElem (by omega),List.getElem?_eq_getElem hp,Option.some.injEq] at e1;exact e1
     rw[e3];exact yR xt.G xt.sameG ty _ _ _ e2 (k8 p hp)
    by_cases Jc:p<i
    ·refine uK ?_ fun q hq=>?_
     ·rw[List.append_assoc,List.getElem?_append_left (by omega),List.getElem?_take,if_pos Jc]
     ·have:=Nat.mul_le_mul_right ty.size (show p+1≤i by omega);rw[Nat.add_mul] at this;rw[wP aG,if_pos (by omega)]
    ·by_cases EG:p<i+m
     ·have e3:(xs.take i++qZ xs j m++xs.drop (i+m))[p]'(by omega)=(gA xs (some (j,m)))[p-i]'(by omega):=by
       rw[List.getElem_append_left (by rw[List.length_append,py,px];exact EG),List.getElem_append_right (by omega)];simp only[py];rfl
      rw[e3];refine yR xt.G xt.sameG ty _ _ _ (fun q hq=>?_) (hE (p-i) (by omega));have q1:=Nat.mul_le_mul_right ty.size (show i≤p by omega);have q2:=Nat.mul_le_mul_right ty.size (show p-i+1≤m by omega);rw[Nat.add_mul] at q2;have q3:(p-i)*ty.size=p*ty.size-i*ty.size:=Nat.sub_mul ..
      rw[wP aG,if_neg (by omega),if_pos (by omega)]
      congr 1;omega
     ·refine uK ?_ fun q hq=>?_
      ·rw[List.getElem?_append_right (by rw[List.length_append,py,px];omega),List.getElem?_drop]
       congr 1
       rw[List.length_append,py,px];omega
      ·have:=Nat.mul_le_mul_right ty.size (show i+m≤p by omega);rw[Nat.add_mul] at this;rw[wP aG,if_neg (by omega),if_neg (by omega)]
   ·rw[hB];exact⟨0,rfl,.inr rfl,by rw[←k2] at hs⊢;exact hs⟩
theorem vLx {P M w}(ok:Ok M)(hM:M.H=w.heap){t T id lo n rx v u}(hx:zQ M (.osl id (some (lo,n))) rx)
  (h:yE (Iu P M.h t id lo n) v u):qH P (Builtin.clear_ #[t] T #[rx]) M w v u:=by
 unfold Iu at h;split at h
 case h_2=>exact h.elim
 rename_i e s xs hu ah;split at h
 case h_2=>exact h.elim
 rename_i ty dh;obtain⟨heq,h⟩:=uJ h;have:=D4 heq;subst this;obtain⟨_,rfl,rfl⟩:=eY h;obtain⟨inf,z,h1,h2,h3,h4,h5,h6,h7⟩:=nJ dh;obtain⟨C,hC,cR,⟨A,c,rfl,hS⟩,_⟩:=hx;obtain⟨C1,fU,hO⟩:=ok.obj id _ ah;rw[hC] at fU;cases fU;by_cases EB:n=0
 ·subst EB;have e0:xs.take lo++List.replicate 0 ty.dflt++xs.drop (lo+0)=xs:=by simp
  rw[e0];refine⟨.tuple #[],w,M,?_,rfl,rfl,rfl,hM,?_,ok,yS.refl M,trivial⟩
  ·cases A with
   |none=>simp[Builtin.clear_,run_underlying hu]
   |some a=>simp[Builtin.clear_,run_underlying hu]
  ·rw[NI,yy ah]
 ·obtain⟨k1,k2,k3,k4⟩:=hO;cases hB:C.blk with
  |none=>rw[hB] at hS;omega
  |some B=>
   rw[hB] at hS k4;obtain⟨hc,a,rfl,ha,hs⟩:=hS;obtain⟨vals,ev,k5,k6,k7,k8⟩:=k4;have nF:a=lo*ty.size:=by rw[←k2];rcases ha with ha|ha<;>omega
   subst nF;have gF:w.heap[B]? =some (.cells vals ev (0,0)):=by rw[←hM];exact k5
   have EF:(Builtin.zeroCells z.cells n).toList.length=n*ty.size:=by rw[Array.length_toList,zn,h7]
   have hle:=Nat.mul_le_mul_right ty.size (show lo+n≤xs.length by omega);rw[Nat.add_mul] at hle;have aG:lo*ty.size+(Builtin.zeroCells z.cells n).toList.length≤vals.size:=by omega
   have cc:∀v∈(Builtin.zeroCells z.cells n).toList,v.one1=true:=vJg h4 h7;have gC:=run_storeCells_at (P:=P) B (lo*ty.size) ev (Builtin.zeroCells z.cells n).toList 0 vals w gF (by simpa using aG) (fun v hv=>uu (cc v hv));simp only[Nat.add_zero] at gC;obtain⟨f1,f2,f3,f4⟩:=lP gF (new:=yK vals (lo*ty.size) (Builtin.zeroCells z.cells n).toList) (eZ aG);have la:(Builtin.clear_ #[t] T #[.slice (some ⟨B,lo*ty.size,none⟩) n c]).run P w=.ok (.tuple #[]) (w.setRow B (yK vals (lo*ty.size) (Builtin.zeroCells z.cells n).toList)):=by
    obtain⟨n',rfl⟩:∃n',n=n'+1:=⟨n-1,by omega⟩;have e:(storeCells ⟨B,lo*ty.size,none⟩ (Builtin.zeroCells z.cells (n'+1)).toList).run P w=.ok () (w.setRow B (yK vals (lo*ty.size) (Builtin.zeroCells z.cells (n'+1)).toList)):=gC;simp[Builtin.clear_,run_underlying hu,zeroValue,typeInfo,h1,h2,e]
   have hH:∀b,b∉C.fp→(w.setRow B (yK vals (lo*ty.size) (Builtin.zeroCells z.cells n).toList)).heap[b]? =M.H[b]? :=fun b pn=>by
    rw[hM];exact f3 b fun e=>pn (e▸jT hB)
   have cC:∀b,b<M.H.size→qP (w.setRow B (yK vals (lo*ty.size) (Builtin.zeroCells z.cells n).toList)).heap b=qP M.H b:=fun b _=>by rw[hM];exact f4 b
   have hol:(xs.take lo++List.replicate n ty.dflt++xs.drop (lo+n)).length=xs.length:=by
    simp only[List.length_append,List.length_take,List.length_replicate,List.length_drop];omega
   have x:=zI.write_ext ok ah rfl hC C.le_refl hH cC (.arr true ty (xs.take lo++List.replicate n ty.dflt++xs.drop (lo+n)));have := zI.write_ok ok ah rfl hC C.le_refl (fun _ h => h) (by rw [hM]; exact f1) hH cC (o' := .arr true ty (xs.take lo ++ List.replicate n ty.dflt ++ xs.drop (lo + n))) (by
    refine⟨by rw[hol];exact k1,k2,k3,?_⟩;rw[hB];refine⟨_,ev,f2,fun h=>(by cases h),by rw[hol,eZ aG];exact k7,fun p hp=>?_⟩;rw[hol] at hp;have aU:=Nat.mul_le_mul_right ty.size (show p+1≤xs.length by omega);rw[Nat.add_mul] at aU;have zq:(xs.take lo).length=lo:=by rw[List.length_take];omega
    have uK:(xs.take lo++List.replicate n ty.dflt++xs.drop (lo+n))[p]? =xs[p]? →(∀q,q<ty.size→(yK vals (lo*ty.size) (Builtin.zeroCells z.cells n).toList)[p*ty.size+q]? =vals[p*ty.size+q]?)→
      qB (M.write id (.arr true ty (xs.take lo++List.replicate n ty.dflt++xs.drop (lo+n))) C (w.setRow B (yK vals (lo*ty.size) (Builtin.zeroCells z.cells n).toList)).heap).H (M.write id (.arr true ty (xs.take lo++List.replicate n ty.dflt++xs.drop (lo+n))) C (w.setRow B (yK vals (lo*ty.size) (Builtin.zeroCells z.cells n).toList)).heap).G ty ((xs.take lo++List.replicate n ty.dflt++xs.drop (lo+n))[p]'(by omega)) (fun q=>(yK vals (lo*ty.size) (Builtin.zeroCells z.cells n).toList)[p*ty.size+q]?):=fun e1 e2=>by
     have e3:(xs.take lo++List.replicate n ty.dflt++xs.drop (lo+n))[p]'(by omega)=xs[p]:=by
      rw[List.getElem?_eq_getElem (by omega),List.getElem?_eq_getElem hp,Option.some.injEq] at e1;exact e1
     rw[e3];exact yR x.G x.sameG ty _ _ _ e2 (k8 p hp)
    by_cases Jc:p<lo
    ·refine uK ?_ fun q hq=>?_
     ·rw[List.append_assoc,List.getElem?_append_left (by omega),List.getElem?_take,if_pos Jc]
     ·have:=Nat.mul_le_mul_right ty.size (show p+1≤lo by omega);rw[Nat.add_mul] at this;rw[wP aG,if_pos (by omega)]
    ·by_cases EG:p<lo+n
     ·have e3:(xs.take lo++List.replicate n ty.dflt++xs.drop (lo+n))[p]'(by omega)=ty.dflt:=by
       rw[List.getElem_append_left (by rw[List.length_append,zq,List.length_replicate];exact EG),List.getElem_append_right (by omega)];simp
      rw[e3];refine Ew ty _ fun q hq=>?_
      have q1:=Nat.mul_le_mul_right ty.size (show lo≤p by omega);have q2:=Nat.mul_le_mul_right ty.size (show p-lo+1≤n by omega);rw[Nat.add_mul] at q2;have q3:(p-lo)*ty.size=p*ty.size-lo*ty.size:=Nat.sub_mul ..
      rw[wP aG,if_neg (by omega),if_pos (by omega),show p*ty.size+q-lo*ty.size=(p-lo)*ty.size+q by omega,Zk h4 h7 hq (by omega)]
     ·refine uK ?_ fun q hq=>?_
      ·rw[List.getElem?_append_right (by rw[List.length_append,zq,List.length_replicate];omega),List.getElem?_drop]
       congr 1
       rw[List.length_append,zq,List.length_replicate];omega
      ·have:=Nat.mul_le_mul_right ty.size (show lo+n≤p by omega);rw[Nat.add_mul] at this;rw[wP aG,if_neg (by omega),if_neg (by omega)])
   exact⟨_,_,_,la,rfl,rfl,rfl,rfl,rfl,this.1,this.2,trivial⟩
theorem yUg {P M w}(ok:Ok M)(hM:M.H=w.heap){mat nm t T b x v u rb rx}
  (hb:zP M b rb) (hx:zP M x rx) (h:yE (yk P mat nm M.h t b x) v u):qH P (Builtin.append_ #[t,t] T #[rb,rx]) M w v u:=by
 unfold yk at h;split at h
 case h_2=>exact h.elim
 rename_i e b x hu aO;split at h
 ·exact h.elim
 rename_i ty dh;cases mat with
 |true=>
  split at h
  ·rename_i id jd;split at h
   ·rename_i v1 xs v2 ys ah cM;cases bh:Nat.beq id jd with
    |true=>rw[bh] at h;exact h.elim
    |false=>
     rw[bh] at h;obtain⟨hr,rfl,rfl⟩:=eY h;exact vPw ok hM hu dh aO ah cM (fun e=>by subst e;simp at bh) hb hx (EA hr)
   ·exact h.elim
  ·exact h.elim
 |false=>
  simp only[cond_false] at h;split at h
  ·split at h
   ·rename_i ys u1 ht;obtain⟨hr,rfl,rfl⟩:=eY h;obtain⟨rfl,news,h1,h2⟩:=Zd ok hx ht;rw[show rb=.slice none 0 0 from hb];exact vGt ok hM hu dh aO h1 h2 (EA hr)
   ·exact h.elim
  ·split at h
   ·rename_i s xs ah;split at h
    ·rename_i zs ys u1 hz ht;obtain⟨e1,hz⟩:=iO hz;subst e1;subst hz;obtain⟨rfl,news,h1,h2⟩:=Zd ok hx ht;split at h
     ·rcases Zj h with⟨hc,h⟩|⟨_,h⟩
      ·split at h
       ·rename_i i' jd j m zs e1 e2 _;cases e1;have:=Nat.eq_of_beq_eq_true hc;subst this;obtain⟨_,hz⟩:=iO e2;subst hz;obtain⟨hr,rfl,rfl⟩:=eY h;exact yUl ok hM hu dh aO ah hb hx (Nat.le_of_ble_eq_true hr)
       ·exact h.elim
      ·obtain⟨hr,rfl,rfl⟩:=eY h;exact Ou ok hM hu dh aO ah hb rfl h1 h2 (EA hr)
     ·rcases Zj h with⟨hc,h⟩|⟨_,h⟩
      ·exact h.elim
      ·obtain⟨hr,rfl,rfl⟩:=eY h;exact Ou ok hM hu dh aO ah hb trivial h1 h2 (EA hr)
     ·exact h.elim
    ·exact h.elim
   ·exact h.elim
  ·exact h.elim
theorem OC {M}(ok:Ok M){c v t ys}(hv:zQ M c v)(h:gY M.h c=some ⟨t,ys⟩){kd}(ht:t=.int kd):
  ∃news,Rd M.H v ys.length t.size news∧∃F,∀i hi,qB M.H F t ys[i] (fun j=>news[i*t.size+j]?):=by
 unfold gY at h;split at h
 ·cases h;obtain⟨news,h1,h2⟩:=Om hv;exact⟨news,h1,_,h2⟩
 ·split at h
  ·rename_i own s xs ah;cases h;obtain⟨C,hC,hO⟩:=ok.obj _ _ ah;obtain⟨news,h1,h2⟩:=uG hC hO hv;exact⟨news,h1,_,h2⟩
  all_goals grind
 ·rename_i id i ver;split at h
  ·rename_i v' xs ah;cases eu:Nat.beq v' ver with
   |false=>simp_all
   |true=>
    rw[eu] at h;cases h;have e:v'=ver:=by simp_all
    subst e;obtain⟨C,hC,hO⟩:=ok.obj _ _ ah;obtain⟨C',aw,cc,_,aU⟩:=hv;rw[hC] at aw;cases aw;obtain⟨rb,rl,se,nN⟩:=aU hO.1;by_cases hi:i<xs.length
    ·obtain⟨B,mA,v2,k1,k2,k3,k4,k5,k6⟩:=yx hO hi;rw[se] at k3;cases k3;rw[show xs.getD i []=xs[i] by simp_all];cases rb with
     |none=>
      obtain⟨rfl,h0⟩:=nN;have cA:xs[i]=[]:=by grind
      rw[cA];obtain⟨news,q1,q2⟩:=Ey (H:=M.H) (F:=M.G) (t:=.int .i64) (A:=none) (c:=0);exact⟨news,q1,_,q2⟩
     |some R=>
      obtain⟨a,c,rfl,h1,h2,h3⟩:=nN;by_cases h0:xs[i].length=0
      ·have cA:xs[i]=[]:=by grind
       rw[cA];obtain⟨news,q1,q2⟩:=Ey (H:=M.H) (F:=M.G) (t:=.int .i64) (A:=some ⟨R,a,none⟩) (c:=c);exact⟨news,q1,_,q2⟩
      ·have ha:a=0:=by omega
       subst ha;obtain ⟨news, q1, q2⟩ := Ol (H := M.H) (F := fun _ => True) (t := .int .i64) (ys := xs[i]) (B := R) (o := 0) (c := c) h1 (fun j hj=>by
        simp[qB,Ty.size];simp_all)
       exact⟨news,q1,_,q2⟩
    ·have:C.rows[i]? =none:=List.getElem?_eq_none (by have:=hO.2.2.2.1;omega);simp_all
  ·cases h
 ·cases h
theorem vSa {M}(ok:Ok M){c v t ys}(hv:zQ M c v)(h:gY M.h c=some ⟨t,ys⟩):∃A k,v=.slice A ys.length k:=by
 by_cases ht:t=.int .i64
 ·obtain⟨news,⟨A,k,e,_⟩,_⟩:=OC ok hv h ht;simp_all
 unfold gY at h;split at h
 ·cases h;obtain⟨news,⟨A,k,e,_⟩,_⟩:=Om hv;simp_all
 ·rename_i id r;split at h
  ·rename_i own s xs ah;cases h;obtain⟨C,hC,hO⟩:=ok.obj _ _ ah;obtain⟨news,⟨A,k,e,_⟩,_⟩:=uG hC hO hv;simp_all
  ·rename_i ver xs ah;cases r with
   |none=>
    cases h;obtain⟨C,hC,hO⟩:=ok.obj _ _ ah;obtain⟨C',aw,A,k,e,_⟩:=hv;rw[hC] at aw;cases aw;exact⟨A,k,by rw[e,hO.2.1]⟩
   |some p=>cases h
  ·cases h
 all_goals grind
theorem vH5 {M}(ok:Ok M){c v n}(hv:zQ M c v)(h:xX M.h c=some n):∃A k,v=.slice A n k:=by
 unfold xX at h;split at h
 ·cases h;exact⟨none,0,hv⟩
 ·obtain⟨C,B,_,_,e⟩:=hv;simp_all
 ·split at h
  ·rename_i t xs hr;cases h;exact vSa ok hv hr
  ·cases h
theorem vNa {P w t e A n k T ts}(h0:ts[0]? =some t)(hu:P.underlying t=some (.slice e)):
  (Builtin.len_ ts T #[.slice A n k]).run P w=.ok (.int .i64 n) w:=by
 have hr:(underlying t).run P w=.ok (.slice e) w:=by simp[underlying,hu]
 simp[Builtin.len_,h0,hr,goInt]
theorem Zl {P M w}(ok:Ok M)(hM:M.H=w.heap){lt l rl v u ts T}(hl:zK (zP M) l rl.toList)
  (h:yE (Iv lt l) v u):qH P (bif lt then Builtin.min_ ts T rl else Builtin.max_ ts T rl) M w v u:=by
 unfold Iv at h;split at h
 ·rename_i k x j y;obtain⟨rfl,rfl⟩:=vQ h;obtain⟨rl⟩:=rl
  match rl,hl with
  |[a,b],⟨h1,h2,_⟩=>
   rw[show a=.int k x from h1,show b=.int j y from h2];refine .pure (rv:=.int k (bif lt then(bif decide (y<x) then y else x) else(bif decide (y>x) then y else x))) ok hM ?_ rfl;cases lt<;>simp[Builtin.min_,Builtin.max_,Builtin.min2,Builtin.max2,Bool.cond_decide]
 ·rename_i k x j y i z;obtain⟨rfl,rfl⟩:=vQ h;obtain⟨rl⟩:=rl
  match rl,hl with
  |[a,b,c],⟨h1,h2,h3,_⟩=>
   rw[show a=.int k x from h1,show b=.int j y from h2,show c=.int i z from h3];refine .pure (rv:=_) ok hM ?_ rfl;cases lt<;>simp[Builtin.min_,Builtin.max_,Builtin.min2,Builtin.max2,Bool.cond_decide]
 ·exact h.elim
theorem Zm {M:zI}:∀{cs ns},uk cs=some ns→cs=ns.map (.int .i64)
 |[],ns,h=>by cases h;rfl
 |.int .i64 n::l,ns,h=>by
  unfold uk at h;split at h
  ·rename_i r hr;cases h;rw[Zm (M:=M) hr];rfl
  ·cases h
theorem Zn xs:∀(ns:List Int) i,um xs i (ns.map (.int .i64))=(((xs.drop i).take ns.length)++ns.drop ((xs.drop i).take ns.length).length).map (.int .i64)
 |[],i=>by rfl
 |n::ns,i=>by
  simp only[List.map_cons,um,Zn xs ns (i+1)];by_cases hi:i<xs.length
  ·have hb:Nat.blt i xs.length=true:=by simp_all
   rw[hb,List.drop_eq_getElem_cons hi];grind
  ·have hb:Nat.blt i xs.length=false:=by
    cases h:Nat.blt i xs.length with
    |false=>rfl
    |true=>exact absurd (by simp_all) hi
   have e1:xs.drop i=[]:=List.drop_eq_nil_of_le (by omega);grind
theorem vOq {P M w}(ok:Ok M)(hM:M.H=w.heap){t e ts T d s v u rd rs}(h0:ts[0]? =some t)(hu:P.underlying t=some (.slice e))(he:P.cellsOf e=1)
  (hd:zP M d rd) (hs:zP M s rs) (h:yE (yl M.h d s) v u):qH P (Builtin.copy_ ts T #[rd,rs]) M w v u:=by
 unfold yl at h;split at h
 case h_2=>exact h.elim
 rename_i id off n s;split at h
 case h_2=>exact h.elim
 rename_i cells ys ah mE;split at h
 case h_2=>exact h.elim
 rename_i vs dU;split at h
 case h_2=>exact h.elim
 rename_i ns Ob;obtain⟨_,rfl,rfl⟩:=eY h;clear h;obtain⟨C,B,hC,hB,rfl⟩:=hd;obtain⟨C',aw,B',vals,ev,k1,k2,k3,k4,k5⟩:=ok.obj id _ ah;rw[hC] at aw;cases aw;rw[hB] at k1;cases k1;obtain⟨c1,c2,c3⟩:=Eg dU;obtain⟨i,hi⟩:=lM (P:=P) (t:=e) (by omega);obtain⟨A,k,rfl,jb⟩:∃A k,rs=.slice A ys.length k∧∃news,Rd M.H (.slice A ys.length k) ys.length 1 news∧news=ys.map (.int .i64):=by
  split at mE
  ·cases mE;exact⟨none,0,hs,[],⟨none,0,rfl,rfl,by simp,rfl⟩,rfl⟩
  ·obtain⟨news,hR,F,hE⟩:=OC ok hs mE rfl;obtain⟨A,k,e,hl,r⟩:=hR;refine⟨A,k,e,news,⟨A,k,rfl,hl,r⟩,?_⟩;refine List.ext_getElem (by simpa[Ty.size] using hl) fun j h1 h2=>?_
   have:=hE j (by simpa using h2);simp only[qB,Ty.size,Nat.mul_one,Nat.add_zero] at this;rw[List.getElem?_eq_getElem h1,Option.some.injEq] at this;rw[this];simp
 obtain⟨news,⟨A',k',e',hl,cc,jb⟩,EH⟩:=jb;cases e';let m:=min ys.length n;have hm:Nat.min ys.length n=m:=rfl;have uL:(Builtin.firstCells 1 m (.slice A ys.length k)).run P w=.ok (news.take m).toArray w:=by
  have:Rd M.H (.slice A m k) m 1 (news.take m):=by
   refine⟨A,k,rfl,?_,fun u hu=>cc u (List.mem_of_mem_take hu),?_⟩;all_goals grind
  have:=this.first (P:=P) w hM.symm
  cases A<;>exact this
 have Zo:w.heap[B]? =some (.cells vals ev (0,0)):=by rw[←hM];exact k3
 have bI:=k4.length;have Jb:(news.take m).length=m:=by rw[List.length_take,hl];omega
 have aG:off+(news.take m).length≤vals.size:=by
  rw[Jb];simp at bI;omega
 have gC:=run_storeCells_at (P:=P) B off ev (news.take m) 0 vals w Zo (by simpa using aG) (fun v hv=>uu (cc v (List.mem_of_mem_take hv)));simp only[Nat.add_zero] at gC;have la:(Builtin.copy_ ts T #[.slice (some ⟨B,off,none⟩) n n,.slice A ys.length k]).run P w=.ok (.int .i64 (m:Nat)) (w.setRow B (yK vals off (news.take m))):=by
  simp[Builtin.copy_,h0,run_underlying hu,Builtin.lenOf,fR w hi,he,hm,uL,goInt];have e:(storeCells ⟨B,off,none⟩ (news.take m)).run P w=.ok () (w.setRow B (yK vals off (news.take m))):=gC;rw[e];rfl
 obtain⟨f1,f2,f3,f4⟩:=lP Zo (new:=yK vals off (news.take m)) (eZ aG);have hH:∀b,b∉C.fp→(w.setRow B (yK vals off (news.take m))).heap[b]? =M.H[b]? :=fun b pn=>by
  rw[hM];exact f3 b fun e=>pn (e▸jT hB)
 have cC:∀b,b<M.H.size→qP (w.setRow B (yK vals off (news.take m))).heap b=qP M.H b:=fun b _=>by rw[hM];exact f4 b
 let o':Obj:=.box true (cells.take off++um ys 0 vs++cells.drop (off+n));have x:=zI.write_ext ok ah rfl hC C.le_refl hH cC o';have aA:cells.take off++um ys 0 vs++cells.drop (off+n)=cells.take off++(ys.take m).map (.int .i64)++cells.drop (off+((ys.take m).map (zT.int .i64)).length):=by
  have hv:=Zm (M:=M) Ob;have hnn:ns.length=n:=by rw[←c3,hv];simp
  have EI:(ys.drop 0).take ns.length=ys.take m:=by
   grind
  rw[hv,Zn,EI,List.map_append,List.map_drop,←hv,List.append_assoc,List.append_assoc,List.append_assoc]
  congr 2
  have Jd:(ys.take m).length=m:=by rw[List.length_take];omega
  have e1:cells.drop (off+n)=(cells.drop (off+m)).drop (n-m):=by
   rw[List.drop_drop];congr 1;omega
  rw[List.length_map,Jd,c2,List.drop_take,List.drop_drop,e1,List.take_append_drop]
 have := zI.write_ok ok ah rfl hC C.le_refl (fun _ h => h) (by rw [hM]; exact f1) hH cC (o' := o') (by
  refine⟨B,_,ev,hB,k2,f2,?_,fun h=>(by cases h)⟩;rw[aA];refine NM x k4 (us:=news.take m) ?_ (by simpa using aG);rw[EH];refine zK.of_get (by simp) fun j h1 h2=>?_
  simp[zQ])
 exact⟨_,_,_,la,rfl,rfl,rfl,rfl,rfl,this.1,this.2,rfl⟩
theorem Zp {P t}(h:D9 P t=true):∃k e i,P.underlying t=some (.map k e)∧P.underlying k=some (.int .i64)∧P.info? e=some i∧i.zero=some (.bool false):=by
 unfold D9 at h;split at h
 ·split at h
  ·rename_i hk hz;obtain⟨i,h1,h2⟩:=Option.bind_eq_some_iff.1 hz;grind
  ·cases h
 ·cases h
theorem vPc {P M w}(ok:Ok M)(hM:M.H=w.heap){nm t v u}(h:yE (yg P nm M.h t) v u):qH P (Instr.makeMap t none) M w v u:=by
 unfold yg at h;split at h
 case h_2=>exact h.elim
 rename_i aO;obtain⟨_,h⟩:=uJ h;obtain⟨_,rfl,rfl⟩:=eY h;let C:zZ:=⟨some M.H.size,0,0,0,[]⟩;have := zI.new_ok ok aO (.imap []) C (.map #[] 0) (by simp [C, zZ.fp]) (by
  refine⟨M.H.size,#[],0,rfl,rfl,ur,by simp,fun n=>rfl⟩)
 refine⟨.map (some w.heap.size),w.alloc (.map #[] 0),_,?_,rfl,rfl,rfl,?_,rfl,this.1,this.2,C,M.H.size,κset_same _ _ _,rfl,by rw[hM]⟩
 ·rfl
 ·show M.H.push _=w.heap.push _;rw[hM]
theorem OD {n}:∀{es i},(∀e∈es,∃m b,e.key=.int .i64 m∧e.val=.bool b)→
  (jI n es=none∧Instr.findNow (.int .i64) (.int .i64 n) es i=some none)∨
  (∃j b e,jI n es=some (.bool b)∧Instr.findNow (.int .i64) (.int .i64 n) es i=some (some (i+j,.bool b))∧es[j]? =some e∧e.key=.int .i64 n∧
   ∀f:MapEntry→MapEntry,(∀e,(f e).key=.int .i64 n)→jI n (es.modify j f)=some (f e).val∧(∀m,m≠n→jI m (es.modify j f)=jI m es)∧∀e'∈es.modify j f,e'∈es∨e'=f e)
 |[],i,_=>.inl ⟨rfl,rfl⟩
 |e::es,i,h=>by
  obtain⟨m,b,h1,h2⟩:=h e (by simp);by_cases hm:n=m
  ·subst hm;refine .inr ⟨0,b,e,?_,?_,rfl,h1,fun f hf=>⟨?_,fun m bh=>?_,fun e' he=>?_⟩⟩
   ·simp[jI,h1,h2]
   ·simp[Instr.findNow,Instr.sameNow,h1,h2]
   ·simp[jI,hf]
   ·simp[jI,hf,h1,bh]
   grind
  ·have hs:Instr.findNow (.int .i64) (.int .i64 n) (e::es) i=Instr.findNow (.int .i64) (.int .i64 n) es (i+1):=by
    have hb:(n==m)=false:=by simp[hm]
    simp[Instr.findNow,Instr.sameNow,h1,hb]
   have hf:jI n (e::es)=jI n es:=by simp[jI,h1,hm]
   rcases OD (es:=es) (i:=i+1) (by grind) with⟨k1,k2⟩|⟨j,b',e',k1,k2,k3,k4,k5⟩
   ·exact .inl ⟨hf.trans k1,hs.trans k2⟩
   ·refine .inr ⟨j+1,b',e',hf.trans k1,by grind,by simp_all,k4,fun f hfk=>?_⟩;obtain⟨q1,q2,q3⟩:=k5 f hfk;refine⟨by simp[jI,h1,hm,q1],fun m' bh=>?_,fun e'' he=>?_⟩
    ·rw[List.modify_succ_cons];simp[jI,q2 m' bh]
    grind
theorem Je {P w r es ck}(h:w.heap[r]? =some (.map es ck)):(getObj r).run P w=.ok (.map es ck) w:=by
 simp[getObj,Sem.run,h]
theorem Zq {P w r es ck} o (h:w.heap[r]? =some (.map es ck)):(setObj r o).run P w=.ok () {w with heap:=w.heap.setIfInBounds r o}:=by
 simp[setObj,Sem.run,h]
theorem Jf {P w k b n}(h:P.underlying k=some (.int .i64)):(Instr.checkKey b 10000 k (.int .i64 n)).run P w=.ok () w:=by
 unfold Instr.checkKey;simp[run_underlying h]
theorem Jg {P w k n es r}(h:P.underlying k=some (.int .i64))(hf:Instr.findNow (.int .i64) (.int .i64 n) es 0=some r):(Instr.findKey k (.int .i64 n) es).run P w=.ok r w:=by
 unfold Instr.findKey;simp[run_underlying h,hf]
theorem yWz {P M w}(ok:Ok M)(hM:M.H=w.heap){t x i v u rx ri}(hx:zP M x rx)(hi:zP M i ri)(h:yE (yh P M.h t x i) v u):qH P (Instr.lookup t rx ri false) M w v u:=by
 unfold yh at h;split at h
 case h_2=>exact h.elim
 rename_i id n;split at h
 case h_2=>exact h.elim
 rename_i cL ah;obtain⟨hb,h⟩:=uJ h;obtain⟨rfl,rfl⟩:=vQ h;obtain⟨k,e,inf,h1,h2,h3,h4⟩:=Zp hb;obtain⟨C,B,hC,hB,rfl⟩:=hx;obtain⟨C',aw,B',es,ck,k1,k2,k3,k4,k5⟩:=ok.obj id _ ah;rw[hC] at aw;cases aw;rw[hB] at k1;cases k1;have kY:ri=.int .i64 n:=hi;subst kY;rw[hM] at k3;refine .pure (rv:=.bool ((cL.lookup n).getD false)) ok hM ?_ rfl;have h5:=k5 n;unfold Instr.lookup;rcases OD (n:=n) (i:=0) k4 with⟨q1,q2⟩|⟨j,b,e',q1,q2,q3,q4,q5⟩
 ·have:cL.lookup n=none:=by cases hl:cL.lookup n with|none=>rfl|some b=>simp_all
  simp[run_underlying h1,Je k3,Jf h2,Jg h2 q2,zeroValue,typeInfo,h3,h4,this]
 ·have:cL.lookup n=some b:=by cases hl:cL.lookup n with|none=>simp_all|some b=>simp_all
  simp[run_underlying h1,Je k3,Jf h2,Jg h2 q2,this]
theorem OE {n b c}:∀{es},jI n es=none→∀m,jI m (es++[⟨.int .i64 n,.bool b,c⟩])=if m=n then some (.bool b) else jI m es
 |[],_,m=>by rfl
 |e::es,h,m=>by
  rw[List.cons_append];have aH:∀(m:Int) (l:List MapEntry),jI m (e::l)=match e.key with|.int .i64 k=>if m=k then some e.val else jI m l|_=>jI m l:=fun m l=>rfl
  rw[aH] at h;rw[aH,aH];split at h
  ·rename_i k hk;split at h
   ·cases h
   ·by_cases hm:m=k
    ·grind
    ·rw[if_neg hm,OE h m,if_neg hm]
  ·exact OE h m
theorem vEj {P M w}(ok:Ok M)(hM:M.H=w.heap){t x i y v u rx ri ry}(hx:zP M x rx)(hi:zP M i ri)(hy:zP M y ry)(h:yE (yi P M.h t x i y) v u):
  v=.undef∧kt P (Instr.mapUpdate t rx ri ry) M w u:=by
 unfold yi at h;split at h
 case h_2=>exact h.elim
 rename_i id n b;split at h
 case h_2=>exact h.elim
 rename_i cL ah;obtain⟨hb,h⟩:=uJ h;obtain⟨_,rfl,rfl⟩:=eY h;obtain⟨k,e,inf,h1,h2,h3,h4⟩:=Zp hb;obtain⟨C,B,hC,hB,rfl⟩:=hx;obtain⟨C',aw,B',es,ck,k1,k2,k3,k4,k5⟩:=ok.obj id _ ah;rw[hC] at aw;cases aw;rw[hB] at k1;cases k1;have kY:ri=.int .i64 n:=hi;subst kY;have hry:ry=.bool b:=hy;subst hry;have k3':=k3;rw[hM] at k3;have write:∀(nO:Array MapEntry) (sf:Nat),(Instr.mapUpdate t (.map (some B)) (.int .i64 n) (.bool b)).run P w=.ok () {w with heap:=w.heap.setIfInBounds B (.map nO sf)}→
   (∀e∈nO.toList,∃m b,e.key=.int .i64 m∧e.val=.bool b)→(∀m,jI m nO.toList=if m=n then some (.bool b) else jI m es.toList)→kt P (Instr.mapUpdate t (.map (some B)) (.int .i64 n) (.bool b)) M w [(id,.imap ((n,b)::cL))]:=by
  intro nO sf hr he hf;have uM:∀c,(w.heap.setIfInBounds B (.map nO sf))[c]? =if c=B then some (.map nO sf) else w.heap[c]? :=by grind
  have hH:∀c,c∉C.fp→(w.heap.setIfInBounds B (.map nO sf))[c]? =M.H[c]? :=fun c hc=>by
   rw[uM,if_neg (fun(e:c=B)=>hc (by rw[e];exact jT hB)),hM]
  have cC:∀c,c<M.H.size→qP (w.heap.setIfInBounds B (.map nO sf)) c=qP M.H c:=fun c _=>by
   unfold qP;grind
  have := zI.write_ok ok ah rfl hC C.le_refl (by simp) (by rw [hM]; simp) hH cC (o' := .imap ((n, b) :: cL)) (by
   refine⟨B,nO,sf,hB,k2,?_,he,fun m=>?_⟩
   ·show(w.heap.setIfInBounds B (.map nO sf))[B]? =_;rw[uM,if_pos rfl]
   grind)
  exact⟨_,_,hr,rfl,rfl,rfl,rfl,rfl,this.1,this.2⟩
 refine⟨rfl,?_⟩;rcases OD (n:=n) (i:=0) k4 with⟨q1,q2⟩|⟨j,b',e',q1,q2,q3,q4,q5⟩
 ·refine write (es.push ⟨.int .i64 n,.bool b,ck⟩) (ck+1) ?_ (fun e he=>?_) fun m=>?_
  ·unfold Instr.mapUpdate;simp[run_underlying h1,Je k3,Jf h2,Jg h2 q2,Zq _ k3]
  ·grind
  ·rw[Array.toList_push];exact OE q1 m
 ·refine write (es.modify j fun e=>{e with key:=.int .i64 n,val:=.bool b}) ck ?_ (by grind) fun m=>?_
  ·unfold Instr.mapUpdate;rw[Nat.zero_add] at q2;simp only[Array.getElem?_toList] at q3;simp[run_underlying h1,Je k3,Jf h2,Jg h2 q2,Zq _ k3,q3,q4,Instr.keyThatStays,Instr.sameBits]
  all_goals grind
theorem Zr:∀(ns:List Int) (b:ByteArray),ns.foldl (fun r n=>r.push (UInt8.ofNat n.toNat)) b=⟨(b.data.toList++lK ns).toArray⟩
 |[],b=>by simp[lK]
 |n::ns,b=>by
  rw[List.foldl_cons,Zr ns];simp[lK]
theorem vH8 {P M}(ok:Ok M){c v xs}(hv:zQ M c v)(h:xW M.h c=some xs){w}(hM:M.H=w.heap):
  ∃A n k,v=.slice A n k∧(Conv.bytesToString v).run P w=.ok (.string ⟨(lK xs).toArray⟩) w:=by
 unfold xW at h;split at h
 ·cases h;refine⟨none,0,0,hv,?_⟩;rw[show v=.slice none 0 0 from hv];rfl
 ·split at h
  ·rename_i ys hr;obtain rfl:ys=xs:=by simp_all
   obtain⟨news,⟨A,k,e,hl,cc,jb⟩,F,hE⟩:=OC ok hv hr rfl;refine⟨A,_,k,e,?_⟩;have hn:news=ys.map (Value.int .u8):=by
    refine List.ext_getElem (by simpa[Ty.size] using hl) fun j h1 h2=>?_
    have:=hE j (by simp_all);simp[qB,Ty.size] at this;grind
   subst e;cases A with
   |none=>
    have h1:ys=[]:=by grind
    subst h1;rfl
   |some a=>
    have kp:(loadCells a ys.length).run P w=.ok (ys.map (Value.int .u8)).toArray w:=by
     rcases jb with h0|⟨h1,h2⟩
     ·have h1:ys=[]:=by grind
      subst h1;rfl
     ·have:=Rd.first (P:=P) (H:=M.H) (v:=.slice (some a) ys.length k) (n:=ys.length) (size:=1) (news:=news) ⟨_,k,rfl,by grind,cc,by grind⟩ w hM.symm
      rw[hn] at this
      simpa[Builtin.firstCells] using this
    rw[run_bytesToString w a _ k ys kp,Zr];rfl
  ·cases h
structure pz (M:zI) (w:World) (u:yV) (M':zI) (w':World):Prop where
 os:w'.os=w.os
 tape:w'.tape=w.tape
 output:w'.output=w.output
 H:M'.H=w'.heap
 h:M'.h=qF M.h u
 ok:Ok M'
 step:yS M M'
def uN (P:Program)(f:Nat)(args:List zW)(h:Hp)(v:zW)(u:yV):Prop:=
 ∀(M:zI) (w:World) (vs:Array Value),M.h=h→M.H=w.heap→Ok M→zK (zP M) args vs.toList→
  ((callFunc f vs).run P w=.ok (.enter f vs) w∧Calls P f vs w fun
   |.returned rv,w'=>∃M',pz M w u M' w'∧zP M' v rv
   |_,_=>False)∨∃rv w' M',(callFunc f vs).run P w=.ok (.value rv) w'∧pz M w u M' w'∧zP M' v rv
def Zs (P:Program)(S:Iw):Prop:=∀k nm f args h v u,yE (S k nm f args h) v u→uN P f args h v u
structure fa (E:Env):Prop where
 eq:En E.P E.eqT
 sums:Zs E.P E.sums
section
variable {P:Program} {Q:Exit→Act→World→Prop} {o:Oper} {a:Act} {w:World} {M:zI} {next:Act→World→Prop} {v:zW} {u:yV}
theorem fb {s}(hr:qH P s M w v u)(he:execOp a.eval o=(do pure (.value (←s)):Sem Next))(hn:∀M' w' rv,pz M w u M' w'→zP M' v rv→next (a.put o.dst rv) w'):
  o.wp P a w next Q:=by
 obtain⟨rv,w',M',h1,h2,h3,h4,h5,h6,h7,h8,h9⟩:=hr;unfold Oper.wp;rw[he];simp[h1];exact hn M' w' rv ⟨h2,h3,h4,h5,h6,h7,h8⟩ h9
theorem Zt {s}(hr:kt P s M w u)(he:execOp a.eval o=(do s;pure .skip:Sem Next))(hn:∀M' w' rv,pz M w u M' w'→zP M' .undef rv→next (a.put o.dst rv) w'):
  o.wp P a w next Q:=by
 obtain⟨w',M',h1,h2,h3,h4,h5,h6,h7,h8⟩:=hr;unfold Oper.wp;rw[he];simp[h1];exact hn M' w' undef ⟨h2,h3,h4,h5,h6,h7,h8⟩ trivial
theorem mF (ok:Ok M)(hM:M.H=w.heap){rv}(hu:u=[])(hv:zP M v rv)(he:(execOp a.eval o).run P w=.ok (.value rv) w)(hn:∀M' w' rv,pz M w u M' w'→zP M' v rv→next (a.put o.dst rv) w'):
  o.wp P a w next Q:=by
 unfold Oper.wp;rw[he];subst hu;exact hn M w rv ⟨rfl,rfl,rfl,hM,rfl,ok,.refl M⟩ hv
end
theorem EJ {α β} f:∀(l:List α) (r:List β),l.mapM f=some r→zK (fun a b=>f a=some b) l r
 |[],r,h=>by simp at h;subst h;trivial
 |a::l,r,h=>by
  simp[Option.bind_eq_some_iff] at h;obtain⟨b,h1,bs,h2,h3⟩:=h;cases h3;exact⟨h1,EJ f l bs h2⟩
theorem zK.map_left {α β γ R}{f:α→γ}:∀{l} {m:List β},zK (fun a b=>R (f a) b) l m→zK R (l.map f) m
 |[],[],_=>trivial
 |_::_,_::_,h=>⟨h.1,zK.map_left h.2⟩
def _root_.Go.Operand.lit:Operand→Value
 |.const c=>c
 |_=>undef
theorem vGs {P:Program}{M:zI}{w:World}{t:TypeId}{d}{y:Operand}{x:zT}{rx ry:Value}{b:Bool}(hu:P.underlying t=some d)(hx:zQ M x rx)(hy:ry=y.lit)
  (h:Nh d y x=some b) op (nP:op=.eql∨op=.neq) ox oy:
  (eqGuard op t ox oy rx ry).run P w=.ok () w∧(binOp op t rx ry).run P w=.ok (.bool (nA op b)) w:=by
 have key:∀n,(Op.equalIn (n+1) t rx ry).run P w=.ok b w→(eqGuard op t ox oy rx ry).run P w=.ok () w→(binOp op t rx ry=match op with|.eql=>(do pure (.bool (←Op.equal t rx ry)))|_=>(do pure (.bool (!(←Op.equal t rx ry)))))→
   n=9999→(eqGuard op t ox oy rx ry).run P w=.ok () w∧(binOp op t rx ry).run P w=.ok (.bool (nA op b)) w:=by
  intro n h1 h2 h3 hn;have eM:(Op.equal t rx ry).run P w=.ok b w:=by subst hn;exact h1
  refine⟨h2,?_⟩;rw[h3];rcases nP with rfl|rfl<;>simp[eM,nA]
 unfold Nh at h;split at h<;>cases h<;>simp only[Operand.lit] at hy<;>subst hy;all_goals (try obtain rfl:rx=_:=hx)
 all_goals (try obtain⟨C,B,_,_,_,rfl⟩:=hx)
 all_goals (try obtain⟨B,o,rfl,_⟩:=hx)
 all_goals (try obtain⟨cv,rfl,_⟩:=hx)
 all_goals (try obtain⟨⟨_,_,_,rfl⟩,_⟩:=hx)
 all_goals
  refine key 9999 ?_ ?_ ?_ rfl
  ·generalize 9999=n;unfold Op.equalIn;simp[run_underlying hu]
  ·rcases nP with rfl|rfl<;>simp[eqGuard]
  ·rcases nP with rfl|rfl<;>rfl
theorem yVg {M}(ok:Ok M){c v n}(hv:zQ M c v)(h:xY M.h c=some n)(hn:0<n):∃a k,v=.slice (some a) n k:=by
 unfold xY at h;split at h
 ·rename_i sh t xs;cases h;have hv:qB M.H (bif sh then M.G else M.F) (.sl t) xs (fun _=>some v):=hv;simp[qB] at hv;obtain⟨A,m,c,rfl,rfl,hc,h⟩:=hv;rcases h with⟨rfl,_⟩|⟨B,o,rfl,_⟩
  ·simp at hn
  ·exact⟨_,_,rfl⟩
 ·rename_i id;split at h
  ·rename_i own t xs ah;cases h;obtain⟨C,hC,hO⟩:=ok.obj _ _ ah;obtain⟨C',aw,A,k,e,hS⟩:=hv;rw[hC] at aw;cases aw;have hl:C.len=xs.length:=hO.1;rw[e,hl];cases hB:C.blk with
   |none=>rw[hB] at hS;omega
   |some B=>
    rw[hB] at hS;obtain⟨_,a,rfl,_⟩:=hS;exact⟨_,_,rfl⟩
  ·cases h
 ·cases h
theorem vQs {P:Program}{w:World}{t e}{a n k}(hu:P.underlying t=some (.slice e)) op (nP:op=.eql∨op=.neq) ox oy:
  (eqGuard op t ox oy (.slice (some a) n k) (.slice none 0 0)).run P w=.ok () w∧(binOp op t (.slice (some a) n k) (.slice none 0 0)).run P w=.ok (.bool (nA op false)) w:=by
 have key:∀m,(Op.equalIn (m+1) t (.slice (some a) n k) (.slice none 0 0)).run P w=.ok false w:=fun m=>by
  unfold Op.equalIn;simp[run_underlying hu]
 have h1:(Op.equal t (.slice (some a) n k) (.slice none 0 0)).run P w=.ok false w:=key 9999;rcases nP with rfl|rfl
 ·refine⟨by simp[eqGuard],?_⟩;rw[show binOp .eql t (.slice (some a) n k) (.slice none 0 0)=(do pure (.bool (←Op.equal t (.slice (some a) n k) (.slice none 0 0)))) from rfl];simp[h1,nA]
 ·refine⟨by simp[eqGuard],?_⟩;rw[show binOp .neq t (.slice (some a) n k) (.slice none 0 0)=(do pure (.bool (!(←Op.equal t (.slice (some a) n k) (.slice none 0 0))))) from rfl];simp[h1,nA]
theorem OF {M}{ev:Operand→zW}{ρ:Operand→Value}(aX:∀x,zP M (ev x) (ρ x)):∀(l:List (Nat×Operand)),zK (uF M) (l.map fun p=>(p.1,ev p.2)) (l.map fun p=>(p.1,ρ p.2))
 |[]=>trivial
 |p::l=>⟨⟨rfl,aX p.2⟩,OF aX l⟩
theorem Zu {f:Operand→Value}(parts:Array (Nat×Operand)):(parts.map fun(i,x)=>(i,f x))=(parts.toList.map fun p=>(p.1,f p.2)).toArray:=by
 grind
theorem Zv {M}{ev:Operand→zW}{ρ}(aX:∀x,zP M (ev x) (ρ x)):∀{l ids},zK (fun x id=>rN (ev x)=some id) l ids→
  zK (fun id u=>∃C B,M.κ id=some C∧C.blk=some B∧u=.pointer (some ⟨B,0,none⟩)) ids (l.map ρ)
 |[],[],_=>trivial
 |x::l,id::ids,h=>by
  refine⟨?_,Zv aX h.2⟩;have h1:rN (ev x)=some id:=h.1;have hx:=aX x;unfold rN at h1;split at h1
  ·rename_i zr hc;cases h1;rw[hc] at hx;exact hx
  ·cases h1
theorem Zw {M ev ρ}(aX:∀x,zP M (ev x) (ρ x)):∀(l:List Operand),zK (zP M) (l.map ev) (l.map ρ)
 |[]=>trivial
 |x::l=>⟨aX x,Zw aX l⟩
theorem vBu {E}(hE:fa E){A}{k pre}{Q}{o}{a}{w}{M}{next}{v}{u ev}(ok:Ok M)(hM:M.H=w.heap)
  (aX:∀x,zP M (ev x) (a.eval x)) (h:yE (iM E A k pre o ev M.h) v u) (hn:∀M' w' rv,pz M w u M' w'→zP M' v rv→next (a.put o.dst rv) w'):o.wp E.P a w next Q:=by
 unfold iM at h;dsimp only at h;split at h
 ·rename_i x ho;obtain⟨rfl,rfl⟩:=vQ h;exact mF ok hM rfl (aX x) (by cases o;cases ho;rfl) hn
 ·rename_i x ho;obtain⟨rfl,rfl⟩:=vQ h;exact mF ok hM rfl (aX x) (by cases o;cases ho;rfl) hn
 ·rename_i c x y ho;split at h
  ·rename_i cb hc;have iQ:=aX c;rw[hc] at iQ;have iQ:a.eval c=.bool cb:=iQ;split at h
   ·rename_i xb yb hx hy;obtain⟨rfl,rfl⟩:=vQ h;have h1:=aX x;have h2:=aX y;rw[hx] at h1;rw[hy] at h2;refine mF (rv:=.bool (bif cb then xb else yb)) ok hM rfl (show zP M (.c (.bool _)) (.bool _) from rfl) ?_ hn;have h1:a.eval x=.bool xb:=h1;have h2:a.eval y=.bool yb:=h2;cases o;cases ho;show(do pure (.value (if←asBool (a.eval c) then a.eval x else a.eval y)):Sem Next).run E.P w=_;cases cb<;>simp[iQ,asBool,h1,h2]
   ·refine mF (rv:=if cb then a.eval x else a.eval y) ok hM ?_ ?_ ?_ hn
    ·rcases h with⟨_,_,rfl⟩|⟨_,⟨_,_,rfl⟩|⟨_,h⟩⟩
     ·rfl
     ·rfl
     ·exact h.elim
    ·rcases h with⟨rfl,rfl,_⟩|⟨rfl,⟨_,rfl,_⟩|⟨_,h⟩⟩
     ·exact aX x
     ·exact aX y
     ·exact h.elim
    ·cases o;cases ho;show(do pure (.value (if←asBool (a.eval c) then a.eval x else a.eval y)):Sem Next).run E.P w=_;cases cb<;>simp[iQ,asBool]
  ·exact h.elim
 ·rename_i t ho;split at h
  ·rename_i zs aO hz;obtain⟨_,rfl,rfl⟩:=eY h;exact fb (vAv ok hM aO hz) (by cases o;cases ho;rfl) hn
  ·exact h.elim
 ·rename_i t x ho;split at h
  ·rename_i vs aO hv;obtain⟨_,rfl,rfl⟩:=eY h;exact fb (vIj ok hM aO (aX x) hv _) (by cases o;cases ho;rfl) hn
  ·exact h.elim
 ·rename_i t parts ho;have hp:=OF aX parts.toList;have:=vO5 ok hM hp h;exact fb this (by cases o;cases ho;rw[←Zu];rfl) hn
 ·rename_i t n parts ho;have hp:=OF aX parts.toList;exact fb (vHb ok hM hp h) (by cases o;cases ho;rw[←Zu];rfl) hn
 ·rename_i t x ho;exact fb (yZ3 ok hM (aX x) h) (by cases o;cases ho;rfl) hn
 ·rename_i t x y ho;obtain⟨rfl,hr⟩:=vMa ok hM (aX x) (aX y) h;exact Zt hr (by cases o;cases ho;rfl) hn
 ·rename_i x ho;have hx:=aX x;have key:∀c,ev x=.c c→v=.c c→u=[]→(match a.eval x with|.pointer none|.nilIface|.nilFunc=>False|.func (.method _) _ _=>False|_=>True)→o.wp E.P a w next Q:=by
   intro c hc hv hu hm;rw[hc] at hx;refine mF (rv:=a.eval x) ok hM hu (by rw[hv];exact hx) ?_ hn;cases o;cases ho;simp only[execOp];generalize a.eval x=r at*
   split<;>first|rfl|exact hm.elim
  split at h
  ·rename_i i j hc;obtain⟨rfl,rfl⟩:=vQ h;refine key _ hc rfl rfl ?_;rw[hc] at hx;obtain⟨C,B,_,_,e⟩:=hx;rw[e];trivial
  ·rename_i i j k hc;obtain⟨rfl,rfl⟩:=vQ h;refine key _ hc rfl rfl ?_;rw[hc] at hx;obtain⟨C,B,_,_,_,e⟩:=hx;rw[e];trivial
  ·rename_i i j k l hc;obtain⟨rfl,rfl⟩:=vQ h;refine key _ hc rfl rfl ?_;rw[hc] at hx;obtain⟨B,o,e,_⟩:=hx;rw[e];trivial
  ·rename_i i j hc;obtain⟨rfl,rfl⟩:=vQ h;refine key _ hc rfl rfl ?_;rw[hc] at hx;obtain⟨cv,e,_⟩:=hx;rw[e];trivial
  ·exact h.elim
 ·rename_i op t x y _ ho;cases hc:(Nj y&&Ni op) with
  |false=>
   rw[hc] at h;exact fb (vH9 hE.eq ok hM (aX x) (aX y) h) (by cases o;cases ho;rfl) hn
  |true=>
   rw[hc] at h;rw[Bool.and_eq_true] at hc;have nP:op=.eql∨op=.neq:=by cases op<;>first|(left;rfl)|(right;rfl)|(cases hc.2)
   split at h
   ·rename_i d cv hu iQ;split at h
    ·rename_i b hb;obtain⟨rfl,rfl⟩:=vQ h;have hx:=aX x;rw[iQ] at hx;have hy:a.eval y=y.lit:=by
      cases y<;>first|rfl|(cases hc.1)
     obtain⟨h1,h2⟩:=vGs (w:=w) hu hx hy hb op nP x y;refine mF (rv:=.bool (nA op b)) ok hM rfl (show zP M (.c (.bool _)) (.bool _) from rfl) ?_ hn;cases o;cases ho;show(do pure (.value (←(do eqGuard op t x y (a.eval x) (a.eval y);binOp op t (a.eval x) (a.eval y)))):Sem Next).run E.P w=_;simp only[Sem.run_bind,h1,Result.andThen_ok,h2,Sem.run_pure]
    ·split at h
     ·rename_i n hln Zx;obtain⟨jh,rfl,rfl⟩:=ko h;have hx:=aX x;rw[iQ] at hx;obtain⟨a',k',hx⟩:=yVg ok hx hln (by simpa using jh);obtain⟨h1,h2⟩:=vQs (P:=E.P) (w:=w) (a:=a') (n:=n) (k:=k') hu op nP x (.const (.slice none 0 0));have hy:a.eval (.const (.slice none 0 0))=.slice none 0 0:=rfl;refine mF (rv:=.bool (nA op false)) ok hM rfl (show zP M (.c (.bool _)) (.bool _) from rfl) ?_ hn;cases o;cases ho;show(do pure (.value (←(do eqGuard op t x (.const (.slice none 0 0)) (a.eval x) (a.eval (.const (.slice none 0 0)));binOp op t (a.eval x) (a.eval (.const (.slice none 0 0)))))):Sem Next).run E.P w=_;rw[hx,hy];simp only[Sem.run_bind,h1,Result.andThen_ok,h2,Sem.run_pure]
     ·exact h.elim
   ·exact h.elim
 ·rename_i op t x ho;exact fb (vLc ok hM (aX x) h) (by cases o;cases ho;rfl) hn
 ·rename_i s d x ho;split at h
  ·rename_i k1 k k2 n hs hd hx;obtain⟨rfl,rfl⟩:=vQ h;have jk:=aX x;rw[hx] at jk;have jk:a.eval x=.int k2 n:=jk;refine mF (rv:=.int k (k.wrap n)) ok hM rfl (show zP M (.c (.int _ _)) (.int _ _) from rfl) ?_ hn;cases o;cases ho;show(do pure (.value (←convert s d (a.eval x))):Sem Next).run E.P w=_;simp[convert,run_underlying hs,run_underlying hd,jk,Conv.intToInt]
  ·rename_i e c hs hd hx;split at h
   ·rename_i xs he EK;obtain⟨rfl,rfl⟩:=vQ h;have jk:=aX x;rw[hx] at jk;obtain⟨A,n,k,e1,e2⟩:=vH8 (P:=E.P) (w:=w) ok jk EK hM;refine mF (rv:=.string ⟨(lK xs).toArray⟩) ok hM rfl (show zP M (.c (.str xs)) _ from rfl) ?_ hn;cases o;cases ho;show(do pure (.value (←convert s d (a.eval x))):Sem Next).run E.P w=_;rw[e1] at e2⊢;simp only[Sem.run_bind,run_convert_bytes_string w s d e A n k hs he hd,e2,Result.andThen_ok,Sem.run_pure]
   ·exact h.elim
  ·exact h.elim
 ·rename_i f first captured ho
  cases hf:Nat.beq first.size 0 with
  |false=>rw[hf] at h;exact h.elim
  |true=>
   rw[hf] at h;simp only[cond_true] at h;split at h
   ·rename_i ids jl;obtain⟨rfl,rfl⟩:=vQ h;have h0:first=#[]:=Array.eq_empty_of_size_eq_zero (by simpa using hf)
    refine mF (rv:=.func (.func f) #[] (captured.map a.eval)) ok hM rfl ?_ ?_ hn
    case refine_2=>
     cases o;cases ho;show(do pure (.value (←Instr.makeFunc (.func f) (first.map a.eval) (captured.map a.eval))):Sem Next).run E.P w=_;subst h0;simp[Instr.makeFunc]
    refine⟨_,rfl,?_⟩;rw[Array.toList_map];exact Zv aX (EJ _ _ _ jl)
   ·exact h.elim
 ·rename_i t l c ho;exact fb (vM5 ok hM (aX l) (aX c) h) (by cases o;cases ho;rfl) hn
 ·rename_i t ho;exact fb (vPc ok hM h) (by cases o;cases ho;rfl) hn
 ·rename_i t x i ho;exact fb (yWz ok hM (aX x) (aX i) h) (by cases o;cases ho;rfl) hn
 ·rename_i t x i y ho;obtain⟨rfl,hr⟩:=vEj ok hM (aX x) (aX i) (aX y) h;exact Zt hr (by cases o;cases ho;rfl) hn
 ·rename_i t x lo hi mx ho;have hO:∀y:Option Operand,ze M (y.map ev) (y.map a.eval):=fun y=>by
   cases y with
   |none=>trivial
   |some y=>exact aX y
  exact fb (vOw ok hM (aX x) (hO lo) (hO hi) (hO mx) h) (by cases o;cases ho;rfl) hn
 ·rename_i t x f ho;exact fb (vMh ok hM (aX x) h) (by cases o;cases ho;rfl) hn
 ·rename_i t x f ho;exact fb (vJy ok hM (aX x) h) (by cases o;cases ho;rfl) hn
 ·rename_i t x i ho;exact fb (vNv ok hM (aX x) (aX i) h) (by cases o;cases ho;rfl) hn
 ·rename_i t x i ho;exact fb (vN9 ok hM (aX x) (aX i) h) (by cases o;cases ho;rfl) hn
 ·rename_i t i ho;have ht:=aX t;split at h
  ·rename_i xs EK;rw[EK] at ht;obtain⟨vs,de,bb⟩:=ht;split at h
   ·rename_i g cs hi;obtain⟨hp,rfl⟩:=ND h;have hl:=bb.length;have bn:i<xs.length:=by
     rcases Nat.lt_or_ge i xs.length with h|h
     ·exact h
     ·rw[List.getElem?_eq_none h] at hi;cases hi
    have g9:i<vs.size:=by simp at hl;omega
    have hc:=bb.get i bn (by simpa using g9);rw[List.getElem?_eq_getElem bn,Option.some.injEq] at hi;rw[hi] at hc;refine mF (rv:=vs[i]) ok hM rfl ?_ ?_ hn
    ·rcases NH hp with⟨e1,rfl⟩|⟨e1,c,rfl,rfl⟩
     ·cases e1;exact hc
     ·cases e1;exact hc
    ·cases o;cases ho;show(do pure (.value (←Instr.extract (a.eval t) i)):Sem Next).run E.P w=_;rw[de];simp[Instr.extract,g9]
   ·exact h.elim
  ·exact h.elim
 ·rename_i c ho;have cy:=Zw aX c.args.toList;have exec:∀b,c.callee=.builtin b→∀s:Sem Value,(∀C,Go.builtin b c.argTypes o.type C (c.args.map a.eval)=(do pure (.value (←s)):Sem Next))→execOp a.eval o=(do pure (.value (←s)):Sem Next):=fun b hb s hs=>by
   cases o;cases ho;show(do let d←resolve a.eval c _;invoke d.target d.args:Sem Next)=_;unfold resolve;rw[hb];exact hs _
  have ig:c.args.map a.eval=(c.args.toList.map a.eval).toArray:=by cases c.args;simp
  split at h
  ·rename_i b ij;unfold Nv at h;split at h
   ·split at h
    case h_2=>exact h.elim
    rename_i x hx;have h1:∃rx,(c.args.toList.map a.eval).toArray=#[rx]∧zQ M x rx:=by
     rw[hx] at cy
     match hl:c.args.toList.map a.eval,cy with
     |[rx],hh=>exact⟨rx,rfl,hh.1⟩
    obtain⟨rx,uO,jk⟩:=h1;split at h
    ·rename_i e hu;split at h
     ·rename_i n hlen;obtain⟨rfl,rfl⟩:=vQ h;obtain⟨t,ht,hu⟩:=Option.bind_eq_some_iff.1 hu;obtain⟨A,k,rfl⟩:=vH5 ok jk hlen;refine fb (s:=Builtin.len_ c.argTypes o.type (c.args.map a.eval)) ?_ (exec _ ij _ fun _=>rfl) hn;rw[ig,uO];exact .pure ok hM (vNa ht hu) rfl
     ·exact h.elim
    ·exact h.elim
   ·split at h
    case h_2=>exact h.elim
    rename_i b x hx;have h1:∃rb rx,(c.args.toList.map a.eval).toArray=#[rb,rx]∧zP M b rb∧zP M x rx:=by
     rw[hx] at cy
     match hl:c.args.toList.map a.eval,cy with
     |[rb,rx],hh=>exact⟨rb,rx,rfl,hh.1,hh.2.1⟩
    obtain⟨rb,rx,uO,OG,jk⟩:=h1;split at h
    ·rename_i t t' hts;obtain⟨htt,h'⟩:=uJ h;have:t=t':=by simpa using htt
     subst this;refine fb (s:=Builtin.append_ c.argTypes o.type (c.args.map a.eval)) ?_ (exec _ ij _ fun _=>rfl) hn;have ht:c.argTypes=#[t,t]:=by
      have:=congrArg List.toArray hts
      simpa using this
     rw[ig,uO,ht];exact yUg ok hM OG jk h'
    ·exact h.elim
   ·split at h
    case h_2=>exact h.elim
    rename_i d s hx;have h1:∃rb rx,(c.args.toList.map a.eval).toArray=#[rb,rx]∧zP M d rb∧zP M s rx:=by
     rw[hx] at cy
     match hl:c.args.toList.map a.eval,cy with
     |[rb,rx],hh=>exact⟨rb,rx,rfl,hh.1,hh.2.1⟩
    obtain⟨rb,rx,uO,OG,jk⟩:=h1;split at h
    ·rename_i e hu;obtain⟨OH,h⟩:=uJ h;obtain⟨t,ht,hu⟩:=Option.bind_eq_some_iff.1 hu;refine fb (s:=Builtin.copy_ c.argTypes o.type (c.args.map a.eval)) ?_ (exec _ ij _ fun _=>rfl) hn;rw[ig,uO];exact vOq ok hM ht hu (by simpa using OH) OG jk h
    ·exact h.elim
   ·split at h
    case h_2=>exact h.elim
    rename_i id lo n hx;have h1:∃rx,(c.args.toList.map a.eval).toArray=#[rx]∧zQ M (.osl id (some (lo,n))) rx:=by
     rw[hx] at cy
     match hl:c.args.toList.map a.eval,cy with
     |[rx],hh=>exact⟨rx,rfl,hh.1⟩
    obtain⟨rx,uO,jk⟩:=h1;split at h
    ·rename_i t ht;refine fb (s:=Builtin.clear_ c.argTypes o.type (c.args.map a.eval)) ?_ (exec _ ij _ fun _=>rfl) hn;rw[ig,uO];obtain⟨rv,w',M',q1,q2⟩:=vLx (T:=o.type) ok hM jk h;refine⟨rv,w',M',?_,q2⟩;have e:(Builtin.clear_ c.argTypes o.type #[rx]).run E.P w=(Builtin.clear_ #[t] o.type #[rx]).run E.P w:=by
      simp only[Builtin.clear_,ht];rfl
     rw[e];exact q1
    ·exact h.elim
   ·refine fb (s:=Builtin.max_ c.argTypes o.type (c.args.map a.eval)) ?_ (exec _ ij _ fun _=>rfl) hn;rw[ig];exact Zl (lt:=false) (ts:=c.argTypes) (T:=o.type) ok hM cy h
   ·refine fb (s:=Builtin.min_ c.argTypes o.type (c.args.map a.eval)) ?_ (exec _ ij _ fun _=>rfl) hn;rw[ig];exact Zl (lt:=true) (ts:=c.argTypes) (T:=o.type) ok hM cy h
   ·exact h.elim
  ·rename_i f ij;split at h
   ·rename_i OI cap hf;have Zy:=aX f;rw[hf] at Zy;obtain⟨cv,iQ,EL⟩:=Zy;have bb:zK (zP M) (c.args.toList.map ev++cap.map fun id=>.c (.ptr id 0)) (c.args.map a.eval++cv).toList:=by
     rw[Array.toList_append,Array.toList_map];exact cy.append (zK.map_left EL)
    have pt:(execOp a.eval o).run E.P w=(callFunc OI (c.args.map a.eval++cv)).run E.P w:=by
     cases o;cases ho;show(do let d←resolve a.eval c _;invoke d.target d.args:Sem Next).run E.P w=_;unfold resolve;rw[ij];simp only[iQ,Deferred.ofValue,Sem.run_bind,Sem.run_pure,Result.andThen_ok,invoke,Array.empty_append]
    rcases hE.sums k _ OI _ M.h v u h M w _ rfl hM ok bb with⟨h1,h2⟩|⟨rv,w',M',h1,hB,hv⟩
    case inr=>
     unfold Oper.wp;rw[pt,h1];exact hn M' w' rv hB hv
    unfold Oper.wp;rw[pt,h1,Oper.upon_enter];refine Calls.mono h2 fun e w' he=>?_
    cases e with
    |returned rv=>
     obtain⟨M',hB,hv⟩:=he;exact hn M' w' rv hB hv
    |panicked _=>exact he.elim
    |outgrown=>exact he.elim
   ·exact h.elim
  ·exact h.elim
 ·exact h.elim
section
variable {P:Program} {h h':Hp}
theorem vOh {t a}(hh:∀id∈yF a,h id=h' id):ya P h t a=ya P h' t a:=by
 unfold ya;cases a with
 |c v=>cases v<;>first|rfl|(have:=hh _ (List.mem_singleton.2 rfl);simp_all)
 |_=>rfl
theorem Zz {v}(hh:∀id∈yY v,h id=h' id):lL h v=lL h' v:=by
 unfold lL;cases v<;>first|rfl|(have:=hh _ (List.mem_singleton.2 rfl);simp_all)
theorem OJ:∀{vs},(∀id∈vs.flatMap yY,h id=h' id)→kR h vs=kR h' vs
 |[],_=>rfl
 |v::vs,hh=>by
  simp  at hh;unfold kR;rw[Zz fun id hi=>hh id (.inl hi),OJ (by grind)]
theorem ZA {v vs}(e:lJ v=some vs):vs.flatMap yY=yF v:=by
 unfold lJ at e;split at e
 ·cases e;simp[yF]
 ·cases e;rfl
 ·cases e
theorem vIz {t a v}(ha:∀id∈yF a,h id=h' id)(hv:∀id∈yF v,h id=h' id):yc P h t a v=yc P h' t a v:=by
 unfold yc;cases e:lJ v with
 |none=>rfl
 |some vs=>
  have hf:kR h vs=kR h' vs:=OJ (by rw[ZA e];exact hv);cases a with
  |c x=>
   cases x with
   |mptr id i=>
    have h1:=ha _ (List.mem_singleton.2 rfl);simp only[h1];generalize h' id=ob;rcases ob with _|(_|_|_|_|_|_|_)<;>first|rfl|skip
    all_goals cases v with
    |c y=>cases y with
     |osl jd r=>cases r with
      |none=>
       have h2:=hv _ (List.mem_singleton.2 rfl);simp_all
      |some _=>rfl
     |_=>rfl
    |_=>rfl
   |ptr id off=>
    have h1:=ha _ (List.mem_singleton.2 rfl);simp_all
   |eptr id i off=>
    have h1:=ha _ (List.mem_singleton.2 rfl);simp_all
   |meptr id i j ver=>
    have h1:=ha _ (List.mem_singleton.2 rfl);simp[h1]
   |_=>rfl
  |_=>rfl
theorem Jh {v}(hh:∀id∈yY v,h id=h' id):gY h v=gY h' v:=by
 unfold gY;cases v<;>first|rfl|(have:=hh _ (List.mem_singleton.2 rfl);simp_all)
theorem vH6 {v}(hh:∀id∈yY v,h id=h' id):xX h v=xX h' v:=by
 have e:=Jh hh;unfold xX;grind
theorem vGv {t x i}(hh:∀id∈yF x,h id=h' id):yd P h t x i=yd P h' t x i:=by
 unfold yd;generalize P.underlying t=d;rcases d with _|d
 ·rfl
 ·cases d with
  |slice e=>
   cases x with
   |c v=>
    cases i with
    |c iv=>
     cases iv with
     |int k n=>cases v<;>first|rfl|(have:=hh _ (List.mem_singleton.2 rfl);simp_all)
     |_=>cases v<;>rfl
    |_=>rfl
   |_=>rfl
  |array n e=>
   grind
  |_=>rfl
theorem vPb {nm t}(h0:h nm=h' nm):yg P nm h t=yg P nm h' t:=by
 unfold yg;rw[h0]
theorem yYj {t x i}(hh:∀id∈yF x,h id=h' id):yh P h t x i=yh P h' t x i:=by
 unfold yh;split
 ·rename_i id n;rw[hh id (by simp[yF,yY])]
 ·rfl
theorem yVt {t x i y}(hh:∀id∈yF x,h id=h' id):yi P h t x i y=yi P h' t x i y:=by
 unfold yi;split
 ·rename_i id n b;rw[hh id (by simp[yF,yY])]
 ·rfl
theorem vAm {t x lo hi mx}(hh:∀id∈yF x,h id=h' id):yj P h t x lo hi mx=yj P h' t x lo hi mx:=by
 unfold yj;split
 ·rfl
 ·rename_i id r _;rw[hh id (by simp[yF,yY])]
 ·rename_i id _;rw[hh id (by simp[yF,yY])]
 ·rename_i id off _;rw[hh id (by simp[yF,yY])]
 ·rfl
theorem vDn {v}(hh:∀id∈yF v,h id=h' id):ui h v=ui h' v:=by
 unfold ui;cases v with
 |c v=>cases v with
  |osl jd r=>cases r with
   |none=>
    have h2:=hh _ (List.mem_singleton.2 rfl);simp_all
   |some _=>rfl
  |_=>rfl
 |_=>rfl
theorem ZB:∀{parts rows},(∀id∈(parts.map (·.2)).flatMap yF,h id=h' id)→uj h rows parts=uj h' rows parts
 |[],_,_=>rfl
 |(i,v)::rest,rows,hh=>by
  simp only[List.map_cons,List.flatMap_cons,List.mem_append] at hh;unfold uj;rw[vDn fun id hi=>hh id (.inl hi)];cases ui h' v with
  |none=>rfl
  |some p=>simp[ZB fun id hi=>hh id (.inr hi)]
theorem ZC {t}:∀{parts xs},(∀id∈(parts.map (·.2)).flatMap yF,h id=h' id)→nB h t xs parts=nB h' t xs parts
 |[],_,_=>rfl
 |(i,v)::rest,xs,hh=>by
  simp only[List.map_cons,List.flatMap_cons,List.mem_append] at hh;unfold nB;cases e:lJ v with
  |none=>rfl
  |some vs=>
   have hf:kR h vs=kR h' vs:=OJ (by rw[ZA e];simp_all);simp[hf];cases kR h' vs with
   |none=>rfl
   |some p=>
    dsimp only;cases D5 t p.1 with
    |none=>rfl
    |some x=>simp[ZC fun id hi=>hh id (.inr hi)]
theorem yXq {mat nm t n parts}(h0:h nm=h' nm)(hh:∀id∈(parts.map (·.2)).flatMap yF,h id=h' id):
  ye P mat nm h t n parts=ye P mat nm h' t n parts:=by
 have e':∀ty:Ty,nB h ty (List.replicate n ty.dflt) parts=nB h' ty (List.replicate n ty.dflt) parts:=fun ty=>ZC hh
 unfold ye;rw[h0,ZB hh];simp_all
theorem yT4 {mat nm t l c}(h0:h nm=h' nm):yf P mat nm h t l c=yf P mat nm h' t l c:=by
 unfold yf;rw[h0]
theorem vFl {t v}(hh:∀id∈yY v,h id=h' id):o0 h t v=o0 h' t v:=by
 unfold o0;cases v with
 |osl id r=>
  have:=hh _ (List.mem_singleton.2 rfl);simp_all
 |_=>rfl
theorem vHk {mat:Bool}{nm:Nat}{t:TypeId}{b x:zW}(h0:h nm=h' nm)(hb:∀id∈yF b,h id=h' id)(hx:∀id∈yF x,h id=h' id):yk P mat nm h t b x=yk P mat nm h' t b x:=by
 unfold yk;rw[h0];generalize P.underlying t=d;rcases d with _|d
 ·rfl
 cases d with
 |slice e=>
  generalize h' nm=on;cases on with
  |some _=>rfl
  |none=>
   cases b with
   |c b=>
    cases x with
    |c x=>
     have ht:∀ty,o0 h ty x=o0 h' ty x:=fun ty=>vFl hx
     simp only[ht];cases b with
     |osl id r=>
      have h1:=hb _ (List.mem_singleton.2 rfl);simp only[h1];cases x with
      |osl jd r2=>
       have h2:=hx _ (List.mem_singleton.2 rfl);grind
      |_=>cases mat with
       |false=>rfl
       |true=>
        generalize gW P e=et;rcases et with _|(_|_|_|_)<;>first|rfl|skip
        rename_i t2;cases t2<;>first|rfl|skip
        rename_i k;cases k<;>cases r<;>rfl
     |_=>cases mat with
      |false=>rfl
      |true=>
       generalize gW P e=et;rcases et with _|(_|_|_|_)<;>first|rfl|skip
       rename_i t2;cases t2<;>first|rfl|skip
       rename_i k;cases k<;>rfl
    |_=>rfl
   |_=>rfl
 |_=>rfl
theorem yXe {d s}(hd:∀id∈yF d,h id=h' id)(hs:∀id∈yF s,h id=h' id):yl h d s=yl h' d s:=by
 unfold yl;cases d with
 |c d=>
  cases s with
  |c s=>
   cases d with
   |bsl id off n=>
    have h1:=hd _ (List.mem_singleton.2 rfl);have h2:gY h s=gY h' s:=Jh hs;grind
   |_=>rfl
  |_=>simp
 |_=>rfl
end
theorem vC4 {E}{A}{k pre}{o}{ev pA}{h}(he:∀x∈o.op.operands,ev x=pA x):iM E A k pre o ev h=iM E A k pre o pA h:=by
 obtain⟨dst,op,type,pos,after,guard⟩:=o;have jJ:∀ps:Array (Nat×Operand),(∀x∈ps.map (·.2),ev x=pA x)→(ps.toList.map fun p=>(p.1,ev p.2))=(ps.toList.map fun p=>(p.1,pA p.2)):=fun ps hp=>
  List.map_congr_left (by grind)
 have maps:∀xs:Array Operand,(∀x∈xs,ev x=pA x)→xs.toList.map ev=xs.toList.map pA:=by simp
 cases op<;>simp only[Op.operands] at he<;>simp only[iM]
 case build t ps=>rw[jJ ps fun x hx=>he x (by simpa using hx)]
 case buildSlice t n ps=>rw[jJ ps fun x hx=>he x (by simpa using hx)]
 case makeFunc fn first captured=>
  cases fn<;>first|rfl|skip
  have:captured.toList.mapM (fun x=>rN (ev x))=captured.toList.mapM (fun x=>rN (pA x)):=by
   have h2:∀l:List Operand,(∀x∈l,ev x=pA x)→l.mapM (fun x=>rN (ev x))=l.mapM (fun x=>rN (pA x)):=fun l=>by
    induction l with
    |nil=>exact fun _=>rfl
    |cons y l ih=>simp_all
   exact by grind
  simp only[this]
 case call c=>
  obtain⟨callee,args,ZD⟩:=c;have ha:=maps args fun x hx=>he x (by simp[Call.operands,hx])
  cases callee with
  |value f=>
   have hf:=he f (by simp[Call.operands]);simp only[hf,ha]
  |builtin b=>simp only[ha]
  |invoke _ _=>rfl
 case makeMap t r=>cases r<;>rfl
 case lookup t x i ok=>cases ok<;>simp_all
 case slice t x lo hi mx=>
  have h1:=he x (by simp);cases lo<;>cases hi<;>cases mx<;>simp_all
 all_goals (first|rfl|(simp only[he _ (by simp:_∈#[_])];done)|(simp_all;done))
def ik (S:Iw):Prop:=∀k nm f (args:List zW) h h',(args.any vS=false→∀id,(id∈args.flatMap yF∨kT nm id=true)→h id=h' id)→(args.any vS=true→h=h')→S k nm f args h=S k nm f args h'
theorem vEb nm:kT nm nm=true:=by
 simp[kT]
theorem yVz {E}(hS:ik E.sums){A k pre o ev h h'}
  (hh:match nD ev o with|none=>h=h'|some l=>∀id,(id∈l∨kT (nC pre o.dst) id=true)→h id=h' id):iM E A k pre o ev h=iM E A k pre o ev h':=by
 have full:h=h'→iM E A k pre o ev h=iM E A k pre o ev h':=fun e=>by rw[e]
 unfold nD at hh;dsimp only at hh;cases hq:Yg o.op with
 |true=>
  obtain⟨dst,op,type,pos,after,guard⟩:=o;cases op<;>first|rfl|cases hq
 |false=>
 rw[hq] at hh;simp only[cond_false] at hh;cases hc:(Nw o.op&&(o.op.operands.toList.map ev).any vS) with
 |true=>rw[hc] at hh;exact full hh
 |false=>
  rw[hc] at hh;replace hh:∀id,(id∈(o.op.operands.toList.map ev).flatMap yF∨kT (nC pre o.dst) id=true)→h id=h' id:=hh;have h0:h (nC pre o.dst)=h' (nC pre o.dst):=hh _ (.inr (vEb _));have hx:∀x∈o.op.operands,∀id∈yF (ev x),h id=h' id:=by grind
  obtain⟨dst,op,type,pos,after,guard⟩:=o;dsimp only at h0 hx hc;cases op<;>simp only[Op.operands] at hx<;>simp only[iM]
  case alloc t=>rw[h0]
  case box t x=>rw[h0]
  case buildSlice t n ps=>
   exact yXq h0 (by grind)
  case load t x=>exact vOh (hx x (by simp))
  case store t x y=>exact vIz (hx x (by simp)) (hx y (by simp))
  case makeSlice t l c=>exact yT4 h0
  case slice t x lo hi mx=>exact vAm (hx x (by simp))
  case makeMap t r=>cases r<;>first|rfl|exact vPb h0
  case lookup t x i ok=>cases ok<;>first|rfl|exact yYj (hx x (by simp))
  case mapUpdate t x i y=>exact yVt (hx x (by simp))
  case indexAddr t x i=>exact vGv (hx x (by simp))
  case binOp op t x y p=>
   have hx:=hx x (by simp);have hl:∀v,ev x=.c v→xY h v=xY h' v:=fun v e=>by
    cases v with
    |osl id r=>cases r with
     |none=>simp only[xY,hx id (by rw[e];simp[yF,yY])]
     |some p=>rfl
    |_=>rfl
   split
   ·cases Nj y&&Ni op with
    |false=>rfl
    |true=>
     rename_i d v hu hv;simp only[hl v hv]
   ·rfl
  case convert s d x=>
   have hx:=hx x (by simp);have hs:∀v,ev x=.c v→xW h v=xW h' v:=fun v e=>by
    have:=Jh (h:=h) (h':=h') (v:=v) fun id ah=>hx id (by rw[e];exact ah)
    unfold xW;cases v<;>first|rfl|simp only[this]
   split
   ·rfl
   ·rename_i e c _ _ hc;rw[hs c hc]
   ·rfl
  case call c=>
   obtain⟨callee,args,ZD⟩:=c;have ha:∀v∈args.toList.map ev,∀id∈yF v,h id=h' id:=fun v hv=>by
    obtain⟨x,uP,rfl⟩:=List.mem_map.1 hv;exact hx x (by simp at uP;simp[Call.operands,uP])
   cases callee with
   |value f=>
    dsimp only;cases hf:ev f with
    |c fv=>cases fv with
     |fn OI cap=>
      dsimp only;simp only[Nw,Bool.true_and] at hc;have fT:cap=[]:=by
       have hm:ev f∈(Op.call ⟨.value f,args,ZD⟩).operands.toList.map ev:=List.mem_map_of_mem (by simp[Op.operands,Call.operands]);have:=List.any_eq_false.1 hc _ hm;rw[hf] at this
       simpa[vS] using this
      subst fT;simp only[List.map_nil,List.append_nil];have hb:(args.toList.map ev).any vS=false:=by
       refine List.any_eq_false.2 fun v hv=>?_
       obtain⟨x,uP,rfl⟩:=List.mem_map.1 hv;exact List.any_eq_false.1 hc _ (List.mem_map_of_mem (by simp at uP;simp[Op.operands,Call.operands,uP]))
      refine hS _ _ _ _ _ _ (fun _ id ah=>?_) fun ht=>?_
      ·rcases ah with ah|ah
       ·obtain⟨v,hv,ah⟩:=List.mem_flatMap.1 ah;exact ha v hv id ah
       ·exact hh id (.inr ah)
      ·rw[hb] at ht;cases ht
     |_=>rfl
    |_=>rfl
   |invoke _ _=>rfl
   |builtin b=>
    generalize hl:args.toList.map ev=l at ha;unfold Nv;cases b<;>first|rfl|skip
    case len=>
     match l,ha with
     |[],_=>rfl
     |[v],ha=>cases v with
      |c v=>
       have:=vH6 (ha (.c v) (by simp));simp only[this]
      |_=>rfl
     |v::_::_,_=>cases v<;>rfl
    case append=>
     match l,ha with
     |[],_|[_],_|_::_::_::_,_=>rfl
     |[b,x],ha=>
      have:=fun mat t=>vHk (P:=E.P) (mat:=mat) (t:=t) h0 (ha b (by simp)) (ha x (by simp))
      simp only[this]
    case clear=>
     match l,ha with
     |[],_=>rfl
     |[v],ha=>cases v with
      |c v=>cases v with
       |osl id r=>cases r with
        |none=>rfl
        |some p=>
         have e:=ha (.c (.osl id (some p))) (by simp) id (by simp[yF,yY]);dsimp only;split
         ·unfold Iu;rw[e]
         ·rfl
       |_=>rfl
      |_=>rfl
     |v::_::_,_=>cases v with
      |c v=>cases v with
       |osl id r=>cases r<;>rfl
       |_=>rfl
      |_=>rfl
    case copy=>
     match l,ha with
     |[],_|[_],_|_::_::_::_,_=>rfl
     |[b,x],ha=>
      have:=yXe (ha b (by simp)) (ha x (by simp));simp only[this]
  case makeFunc fn first captured=>cases fn<;>rfl
  all_goals rfl
end Go.Ab
set_option linter.unusedSectionVars false
namespace Go.Ab
structure gG (M M':zI):Prop where
 F:∀b,M.F b→M'.F b
 G:∀b,M.G b→M'.G b
 same:∀b,M.F b→M'.H[b]? =M.H[b]?
 sameG:∀b,M.G b→M'.H[b]? =M.H[b]?
 bsz:∀b,b<M.H.size→qP M'.H b=qP M.H b
 size:M.H.size≤M'.H.size
 frame:∀b,b<M.H.size→¬qJ M b→M'.H[b]? =M.H[b]?
 own:∀b,qJ M' b→b<M.H.size→qJ M b
 Gb:∀b,M'.G b→b<M.H.size→M.G b∨qJ M b
 Fb:∀b,M'.F b→b<M.H.size→M.F b∨qJ M b
theorem yS.grow {M M'}(s:yS M M'):gG M M':=⟨s.ext.F,s.ext.G,s.ext.same,s.ext.sameG,s.ext.bsz,s.size,s.frame,s.own,s.Gb,s.Fb⟩
theorem gG.trans {M M' kl}(x:gG M M')(y:gG M' kl):gG M kl where
 F b h:=y.F b (x.F b h)
 G b h:=y.G b (x.G b h)
 same b h:=(y.same b (x.F b h)).trans (x.same b h)
 sameG b h:=(y.sameG b (x.G b h)).trans (x.sameG b h)
 bsz b h:=(y.bsz b (by have:=x.size;omega)).trans (x.bsz b h)
 size:=Nat.le_trans x.size y.size
 frame b h hn:=by
  have:=x.size;rw[y.frame b (by omega) fun ho=>hn (x.own b ho h),x.frame b h hn]
 own b ho h:=x.own b (y.own b ho (by have:=x.size;omega)) h
 Gb b hg h:=by
  rcases y.Gb b hg (by have:=x.size;omega) with k|k
  ·exact x.Gb b k h
  ·exact .inr (x.own b k h)
 Fb b hg h:=by
  rcases y.Fb b hg (by have:=x.size;omega) with k|k
  ·exact x.Fb b k h
  ·exact .inr (x.own b k h)
def Ji (M M':zI):Prop:=∀id C,M.κ id=some C→∃C',M'.κ id=some C'∧C'.blk=C.blk
structure pB (nl:Bool) (M M':zI):Prop where
 g:gG M M'
 k:nl=true→Ji M M'
theorem pB.step {nl M M' kl}(x:pB nl M M')(s:yS M' kl):pB nl M kl:=
 ⟨x.g.trans s.grow,fun h id C hC=>by
  obtain⟨C1,h1,e1⟩:=x.k h id C hC;obtain⟨C2,h2,le⟩:=s.ext.κ id C1 h1;exact⟨C2,h2,le.blk.trans e1⟩⟩
theorem pB.trans {M M' kl}(x:pB false M M')(y:gG M' kl):pB false M kl:=⟨x.g.trans y,by simp⟩
structure vF (nl:Bool) (na nt:Nat) (a0:Nat→Value) (M0:zI) (w0:World) (st:St) (a:Act) (w:World):Prop where
 ex:∃M:zI,M.h=st.h∧M.H=w.heap∧Ok M∧pB nl M0 M∧∀t,zP M (st.t t) (a.tmps.getD t undef)
 defers:a.defers=[]
 size:a.tmps.size=nt
 os:w.os=w0.os
 tape:w.tape=w0.tape
 output:w.output=w0.output
 keep:∀t,t<na→a.tmps.getD t undef=a0 t
theorem ZE {M}{st:St}{a:Act}(h:∀t,zP M (st.t t) (a.tmps.getD t undef)) x:zP M (st.ev x) (a.eval x):=by
 cases x with
 |tmp t=>exact h t
 |const v=>exact vP3 M v
 |global g=>trivial
 |func f=>exact⟨#[],rfl,trivial⟩
theorem OK {t s v}(h:t s=v):wM t s v=t:=by
 funext n;unfold wM;cases e:Nat.beq n s with
 |false=>rfl
 |true=>
  simp_all
def zt (ops:Array Oper)(o:Oper)(st:St):Option Bool:=match o.guard with
 |none=>some true
 |some (j,want)=>match IC ops j with
  |none=>none
  |some s=>match st.t s with
   |.c (.bool b)=>some (b==want)
   |.skp=>some false
   |_=>none
theorem ZF {R ops o st yes no}{out:R}(h:ID ops o st yes no=some out):
  ∃b,zt ops o st=some b∧(if b=true then yes st else no st)=some out:=by
 unfold ID at h;unfold zt;cases hg:o.guard with
 |none=>simp_all
 |some p=>
  obtain⟨j,want⟩:=p;rw[hg] at h;dsimp only at h⊢;cases hs:IC ops j with
  |none=>simp_all
  |some s=>
   rw[hs] at h;dsimp only at h⊢;split at h
   ·rename_i b hb;rw[hb];refine⟨b==want,rfl,?_⟩;cases b with
    |true=>
     simp[OK hb] at h;cases want<;>exact h
    |false=>
     simp[OK hb] at h;cases want<;>exact h
   all_goals simp_all
theorem getD_some {a:Array Value}{s v}(h:a.getD s undef=v)(hv:v≠undef):a[s]? =some v:=by
 by_cases hs:s<a.size
 all_goals simp_all
theorem ZG {ops o st b nl na nt a0 M0 w0 w a}(h:zt ops o st=some b)(R:vF nl na nt a0 M0 w0 st a w):Region.wanted o (yielded ops a.tmps)=b:=by
 obtain⟨M,_,_,_,_,ht⟩:=R.ex;unfold zt at h;unfold Region.wanted;split at h
 ·simp_all
 ·rename_i j want hg;rw[hg];split at h
  ·cases h
  ·rename_i s hs;have hv:=ht s;have uQ:(ops[j]?).bind (·.dst)=some s:=hs;split at h
   ·rename_i b' hb;cases h;rw[hb] at hv;have:=getD_some hv (by nofun);simp only[yielded,uQ,Option.bind_some,this];rfl
   ·rename_i hb;cases h;rw[hb] at hv;have hv:a.tmps.getD s undef=undef:=hv;have:∀x:Option Value,(x=none∨x=some undef)→((match x with|some (.bool b)=>some b|_=>none:Option Bool)==some want)=false:=fun x hx=>by
     rcases hx with rfl|rfl<;>cases want<;>rfl
    refine this _ ?_;by_cases bn:s<a.tmps.size
    all_goals simp_all
   ·cases h
theorem pz.rel {nl na nt a0 M0 M M' w0 w w' st a dst v u rv}(R:vF nl na nt a0 M0 w0 st a w)(hh:M.h=st.h)(hs:pB nl M0 M)(ht:∀t,zP M (st.t t) (a.tmps.getD t undef))
  (hd:∀d,dst=some d→na≤d∧d<nt) (hB:pz M w u M' w') (hv:zP M' v rv):vF nl na nt a0 M0 w0 {t:=gz st.t dst v,h:=qF st.h u} (a.put dst rv) w' where
 ex:=by
  refine⟨M',by rw[hB.h,hh],hB.H,hB.ok,hs.step hB.step,fun t=>?_⟩;cases dst with
  |none=>exact(ht t).ext hB.step.ext
  |some d=>
   show zP M' (wM st.t d v t) ((a.tmps.setIfInBounds d rv).getD t undef);have bn:d<a.tmps.size:=by rw[R.size];simp_all
   unfold wM;cases e:Nat.beq t d with
   |true=>
    simp_all
   |false=>
    have e:t≠d:=fun e'=>by simp_all
    have:=(ht t).ext hB.step.ext;simp[Array.getElem?_setIfInBounds_ne (Ne.symm e)] at this⊢;exact this
 defers:=by cases dst<;>exact R.defers
 size:=by cases dst<;>simp[Act.put,R.size]
 os:=hB.os.trans R.os
 tape:=hB.tape.trans R.tape
 output:=hB.output.trans R.output
 keep t h:=by
  cases dst with
  |none=>exact R.keep t h
  |some d=>
   have bh:d≠t:=by grind
   rw[←R.keep t h];simp[Act.put,Array.getElem?_setIfInBounds_ne bh]
theorem vF.skip {nl na nt a0 M0 w0 w st a dst}(hd:∀d,dst=some d→na≤d)(R:vF nl na nt a0 M0 w0 st a w):vF nl na nt a0 M0 w0 {st with t:=gz st.t dst .skp} (a.put dst undef) w where
 ex:=by
  obtain⟨M,h1,h2,h3,h4,ht⟩:=R.ex;refine⟨M,h1,h2,h3,h4,fun t=>?_⟩;cases dst with
  |none=>exact ht t
  |some d=>
   show zP M (wM st.t d .skp t) ((a.tmps.setIfInBounds d undef).getD t undef);unfold wM;cases e:Nat.beq t d with
   |true=>
    have e:t=d:=by simp_all
    subst e;show(a.tmps.setIfInBounds t undef).getD t undef=undef;simp
   |false=>
    have e:t≠d:=fun e'=>by simp_all
    have:=ht t;simp[Array.getElem?_setIfInBounds_ne (Ne.symm e)] at this⊢;exact this
 defers:=by cases dst<;>exact R.defers
 size:=by cases dst<;>simp[Act.put,R.size]
 os:=R.os
 tape:=R.tape
 output:=R.output
 keep t h:=by
  cases dst with
  |none=>exact R.keep t h
  |some d=>
   have bh:d≠t:=by grind
   rw[←R.keep t h];simp[Act.put,Array.getElem?_setIfInBounds_ne bh]
section
variable {E:Env} {A:zY} {nl:Bool} {k pre na nt:Nat} {a0:Nat→Value} {R:Type} {M0:zI} {w0:World} {Q:Exit→Act→World→Prop}
theorem vF.op (hE:fa E){st a w}{o:Oper}{v u next}(r:vF nl na nt a0 M0 w0 st a w)(hd:∀d,o.dst=some d→na≤d∧d<nt)(hy:yE (iM E A k pre o st.ev st.h) v u)
  (hn:∀a' w',vF nl na nt a0 M0 w0 {t:=gz st.t o.dst v,h:=qF st.h u} a' w'→next a' w'):o.wp E.P a w next Q:=by
 obtain⟨M,h1,h2,h3,h4,ht⟩:=r.ex;rw[←h1] at hy;exact vBu hE h3 h2 (ZE ht) hy fun M' w' rv hB hv=>hn _ _ (hB.rel r h1 h4 ht hd hv)
theorem OM (hE:fa E){dst}(h:rO na nt dst=true):∀d,dst=some d→na≤d∧d<nt:=fun d hd=>by
 simp[rO] at h;simp_all
theorem ZH (hE:fa E){o st K}{out:R}(h:IB E A k pre na nt o st K=some out):
  (∀d,o.dst=some d→na≤d∧d<nt)∧∃v u,yE (iM E A k pre o st.ev st.h) v u∧K v u {t:=gz st.t o.dst v,h:=qF st.h u}=some out:=by
 unfold IB at h;cases hc:rO na nt o.dst with
 |false=>simp_all
 |true=>
  rw[hc] at h;exact⟨OM hE hc,yN.elim_some h⟩
theorem ZI (hE:fa E){ops}:∀l st K (out:R) a w,(∀p∈l,ops[p.1]? =some p.2)→IE E A k pre na nt ops l st K=some out→vF nl na nt a0 M0 w0 st a w→
  (∀bF a' w',vF nl na nt a0 M0 w0 bF a' w'→K bF=some out→Q .normal a' w')→wpOps E.P ops Q (l.map (·.1)) a w
 |[],st,K,out,a,w,_,h,r,hK=>hK st a w r h
 |(i,o)::rest,st,K,out,a,w,hl,h,r,hK=>by
  have ho:ops[i]? =some o:=hl (i,o) (by simp);have ih:=fun st K out a w=>ZI hE rest st K out a w fun p hp=>hl p (by grind)
  obtain⟨b,hb,h⟩:=ZF h;have hw:=ZG hb r;simp[wpOps,ho];cases b with
  |true=>
   rw[if_pos rfl] at h;rw[if_pos hw];obtain⟨hd,v,u,hy,h⟩:=ZH hE h;exact .inl (vF.op hE r hd hy (by grind))
  |false=>
   rw[if_neg (by simp[hw])];cases hc:rO na nt o.dst with
   |false=>simp_all
   |true=>
    rw[hc] at h;exact ih _ _ _ _ _ h (r.skip fun d hd=>(OM hE hc d hd).1) hK
end
def zu (o:Oper)(acc:Array Nat):Nat:=o.after.foldl (fun s e=>if Region.binds .any e then s|||2^e.on|||acc.getD e.on 0 else s) 0
theorem ZJ (acc:Array Nat) i:∀(l:List Edge) s,(l.foldl (fun s e=>if Region.binds .any e then s|||2^e.on|||acc.getD e.on 0 else s) s).testBit i=true→
  s.testBit i=true∨∃e∈l,Region.binds .any e=true∧(e.on=i∨(acc.getD e.on 0).testBit i=true)
 |[],s,h=>.inl h
 |e::l,s,h=>by
  rcases ZJ acc i l _ h with h|⟨e',he,h⟩
  all_goals grind
def EM (ops:Array Oper)(acc:Array Nat):Prop:=∀j,j<acc.size→∀i,(acc.getD j 0).testBit i=true→∃o,ops[j]? =some o∧∃e∈o.after.toList,Region.binds .any e=true∧(e.on=i∨(e.on<j∧(acc.getD e.on 0).testBit i=true))
theorem vE2 {ops acc o}(h:EM ops acc)(ho:ops[acc.size]? =some o):EM ops (acc.push (zu o acc)):=by
 have uK:∀j,j<acc.size→(acc.push (zu o acc)).getD j 0=acc.getD j 0:=fun j hj=>by
  simp[Array.getElem?_push,Nat.ne_of_lt hj]
 intro j hj i hb;simp  at hj;by_cases bn:j<acc.size
 ·rw[uK j bn] at hb;obtain⟨o',h1,e,h2,h3,h4⟩:=h j bn i hb;grind
 ·have e:j=acc.size:=by omega
  subst e;rw[show(acc.push (zu o acc)).getD acc.size 0=zu o acc by simp] at hb;unfold zu at hb;rw[←Array.foldl_toList] at hb;rcases ZJ acc i _ _ hb with hb|⟨e,h2,h3,h4⟩
  all_goals grind
theorem vMk ops:EM ops (Region.before ops):=by
 have key:∀(l:List Oper) (acc:Array Nat),EM ops acc→(∀m (hm:m<l.length),ops[acc.size+m]? =some l[m])→
   EM ops (l.foldl (fun acc o=>acc.push (zu o acc)) acc):=by
  intro l
  induction l with
  |nil=>simp
  |cons o l ih=>
   intro acc h ho;refine ih _ (vE2 h (ho 0 (by simp))) fun m hm=>?_
   have:=ho (m+1) (by simp;omega);grind
 have:=key ops.toList #[] (nofun) (by simp);unfold Region.before;rw[←Array.foldl_toList];exact this
theorem ZK {ops i j}(h:kU (Region.before ops) i j=true):∃o,ops[j]? =some o∧∃e∈o.after.toList,Region.binds .any e=true∧(e.on=i∨(e.on<j∧kU (Region.before ops) i e.on=true)):=by
 unfold kU at h;by_cases hj:j<(Region.before ops).size
 ·exact vMk ops j hj i h
 simp_all
def EN (ops:Array Oper)(S:Nat→Bool):Prop:=∀j o,S j=true→ops[j]? =some o→∀e∈o.after.toList,Region.binds .any e=true→S e.on=true
theorem ZL {ops S}(hS:EN ops S){i}:∀n j,j=n→kU (Region.before ops) i j=true→S j=true→S i=true:=by
 intro n
 induction n using Nat.strongRecOn with
 |_ n ih=>
  intro j hj h hs;obtain⟨o,ho,e,he,hb,h⟩:=ZK h;have ZM:=hS j o hs ho e he hb;grind
theorem vRm {ops S}(hS:EN ops S){i j}(h:kU (Region.before ops) i j=true)(hr:∀o,ops[j]? =some o→∀e∈o.after.toList,Region.binds .any e=true→S e.on=true):S i=true:=by
 obtain⟨o,ho,e,he,hb,h⟩:=ZK h;have ZM:=hr o ho e he hb;rcases h with h|⟨h,hi⟩
 ·simp_all
 ·exact ZL hS _ _ rfl hi ZM
structure It where
 i:Nat
 o:Oper
 v:zW
 u:yV
 r:Option (List Nat)
 wt:Bool
def It.dn (pre:Nat)(it:It):yn:=⟨it.i,nC pre it.o.dst,jC it.u,it.r⟩
def vL (st:St)(it:It):St:={t:=gz st.t it.o.dst it.v,h:=qF st.h it.u}
section
variable (E:Env) (A:zY) (k pre na nt:Nat) (ops:Array Oper)
structure Jj (st:St) (it:It):Prop where
 w:zt ops it.o st=some it.wt
 y:it.wt=true→(∀d,it.o.dst=some d→na≤d∧d<nt)∧yE (iM E A k pre it.o st.ev st.h) it.v it.u∧it.r=nD st.ev it.o
 n:it.wt=false→it.v=.skp∧it.u=[]∧∀d,it.o.dst=some d→na≤d∧d<nt
def ON (b:Array Nat)(x y:It):Prop:=kU b x.i y.i=true∨(pc ops x.i y.i=true∧(x.wt=true→y.wt=true→pb (x.dn pre) (y.dn pre)=false))
end
section
variable {E:Env} {A:zY} {k pre na nt:Nat} {R:Type} {ops:Array Oper} {b:Array Nat}
theorem OO (hE:fa E):∀rest done st K (out:R),yo E A k pre na nt ops b rest done st K=some out→
  ∃dp:List It,dp.map (fun it=>(it.i,it.o))=rest∧K (dp.foldl vL st)=some out∧(∀bN it post,dp=bN++it::post→Jj E A k pre na nt ops (bN.foldl vL st) it)∧
   (∀d∈done,∀it∈dp,kU b d.i it.i=true∨(pc ops d.i it.i=true∧(it.wt=true→pb d (it.dn pre)=false)))∧dp.Pairwise (ON pre ops b)
 |[],done,st,K,out,h=>⟨[],rfl,h,by simp,by simp,.nil⟩
 |(i,o)::rest,done,st,K,out,h=>by
  unfold yo at h;generalize hc:(done.all fun d=>kU b d.i i||pc ops d.i i)=c at h;cases c with
  |false=>cases h
  |true=>
   have nQ:∀d∈done,kU b d.i i=true∨pc ops d.i i=true:=by grind
   rw[cond_true] at h;obtain⟨bw,hb,h⟩:=ZF h;cases bw with
   |true=>
    rw[if_pos rfl] at h;obtain⟨hd,v,u,hy,h⟩:=ZH hE h;dsimp only at h;generalize cT:(done.all fun d=>kU b d.i i|| !pb d ⟨i,nC pre o.dst,jC u,nD st.ev o⟩)=c2 at h;cases c2 with
    |false=>simp_all
    |true=>
     rw[cond_true] at h;have Et:∀d∈done,kU b d.i i=true∨pb d ⟨i,nC pre o.dst,jC u,nD st.ev o⟩=false:=by grind
     obtain⟨dp,h1,h2,h3,h4,h5⟩:=OO hE rest _ _ K out h;let it:It:=⟨i,o,v,u,nD st.ev o,true⟩;refine⟨it::dp,by grind,h2,fun bN EO post e=>?_,fun d sg EO lU=>?_,?_⟩
     ·cases bN with
      |nil=>
       obtain⟨rfl,rfl⟩:=e;exact⟨hb,by grind,by simp⟩
      |cons p bN=>
       simp only[List.cons_append,List.cons.injEq] at e;obtain⟨rfl,e⟩:=e;exact h3 bN EO post e
     ·rcases List.mem_cons.1 lU with rfl|lU
      ·rcases nQ d sg with h|h
       ·grind
       ·rcases Et d sg with h'|h'
        ·grind
        ·exact .inr ⟨h,fun _=>h'⟩
      simp_all
     ·refine List.pairwise_cons.2 ⟨fun y uR=>?_,h5⟩;rcases h4 (it.dn pre) (List.mem_cons_self ..) y uR with h|⟨h,h'⟩
      ·exact .inl h
      ·exact .inr ⟨h,by grind⟩
   |false=>
    rw[if_neg (by simp)] at h;have pC:rO na nt o.dst=true:=by
     grind
    rw[pC] at h;rw[cond_true] at h;obtain⟨dp,h1,h2,h3,h4,h5⟩:=OO hE rest _ _ K out h;let it:It:=⟨i,o,.skp,[],some [],false⟩;refine⟨it::dp,by grind,h2,fun bN EO post e=>?_,fun d sg EO lU=>?_,?_⟩
    ·cases bN with
     |nil=>
      obtain⟨rfl,rfl⟩:=e;exact⟨hb,by simp,fun _=>⟨rfl,rfl,OM hE pC⟩⟩
     |cons p bN=>
      simp  at e;obtain⟨rfl,e⟩:=e;exact h3 bN EO post e
    ·grind
    ·refine List.pairwise_cons.2 ⟨fun y uR=>?_,h5⟩;rcases h4 (it.dn pre) (List.mem_cons_self ..) y uR with h|⟨h,h'⟩
     ·exact .inl h
     ·exact .inr ⟨h,by simp⟩
end
theorem ZN {t t' d v x}(h:t x=t' x):gz t d v x=gz t' d v x:=by
 cases d with
 |none=>exact h
 |some d=>
  show wM t d v x=wM t' d v x;unfold wM;simp_all
theorem Jk {t d v x}(h:d≠some x):gz t d v x=t x:=by
 cases d with
 |none=>rfl
 |some d=>
  show wM t d v x=_;unfold wM;cases e:Nat.beq x d with
  |false=>rfl
  |true=>simp_all
theorem vEe {t t' v x}:gz t (some x) v x=gz t' (some x) v x:=by
 show wM t x v x=wM t' x v x;unfold wM;simp
theorem vG4 {t d e v u}(h:∀x,d=some x→e≠some x):gz (gz t d v) e u=gz (gz t e u) d v:=by
 funext x;by_cases hd:d=some x
 ·subst hd;rw[Jk (h x rfl)];exact vEe
 ·rw[Jk hd];exact ZN (Jk hd)
theorem uS {n}:∀{u h h'},h n=h' n→qF h u n=qF h' u n
 |[],_,_,e=>e
 | (id, o) :: u, h, h', e => uS (u := u) (by
   by_cases hn:n=id
   ·subst hn;rw[yG,yG]
   ·rw[yI _ _ hn,yI _ _ hn];exact e)
theorem ZO {n}:∀{u h h'},n∈jC u→qF h u n=qF h' u n
 |(id,o)::u,h,h',hm=>by
  by_cases hu:n∈jC u
  ·exact ZO (u:=u) hu
  ·have e:n=id:=by
    simp[jC] at hm hu;simp_all
   subst e;exact uS (u:=u) (by rw[yG,yG])
theorem yV9 {u v h}(hd:∀a∈jC u,a∉jC v):qF (qF h u) v=qF (qF h v) u:=by
 funext n;by_cases hu:n∈jC u
 ·rw[zm (hd n hu)];exact ZO hu
 ·rw[zm (u:=u) (h:=qF h v) hu];exact uS (zm hu)
theorem vA6 {st x y}(hd:∀t,x.o.dst=some t→y.o.dst≠some t)(hu:∀a∈jC x.u,a∉jC y.u):vL (vL st x) y=vL (vL st y) x:=by
 unfold vL;simp;exact⟨vG4 hd,yV9 hu⟩
theorem ZP {x}:∀{l:List It} {st},(∀y∈l,(∀t,x.o.dst=some t→y.o.dst≠some t)∧∀a∈jC x.u,a∉jC y.u)→vL (l.foldl vL st) x=l.foldl vL (vL st x)
 |[],_,_=>rfl
 |y::l,st,h=>by
  rw[List.foldl_cons,List.foldl_cons,vA6 (by grind) (by grind)];exact ZP (by grind)
theorem Jl t:∀(l:List It) st bF,st.t t=bF.t t→(l.foldl vL st).t t=((l.filter fun it=>it.o.dst==some t).foldl vL bF).t t
 |[],_,_,h=>h
 |y::l,st,bF,h=>by
  rw[List.foldl_cons,List.filter_cons];cases hy:y.o.dst==some t with
  |true=>
   exact Jl t l _ _ (ZN h)
  |false=>
   exact Jl t l _ _ (by
    show gz st.t y.o.dst y.v t=_;rw[Jk (by simp_all)];exact h)
theorem Jm n:∀(l:List It) st bF,st.h n=bF.h n→(l.foldl vL st).h n=((l.filter fun it=>(jC it.u).contains n).foldl vL bF).h n
 |[],_,_,h=>h
 |y::l,st,bF,h=>by
  rw[List.foldl_cons,List.filter_cons];cases hy:(jC y.u).contains n with
  |true=>
   exact Jm n l _ _ (uS h)
  |false=>
   exact Jm n l _ _ (by
    show qF st.h y.u n=_;rw[zm (by simpa[jC] using hy)];exact h)
theorem ZQ {S W bN post}{it:It}(lU:S it=false)(h1:∀y∈bN,W y=true→S y=true)(h2:∀y∈post,W y=true→S y=false):((bN++it::post).filter S).filter W=bN.filter W:=by
 have e1:(bN.filter S).filter W=bN.filter W:=by
  rw[List.filter_filter];refine List.filter_congr fun y hy=>?_
  simp_all
 simp_all
def zv (d:yn)(a:Nat):Prop:=match d.refs with
 |none=>True
 |some l=>a∈l∨kT d.nm a=true
theorem OP {x y}(h:pb x y=false):(∀a∈x.upd,¬zv y a)∧(∀a∈y.upd,¬zv x a)∧∀a∈x.upd,a∉y.upd:=by
 unfold pb at h;have key:∀(d e:yn),IA d.upd e.refs=false→d.upd.any (kT e.nm)=false→∀a∈d.upd,¬zv e a:=by
  intro d e hm ho a ha hl;unfold IA at hm;unfold zv at hl;cases hr:e.refs with
  |none=>
   simp_all
  |some l=>
   simp_all
 refine⟨by grind,by grind,fun a ha hb=>?_⟩;simp_all
section
variable {E:Env} {A:zY} {k pre na nt:Nat} {R:Type} {ops:Array Oper}
theorem OQ {i j x y}(hi:ops[i]? =some x)(hj:ops[j]? =some y)(h:pc ops i j=true):
  (∀d,x.dst=some d→d∉y.looksAt ops)∧(∀d,x.dst=some d→y.dst≠some d)∧(∀d,y.dst=some d→d∉x.looksAt ops):=by
 unfold pc at h;rw[hi,hj] at h;exact Oper.apart_spec h
theorem vI8 (hE:fa E)(hS:ik E.sums){S}(hC:EN ops S){st bN post it}(fc:∀y∈bN++it::post,ops[y.i]? =some y.o)(hg:Jj E A k pre na nt ops (bN.foldl vL st) it)
  (hu:∀y∈bN++it::post,y.wt=false→y.u=[]) (hp:(bN++it::post).Pairwise (ON pre ops (Region.before ops))) (lU:S it.i=false)
  (hr:∀o,ops[it.i]? =some o→∀e∈o.after.toList,Region.binds .any e=true→S e.on=true):
  Jj E A k pre na nt ops (((bN++it::post).filter fun y=>S y.i).foldl vL st) it∧
   (∀y∈post,S y.i=true→(∀t,it.o.dst=some t→y.o.dst≠some t)∧∀a∈jC it.u,a∉jC y.u):=by
 have jm:ops[it.i]? =some it.o:=fc it (by simp);obtain⟨Jc,EG,hp3⟩:=List.pairwise_append.1 hp;have before:∀y∈bN,S y.i=false→pc ops y.i it.i=true∧(y.wt=true→it.wt=true→pb (y.dn pre) (it.dn pre)=false):=fun y hy hs=>by
  rcases hp3 y hy it (by simp) with h|h
  ·rw[vRm hC h hr] at hs;cases hs
  ·exact h
 have behind:∀y∈post,S y.i=true→pc ops it.i y.i=true∧(it.wt=true→y.wt=true→pb (it.dn pre) (y.dn pre)=false):=fun y hy hs=>by
  rcases(List.pairwise_cons.1 EG).1 y hy with h|h
  ·rw[ZL hC _ _ rfl h hs] at lU;cases lU
  ·exact h
 have si:∀t,t∈it.o.looksAt ops→(((bN++it::post).filter fun y=>S y.i).foldl vL st).t t=(bN.foldl vL st).t t:=fun t ht=>by
  rw[Jl t _ st st rfl,Jl t bN st st rfl,ZQ lU (fun y hy hw=>?_) fun y hy hw=>?_]
  ·cases hs:S y.i with
   |true=>rfl
   |false=>
    have:=(OQ (fc y (by simp[hy])) jm (before y hy hs).1).1 t (by simpa using hw);exact absurd ht this
  ·cases hs:S y.i with
   |false=>rfl
   |true=>
    have:=(OQ jm (fc y (by simp[hy])) (behind y hy hs).1).2.2 t (by simpa using hw);simp_all
 have ZR:it.wt=true→∀n,zv (it.dn pre) n→(((bN++it::post).filter fun y=>S y.i).foldl vL st).h n=(bN.foldl vL st).h n:=fun hw n hn=>by
  rw[Jm n _ st st rfl,Jm n bN st st rfl,ZQ lU (fun y hy uR=>?_) fun y hy uR=>?_]
  ·cases hs:S y.i with
   |true=>rfl
   |false=>
    have hm:n∈jC y.u:=by simpa using uR
    have OR:y.wt=true:=by
     cases h:y.wt with
     |true=>rfl
     |false=>rw[hu y (by simp[hy]) h] at hm;simp[jC] at hm
    exact absurd hn ((OP ((before y hy hs).2 OR hw)).1 n hm)
  ·cases hs:S y.i with
   |false=>rfl
   |true=>
    have hm:n∈jC y.u:=by simpa using uR
    have OR:y.wt=true:=by
     cases h:y.wt with
     |true=>rfl
     |false=>rw[hu y (by simp[hy]) h] at hm;simp[jC] at hm
    exact absurd hn ((OP ((behind y hy hs).2 hw OR)).2.1 n hm)
 generalize hL:((bN++it::post).filter fun y=>S y.i).foldl vL st=Jn at si ZR⊢;refine⟨⟨?_,fun hw=>?_,hg.n⟩,fun y hy hs=>?_⟩
 ·rw[←hg.w];unfold zt;cases uT:it.o.guard with
  |none=>rfl
  |some p=>
   obtain⟨j,want⟩:=p;dsimp only;cases dP:IC ops j with
   |none=>rfl
   |some s=>
    have:s∈it.o.looksAt ops:=by
     have dP:(ops[j]?).bind (·.dst)=some s:=dP;simp only[Oper.looksAt,uT,dP];simp
    simp_all
 ·obtain⟨hd,hy,ZS⟩:=hg.y hw;have aX:∀x∈it.o.op.operands,Jn.ev x=(bN.foldl vL st).ev x:=fun x hx=>by
   cases x with
   |tmp t=>exact si t (List.mem_append_left _ (List.mem_filterMap.2 ⟨.tmp t,by simpa using hx,rfl⟩))
   |_=>rfl
  have hrefs:nD Jn.ev it.o=nD (bN.foldl vL st).ev it.o:=by
   unfold nD;have:it.o.op.operands.toList.map Jn.ev=it.o.op.operands.toList.map (bN.foldl vL st).ev:=List.map_congr_left (by grind);simp only[this]
  refine⟨hd,?_,by rw[ZS,hrefs]⟩;rw[vC4 aX];have hh : iM E A k pre it.o (bN.foldl vL st).ev Jn.h = iM E A k pre it.o (bN.foldl vL st).ev (bN.foldl vL st).h := yVz hS (by
   rw[←ZS];have:=ZR hw;unfold zv at this;have hdn:(it.dn pre).refs=it.r:=rfl;rw[hdn] at this;cases h:it.r with
   |none=>
    grind
   |some l=>
    rw[h] at this;exact this)
  rw[hh];exact hy
 ·obtain⟨h1,h2⟩:=behind y hy hs;refine⟨(OQ jm (fc y (by simp[hy])) h1).2.1,fun a ha hb=>?_⟩;have hwi:it.wt=true:=by
   cases h:it.wt with
   |true=>rfl
   |false=>rw[hu it (by simp) h] at ha;simp[jC] at ha
  have hwy:y.wt=true:=by
   cases h:y.wt with
   |true=>rfl
   |false=>rw[hu y (by simp[hy]) h] at hb;simp[jC] at hb
  exact(OP (h2 hwi hwy)).2.2 a ha hb
end
theorem vDk {ops}(h:Eb ops=true){j o}(ho:ops[j]? =some o):∀e∈o.after.toList,Region.binds .any e=true→e.on<j:=by
 intro e he hb;have hm:(o,j)∈ops.toList.zipIdx:=by
  grind
 have:=List.all_eq_true.1 (List.all_eq_true.1 h _ hm) e he;simp_all
theorem Jo {L:Array Bool}{i}(hi:i<L.size) j:(L.setIfInBounds i true).getD j false=(L.getD j false||i==j):=by
 by_cases h:i=j
 all_goals simp_all
section
variable {E:Env} {A:zY} {nl:Bool} {k pre na nt:Nat} {a0:Nat→Value} {R:Type} {ops:Array Oper} {M0:zI} {w0:World} {Q:Exit→Act→World→Prop}
theorem vDq (hE:fa E)(hS:ik E.sums)(he:Eb ops=true){dp st}(hi:dp.map (·.i)=List.range ops.size)(fc:∀y∈dp,ops[y.i]? =some y.o)(hg:∀bN it post,dp=bN++it::post→Jj E A k pre na nt ops (bN.foldl vL st) it)
  (hp:dp.Pairwise (ON pre ops (Region.before ops))) (hQ:∀a w,vF nl na nt a0 M0 w0 (dp.foldl vL st) a w→Q .normal a w):
  ∀fuel L a w,L.size=ops.size→(∃U:List Nat,U.length≤fuel∧∀j,j<ops.size→L.getD j false=false→j∈U)→EN ops (fun j=>L.getD j false)→
   vF nl na nt a0 M0 w0 ((dp.filter fun y=>L.getD y.i false).foldl vL st) a w→wpAny E.P .any ops Q fuel L a w:=by
 have hu:∀y∈dp,y.wt=false→y.u=[]:=fun y hy hw=>by
  obtain⟨bN,post,e⟩:=List.append_of_mem hy;exact((hg bN y post e).n hw).2.1
 have OT:∀y∈dp,y.i<ops.size:=fun y hy=>(Array.getElem?_eq_some_iff.1 (fc y hy)).1
 have df:(dp.map (·.i)).Nodup:=by rw[hi];exact List.nodup_range
 have full:∀(L:Array Bool) (a:Act) (w:World),(∀j,j<ops.size→L.getD j false=true)→vF nl na nt a0 M0 w0 ((dp.filter fun y=>L.getD y.i false).foldl vL st) a w→Q .normal a w:=fun L a w hl r=>by
  rw[List.filter_eq_self.2 fun y hy=>hl y.i (OT y hy)] at r;exact hQ a w r
 have rdy:∀(L:Array Bool),L.size=ops.size→Region.ready .any ops L=[]→∀j,j<ops.size→L.getD j false=true:=fun L hL hr j=>by
  induction j using Nat.strongRecOn with
  |_ j ih=>
   intro hj;cases hb:L.getD j false with
   |true=>rfl
   |false=>
    have ho:ops[j]? =some ops[j]:=Array.getElem?_eq_getElem hj;have:j∈Region.ready .any ops L:=mem_ready.2 ⟨by
     have OU:j<L.size:=by omega
     simpa[Array.getD,OU] using hb,ops[j],ho,fun e he' bD=>by
      have bn:=vDk he ho e (by simpa using he') bD;exact ih e.on bn (by omega)⟩
    rw[hr] at this;cases this
 intro fuel
 induction fuel with
 |zero=>
  intro L a w hL hU hC r;obtain⟨U,hUl,hU⟩:=hU;have hU0:U=[]:=List.eq_nil_of_length_eq_zero (by omega);have bb:∀j,j<ops.size→L.getD j false=true:=by grind
  refine⟨?_,full L a w bb r⟩;cases hr:Region.ready .any ops L with
  |nil=>rfl
  |cons j l=>
   have:j∈Region.ready .any ops L:=by rw[hr];exact List.mem_cons_self ..
   obtain⟨h0,o,ho,_⟩:=mem_ready.1 this;have hj:=(Array.getElem?_eq_some_iff.1 ho).1;have:=bb j hj;have OU:j<L.size:=by omega
   simp[Array.getD,OU] at this h0;rw[this] at h0;cases h0
 |succ fuel ih=>
  intro L a w hL hU hC r;refine⟨fun hr=>full L a w (rdy L hL hr) r,fun i hir=>?_⟩;obtain⟨h0,o,ho,uU⟩:=mem_ready.1 hir;have EP:=(Array.getElem?_eq_some_iff.1 ho).1;have ER:i<L.size:=by omega
  have ES:L.getD i false=false:=by simpa[Array.getD,ER] using h0
  obtain⟨it,lU,pD⟩:∃it∈dp,it.i=i:=by
   have:i∈dp.map (·.i):=by rw[hi];simpa using EP
   obtain⟨it,h1,h2⟩:=List.mem_map.1 this;exact⟨it,h1,h2⟩
  obtain⟨bN,post,e⟩:=List.append_of_mem lU;have jm:ops[it.i]? =some it.o:=fc it lU;have fV:o=it.o:=by rw[pD,ho] at jm;exact Option.some.inj jm
  subst fV;have sj:=vI8 hE hS hC (by rw[←e];exact fc) (hg bN it post e) (by rw[←e];exact hu) (by rw[←e];exact hp) (by rw[pD];exact ES) (by grind);rw[←e] at sj;obtain⟨uT,ET⟩:=sj;have hw:=ZG uT.w r;have qW:(dp.filter fun y=>(L.setIfInBounds i true).getD y.i false).foldl vL st=vL ((dp.filter fun y=>L.getD y.i false).foldl vL st) it:=by
   have other:∀y∈bN++post,(L.setIfInBounds i true).getD y.i false=L.getD y.i false:=fun y hy=>by
    rw[Jo ER];grind
   have e1:dp.filter (fun y=>L.getD y.i false)=bN.filter (fun y=>L.getD y.i false)++post.filter (fun y=>L.getD y.i false):=by
    conv=>lhs;rw[e]
    rw[List.filter_append,List.filter_cons,if_neg (by rw[pD,ES];simp)]
   have e2:dp.filter (fun y=>(L.setIfInBounds i true).getD y.i false)=bN.filter (fun y=>L.getD y.i false)++it::post.filter (fun y=>L.getD y.i false):=by
    conv=>lhs;rw[e]
    rw[List.filter_append,List.filter_cons,if_pos (by rw[pD,Jo ER];simp),List.filter_congr fun y hy=>other y (List.mem_append_left _ hy),List.filter_congr fun y hy=>other y (List.mem_append_right _ hy)]
   rw[e1,e2,List.foldl_append,List.foldl_append,List.foldl_cons];exact (ZP fun y hy=>by
    obtain⟨OV,OW⟩:=List.mem_filter.1 hy;exact ET y OV OW).symm
  have aw:EN ops fun j=>(L.setIfInBounds i true).getD j false:=fun j o' hj ja ed ZT hb=>by
   dsimp only at hj⊢;rw[Jo ER] at hj;refine getD_set_true ?_;rw[Bool.or_eq_true] at hj;rcases hj with hj|hj
   ·exact hC j o' hj ja ed ZT hb
   ·have:i=j:=by simpa using hj
    subst this;rw[ho] at ja;cases ja;exact uU ed (by simpa using ZT) hb
  have ZU:∃U:List Nat,U.length≤fuel∧∀j,j<ops.size→(L.setIfInBounds i true).getD j false=false→j∈U:=by
   obtain⟨U,hl,hU⟩:=hU;refine⟨U.erase i,?_,fun j hj hb=>?_⟩
   ·rw[List.length_erase_of_mem (hU i EP ES)];omega
   ·rw[Jo ER,Bool.or_eq_false_iff] at hb;exact(List.mem_erase_of_ne (by have:=hb.2;simp at this;exact fun h=>this h.symm)).2 (hU j hj hb.1)
  unfold wpOp;rw[ho];dsimp only;cases uV:it.wt with
  |true=>
   rw[uV] at hw;rw[if_pos hw];obtain⟨hd,hy,_⟩:=uT.y uV;refine .inl (vF.op hE r hd hy fun a' w' r'=>?_);exact ih _ _ _ (by simpa using hL) ZU aw (by rw[qW];exact r')
  |false=>
   rw[uV] at hw;rw[if_neg (by simp[hw])];obtain⟨hv,nI,pC⟩:=uT.n uV;refine ih _ _ _ (by simpa using hL) ZU aw ?_;rw[qW];have:=r.skip (dst:=it.o.dst) fun d hd=>(pC d hd).1
   unfold vL;rw[hv,nI];exact this
theorem vG5 (hE:fa E)(hS:ik E.sums){id st K}{out:R}{a w}(hm:E.P.follows .mixedOrders=true)(he:Eb ops=true)
  (h:yo E A k pre na nt ops (Region.before ops) (ops.toList.zipIdx.map fun p=>(p.2,p.1)) [] st K=some out) (r:vF nl na nt a0 M0 w0 st a w)
  (hK:∀bF a' w',vF nl na nt a0 M0 w0 bF a' w'→K bF=some out→Q .normal a' w'):(Code.region id ops true).wp E.P Q a w:=by
 obtain⟨dp,h1,h2,h3,_,h5⟩:=OO hE _ _ _ _ _ h;have hi:dp.map (·.i)=List.range ops.size:=by
  have:=congrArg (List.map Prod.fst) h1;rw[List.map_map,List.map_map] at this;refine Eq.trans this ?_;have e:(Prod.fst∘fun p:Oper×Nat=>(p.2,p.1))=Prod.snd:=rfl;rw[e,List.zipIdx_map_snd,←List.range_eq_range'];simp
 have fc:∀y∈dp,ops[y.i]? =some y.o:=fun y hy=>by
  have:(y.i,y.o)∈ops.toList.zipIdx.map fun p=>(p.2,p.1):=by grind
  grind
 refine wp_region_any hm (vDq hE hS he (nt:=nt) (na:=na) (a0:=a0) (M0:=M0) (w0:=w0) hi fc h3 h5 (fun a w r=>hK _ a w r h2) _ _ _ _ (by simp) ⟨List.range ops.size,by simp,by grind⟩ (fun j o hj=>?_) ?_)
 ·by_cases h:j<ops.size<;>simp[h] at hj
 ·rw[List.filter_eq_nil_iff.2 fun y hy=>by
   by_cases h:y.i<ops.size<;>simp[h]]
  exact⟨r.ex,r.defers,r.size,r.os,r.tape,r.output,r.keep⟩
end
def zI.nilObj (M:zI)(nm:Nat)(o:Obj)(sz:Nat):zI:={M with κ:=κset M.κ nm ⟨none,0,sz,0,[]⟩,h:=qW M.h nm o}
def il (t:Ty)(rows:Bool):Obj:=bif rows then .mat 0 [] else .arr true t []
def jn (t:Ty)(rows:Bool):Nat:=bif rows then 1 else t.size
theorem zI.nilObj_ok {M}(ok:Ok M){nm}(aO:M.h nm=none) t rows:
  Ok (M.nilObj nm (il t rows) (jn t rows))∧yD M (M.nilObj nm (il t rows) (jn t rows))∧(∀b,qJ (M.nilObj nm (il t rows) (jn t rows)) b→qJ M b):=by
 have hO:∀M':zI,yP M' (il t rows) ⟨none,0,jn t rows,0,[]⟩:=fun M'=>by
  cases rows with
  |false=>exact⟨rfl,rfl,by simp,rfl⟩
  |true=>exact⟨rfl,rfl,rfl,rfl,by simp[zZ.fp],rfl⟩
 have x:yD M (M.nilObj nm (il t rows) (jn t rows)):=⟨fun id C h=>by
  have bh:id≠nm:=fun e=>by rw[e,ok.non nm aO] at h;cases h
  exact⟨C,by show κset M.κ nm _ id=_;rw[κset_ne _ _ bh];exact h,C.le_refl⟩,fun _ h=>h,fun _ h=>h,fun _ _=>rfl,fun _ _=>rfl,fun _ _=>rfl⟩
 refine⟨Ok.build ok x (fun id=>id=nm) (fun id h=>yI _ _ h) (fun id h=>κset_ne _ _ h) (fun _ _ _ _ _ _ _ _ _=>rfl) (fun id o C h1 h2 h3 h4 b hb=>(ok.own b ⟨id,o,C,h2,h3,h4,hb⟩).1) (Nat.le_refl _)
  (fun id o e h=>?_) (fun id e h=>?_) (fun id o C b e h1 h2 h3 h4=>?_) ok.GF ok.Flt,x,fun b hb=>?_⟩
 ·subst e;have e1:(M.nilObj id (il t rows) (jn t rows)).h id=some (il t rows):=yG _ _ _;rw[e1] at h;cases h;exact⟨_,κset_same _ _ _,hO _⟩
 ·have e1:(M.nilObj id (il t rows) (jn t rows)).h id=some (il t rows):=yG _ _ _;simp_all
 ·subst e;have e1:(M.nilObj id (il t rows) (jn t rows)).κ id=some _:=κset_same _ _ _;rw[e1] at h3;cases h3;simp[zZ.fp] at h4
 ·obtain⟨id,o,C,h1,h2,h3,h4⟩:=hb;by_cases e:id=nm
  ·subst e;have e1:(M.nilObj id (il t rows) (jn t rows)).κ id=some _:=κset_same _ _ _;rw[e1] at h3;cases h3;simp[zZ.fp] at h4
  ·exact⟨id,o,C,by rw[←h1];exact(yI _ _ e).symm,h2,by rw[←h3];exact(κset_ne _ _ e).symm,h4⟩
theorem gG.same_mem {M M'}(hF:M'.F=M.F)(hG:M'.G=M.G)(hH:M'.H=M.H)(ho:∀b,qJ M' b→qJ M b):gG M M':=
 ⟨by grind,by grind,by grind,by grind,by grind,by simp_all,by grind,by grind,
  by grind,by grind⟩
theorem gG.refl M:gG M M:=.same_mem rfl rfl rfl (by simp)
section
variable {na nt:Nat} {a0:Nat→Value} {M0:zI} {w0 w:World} {a:Act}
theorem zK.set_left {α β R l}{m:List β}(h:zK R l m){j}{c:α}(hc:∀(h1:j<l.length) h2,R c m[j]):zK R (l.set j c) m:=by
 refine zK.of_get (by rw[List.length_set];exact h.length) fun i hi bE=>?_
 rw[List.length_set] at hi;by_cases e:j=i
 ·simp_all
 ·rw[List.getElem_set_ne e];exact h.get i hi bE
theorem vBt {st}{s j}(r:vF false na nt a0 M0 w0 st a w):vF false na nt a0 M0 w0 (Nx st s j) a w:=by
 obtain⟨M,h1,h2,h3,h4,h5⟩:=r.ex;unfold Nx;split
 ·split
  ·rename_i c hs;split
   ·rename_i c' u hf;have hv:=h5 s;rw[hs] at hv;rw[←h1] at hf;obtain⟨L,k1,k2,k3,k4,k5,_⟩:=Eh h3 (wF.refl _) (show zQ M c _ from hv) hf;refine⟨⟨L,by rw[k2,h1],k1.trans h2,k3,h4.trans k4.grow,fun t=>?_⟩,r.defers,r.size,r.os,r.tape,r.output,r.keep⟩;show zP _ (wM st.t s _ t) _;unfold wM;cases e:Nat.beq t s with
    |false=>exact(h5 t).ext k4.ext
    |true=>
     have e:t=s:=by simpa using e
     subst e;exact k5
   ·exact r
  ·exact r
 ·rename_i j;split
  ·rename_i id hs;split
   ·rename_i cells ah;split
    ·rename_i c yH;split
     ·rename_i c' u hf;rw[←h1] at hf ah;obtain⟨C0,nL,hO0⟩:=h3.obj id _ ah;obtain⟨B0,sk,e0,b10,b20,b30,ZV,b50⟩:=hO0;have hj:j<cells.length:=(List.getElem?_eq_some_iff.1 yH).1;have OX:j<sk.toList.length:=by rw[←ZV.length];exact hj
      have iQ:=ZV.get j hj OX;have ec:cells[j]=c:=by grind
      rw[ec] at iQ;obtain⟨L,k1,k2,k3,k4,k5,k6,_⟩:=Eh h3 (wF.refl _) iQ hf;have uW:L.h id=some (.box true cells):=by
       rcases k6 id with h|⟨own,t,xs,h,_⟩|⟨ver,xs,h,_⟩
       all_goals simp_all
      obtain⟨C,hC,hO⟩:=k3.obj id _ uW;obtain⟨B,vals,e,b1,b2,b3,b4,b5⟩:=hO;obtain⟨C1,fU,le⟩:=k4.ext.κ id C0 nL;rw[hC] at fU;cases fU;have eB:B=B0:=by rw[le.blk,b10] at b1;simp_all
      subst eB;rw[k1,b30] at b3;cases b3;have hx:=zI.write_ext (H':=L.H) k3 uW rfl hC C.le_refl (by simp) (by simp) (.box true (cells.set j c'));have hw := zI.write_ok (H' := L.H) (o' := .box true (cells.set j c')) k3 uW rfl hC C.le_refl (by simp) rfl (by simp) (by simp) (by
       refine⟨B,sk,e0,b1,b2,by show L.H[B]? =_;simp_all,?_,by simp⟩;exact(b4.mono fun _ _ h=>h.ext hx).set_left fun _ _=>k5.ext hx)
      refine⟨⟨L.write id (.box true (cells.set j c')) C L.H,?_,k1.trans h2,hw.1,(h4.trans k4.grow).trans hw.2.grow,fun t=>((h5 t).ext k4.ext).ext hx⟩,r.defers,r.size,r.os,r.tape,r.output,r.keep⟩;show qW L.h id _=qW (qF st.h u) id _;rw[k2,h1]
     ·exact r
    ·exact r
   ·exact r
  ·rename_i cells hs;split
   ·rename_i c yH;split
    ·rename_i c' u hf;have hv:=h5 s;rw[hs] at hv;obtain⟨vs,de,bb⟩:=hv;rw[←h1] at hf;have hj:j<cells.length:=by grind
     have OX:j<vs.toList.length:=by rw[←bb.length];exact hj
     have iQ:=bb.get j hj OX;have ec:cells[j]=c:=by grind
     rw[ec] at iQ;obtain⟨L,k1,k2,k3,k4,k5,k6,_⟩:=Eh h3 (wF.refl _) iQ hf;refine⟨⟨L,by rw[k2,h1],k1.trans h2,k3,h4.trans k4.grow,fun t=>?_⟩,r.defers,r.size,r.os,r.tape,r.output,r.keep⟩;show zP _ (wM st.t s _ t) _;unfold wM;cases e:Nat.beq t s with
     |false=>exact(h5 t).ext k4.ext
     |true=>
      have e:t=s:=by simpa using e
      subst e;exact⟨vs,de,(bb.mono fun _ _ h=>h.ext k4.ext).set_left (by grind)⟩
    ·exact r
   ·exact r
  ·exact r
theorem vBp {st nm g}(r:vF false na nt a0 M0 w0 st a w)(aO:st.h nm=none):vF false na nt a0 M0 w0 (Ny st nm g) a w:=by
 obtain⟨M,h1,h2,h3,h4,h5⟩:=r.ex;have hM:M.h nm=none:=by simp_all
 obtain⟨k1,k2,k3⟩:=M.nilObj_ok h3 hM g.2.2.1 g.2.2.2;have cA:zQ (M.nilObj nm (il g.2.2.1 g.2.2.2) (jn g.2.2.1 g.2.2.2)) (.osl nm none) (.slice none 0 0):=⟨_,κset_same _ _ _,none,0,rfl,rfl,rfl,rfl⟩;have gr:pB false M0 (M.nilObj nm (il g.2.2.1 g.2.2.2) (jn g.2.2.1 g.2.2.2)):=h4.trans (.same_mem rfl rfl rfl k3);unfold Ny;cases ZW:g.2.2.2&&Yi g.2.2.1 with
 |true=>exact vBt r
 |false=>
 split
 ·split
  ·rename_i hs;refine⟨⟨M.nilObj nm (il g.2.2.1 g.2.2.2) (jn g.2.2.1 g.2.2.2),?_,h2,k1,gr,fun t=>?_⟩,r.defers,r.size,r.os,r.tape,r.output,r.keep⟩
   ·show qW M.h nm _=qW st.h nm _;rw[h1];rfl
   ·show zP _ (wM st.t g.1 _ t) _;unfold wM;cases e:Nat.beq t g.1 with
    |false=>exact(h5 t).ext k2
    |true=>
     have e:t=g.1:=by simpa using e
     subst e;have hv:=h5 g.1;rw[hs] at hv;rw[hv];exact cA
  ·exact r
 ·rename_i j hj;split
  ·rename_i id hs;split
   ·rename_i cells ah;split
    ·have bh:id≠nm:=by grind
     let M1:=M.nilObj nm (il g.2.2.1 g.2.2.2) (jn g.2.2.1 g.2.2.2);have mB:M1.h id=some (.box true cells):=by
      show qW M.h nm _ id=_;rw[yI _ _ bh,h1];exact ah
     obtain⟨C,hC,hO⟩:=k1.obj id _ mB;obtain⟨B,vals,e,b1,b2,b3,b4,b5⟩:=hO;have hx:=zI.write_ext (H':=M1.H) k1 mB rfl hC C.le_refl (by grind) (by grind) (.box true (cells.set j (.osl nm none)));have hw := zI.write_ok (H' := M1.H) (o' := .box true (cells.set j (.osl nm none))) k1 mB rfl hC C.le_refl (by simp) rfl (by grind) (by grind) (by
      refine⟨B,vals,e,b1,b2,b3,?_,by simp⟩;have hl:=b4.length;refine zK.of_get (by simp_all) fun i hi bE=>?_
      have hb:=b4.get i (by omega) bE;by_cases ZX:j=i
      ·subst ZX;rw[List.getElem_set_self];have ec:cells[j]=.nsl:=by
        grind
       rw[ec] at hb;rw[hb];exact cA.ext hx
      ·rw[List.getElem_set_ne ZX];exact hb.ext hx)
     refine⟨⟨M1.write id (.box true (cells.set j (.osl nm none))) C M1.H,?_,h2,hw.1,gr.trans hw.2.grow,fun t=>((h5 t).ext k2).ext hx⟩,r.defers,r.size,r.os,r.tape,r.output,r.keep⟩;show qW (qW M.h nm _) id _=qW (qW st.h nm _) id _;rw[h1];rfl
    ·exact r
   ·exact r
  ·exact r
theorem ZY:∀{l st bF nm},vF false na nt a0 M0 w0 st a w→IF st nm l=some bF→vF false na nt a0 M0 w0 bF a w
 |[],st,bF,nm,r,h=>by cases h;exact r
 |g::l,st,bF,nm,r,h=>by
  unfold IF at h;split at h
  ·rename_i aO;exact ZY (vBp r aO) h
  ·cases h
theorem ZZ {id}:∀{l n i},jE id l n=some i→n≤i∧l[i-n]? =some id
 |x::l,n,i,h=>by
  unfold jE at h;cases e:Nat.beq x id with
  |true=>
   simp_all
  |false=>
   rw[e] at h;obtain⟨h1,h2⟩:=ZZ (l:=l) h;grind
theorem OY {h}:∀n {todo seen},seen.Nodup→(yp h n todo seen).Nodup
 |0,_,_,hs
 |n+1,[],_,hs=>hs
 |n+1,id::todo,seen,hs=>by
  unfold yp;cases e:seen.any (Nat.beq id) with
  |true=>exact OY n hs
  |false=>
   refine OY n (List.nodup_append.2 ⟨hs,by simp,fun x hx y hy exy=>?_⟩);have:y=id:=by simp_all
   have:=List.any_eq_false.1 e x hx;simp_all
def mG (base : Nat) (κ : Nat → Option zZ) (ids : List Nat) : Nat → Option zZ := fun n => if base ≤ n then (match ids[n-base]? with
 |some id=>(κ id).map fun C=>{C with ver:=0}
 |none=>none) else none
def zI.ren (M:zI)(base:Nat)(ids:List Nat):zI:={M with κ:=mG base M.κ ids,h:=uo base M.h ids}
theorem vNf {base h ids n o}(e:uo base h ids n=some o):∃id o',base≤n∧ids[n-base]? =some id∧h id=some o'∧o=rQ h (fun i=>(jE i ids 0).map (base+·)) o':=by
 unfold uo at e;cases hb:Nat.ble base n with
 |false=>simp_all
 |true=>
  rw[hb] at e;split at e
  ·obtain⟨o',h1,h2⟩:=Option.map_eq_some_iff.1 e;simp_all
  ·cases e
theorem yZw {base κ ids id i C}(hi:jE id ids 0=some i)(hC:κ id=some C):mG base κ ids (base+i)=some {C with ver:=0}:=by
 obtain⟨_,h⟩:=ZZ hi;unfold mG;simp_all
theorem OZ {M}(ok:Ok M){base ids c v}(h:zQ M c v):zQ (M.ren base ids) (rP M.h (fun i=>(jE i ids 0).map (base+·)) c) v:=by
 have h1:=h.one;have look:∀id C,M.κ id=some C→∀i,(jE id ids 0).map (base+·)=some i→(M.ren base ids).κ i=some {C with ver:=0}:=fun id C hC i hi=>by
  obtain⟨j,hj,rfl⟩:=Option.map_eq_some_iff.1 hi;exact yZw hj hC
 unfold rP;cases c with
 |osl id r=>
  dsimp only;obtain⟨C,hC,h⟩:=h;cases e:(jE id ids 0).map (base+·) with
  |none=>exact h1
  |some i=>cases r with
   |none=>exact⟨_,look id C hC i e,h⟩
   |some p=>exact⟨_,look id C hC i e,h⟩
 |bsl id x y=>
  dsimp only;obtain⟨C,B,hC,h⟩:=h;cases e:(jE id ids 0).map (base+·) with
  |none=>exact h1
  |some i=>exact⟨_,B,look id C hC i e,h⟩
 |ptr id x=>
  dsimp only;obtain⟨C,B,hC,h⟩:=h;cases e:(jE id ids 0).map (base+·) with
  |none=>exact h1
  |some i=>exact⟨_,B,look id C hC i e,h⟩
 |eptr id x y=>
  dsimp only;obtain⟨C,B,hC,h⟩:=h;cases e:(jE id ids 0).map (base+·) with
  |none=>exact h1
  |some i=>exact⟨_,B,look id C hC i e,h⟩
 |mrow id x ver=>
  dsimp only;obtain⟨C,hC,ho,hle,h⟩:=h;cases e:(jE id ids 0).map (base+·) with
  |none=>exact h1
  |some i=>
   split
   ·rename_i i' v' xs ei ah;cases ei;cases eu:Nat.beq v' ver with
    |false=>exact h1
    |true=>
     have fS:v'=ver:=by simpa using eu
     obtain⟨C',aw,hO⟩:=ok.obj id _ ah;rw[hC] at aw;cases aw;exact⟨_,look id C hC i e,h1,Nat.le_refl _,fun _=>h (by rw[hO.1,fS])⟩
   ·exact h1
 |mptr id x=>
  dsimp only;obtain⟨C,B,hC,h⟩:=h;cases e:(jE id ids 0).map (base+·) with
  |none=>exact h1
  |some i=>exact⟨_,B,look id C hC i e,h⟩
 |meptr id x y ver=>
  dsimp only;obtain⟨C,hC,ho,hle,h⟩:=h;cases e:(jE id ids 0).map (base+·) with
  |none=>exact h1
  |some i=>
   split
   ·rename_i i' v' xs ei ah;cases ei;cases eu:Nat.beq v' ver with
    |false=>exact h1
    |true=>
     have fS:v'=ver:=by simp_all
     obtain⟨C',aw,hO⟩:=ok.obj id _ ah;rw[hC] at aw;cases aw;exact⟨_,look id C hC i e,h1,by simp,fun _=>h (by rw[hO.1,fS])⟩
   ·exact h1
 |map id=>
  dsimp only;obtain⟨C,B,hC,h⟩:=h;cases e:(jE id ids 0).map (base+·) with
  |none=>exact h1
  |some i=>exact⟨_,B,look id C hC i e,h⟩
 |fn f cap=>
  dsimp only;obtain⟨cv,rfl,h⟩:=h;split
  ·rename_i c hc;refine⟨cv,rfl,?_⟩;have:=EJ _ _ _ hc;generalize cv.toList=l at h;clear hc h1
   induction cap generalizing c l with
   |nil=>cases c with
    |nil=>cases l with
     |nil=>trivial
     |cons _ _=>exact h.elim
    |cons _ _=>exact this.elim
   |cons x cap ih=>cases c with
    |nil=>exact this.elim
    |cons y c=>cases l with
     |nil=>exact h.elim
     |cons u l=>
      obtain⟨⟨C,B,hC,hh⟩,h⟩:=h;exact⟨⟨_,B,look x C hC y this.1,hh⟩,ih c this.2 l h⟩
  rfl
 |fsl sh t xs=>exact h
 |fptr sh t x off=>exact h
 |_=>exact h
theorem EU {M}(ok:Ok M){base ids}:∀{cs vs},zK (zQ M) cs vs→zK (zQ (M.ren base ids)) (cs.map (rP M.h fun i=>(jE i ids 0).map (base+·))) vs
 |[],[],_=>trivial
 |_::_,_::_,h=>⟨OZ ok h.1,EU ok h.2⟩
theorem vM4 {M}(ok:Ok M){base ids x v}(h:zP M x v):zP (M.ren base ids) (Yh M.h (fun i=>(jE i ids 0).map (base+·)) x) v:=by
 cases x with
 |undef=>trivial
 |skp=>exact h
 |c x=>exact OZ (c:=x) ok h
 |agg cs=>
  obtain⟨vs,h1,h2⟩:=h;exact⟨vs,h1,EU ok h2⟩
 |tup xs=>
  obtain⟨vs,h1,h2⟩:=h;refine⟨vs,h1,zK.map_left (h2.mono fun p u hp=>?_)⟩;obtain⟨b,cs⟩:=p;cases b with
  |true=>
   obtain⟨us,q1,q2⟩:=hp;exact⟨us,q1,EU ok q2⟩
  |false=>
   cases cs with
   |nil=>exact hp
   |cons c cs=>cases cs with
    |nil=>exact OZ (c:=c) ok hp
    |cons _ _=>exact hp
theorem Z0 {M}(ok:Ok M){base ids o C}(h:yP M o C):yP (M.ren base ids) (rQ M.h (fun i=>(jE i ids 0).map (base+·)) o) {C with ver:=0}:=by
 cases o with
 |box own cells=>
  obtain⟨B,vals,e,h1,h2,h3,h4,h5⟩:=h;exact⟨B,vals,e,h1,h2,h3,EU ok h4,h5⟩
 |robox cells=>
  obtain⟨B,vals,e,h1,h2,h3,h4,h5⟩:=h;exact⟨B,vals,e,h1,h2,h3,EU ok h4,h5⟩
 |arr own t xs=>exact h
 |mat ver xs=>
  obtain⟨h1,h2⟩:=h;exact⟨rfl,h2⟩
 |pmat ver xs n=>
  obtain⟨h1,h2⟩:=h;exact⟨rfl,h2⟩
 |imap cL=>exact h
 |gone=>trivial
theorem O0 {h ρ} o:(rQ h ρ o).owned=o.owned:=by cases o<;>rfl
theorem zI.ren_ok {M}(ok:Ok M){base ids}(df:ids.Nodup):Ok (M.ren base ids)∧∀b,qJ (M.ren base ids) b→qJ M b:=by
 have at':∀n o,(M.ren base ids).h n=some o→∃id o' C,base≤n∧ids[n-base]? =some id∧M.h id=some o'∧M.κ id=some C∧o=rQ M.h (fun i=>(jE i ids 0).map (base+·)) o'∧yP M o' C∧(M.ren base ids).κ n=some {C with ver:=0}:=fun n o h=>by
  obtain⟨id,o',h1,h2,h3,h4⟩:=vNf h;obtain⟨C,hC,hO⟩:=ok.obj id _ h3;refine⟨id,o',C,h1,h2,h3,hC,h4,hO,?_⟩;show mG base M.κ ids n=_;unfold mG;simp_all
 have kS:∀b,qJ (M.ren base ids) b→qJ M b:=fun b ⟨n,o,C,h1,h2,h3,h4⟩=>by
  obtain⟨id,o',C',k1,k2,k3,k4,k5,k6,k7⟩:=at' n o h1;rw[k7] at h3;cases h3;exact⟨id,o',C',k3,by rw[←h2,k5,O0],k4,h4⟩
 refine⟨⟨fun n o h=>?_,fun n h=>?_,fun i j oi oj Ci Cj b iZ h1 h2 h3 h4 h5 h6 h7 h8=>?_,fun b h=>ok.own b (kS b h),ok.GF,ok.Flt⟩,kS⟩
 ·obtain⟨id,o',C,k1,k2,k3,k4,rfl,k6,k7⟩:=at' n o h;exact⟨_,k7,Z0 ok k6⟩
 ·show mG base M.κ ids n=none;unfold mG;split
  ·rename_i hb;split
   ·rename_i id ah;have:M.h id=none:=by
     cases e:M.h id with
     |none=>rfl
     |some o=>
      have:(M.ren base ids).h n=some (rQ M.h (fun i=>(jE i ids 0).map (base+·)) o):=by
       show uo base M.h ids n=_;unfold uo;rw[show Nat.ble base n=true from Nat.ble_eq_true_of_le hb,ah];simp[e]
      simp_all
    rw[ok.non id this];rfl
   ·rfl
  ·rfl
 ·obtain⟨id,o',C,k1,k2,k3,k4,k5,k6,k7⟩:=at' i oi h1;obtain⟨jd,p',D,q1,q2,q3,q4,q5,q6,q7⟩:=at' j oj h2;rw[k7] at h5;rw[q7] at h6;cases h5;cases h6;refine ok.disj id jd o' p' C D b (fun e=>?_) k3 q3 (by rw[←h3,k5,O0]) (by rw[←h4,q5,O0]) k4 q4 h7 h8;have hi:=(List.getElem?_eq_some_iff.1 k2);have hj:=(List.getElem?_eq_some_iff.1 q2);have:=(List.getElem_inj (h₀:=hi.1) (h₁:=hj.1) df).1 (by omega);omega
theorem Z1:∀{a b},Ix a b=true→a=b
 |[],[],_=>rfl
 |x::a,y::b,h=>by
  simp only[Ix,Bool.and_eq_true] at h;rw[Nat.eq_of_beq_eq_true h.1,Z1 h.2]
theorem vNe {c v}(h:Nr c v=true):c=.undef∨c=v:=by
 unfold Nr at h;split at h
 ·simp
 ·simp
 ·simp
 ·simp
 ·simp
 ·simp_all
 ·simp_all
 ·simp_all
 ·simp only[Bool.and_eq_true] at h;exact .inr (by rw[Nat.eq_of_beq_eq_true h.1,Z1 h.2])
 all_goals simp_all
theorem ld {α:Type}{c x}{y:α}(h:(bif c then x else none)=some y):c=true∧x=some y:=by
 grind
theorem pE {M}(ok:Ok M):∀{l cs d vs},ki l cs=some d→zK (zQ M) cs vs→zK (zQ M) (mw l d) vs
 |[],[],_,[],_,_=>trivial
 |.int k::l,c::cs,d,v::vs,h,hv=>by
  cases c<;>first|(cases h;done)|skip
  obtain⟨hk,h⟩:=ld h;split at h
  ·rename_i d' hd;cases h;refine⟨?_,pE ok hd hv.2⟩;rw[←oV hk];exact hv.1
  ·cases h
 |.bool::l,c::cs,d,v::vs,h,hv=>by
  cases c<;>first|(cases h)|skip
  unfold ki at h;split at h
  ·rename_i d' hd;cases h;exact⟨hv.1,pE ok hd hv.2⟩
  ·cases h
 |.dat sh t::l,c::cs,d,v::vs,h,hv=>by
  cases c<;>first|(cases h;done)|skip
  ·rename_i Ea s xs;obtain⟨hs,h⟩:=ld h;split at h
   ·rename_i ys d' hx hd;cases h;obtain⟨e,hx⟩:=iO hx;subst e;subst hx;refine⟨?_,pE ok hd hv.2⟩;have h1:qB M.H (bif Ea then M.G else M.F) (.sl s) xs (fun _=>some v):=hv.1;cases sh with
    |true=>
     have:Ea=true:=by simp_all
     subst this;exact h1
    |false=>cases Ea with
     |false=>exact h1
     |true=>exact yR ok.GF (by simp) _ _ _ _ (by simp) h1
   ·cases h
  ·unfold ki at h;split at h
   ·rename_i d' hd;cases h;refine⟨?_,pE ok hd hv.2⟩;rw[show v=.slice none 0 0 from hv.1];exact⟨none,0,0,rfl,rfl,by simp,by simp⟩
   ·cases h
 |.lit c::l,x::cs,d,v::vs,h,hv=>by
  obtain⟨he,h⟩:=ld h;refine⟨?_,pE ok h hv.2⟩;rcases vNe he with rfl|rfl
  ·exact hv.1.one
  ·exact hv.1
theorem yV6 {M}(ok:Ok M){v a d rv}(h:Ns v a=some d)(hv:zP M a rv):zP M (Nt v d) rv:=by
 cases v with
 |c x=>
  cases a with
  |c y=>
   have:=pE ok (vs:=[rv]) (show ki [x] [y]=some d from h) ⟨hv,trivial⟩;show zP M (match mw [x] d with|c::_=>.c c|[]=>.undef) rv
   match hh:mw [x] d,this with
   |[c],this=>exact this.1
  |_=>cases h
 |agg l=>
  cases a with
  |agg vs=>
   obtain⟨us,rfl,hx⟩:=hv;exact⟨us,rfl,pE ok (show ki l vs=some d from h) hx⟩
  |_=>cases h
theorem yWy {M}(ok:Ok M){o x d C}(h:Iy o x=some d)(hO:yP M x C)(hv:C.ver=0):yP M (Iz o d) C∧(Iz o d).owned=x.owned:=by
 unfold Iy at h;split at h
 ·obtain⟨he,h'⟩:=ld h;have he:=eq_of_beq he;subst he;clear h;obtain⟨B,vals,e,h1,h2,h3,h4,h5⟩:=hO;exact⟨⟨B,vals,e,h1,h2,h3,pE ok h' h4,h5⟩,rfl⟩
 ·obtain⟨B,vals,e,h1,h2,h3,h4,h5⟩:=hO;exact⟨⟨B,vals,e,h1,h2,h3,pE ok h h4,h5⟩,rfl⟩
 ·obtain⟨he,h'⟩:=ld h;have he:=eq_of_beq he;subst he;obtain⟨e,hx⟩:=iO h';subst e;subst hx;exact⟨hO,rfl⟩
 ·cases h;exact⟨⟨hv,hO.2⟩,rfl⟩
 ·cases h;exact⟨⟨hv,hO.2⟩,rfl⟩
 ·cases h;exact⟨hO,rfl⟩
 ·cases h
theorem Z2 {f t}:∀{l d n v},IG f t l=some d→(ym l d).lookup n=some v→∃(s:VS) (x:SL s.cells),Ns s (f (t n))=some x∧v=Nt s x
 |s::l,d,n,v,hr,h=>by
  unfold IG at hr;split at hr
  ·rename_i x ds h1 h2;cases hr;unfold ym at h;rw[List.lookup_cons] at h;cases e:n==s.1 with
   |true=>
    grind
   |false=>
    rw[e] at h;exact Z2 h2 h
  ·cases hr
theorem Z3 {f h0}:∀{l ids d},IH f h0 l ids=some d→(o6 l d).length=ids.length∧∀(i:Nat) o,(o6 l d)[i]? =some o→∃(s:OS) (x:s.den) (id:Nat) (y:Obj),ids[i]? =some id∧h0 id=some y∧Iy s (f y)=some x∧o=Iz s x
 |[],[],d,_=>⟨rfl,nofun⟩
 |s::l,id::ids,d,h=>by
  unfold IH at h;split at h
  ·rename_i x ds h1 h2;cases h;obtain⟨y,h3,h4⟩:=Option.bind_eq_some_iff.1 h1;obtain⟨k1,k2⟩:=Z3 h2;refine⟨by simp[o6,k1],fun i o hi=>?_⟩;cases i with
   |zero=>
    simp[o6] at hi;grind
   |succ i=>
    simp[o6] at hi;simp_all
  ·cases h
theorem vLn {g0 base n:Nat}{S:zE}{st:St}{d:S.den}(r:vF false na nt a0 M0 w0 st a w)(h:Nz g0 base n S st=some d):vF false na nt a0 M0 w0 (zL base S d) a w:=by
 unfold Nz at h;split at h
 ·cases h
 rename_i st1 hg;have r:=ZY r hg;dsimp only at h;generalize jl:yp st1.h n _ []=ids at h;have df:ids.Nodup:=by rw[←jl];exact OY n List.nodup_nil
 split at h
 case h_2=>cases h
 rename_i da db ha hb;cases h;obtain⟨M,h1,h2,h3,h4,h5⟩:=r.ex;rw[←h1] at ha hb;obtain⟨k1,k2⟩:=M.ren_ok h3 (base:=base) df;obtain⟨ol,oa⟩:=Z3 hb;let M':zI:={M.ren base ids with h:=(zL base S (da,db)).h};have Jp:∀n o',M'.h n=some o'→∃o C,(M.ren base ids).h n=some o∧M'.κ n=some C∧yP (M.ren base ids) o' C∧o'.owned=o.owned:=fun m o' e=>by
  have e:(bif Nat.ble base m then(o6 S.objs db)[m-base]? else none)=some o':=e;obtain⟨hle,e⟩:=ld e;obtain⟨s,x,id,y,q1,q2,q3,rfl⟩:=oa _ _ e;obtain⟨C,hC,hO⟩:=h3.obj id y q2;have hκ:(M.ren base ids).κ m=some {C with ver:=0}:=by
   show mG base M.κ ids m=_;unfold mG;simp_all
  have hh:(M.ren base ids).h m=some (rQ M.h (fun i=>(jE i ids 0).map (base+·)) y):=by
   show uo base M.h ids m=_;unfold uo;grind
  obtain⟨p1,p2⟩:=yWy k1 q3 (Z0 h3 hO) rfl;grind
 have x:yD (M.ren base ids) M':=⟨fun _ C h=>⟨C,h,C.le_refl⟩,fun _ h=>h,fun _ h=>h,fun _ _=>rfl,by grind,fun _ _=>rfl⟩;have aJ:∀b,qJ M' b→qJ (M.ren base ids) b:=fun b ⟨id,o',C,q1,q2,q3,q4⟩=>by
  obtain⟨o,D,p1,p2,p3,p4⟩:=Jp id o' q1;exact⟨id,o,C,p1,by rw[←p4];exact q2,q3,q4⟩
 have ic:Ok M':=by
  refine⟨fun id o' q=>?_,fun id q=>?_,fun i j oi oj Ci Cj b iZ q1 q2 q3 q4 q5 q6 q7 q8=>?_,fun b hb=>k1.own b (aJ b hb),k1.GF,k1.Flt⟩
  ·obtain⟨o,C,p1,p2,p3,p4⟩:=Jp id o' q;exact⟨C,p2,p3.ext x (by grind)⟩
  ·have q:(bif Nat.ble base id then(o6 S.objs db)[id-base]? else none)=none:=q;show mG base M.κ ids id=none;unfold mG;cases hle:Nat.ble base id with
   |false=>rw[if_neg fun h=>by rw[Nat.ble_eq_true_of_le h] at hle;cases hle]
   |true=>
    simp_all
  ·obtain⟨o1,C1,p1,p2,p3,p4⟩:=Jp i oi q1;obtain⟨o2,C2,p5,p6,p7,p8⟩:=Jp j oj q2;exact k1.disj i j o1 o2 Ci Cj b iZ p1 p5 (by rw[←p4];exact q3) (by rw[←p8];exact q4) q5 q6 q7 q8
 refine⟨⟨M',rfl,h2,ic,h4.trans (.same_mem rfl rfl rfl (by grind)),fun m=>?_⟩,r.defers,r.size,r.os,r.tape,r.output,r.keep⟩;show zP M' (match(ym S.slots da).lookup m with|some v=>v|none=>.undef) _;cases hl:(ym S.slots da).lookup m with
 |none=>trivial
 |some v=>
  obtain⟨s,y,q1,rfl⟩:=Z2 ha hl;exact(yV6 k1 q1 (vM4 h3 (h5 m))).ext x
theorem Jq {pre S st d}(r:vF false na nt a0 M0 w0 st a w)(h:Ec pre S st=some d):vF false na nt a0 M0 w0 (zL (pre+fD) S d) a w:=vLn r h
end
end Go.Ab
