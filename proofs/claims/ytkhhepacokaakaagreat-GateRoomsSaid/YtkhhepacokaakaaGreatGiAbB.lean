/- part 1 -/
import Derived.Test.YtkhhepacokaakaaGreatGiAbA
import Derived.Laws.BytesString
set_option linter.unusedVariables false
set_option linter.unusedSimpArgs false
namespace Go.Ab
theorem Wz off:∀l k cells,off+k+l.length≤cells.size→
  (l.zipIdx k).foldl (fun(cs:Array Value) (p:Value×Nat)=>cs.setIfInBounds (off+p.2) p.1) cells=yF cells (off+k) l
 |[],k,cells,h=>by
  apply Array.ext_getElem?
  intro j
  rw[wU h]
  simp_all
 |c::l,k,cells,h=>by
  simp
  rw[Wz off l (k+1) _ (by grind)]
  apply Array.ext_getElem?
  intro j
  rw[wU (by grind),wU (by omega)]
  grind
theorem Mi place cells i v rest off size (h:place i=some (off,size))(h1:v.cells.size=size)(h2:off+size≤cells.size):
  Instr.fill place cells ((i,v)::rest)=Instr.fill place (yF cells off v.cells.toList) rest:=by
 have hc:¬(v.cells.size≠size||decide (off+v.cells.size>cells.size))=true:=by
  simp_all
 simp only[Instr.fill,h]
 rw[if_neg hc]
 congr 1
 rw[←Array.foldl_toList,Array.toList_zipIdx]
 have:=Wz off v.cells.toList 0 cells (by simp;omega)
 omega
def tF (M:zG):(Nat×zO)→(Nat×Value)→Prop:=fun p q=>p.1=q.1∧zN M p.2 q.2
theorem Mj {M place}:∀{parts aB cells out vals},zI (zQ M) cells vals.toList→
  zI (tF M) parts aB→Cp place cells parts=some out→∃res,Instr.fill place vals aB=some res∧zI (zQ M) out res.toList
 |[],[],cells,out,vals,hc,_,h=>by cases h;exact⟨vals,rfl,hc⟩
 |(i,v)::parts,(i',rv)::aB,cells,out,vals,hc,hp,h=>by
  obtain⟨⟨hi,hv⟩,hp⟩:=hp
  subst hi
  unfold Cp at h
  split at h
  ·rename_i off size vs G6 cB
   cases hb:(Nat.beq vs.length size&&Nat.ble (off+size) cells.length) with
   |false=>simp_all
   |true=>
    rw[hb] at h
    simp only[Bool.and_eq_true] at hb
    have b1:=Nat.eq_of_beq_eq_true hb.1
    have b2:=Nat.le_of_ble_eq_true hb.2
    split at h
    ·rename_i bn Mk
     obtain⟨p1,rfl⟩:=LF _ _ _ _ Mk
     have cw:=GV cB hv
     have hl:=cw.length
     have mQ:=hc.length
     simp  at hl mQ
     have yD:=LI (yB.refl M) hc cw (off:=off) (by simp_all)
     obtain⟨res,h1,h2⟩:=Mj yD hp h
     exact⟨res,by rw[Mi place vals i rv aB off size G6 (by omega) (by omega)];exact h1,h2⟩
    ·cases h
  ·cases h
theorem WA {P} w:∀(l:List Field),l.all (fun f=>(P.info? f.type).isSome)=true→
  (l.mapM fun f=>(do pure (f.offset,←sizeOf f.type):Sem (Nat×Nat))).run P w=.ok (l.map fun f=>(f.offset,P.cellsOf f.type)) w
 |[],_=>by simp
 |f::l,h=>by
  simp only[List.all_cons,Bool.and_eq_true] at h
  obtain⟨i,hi⟩:=Option.isSome_iff_exists.1 h.1
  rw[List.mapM_cons]
  simp only[Sem.run_bind,eY w hi,Result.andThen_ok,Sem.run_pure,WA w l h.2,List.map_cons]
theorem yZw {P M w}(ok:Ok M)(hM:M.H=w.heap){t parts aB v u}(hp:zI (tF M) parts aB)
  (h:qX (Lj P t parts) v u):qD P (Instr.build t aB.toArray) M w v u:=by
 unfold Lj at h
 split at h
 ·exact h.elim
 ·rename_i zero hz
  obtain⟨i,z,h1,h2,h3,h4,rfl⟩:=VX hz
  have hzero:=GQ M h4
  split at h
  ·rename_i fs hs
   obtain⟨aU,h⟩:=dz h
   split at h
   ·rename_i cells hf
    obtain⟨rfl,rfl⟩:=vQ h
    have G6:(fun(j:Nat)=>(fs[j]?).map fun(f:Field)=>(f.offset,P.cellsOf f.type))=(fun(j:Nat)=>(fs.toList.map fun f=>(f.offset,P.cellsOf f.type)).toArray[j]?):=by
     simp
    obtain⟨res,k1,k2⟩:=Mj hzero hp hf
    refine qD.pure ok hM (rv:=.agg res) ?_ ⟨res,rfl,k2⟩
    have hm:=WA (P:=P) w fs.toList aU
    simp[Instr.build,zeroValue,LB w h1,run_underlying hs,Array.mapM_eq_mapM_toList]
    simp_all
   ·exact h.elim
  ·rename_i n e hs
   obtain⟨aU,h⟩:=dz h
   obtain⟨y,hy⟩:=Option.isSome_iff_exists.1 aU
   split at h
   ·rename_i cells hf
    obtain⟨rfl,rfl⟩:=vQ h
    obtain⟨res,k1,k2⟩:=Mj hzero hp hf
    refine qD.pure ok hM (rv:=.agg res) ?_ ⟨res,rfl,k2⟩
    simp[Instr.build,zeroValue,Sem.run_bind,LB w h1,Result.andThen_ok,h2,Sem.run_pure,run_underlying hs,eY w hy]
    simp_all
   ·exact h.elim
  ·exact h.elim
theorem qD.after {P s M M1 w v u1 u2}(h1:M1.h=qA M.h u1)(st:yL M M1)(h:qD P s M1 w v u2):qD P s M w v (u1++u2):=by
 obtain⟨rv,w',M',a1,a2,a3,a4,a5,a6,a7,a8,a9⟩:=h
 exact⟨rv,w',M',a1,a2,a3,a4,a5,by rw[a6,h1,gK],a7,st.trans a8,a9⟩
theorem wI.fresh {h0 h}(hf:wI h0 h){n}(hn:h0 n=none):h n=none:=by
 rcases hf n with e|⟨o,t,xs,e1,_⟩|⟨o,xs,e1,_⟩
 all_goals simp_all
theorem WB {t vs x}(h:Cl t vs=some x):vs.length=t.size∧og t t.dflt 0 vs=some x:=by
 unfold Cl at h
 cases hb:Nat.beq vs.length t.size with
 |false=>simp_all
 |true=>simp_all
theorem vE4 {M t vs us x}(h:Cl t vs=some x)(hv:zI (zQ M) vs us){rd}(hr:∀i,i<us.length→rd i=us[i]?):zU M.H M.G t x rd:=by
 obtain⟨h1,h2⟩:=WB h
 have hl:=hv.length
 refine LN t vs us t.dflt x 0 (fun j=>(eu t)[j]?) rd (CM t _ (by simp)) h2 hv (by grind) (by grind)
theorem WC {h0 t n}:∀{parts aB xs out vals u M},Ok M→wI h0 M.h→xs.length=n→vals.size=n*t.size→
  (∀k h,zU M.H M.G t xs[k] (fun j=>vals[k*t.size+j]?))→(∀p∈parts,p.1<n)→zI (tF M) parts aB→mK h0 t xs parts=some (out,u)→
  ∃res M',Instr.fill (fun i=>some (i*t.size,t.size)) vals aB=some res∧M'.H=M.H∧M'.h=qA M.h u∧Ok M'∧yL M M'∧wI h0 M'.h∧out.length=n∧res.size=n*t.size∧
   (∀k h,zU M'.H M'.G t out[k] (fun j=>res[k*t.size+j]?))
 |[],[],xs,out,vals,u,M,ok,hf,hx,hs,hE,_,_,h=>by
  cases h
  exact⟨vals,M,rfl,rfl,rfl,ok,yL.refl M,hf,hx,hs,hE⟩
 |(i,v)::parts,(i',rv)::aB,xs,out,vals,u,M,ok,hf,hx,hs,hE,aT,hp,h=>by
  obtain⟨⟨hi,hv⟩,hp⟩:=hp
  dsimp only at hi hv
  subst hi
  unfold mK at h
  split at h
  ·rename_i vs cB
   split at h
   ·rename_i LW u1 xv
    split at h
    ·rename_i x qw
     split at h
     ·rename_i xs' us bc
      cases h
      have cw:=GV cB hv
      obtain⟨M1,a1,a2,a3,a4,a5,a6,a7⟩:=LK ok hf cw xv
      have hl:=a5.length
      simp  at hl
      have tG:=(WB qw).1
      have eE:i<n:=aT (i,v) (by simp)
      have aL:=Nat.mul_le_mul_right t.size (show i+1≤n by omega)
      rw[Nat.add_mul] at aL
      have ax:i*t.size+rv.cells.toList.length≤vals.size:=by simp_all
      have hE1:∀k (h:k<(xs.set i x).length),zU M1.H M1.G t (xs.set i x)[k] (fun j=>(yF vals (i*t.size) rv.cells.toList)[k*t.size+j]?):=by
       intro k hk
       rw[List.length_set] at hk
       by_cases e:k=i
       ·subst e
        rw[List.getElem_set_self]
        refine vE4 qw a5 fun j hj=>?_
        rw[wU ax,if_neg (by omega),if_pos (by omega)]
        simp
       ·rw[List.getElem_set_ne (Ne.symm e)]
        refine yK a4.ext.G (by grind) t _ _ _ (fun j hj=>?_) (hE k hk)
        rw[wU ax,Array.length_toList]
        rcases Wd (Ne.symm e) hj with h|h
        all_goals grind
      obtain⟨res,M2,b1,b2,b3,b4,b5,b6,b7,b8,b9⟩:=WC a3 a6 (by simp_all) (by rw[dP ax];exact hs) hE1
       (fun p hp=>aT p (by grind)) (hp.mono fun p q WD=>⟨WD.1,by
        obtain⟨_,hq⟩:=WD
        exact zN.ext a4.ext hq⟩) bc
      exact⟨res,M2,by rw[Mi _ vals i rv aB (i*t.size) t.size rfl (by omega) (by omega)];exact b1,b2.trans a1,by rw[b3,a2,gK],b4,a4.trans b5,b6,b7,b8,b9⟩
     ·cases h
    ·cases h
   ·cases h
  ·cases h
theorem WE {P w t e n aB}{ty:Ty}{i z res}(hu:P.underlying t=some (.slice e))(hi:P.info? e=some i)
  (hz:i.zero=some z) (hs:i.size=ty.size) (bY:n*P.cellsOf e≤16777216) (hf:Instr.fill (fun j=>some (j*ty.size,ty.size)) (madeCells z.cells (n*ty.size)) aB=some res):
  (Instr.buildSlice t n aB.toArray).run P w=.ok (.slice (some ⟨w.heap.size,0,none⟩) n n) (w.alloc (.cells res e)):=by
 have hc:P.cellsOf e=ty.size:=by rw[LA hi];exact hs
 rw[hc] at bY
 have h1:¬2^24<n*ty.size:=by omega
 by_cases h0:n*ty.size=0
 ·have hm:madeCells z.cells (n*ty.size)=#[]:=by rw[h0];simp[madeCells]
  rw[hm] at hf
  simp[Instr.buildSlice,run_underlying hu,eY w hi,hc,h0]
  simp[Array.range_zero',hf,newRow]
 ·simp[Instr.buildSlice,run_underlying hu,Result.andThen_ok,eY w hi,hc,h1,if_false,h0,Sem.run_pure,zeroValue,LB w hi,hz]
  rw[show(Array.range (n*ty.size)).map (z.cells[· %z.cells.size]!)=madeCells z.cells (n*ty.size) from rfl,hf]
  rfl
theorem WG {parts:List (Nat×zO)}{n}(h:parts.all (fun p=>Nat.blt p.1 n)=true):∀p∈parts,p.1<n:=by
 simp only[List.all_eq_true] at h
 exact fun p hp=>LL (h p hp)
theorem yQl {P M w}(ok:Ok M)(hM:M.H=w.heap){nm t e n parts aB ty xs u}
  (hp:zI (tF M) parts aB) (hu:P.underlying t=some (.slice e)) (aG:M.h nm=none) (cD:fU P e=some ty) (bY:n*P.cellsOf e≤16777216) (aT:∀p∈parts,p.1<n)
  (hf:mK M.h ty (List.replicate n ty.dflt) parts=some (xs,u)):
  qD P (Instr.buildSlice t n aB.toArray) M w (.c (.osl nm none)) (u++[(nm,.arr true ty xs)]):=by
 obtain⟨i,z,h1,h2,h3,h4,h5,h6,h7⟩:=mV cD
 obtain⟨res,M',b1,b2,b3,b4,b5,b6,b7,b8,b9⟩:=WC (n:=n) ok (wI.refl _) (by simp) (vals:=madeCells z.cells (n*ty.size)) (by rw[size_madeCells])
  (fun k hk=>by rw[Wy hk];exact Wv h4 h7 (by simp_all)) aT hp hf
 have hr:=WE (P:=P) (w:=w) hu h1 h2 h3 bY b1
 refine qD.after b3 b5 (Ww b4 (by grind) (b6.fresh aG) (c:=n) (us:=res) (e:=e) (by omega) (by omega) (by grind) ?_)
 simp_all
structure qx (M:zG) (J:List Nat) (n:Nat) (rows:List (List Int)) (vals:Array Value) (rc:List (Option Nat×Nat)):Prop where
 len:rows.length=n
 size:vals.size=n
 rlen:rc.length=n
 row:∀k (h:k<rows.length),∃rb v,rc[k]? =some (rb,rows[k].length)∧vals[k]? =some v∧iT M.H rb rows[k].length v∧
  (∀R,rb=some R→∃rv er,M.H[R]? =some (.cells rv er (0,0))∧∀j (h':j<rows[k].length),rv[j]? =some (.int .i64 rows[k][j]))
 nd:(rc.filterMap (·.1)).Nodup
 of:∀R∈rc.filterMap (·.1),∃j∈J,∃C,M.κ j=some C∧R∈C.fp
 js:∀j∈J,∃ys:List Int,M.h j=some (.arr true (.int .i64) ys)
theorem qx.put {M}(ok:Ok M){J n rows vals rc}(I:qx M J n rows vals rc){i}(hi:i<n){v rv r u}
  (hv:zN M v rv) (ht:tj M.h v=some (r,u)) (hJ:∀p∈u,p.1∉J):∃G7,qx M (J++u.map (·.1)) n (rows.set i r) (yF vals i rv.cells.toList) G7∧rv.cells.size=1∧(∀p∈u,p.2=.gone):=by
 have put:∀(rb:Option Nat) (J':List Nat),rv.one1=true→iT M.H rb r.length rv→(∀R,rb=some R→∃rv er,M.H[R]? =some (.cells rv er (0,0))∧∀j (h':j<r.length),rv[j]? =some (.int .i64 r[j]))→
   (∀R,rb=some R→R∉rc.filterMap (·.1))→(∀R,rb=some R→∃j∈J',∃C,M.κ j=some C∧R∈C.fp)→(∀j∈J',∃ys:List Int,M.h j=some (.arr true (.int .i64) ys))→
   qx M (J++J') n (rows.set i r) (yF vals i rv.cells.toList) (rc.set i (rb,r.length))∧rv.cells.size=1:=by
  intro rb J' h1 h2 h3 h4 h5 h6
  have av:rv.cells=#[rv]:=by cases rv<;>first|rfl|cases h1
  obtain⟨s1,s2⟩:=GY (x:=(rb,r.length)) rc i I.nd h4
  have ax:i+rv.cells.toList.length≤vals.size:=by rw[av,I.size];show i+1≤n;omega
  refine⟨⟨by rw[List.length_set];exact I.len,by rw[dP ax];exact I.size,by rw[List.length_set];exact I.rlen,fun k hk=>?_,s1,fun R hR=>?_,fun j hj=>?_⟩,by rw[av];rfl⟩
  ·rw[List.length_set] at hk
   by_cases e:k=i
   ·subst e
    rw[List.getElem_set_self]
    refine⟨rb,rv,?_,?_,h2,h3⟩
    ·rw[List.getElem?_set_self (by rw[I.rlen];exact hi)]
    ·rw[wU ax,if_neg (by omega),if_pos (by rw[av];show k<k+1;omega),av]
     simp
   ·rw[List.getElem_set_ne (Ne.symm e)]
    obtain⟨lO,v',p1,p2,p3,p4⟩:=I.row k hk
    refine⟨lO,v',by rw[List.getElem?_set_ne (Ne.symm e)];exact p1,?_,p3,p4⟩
    rw[wU ax,av]
    grind
  ·rcases s2 R hR with h|h
   ·obtain⟨j,hj,hC⟩:=I.of R h
    exact⟨j,by grind,hC⟩
   grind
  ·rcases List.mem_append.1 hj with h|h
   ·exact I.js j h
   ·exact h6 j h
 unfold tj at ht
 split at ht
 ·rename_i jd
  split at ht
  ·rename_i ys cj
   cases ht
   obtain⟨Cj,cW,kg⟩:=ok.obj jd _ cj
   obtain⟨jr,jf⟩:=CC kg
   obtain⟨r1,r2⟩:=LS cW kg hv
   have qs:∀j∈[jd],∃ys:List Int,M.h j=some (.arr true (.int .i64) ys):=by grind
   have:=put Cj.blk [jd] (zQ.one (c:=.osl jd none) hv) r1 r2 (fun R hR hm=>?_) (by grind) (fun j hj=>qs j hj)
   ·exact(by grind)
   ·obtain⟨j,hj,C,hC,hRC⟩:=I.of R hm
    obtain⟨ys',iW⟩:=I.js j hj
    have aV:j≠jd:=fun e=>hJ (jd,.gone) (by simp) (e▸hj)
    exact ok.disj j jd _ _ C Cj R aV iW cj rfl rfl hC cW hRC (jT hR)
  ·cases ht
 ·cases ht
  have e:rv=.slice none 0 0:=hv
  have:=put none [] (by rw[e];rfl) ⟨e,rfl⟩ (by simp) (by simp) (by simp) (by simp)
  exact by grind
 ·cases ht
theorem xH:∀{l},oh l=true→l.Nodup
 |[],_=>by simp
 |a::l,h=>by
  simp only[oh,Bool.and_eq_true] at h
  refine List.nodup_cons.2 ⟨fun hm=>?_,xH h.2⟩
  have:l.any (Nat.beq a)=true:=List.any_eq_true.2 ⟨a,hm,by simp⟩
  simp_all
theorem WH {M}(ok:Ok M){n}:∀{parts aB J rows out vals rc u},qx M J n rows vals rc→
  (∀p∈parts,p.1<n)→zI (tF M) parts aB→tl M.h rows parts=some (out,u)→(J++u.map (·.1)).Nodup→
  ∃res G7,Instr.fill (fun i=>some (i*1,1)) vals aB=some res∧qx M (J++u.map (·.1)) n out res G7∧(∀p∈u,p.2=.gone)
 |[],[],J,rows,out,vals,rc,u,I,_,_,h,_=>by
  cases h
  exact⟨vals,rc,rfl,by simp_all,by simp⟩
 |(i,v)::parts,(i',rv)::aB,J,rows,out,vals,rc,u,I,aT,hp,h,cC=>by
  obtain⟨⟨hi,hv⟩,hp⟩:=hp
  subst hi
  unfold tl at h
  split at h
  ·rename_i r u1 ht
   split at h
   ·rename_i eF us bc
    cases h
    rw[List.map_append,←List.append_assoc] at cC
    have eE:i<n:=aT (i,v) (by simp)
    obtain⟨G7,I',h1,hg⟩:=I.put ok eE hv ht (by grind)
    obtain⟨res,rc2,b1,b2,b3⟩:=WH ok I' (by grind) hp bc cC
    refine⟨res,rc2,?_,by simp_all,fun p hp=>?_⟩
    ·rw[Mi _ vals i rv aB (i*1) 1 rfl h1 (by rw[I.size];omega),Nat.mul_one];exact b1
    grind
   ·cases h
  ·cases h
theorem Mm {j}:∀{u h},(∀p∈u,p.2=.gone)→j∈u.map (·.1)→qA h u j=some .gone
 |(id,o)::u,h,hg,hj=>by
  have ho:o=.gone:=hg (id,o) (by simp)
  subst ho
  by_cases hm:j∈u.map (·.1)
  ·exact Mm (u:=u) (by grind) hm
  ·have e:j=id:=by
    simp_all
   subst e
   show qA (qW h j .gone) u j=_
   rw[GZ]
   ·exact yA _ _ _
   ·rw[Bool.eq_false_iff]
    simp_all
theorem xI {n u h}(hn:n∉u.map (·.1)):qA h u n=h n:=by
 refine GZ h ?_
 rw[Bool.eq_false_iff]
 simp_all
theorem yOo {P:Program}{M:zG}{w}(ok:Ok M)(hM:M.H=w.heap){nm n c}{rows res rc J}{u:yO}{e s}
  (aG:M.h nm=none) (I:qx M J n rows (res.extract 0 n) rc) (hJ:∀j,j∈J→j∈u.map (·.1)) (hg:∀p∈u,p.2=.gone∧∃o,M.h p.1=some o∧o.owned=true) (hc:n≤c) (hs:c≤res.size)
  w' (hw:w'.heap=w.heap.push (.cells res e)∧w'.os=w.os∧w'.tape=w.tape∧w'.output=w.output)
  (hr:s.run P w=.ok (.slice (some ⟨w.heap.size,0,none⟩) n c) w'):qD P s M w (.c (.osl nm none)) (u++[(nm,.mat 0 rows)]):=by
 let C:zT:=⟨some M.H.size,n,1,0,rc⟩
 have hnJ:nm∉u.map (·.1):=(by grind)
 have aL:∀R∈rc.filterMap (·.1),∃j C,(j∈u.map (·.1))∧M.κ j=some C∧R∈C.fp:=fun R hR=>by
  obtain⟨j,hj,C,hC,hm⟩:=I.of R hR
  grind
 have aah:∀R∈rc.filterMap (·.1),R<M.H.size:=fun R hR=>by
  obtain⟨j,hj,C,hC,hm⟩:=I.of R hR
  obtain⟨ys,hy⟩:=I.js j hj
  exact(ok.own R ⟨j,_,C,hy,rfl,hC,hm⟩).2
 have hh:∀n',(qA M.h (u++[(nm,.mat 0 rows)])) n'=if n'=nm then some (.mat 0 rows) else qA M.h u n':=fun n'=>by
  rw[gK,LD]
  by_cases e:n'=nm
  ·rw[if_pos e,e,yA]
  ·rw[if_neg e,yE _ _ e]
 have:=zG.move_ok (M:=M) (nm:=nm) (o':=.mat 0 rows) (C':=C) (h':=qA M.h (u++[(nm,.mat 0 rows)])) (H':=M.H.push (.cells res e)) ok (fun j=>j∈u.map (·.1)) aG
  (fun j hj=>by
   obtain⟨p,hp,e⟩:=List.mem_map.1 hj
   obtain⟨_,o,ho,fb⟩:=hg p hp
   refine⟨o,by rw[←e];exact ho,fb,?_⟩
   have aV:j≠nm:=by grind
   rw[hh,if_neg aV]
   exact Mm (by grind) hj)
  (by rw[hh,if_pos rfl]) (fun n' h1 h2=>by rw[hh,if_neg h2];exact xI h1) (by simp) (fun b hb _=>lM hb) (fun b hb=>xm (lM hb))
  (fun b hb=>by
   simp only[C,zT.fp,Option.toList_some,List.singleton_append,List.mem_cons] at hb
   grind)
  (fun x=>by
   refine⟨rfl,I.len.symm,rfl,by rw[I.len];exact I.rlen,?_,res,e,tt,by rw[I.len];omega,fun k hk=>?_⟩
   ·simp only[C,zT.fp,Option.toList_some,List.singleton_append]
    exact List.nodup_cons.2 ⟨by grind,I.nd⟩
   ·obtain⟨rb,v,p1,p2,p3,p4⟩:=I.row k hk
    refine⟨rb,v,p1,?_,p3.ext x,fun R hR=>?_⟩
    ·grind
    ·obtain⟨rv,er,p5,p6⟩:=p4 R hR
     refine⟨rv,er,?_,p6⟩
     have:R<M.H.size:=by grind
     show(M.H.push _)[R]? =_
     grind)
 refine⟨_,_,_,hr,hw.2.1,hw.2.2.1,hw.2.2.2,by show M.H.push _=_;rw[hw.1,hM],rfl,this.1,this.2,C,κset_same _ _ _,_,c,rfl,?_⟩
 refine⟨hc,0,by rw[hM],.inr (by simp),?_⟩
 have:qN (M.H.push (.cells res e)) M.H.size=res.size:=by simp[qN]
 show(0+c)*1≤qN (M.H.push (.cells res e)) M.H.size
 rw[this];omega
theorem yQ5 {P M w}(ok:Ok M)(hM:M.H=w.heap){mat nm t n parts aB v u}
  (hp:zI (tF M) parts aB) (h:qX (w6 P mat nm M.h t n parts) v u):qD P (Instr.buildSlice t n aB.toArray) M w v u:=by
 unfold w6 at h
 split at h
 ·rename_i e hu aG
  obtain⟨bY,h⟩:=dz h
  have bY:=Nat.le_of_ble_eq_true bY
  cases mat with
  |true=>
   split at h
   ·rename_i rows u' cD hf
    obtain⟨hb,h⟩:=dz h
    simp only[Bool.and_eq_true] at hb
    obtain⟨_,rfl,rfl⟩:=dN h
    obtain⟨i,z,h1,h2,h3,h4,h5,h6,h7⟩:=mV cD
    have G5:z.cells.toList=[.slice none 0 0]:=h4
    have Mh:z.cells.size=1:=h7
    have I0:qx M [] n (List.replicate n []) (madeCells z.cells (n*1)) (List.replicate n (none,0)):=by
     refine⟨by simp,by rw[size_madeCells,Nat.mul_one],by simp,fun k hk=>?_,by simp,by simp,by simp⟩
     have hkn:k<n:=by simp_all
     refine⟨none,.slice none 0 0,by simp[hkn],?_,⟨rfl,by simp⟩,by simp⟩
     simp only[madeCells]
     have:z.cells.toList[0]'(by grind)=.slice none 0 0:=by grind
     grind
    obtain⟨res,rc,b1,b2,b3⟩:=WH ok I0 (WG hb.2) hp hf (by simpa using xH hb.1)
    have hr:=WE (P:=P) (w:=w) (ty:=.sl (.int .i64)) hu h1 h2 h3 bY b1
    have Mn:res.extract 0 n=res:=by
     have:=b2.size
     simp_all
    refine yOo ok hM aG (by rw[Mn];exact b2) (by simp) (fun p hp=>⟨b3 p hp,?_⟩) (by simp) (by rw[b2.size];omega) (w.alloc (.cells res e)) ⟨rfl,rfl,rfl,rfl⟩ hr
    obtain⟨ys,hy⟩:=b2.js p.1 (by grind)
    exact⟨_,hy,rfl⟩
   ·exact h.elim
  |false=>
   simp  at h
   split at h
   ·rename_i ty cD
    split at h
    ·rename_i xs u' hf
     obtain⟨hb,h⟩:=dz h
     obtain⟨_,rfl,rfl⟩:=dN h
     exact yQl ok hM hp hu aG cD bY (WG hb) hf
    ·exact h.elim
   ·exact h.elim
 ·exact h.elim
theorem Mo {H F}:∀t x rd,zU H F t x rd→∀j,j<t.size→∃v,rd j=some v∧v.one1=true
 |.int k,x,rd,h,j,hj
 |.bool,x,rd,h,j,hj=>by
  simp[Ty.size] at hj
  obtain rfl:j=0:=by omega
  exact⟨_,h,rfl⟩
 |.sl t,x,rd,h,j,hj=>by
  simp[Ty.size] at hj
  obtain rfl:j=0:=by omega
  obtain⟨A,n,c,h1,_⟩:=h
  exact⟨_,h1,rfl⟩
 |.pair a b,x,rd,h,j,hj=>by
  simp[Ty.size] at hj
  by_cases aT:j<a.size
  ·exact Mo a _ _ h.1 j aT
  ·have:=Mo b _ _ h.2 (j-a.size) (by omega)
   simp_all
def Rd (H : Array Go.Obj) (v : Value) (n size : Nat) (news : List Value) : Prop := ∃ A c, v = .slice A n c ∧ news.length = n * size ∧ (∀ u ∈ news, u.one1 = true) ∧ (match A with
 |none=>n=0
 |some a=>n=0∨a.spot=none∧∀j u,news[j]? =some u→yD H a.block (a.off+j)=some u)
theorem Rd.first {P H v n size news}(h:Rd H v n size news) w (hw:w.heap=H):(Builtin.firstCells size n v).run P w=.ok news.toArray w:=by
 obtain⟨A,c,rfl,hl,_,h⟩:=h
 cases A with
 |none=>
  have h0:n=0:=h
  subst h0
  have:news=[]:=by grind
  subst this
  rfl
 |some a=>
  rcases h with h0|⟨hs,h⟩
  ·subst h0
   have:news=[]:=by grind
   subst this
   simp[Builtin.firstCells,loadCells,loadCellsFrom]
  ·obtain⟨B,o,sp⟩:=a
   cases hs
   exact run_firstCells_some w size n ⟨B,o,none⟩ n c news hl (fun j u hu=>by rw[Addr.add_lit,oz,hw];simp_all)
theorem Mp {H F t}{ys:List t.den}{B o c}(hc:ys.length≤c)(h:∀i hi,zU H F t ys[i] (fun j=>yD H B (o+i*t.size+j))):
  ∃news,Rd H (.slice (some ⟨B,o,none⟩) ys.length c) ys.length t.size news∧∀i hi,zU H F t ys[i] (fun j=>news[i*t.size+j]?):=by
 have tot:∀k,k<ys.length*t.size→∃v,yD H B (o+k)=some v∧v.one1=true:=by
  intro k hk
  have hi:k/t.size<ys.length:=Nat.div_lt_of_lt_mul (by grind)
  obtain⟨v,h1,h2⟩:=Mo t _ _ (h _ hi) (k%t.size) (Nat.mod_lt _ t.size_pos)
  refine⟨v,?_,h2⟩
  rw[Nat.add_assoc,Nat.mul_comm,Nat.div_add_mod] at h1
  exact h1
 refine⟨(List.range (ys.length*t.size)).map fun k=>(yD H B (o+k)).getD undef,⟨_,c,rfl,by simp,fun u hu=>?_,.inr ⟨rfl,fun j u hu=>?_⟩⟩,fun i hi=>?_⟩
 ·grind
 ·grind
 ·refine yK (by simp) (by simp) t _ _ _ (fun j hj=>?_) (h i hi)
  have aL:=Nat.mul_le_mul_right t.size (show i+1≤ys.length by omega)
  grind
theorem CN {H F t A c}:∃news,Rd H (.slice A 0 c) 0 t.size news∧∀i hi,zU H F t ([]:List t.den)[i] (fun j=>news[i*t.size+j]?):=
 ⟨[],⟨A,c,rfl,by simp,by simp,by grind⟩,by simp⟩
theorem Mq {H F t}{ys:List t.den}{v}(h:zU H F (.sl t) ys (fun _=>some v)):
  ∃news,Rd H v ys.length t.size news∧∀i hi,zU H F t ys[i] (fun j=>news[i*t.size+j]?):=by
 simp[zU] at h
 obtain⟨A,n,c,rfl,rfl,hc,h⟩:=h
 rcases h with⟨rfl,_⟩|⟨B,o,rfl,hB,hE⟩
 ·exact CN
 ·exact Mp hc hE
theorem tH {M own t xs C id r v}(hC:M.κ id=some C)(hO:yJ M (.arr own t xs) C)(hv:zQ M (.osl id r) v):
  ∃news,Rd M.H v (fz xs r).length t.size news∧∀i hi,zU M.H M.G t (fz xs r)[i] (fun j=>news[i*t.size+j]?):=by
 obtain⟨h1,h2,h3,h4⟩:=hO
 obtain⟨C',au,hv⟩:=hv
 rw[hC] at au;cases au
 have key:∀lo n,lo+n≤C.len→wJ M.H C lo n v→∃news,Rd M.H v (qQ xs lo n).length t.size news∧∀i (hi:i<(qQ xs lo n).length),zU M.H M.G t (qQ xs lo n)[i] (fun j=>news[i*t.size+j]?):=by
  intro lo n hn hS
  obtain⟨A,c,rfl,hS⟩:=hS
  have hl:=xq (xs:=xs) (lo:=lo) (n:=n) (by omega)
  by_cases h0:n=0
  ·subst h0
   have e:qQ xs lo 0=[]:=by rfl
   exact CN
  ·cases hB:C.blk with
   |none=>simp_all
   |some B=>
    rw[hB] at hS h4
    obtain⟨hc,a,rfl,ha,_⟩:=hS
    obtain⟨vals,e,h5,h6,h7,h8⟩:=h4
    have mO:a=lo*C.sz:=by omega
    have := Mp (H := M.H) (F := M.G) (ys := qQ xs lo n) (B := B) (o := a) (c := c) (by omega) (fun i hi=>by
     obtain⟨bj,e1⟩:=GW hi
     rw[e1]
     refine yK (by simp) (by simp) t _ _ _ (fun j hj=>?_) (h8 (lo+i) bj)
     rw[mO,h2,←Nat.add_mul]
     simp[yD,h5])
    simp_all
 cases r with
 |none=>
  have:=key 0 C.len (by omega) hv
  rw[h1,V2] at this
  exact this
 |some p=>exact key p.1 p.2 hv.1 hv.2.1
theorem mW {P w t e i A sLen sCap n size x news} T (hu:P.underlying t=some (.slice e))(hi:P.info? e=some i)(hs:i.size=size)
  (hx : Rd w.heap x n size news) (aH : sLen + n ≤ sCap) w' (hw:match A with
   |none=>w'=w
   |some a=>(storeCells (a.add (sLen*size)) news).run P w=.ok () w'):
  (Builtin.append_ #[t,t] T #[.slice A sLen sCap,x]).run P w=.ok (.slice A (sLen+n) sCap) w':=by
 have hf:=hx.first (P:=P) w rfl
 obtain⟨X,c,rfl,_⟩:=hx
 subst hs
 cases A with
 |none=>
  subst hw
  simp[Builtin.append_,run_underlying hu,sizeOf,typeInfo,hi,Builtin.lenOf,aH,hf]
 |some a=>simp[Builtin.append_,run_underlying hu,sizeOf,typeInfo,hi,Builtin.lenOf,aH,hf,hw]
theorem Mr {P}{w}{t e}{i}{z}{A sLen sCap n size x olds news} T (hu:P.underlying t=some (.slice e))(hi:P.info? e=some i)(hz:i.zero=some z)
  (hs:i.size=size) (hb:Rd w.heap (.slice A sLen sCap) sLen size olds) (hx:Rd w.heap x n size news) (hg:sCap<sLen+n) (h46:(sLen+n)*i.bytes≤140737488355328) (aai:sLen+n≤140737488355328):
  (Builtin.append_ #[t,t] T #[.slice A sLen sCap,x]).run P w=
   .ok (.slice (some ⟨w.heap.size,0,none⟩) (sLen+n) (grownCap w (sLen+n) sCap e)) (w.drew.alloc (.cells (olds.toArray++news.toArray++Builtin.zeroCells z.cells (grownCap w (sLen+n) sCap e-(sLen+n))) e)):=by
 have hf:=hx.first (P:=P) w.drew rfl
 have hfo:=hb.first (P:=P) w.drew rfl
 obtain⟨X,c,rfl,_⟩:=hx
 subst hs
 have hn:¬(sLen+n≤sCap):=by omega
 have aaj:¬(9223372036854775807<((sLen:Int)+(n:Int))):=by omega
 have aak:¬(281474976710656<Builtin.nextslicecap (sLen+n) sCap*i.bytes):=by
  have h1:=Nat.mul_le_mul_right i.bytes (nextslicecap_le hg)
  grind
 simp[Builtin.append_,run_underlying hu,sizeOf,typeInfo,zeroValue,hi,hz,Builtin.lenOf,Question.forced,hf,hfo,newRow,grownCap]
 grind
theorem xJ z n:(Builtin.zeroCells z n).size=n*z.size:=by simp[Builtin.zeroCells]
theorem Ms {H F t}{xs ys:List t.den}{olds news:List Value}(hl:olds.length=xs.length*t.size)(hx:∀i h,zU H F t xs[i] (fun j=>olds[i*t.size+j]?))
  (hy:∀i h,zU H F t ys[i] (fun j=>news[i*t.size+j]?)):∀i h,zU H F t (xs++ys)[i] (fun j=>(olds++news)[i*t.size+j]?):=by
 intro i hi
 by_cases h:i<xs.length
 ·rw[List.getElem_append_left h]
  refine yK (by simp) (by simp) t _ _ _ (fun j hj=>?_) (hx i h)
  have:=Nat.mul_le_mul_right t.size (show i+1≤xs.length by omega)
  grind
 ·rw[List.getElem_append_right (by omega)]
  refine yK (by simp) (by simp) t _ _ _ (fun j hj=>?_) (hy (i-xs.length) (by grind))
  have:=Nat.mul_le_mul_right t.size (show xs.length≤i by omega)
  rw[List.getElem?_append_right (by omega),hl]
  congr 1
  rw[Nat.sub_mul];omega
def CO (M:zG)(w:World)(v:zO)(u:yO)(rv:Value)(w':World):Prop:=
 ∃M',w'.os=w.os∧w'.tape=w.tape∧w'.output=w.output∧M'.H=w'.heap∧M'.h=qA M.h u∧Ok M'∧yL M M'∧zN M' v rv
theorem CO.runs {P s M w w' v u rv}(h:CO M w v u rv w')(hr:s.run P w=.ok rv w'):qD P s M w v u:=by
 obtain⟨M',h⟩:=h
 exact⟨_,_,M',hr,h⟩
theorem WI {M w}(ok:Ok M)(hM:M.H=w.heap){nm t zs us e c}{u:yO}(aG:M.h nm=none)
  (hg:∀p∈u,p.2=.gone∧∃o,M.h p.1=some o∧o.owned=true) (hc:zs.length≤c) (hs:c*t.size≤us.size) (hx:∀i h,zU M.H M.G t zs[i] (fun j=>us[i*t.size+j]?))
  {w':World} (hw:w'.heap=w.heap.push (.cells us e)∧w'.os=w.os∧w'.tape=w.tape∧w'.output=w.output):
  CO M w (.c (.osl nm none)) (u++[(nm,.arr true t zs)]) (.slice (some ⟨w.heap.size,0,none⟩) zs.length c) w':=by
 let C:zT:=⟨some M.H.size,zs.length,t.size,0,[]⟩
 have hh:∀n',(qA M.h (u++[(nm,.arr true t zs)])) n'=if n'=nm then some (.arr true t zs) else qA M.h u n':=fun n'=>by
  rw[gK,LD]
  by_cases e:n'=nm
  ·rw[if_pos e,e,yA]
  ·rw[if_neg e,yE _ _ e]
 have hle:=Nat.mul_le_mul_right t.size hc
 have:=zG.move_ok (M:=M) (nm:=nm) (o':=.arr true t zs) (C':=C) (h':=qA M.h (u++[(nm,.arr true t zs)])) (H':=M.H.push (.cells us e)) ok (fun j=>j∈u.map (·.1)) aG
  (fun j hj=>by
   obtain⟨p,hp,e⟩:=List.mem_map.1 hj
   obtain⟨_,o,ho,fb⟩:=hg p hp
   refine⟨o,by simp_all,fb,?_⟩
   have aV:j≠nm:=by grind
   rw[hh,if_neg aV]
   exact Mm (by grind) hj)
  (by simp_all) (fun n' h1 h2=>by rw[hh,if_neg h2];exact xI h1) (by simp) (by grind) (fun b hb=>xm (lM hb))
  (fun b hb=>by
   simp only[C,zT.fp] at hb
   simp_all)
  (fun x=>⟨rfl,rfl,(by grind),us,e,tt,by simp,by omega,fun i hi=>yK x.G x.sameG t _ _ _ (by simp) (hx i hi)⟩)
 refine⟨_,hw.2.1,hw.2.2.1,hw.2.2.2,by show M.H.push _=_;simp_all,rfl,this.1,this.2,C,κset_same _ _ _,_,c,rfl,?_⟩
 refine⟨hc,0,by rw[hM],by simp,?_⟩
 have:qN (M.H.push (.cells us e)) M.H.size=us.size:=by simp[qN]
 show(0+c)*t.size≤qN (M.H.push (.cells us e)) M.H.size
 simp_all
theorem WJ {P M w}(ok:Ok M)(hM:M.H=w.heap){nm t zs us e s c}{u:yO}(aG:M.h nm=none)
  (hg:∀p∈u,p.2=.gone∧∃o,M.h p.1=some o∧o.owned=true) (hc:zs.length≤c) (hs:c*t.size≤us.size) (hx:∀i h,zU M.H M.G t zs[i] (fun j=>us[i*t.size+j]?))
  {w'} (hr:s.run P w=.ok (.slice (some ⟨w.heap.size,0,none⟩) zs.length c) w') (hw:w'.heap=w.heap.push (.cells us e)∧w'.os=w.os∧w'.tape=w.tape∧w'.output=w.output):
  qD P s M w (.c (.osl nm none)) (u++[(nm,.arr true t zs)]):=
 (WI ok hM aG hg hc hs hx hw).runs hr
theorem WK {M:zG}{w:World}(ok:Ok M)(hM:M.H=w.heap){id nm:Nat}{t:Ty}{ez zs:List t.den}{C:zT}{H':Array Go.Obj}{c:Nat}{A:Option Addr}{w':World}
  (ab:M.h id=some (.arr true t ez)) (hC:M.κ id=some C) (aG:M.h nm=none) (cM:H'.size=M.H.size) (hH:∀b,b∉C.fp→H'[b]? =M.H[b]?) (bX:∀b,qN H' b=qN M.H b)
  (hx:∀M',yB M M'→M'.H=H'→M'.G=M.G→match C.blk with
   |none=>zs=[]
   |some B=>∃vals e,H'[B]? =some (.cells vals e (0,0))∧zs.length*t.size≤vals.size∧∀i (h:i<zs.length),zU M'.H M'.G t zs[i] (fun j=>vals[i*t.size+j]?))
  (hA:match C.blk with
   |none=>A=none∧zs.length=0∧c=0
   |some B=>zs.length≤c∧∃a,A=some ⟨B,a,none⟩∧(c=0∨a=0)∧c*t.size≤qN M.H B)
  (hw:w'.heap=H'∧w'.os=w.os∧w'.tape=w.tape∧w'.output=w.output):
  CO M w (.c (.osl nm none)) [(id,.gone),(nm,.arr true t zs)] (.slice A zs.length c) w':=by
 obtain⟨C0,mX,hO⟩:=ok.obj id _ ab
 rw[hC] at mX;cases mX
 obtain⟨fr,ff⟩:=CC hO
 have aV:id≠nm:=by grind
 let C':zT:=⟨C.blk,zs.length,t.size,0,[]⟩
 have hh:∀n',(qA M.h [(id,.gone),(nm,.arr true t zs)]) n'=if n'=nm then some (.arr true t zs) else if n'=id then some .gone else M.h n':=fun n'=>by
  show(qW (qW M.h id .gone) nm _) n'=_
  by_cases e:n'=nm
  ·rw[if_pos e,e,yA]
  ·rw[if_neg e,yE _ _ e]
   by_cases e2:n'=id
   ·rw[if_pos e2,e2,yA]
   ·rw[if_neg e2,yE _ _ e2]
 have:=zG.move_ok (M:=M) (nm:=nm) (o':=.arr true t zs) (C':=C') (h':=qA M.h [(id,.gone),(nm,.arr true t zs)]) (H':=H') ok (fun j=>j=id) aG
  (fun j hj=>⟨.arr true t ez,by rw[hj];exact ab,rfl,by simp_all⟩)
  (by rw[hh,if_pos rfl]) (by grind) (by omega) (by grind) (fun b _=>bX b)
  (fun b hb=>.inr ⟨id,C,rfl,hC,by
   simp only[C',zT.fp,List.filterMap_nil,List.append_nil] at hb
   rw[ff];exact hb⟩)
  (fun x=>by
   refine⟨rfl,rfl,(by grind),?_⟩
   have:=hx _ x rfl rfl
   show match C.blk with
    |none=>_
    |some B=>_
   cases hB:C.blk with
   |none=>simp_all
   |some B=>
    rw[hB] at this
    obtain⟨vals,e,h1,h2,h3⟩:=this
    exact⟨vals,e,h1,by simp,h2,h3⟩)
 refine⟨_,hw.2.1,hw.2.2.1,hw.2.2.2,by rw[hw.1];rfl,rfl,this.1,this.2,C',κset_same _ _ _,_,c,rfl,?_⟩
 show match C.blk with
  |none=>_
  |some B=>_
 cases hB:C.blk with
 |none=>rw[hB] at hA;exact hA
 |some B=>
  rw[hB] at hA
  obtain⟨h1,a,h2,h3,h4⟩:=hA
  refine⟨h1,a,h2,by simpa using h3,?_⟩
  show(0+c)*t.size≤qN H' B
  simp_all
theorem Mt {P M w}(ok:Ok M)(hM:M.H=w.heap){id nm t ez zs C H' s c A w'}
  (ab:M.h id=some (.arr true t ez)) (hC:M.κ id=some C) (aG:M.h nm=none) (cM:H'.size=M.H.size) (hH:∀b,b∉C.fp→H'[b]? =M.H[b]?) (bX:∀b,qN H' b=qN M.H b)
  (hx:∀M',yB M M'→M'.H=H'→M'.G=M.G→match C.blk with
   |none=>zs=[]
   |some B=>∃vals e,H'[B]? =some (.cells vals e (0,0))∧zs.length*t.size≤vals.size∧∀i h,zU M'.H M'.G t zs[i] (fun j=>vals[i*t.size+j]?))
  (hA:match C.blk with
   |none=>A=none∧zs.length=0∧c=0
   |some B=>zs.length≤c∧∃a,A=some ⟨B,a,none⟩∧(c=0∨a=0)∧c*t.size≤qN M.H B)
  (hw:w'.heap=H'∧w'.os=w.os∧w'.tape=w.tape∧w'.output=w.output) (hr:s.run P w=.ok (.slice A zs.length c) w'):
  qD P s M w (.c (.osl nm none)) [(id,.gone),(nm,.arr true t zs)]:=
 (WK ok hM ab hC aG cM hH bX hx hA hw).runs hr
theorem CP {n b}(h:(Nat.ble (n*b) 140737488355328&&Nat.ble n 140737488355328)=true):n*b≤140737488355328∧n≤140737488355328:=by
 simp_all
theorem Mu {H H' F F'}:∀t x rd,t.flat=true→zU H F t x rd→zU H' F' t x rd
 |.int k,n,rd,_,h
 |.bool,n,rd,_,h=>h
 |.pair a b,p,rd,hf,h=>by
  simp[Ty.flat] at hf
  exact⟨Mu a _ _ hf.1 h.1,Mu b _ _ hf.2 h.2⟩
theorem WL {M:zG}{sh s}{xs:List s.den}{v}(hs:(sh||s.flat)=true)(hv:zU M.H (bif sh then M.G else M.F) (.sl s) xs (fun _=>some v)):
  ∃news,Rd M.H v xs.length s.size news∧∀i hi,zU M.H M.G s xs[i] (fun j=>news[i*s.size+j]?):=by
 obtain⟨news,h1,h2⟩:=Mq hv
 refine⟨news,h1,fun i hi=>?_⟩
 cases sh with
 |true=>simp_all
 |false=>exact Mu _ _ _ hs (h2 i hi)
theorem WM {M}(ok:Ok M){t x ys u v}(hv:zQ M x v)(h:om M.h t x=some (ys,u)):
  u=[]∧∃news,Rd M.H v ys.length t.size news∧∀i hi,zU M.H M.G t ys[i] (fun j=>news[i*t.size+j]?):=by
 unfold om at h
 split at h
 ·cases h
  have e:v=.slice none 0 0:=hv
  subst e
  exact⟨rfl,CN⟩
 ·rename_i sh s xs
  cases hs:(sh||s.flat) with
  |false=>simp_all
  |true=>
   rw[hs] at h
   simp  at h
   obtain⟨zs,hz,rfl,rfl⟩:=h
   obtain⟨e,hz⟩:=gL hz
   subst e
   subst hz
   exact⟨rfl,WL hs hv⟩
 ·rename_i sh s xs
  cases hs:(sh||s.flat) with
  |false=>rw[hs] at h;cases h
  |true=>
   rw[hs] at h
   simp  at h
   obtain⟨zs,hz,rfl,rfl⟩:=h
   obtain⟨e,hz⟩:=gL hz
   subst e
   subst hz
   exact⟨rfl,WL hs hv.2⟩
 ·split at h
  ·rename_i own s xs ab
   simp  at h
   obtain⟨zs,hz,rfl,rfl⟩:=h
   obtain⟨e,hz⟩:=gL hz
   subst e
   subst hz
   obtain⟨C,hC,hO⟩:=ok.obj _ _ ab
   exact⟨rfl,tH hC hO hv⟩
  ·cases h
 ·cases h
theorem yWd {P M w}(ok:Ok M)(hM:M.H=w.heap){nm t e T ty x ys news}(hu:P.underlying t=some (.slice e))(cD:fU P e=some ty)(aG:M.h nm=none)
  (hx:Rd M.H x ys.length ty.size news) (hE:∀i hi,zU M.H M.G ty ys[i] (fun j=>news[i*ty.size+j]?)) (aH:ys.length*P.bytesOf e≤140737488355328∧ys.length≤140737488355328):
  qD P (Builtin.append_ #[t,t] T #[.slice none 0 0,x]) M w (.c (.osl nm none)) [(nm,.arr true ty ys)]:=by
 obtain⟨i,z,h1,h2,h3,h4,h5,h6,h7⟩:=mV cD
 by_cases h0:ys.length=0
 ·have hy:ys=[]:=by grind
  subst hy
  have hr:=mW (P:=P) (w:=w) (A:=none) (sLen:=0) (sCap:=0) T hu h1 h3 (by rw[←hM];exact hx) (by simp) w rfl
  let C:zT:=⟨none,0,ty.size,0,[]⟩
  have:=zG.move_ok (M:=M) (nm:=nm) (o':=.arr true ty []) (C':=C) (h':=qW M.h nm (.arr true ty [])) (H':=M.H) ok (fun _=>False) aG (by simp) (yA _ _ _)
   (fun n' _ h2=>yE _ _ h2) (by simp) (by simp) (by simp) (nofun) (fun x=>⟨rfl,rfl,by grind,rfl⟩)
  exact⟨_,_,M.move nm C (qW M.h nm (.arr true ty [])) M.H,hr,rfl,rfl,rfl,hM,rfl,this.1,this.2,C,κset_same _ _ _,_,_,rfl,rfl,rfl,rfl⟩
 ·have hb:Rd w.heap (.slice none 0 0) 0 ty.size []:=⟨none,0,rfl,by simp,by simp,rfl⟩
  have hr:=Mr (P:=P) (w:=w) T hu h1 h2 h3 hb (by rw[←hM];exact hx) (by omega) (by simp_all) (by omega)
  simp  at hr
  have hlen:news.length=ys.length*ty.size:=hx.choose_spec.choose_spec.2.1
  have kN:=grownCap_ge w ys.length 0 e
  refine WJ (u:=[]) ok hM aG (by simp) kN ?_ (fun i hi=>?_) hr ⟨rfl,rfl,rfl,rfl⟩
  ·simp[xJ,h7,hlen,←Nat.add_mul]
   simp_all
  ·refine yK (by simp) (by simp) ty _ _ _ (fun j hj=>?_) (hE i hi)
   have:=Nat.mul_le_mul_right ty.size (show i+1≤ys.length by omega)
   grind
theorem Mv {P}{M w}(ok:Ok M)(hM:M.H=w.heap){id nm t e T ty x b ez ys r news}(hu:P.underlying t=some (.slice e))(cD:fU P e=some ty)
  (aG:M.h nm=none) (ab:M.h id=some (.arr true ty ez)) (hb:zQ M (.osl id r) b) (xA:match r with|none=>True|some (lo,_)=>lo=0)
  (hx:Rd M.H x ys.length ty.size news) (hE:∀i hi,zU M.H M.G ty ys[i] (fun j=>news[i*ty.size+j]?))
  (aH:((fz ez r).length+ys.length)*P.bytesOf e≤140737488355328∧(fz ez r).length+ys.length≤140737488355328):
  qD P (Builtin.append_ #[t,t] T #[b,x]) M w (.c (.osl nm none)) [(id,.gone),(nm,.arr true ty (fz ez r++ys))]:=by
 obtain⟨i,z,h1,h2,h3,h4,h5,h6,h7⟩:=mV cD
 obtain⟨C,hC,hO⟩:=ok.obj id _ ab
 obtain⟨olds,ho,hEo⟩:=tH hC hO hb
 have hlen:news.length=ys.length*ty.size:=hx.choose_spec.choose_spec.2.1
 have iZ:olds.length=(fz ez r).length*ty.size:=ho.choose_spec.choose_spec.2.1
 obtain⟨C',au,hS⟩:=hb
 rw[hC] at au;cases au
 have kR:∃n,(fz ez r).length=n∧wJ M.H C 0 n b:=by
  cases r with
  |none=>exact⟨C.len,by rw[hO.1];rfl,hS⟩
  |some p=>
   obtain⟨lo,n⟩:=p
   have:lo=0:=xA
   subst this
   exact⟨n,xq (by have:=hO.1;have:=hS.1;omega),hS.2.1⟩
 obtain⟨n,hn,A,sCap,rfl,kR⟩:=kR
 rw[hn] at iZ ho aH
 have aU:=Ms (H:=M.H) (F:=M.G) (t:=ty) (xs:=fz ez r) (ys:=ys) (olds:=olds) (news:=news) (by rw[hn];exact iZ) hEo hE
 have mY:(fz ez r++ys).length=n+ys.length:=by rw[List.length_append,hn]
 by_cases bZ:n+ys.length≤sCap
 ·
  cases hB:C.blk with
  |none=>
   rw[hB] at kR
   obtain⟨rfl,rfl,rfl⟩:=kR
   have hr:=mW (P:=P) (w:=w) (A:=none) (sLen:=0) (sCap:=0) T hu h1 h3 (by rw[←hM];exact hx) bZ w rfl
   rw[←mY] at hr
   refine Mt (s:=Builtin.append_ #[t,t] T #[.slice none 0 0,x]) (H':=M.H) ok hM ab hC aG rfl (fun _ _=>rfl) (fun _=>rfl) (fun M' _ _ _=>?_) ?_ ⟨hM.symm,rfl,rfl,rfl⟩ hr
   ·rw[hB]
    exact List.eq_nil_of_length_eq_zero (by omega)
   ·rw[hB]
    exact⟨rfl,by omega,rfl⟩
  |some B=>
   rw[hB] at kR
   obtain⟨hc,a,rfl,ha,hs⟩:=kR
   obtain⟨k1,k2,k3,k4⟩:=hO
   rw[hB] at k4
   obtain⟨vals,ev,k5,k6,k7,k8⟩:=k4
   rw[Nat.zero_mul] at ha
   rw[Nat.zero_add,k2] at hs
   have bX:qN M.H B=vals.size:=by simp only[qN,k5]
   rw[bX] at hs
   have fE:w.heap[B]? =some (.cells vals ev (0,0)):=by rw[←hM];exact k5
   by_cases h0:sCap=0
   ·
    have G8:n=0:=by omega
    have hy0:ys.length=0:=by omega
    have hr := mW (P := P) (w := w) (A := some ⟨B, a, none⟩) (sLen := n) (sCap := sCap) T hu h1 h3 (by rw [← hM]; exact hx) bZ w (by
     have:news=[]:=List.eq_nil_of_length_eq_zero (by rw[hlen,hy0,Nat.zero_mul])
     rw[this];rfl)
    rw[←mY] at hr
    have G5:fz ez r++ys=[]:=List.eq_nil_of_length_eq_zero (by omega)
    refine Mt (s:=Builtin.append_ #[t,t] T #[.slice (some ⟨B,a,none⟩) n sCap,x]) (H':=M.H) ok hM ab hC aG rfl (fun _ _=>rfl) (fun _=>rfl) (fun M' _ _ _=>?_) ?_ ⟨hM.symm,rfl,rfl,rfl⟩ hr
    ·rw[hB]
     refine⟨vals,ev,k5,by rw[G5];simp,fun i hi=>?_⟩
     rw[G5] at hi;simp at hi
    ·rw[hB]
     exact⟨by omega,a,rfl,.inl h0,by rw[h0];simp⟩
   ·have kf:a=0:=by rcases ha with ha|ha<;>omega
    subst kf
    have hle:=Nat.mul_le_mul_right ty.size bZ
    rw[Nat.add_mul] at hle
    have ax:n*ty.size+news.length≤vals.size:=by omega
    have cP:=run_storeCells_at (P:=P) B (n*ty.size) ev news 0 vals w fE (by simpa using ax) (fun v hv=>tu (hx.choose_spec.choose_spec.2.2.1 v hv))
    simp only[Nat.add_zero] at cP
    have hr:=mW (P:=P) (w:=w) (A:=some ⟨B,0,none⟩) (sLen:=n) (sCap:=sCap) T hu h1 h3 (by rw[←hM];exact hx) bZ (w.setRow B (yF vals (n*ty.size) news)) (by show(storeCells (Addr.add ⟨B,0,none⟩ (n*ty.size)) news).run P w=_;rw[Addr.add_lit,Nat.zero_add];exact cP)
    rw[←mY] at hr
    obtain⟨f1,f2,f3,f4⟩:=kP fE (new:=yF vals (n*ty.size) news) (dP ax)
    refine Mt (s:=Builtin.append_ #[t,t] T #[.slice (some ⟨B,0,none⟩) n sCap,x]) (H':=(w.setRow B (yF vals (n*ty.size) news)).heap) ok hM ab hC aG (by rw[hM];exact f1)
     (fun b hb=>by rw[hM];exact f3 b fun e=>hb (e▸jT hB)) (fun b=>by rw[hM];exact f4 b) (fun M' xt hH hG=>?_) ?_ ⟨rfl,rfl,rfl,rfl⟩ hr
    ·rw[hB]
     refine⟨_,ev,f2,by rw[mY,dP ax,Nat.add_mul];omega,fun i hi=>?_⟩
     refine yK xt.G xt.sameG ty _ _ _ (fun j hj=>?_) (aU i hi)
     have aL:=Nat.mul_le_mul_right ty.size (show i+1≤n+ys.length by omega)
     rw[Nat.add_mul,Nat.add_mul] at aL
     rw[wU ax]
     by_cases aT:i*ty.size+j<n*ty.size
     ·rw[if_pos aT,List.getElem?_append_left (by omega)]
      obtain⟨A',c',e1,_,_,hold⟩:=ho
      simp only[Value.slice.injEq] at e1
      obtain⟨rfl,_,rfl⟩:=e1
      rcases hold with G8|⟨_,hold⟩
      ·rw[G8] at aT;omega
      ·have mZ:i*ty.size+j<olds.length:=by omega
       have:=hold (i*ty.size+j) olds[i*ty.size+j] (List.getElem?_eq_getElem mZ)
       rw[List.getElem?_eq_getElem mZ,←this]
       simp only[yD,k5,Nat.zero_add]
     ·rw[if_neg aT,if_pos (by omega),List.getElem?_append_right (by omega),iZ]
    ·rw[hB]
     exact by grind
 ·
  have hr:=Mr (P:=P) (w:=w) T hu h1 h2 h3 (by rw[←hM];exact ho) (by rw[←hM];exact hx) (by omega) (by rw[h6] at aH;exact aH.1) aH.2
  have kN:=grownCap_ge w (n+ys.length) sCap e
  rw[←mY] at hr kN
  refine WJ (s:=Builtin.append_ #[t,t] T #[.slice A n sCap,x]) (u:=[(id,.gone)]) ok hM aG (fun p hp=>?_) kN ?_ (fun i hi=>?_) hr ⟨rfl,rfl,rfl,rfl⟩
  ·simp only[List.mem_singleton] at hp
   subst hp
   exact⟨rfl,_,ab,rfl⟩
  ·simp only[Array.size_append,List.size_toArray,xJ,h7,hlen,iZ,←Nat.add_mul]
   exact Nat.le_of_eq (by congr 1;omega)
  ·refine yK (fun _ h=>h) (fun _ _=>rfl) ty _ _ _ (fun j hj=>?_) (aU i hi)
   have:=Nat.mul_le_mul_right ty.size (show i+1≤n+ys.length by omega)
   rw[Nat.add_mul,Nat.add_mul] at this
   rw[Array.getElem?_append_left (by simp;omega)]
   simp
def xK (H:Array Go.Obj)(row:List Int)(m:Option (Option Nat×Nat))(c:Option Value):Prop:=∃rb v,m=some (rb,row.length)∧c=some v∧iT H rb row.length v∧
 (∀R,rb=some R→∃rv er,H[R]? =some (.cells rv er (0,0))∧∀j (h':j<row.length),rv[j]? =some (.int .i64 row[j]))
theorem WN {M ver xs C}(h:yJ M (.mat ver xs) C):C.len=xs.length∧C.sz=1∧C.rows.length=xs.length∧C.fp.Nodup∧
  ∃bS:List Value,bS.length=xs.length∧(∀k (h:k<xs.length),xK M.H xs[k] C.rows[k]? bS[k]?)∧
   (match C.blk with
    |none=>xs=[]
    |some B=>∃vals e,M.H[B]? =some (.cells vals e (0,0))∧xs.length≤vals.size∧∀k,k<xs.length→vals[k]? =bS[k]?):=by
 obtain⟨h1,h2,h3,h4,h5,h6⟩:=h
 refine⟨h2,h3,h4,h5,?_⟩
 cases hB:C.blk with
 |none=>
  simp_all
 |some B=>
  rw[hB] at h6
  obtain⟨vals,e,h7,h8,h9⟩:=h6
  refine⟨vals.toList.take xs.length,by simp;omega,fun k hk=>?_,vals,e,h7,h8,by grind⟩
  obtain⟨rb,v,k1,k2,k3,k4⟩:=h9 k hk
  exact⟨rb,v,k1,by grind,k3,k4⟩
theorem xK.one {H row m v}(h:xK H row m (some v)):v.one1=true:=by
 obtain⟨rb,v',_,e,h,_⟩:=h
 cases e
 exact h.one
theorem WO {M}{xs:List (List Int)}{C id v}(hC:M.κ id=some C)(hv:zQ M (.osl id none) v){bS}(hl:bS.length=xs.length)(hlen:C.len=xs.length)(cM:C.sz=1)
  (bP : ∀ u ∈ bS, u.one1 = true) (hb:match C.blk with
    |none=>xs=[]
    |some B=>∃vals e,M.H[B]? =some (.cells vals e (0,0))∧xs.length≤vals.size∧∀k,k<xs.length→vals[k]? =bS[k]?):Rd M.H v xs.length 1 bS:=by
 obtain⟨C',au,A,c,rfl,hS⟩:=hv
 rw[hC] at au;cases au
 rw[hlen]
 refine⟨A,c,rfl,by omega,bP,?_⟩
 cases hB:C.blk with
 |none=>
  simp_all
 |some B=>
  rw[hB] at hS hb
  obtain⟨hc,a,rfl,ha,_⟩:=hS
  obtain⟨vals,e,h1,h2,h3⟩:=hb
  by_cases h0:xs.length=0
  ·omega
  ·refine .inr ⟨rfl,fun j u hu=>?_⟩
   have kf:a=0:=by omega
   have hj:j<xs.length:=by
    grind
   simp[yD]
   simp_all
theorem WQ {C D:zT}(hC:C.fp.Nodup)(hD:D.fp.Nodup)(cQ:∀b,b∈C.fp→b∉D.fp):((C.rows++D.rows).filterMap (·.1)).Nodup:=by
 rw[List.filterMap_append]
 refine List.nodup_append.2 ⟨(List.nodup_append.1 hC).2.1,(List.nodup_append.1 hD).2.1,fun a ha b hb e=>?_⟩
 exact cQ a (by simp[zT.fp];simp_all) (by simp[zT.fp];simp_all)
theorem G9 {P M w w'}(ok:Ok M)(hM:M.H=w.heap){id jd nm v1 v2 xs ys C Cj C' s A c H'}
  (ab:M.h id=some (.mat v1 xs)) (cj:M.h jd=some (.mat v2 ys)) (aV:id≠jd) (hC:M.κ id=some C) (cW:M.κ jd=some Cj) (aG:M.h nm=none) (cM:M.H.size≤H'.size)
  (hH:∀b,b<M.H.size→C.blk≠some b→H'[b]? =M.H[b]?) (bX:∀b,b<M.H.size→qN H' b=qN M.H b)
  (hl:C'.len=(xs++ys).length) (CQ:C'.sz=1) (CR:C'.ver=0) (ja:C'.rows=C.rows++Cj.rows) (Mw:∀B,C'.blk=some B→(M.H.size≤B∧B<H'.size)∨C.blk=some B)
  (hx:match C'.blk with
   |none=>xs++ys=[]
   |some B=>∃vals e,H'[B]? =some (.cells vals e (0,0))∧(xs++ys).length≤vals.size∧∀k (h:k<(xs++ys).length),xK M.H (xs++ys)[k] (C.rows++Cj.rows)[k]? vals[k]?)
  (hA:wJ H' C' 0 C'.len (.slice A (xs++ys).length c))
  (hw:w'.heap=H'∧w'.os=w.os∧w'.tape=w.tape∧w'.output=w.output) (hr:s.run P w=.ok (.slice A (xs++ys).length c) w'):
  qD P s M w (.c (.osl nm none)) [(id,.gone),(jd,.gone),(nm,.mat 0 (xs++ys))]:=by
 obtain⟨C0,mX,hO⟩:=ok.obj id _ ab
 rw[hC] at mX;cases mX
 obtain⟨C1,fa,kg⟩:=ok.obj jd _ cj
 rw[cW] at fa;cases fa
 have Mx:=hO.2.2.2.2.1
 have WR:=kg.2.2.2.2.1
 have cQ:∀b,b∈C.fp→b∉Cj.fp:=fun b h1 h2=>ok.disj id jd _ _ C Cj b aV ab cj rfl rfl hC cW h1 h2
 have Ha:id≠nm:=by grind
 have hnj:jd≠nm:=by grind
 have hh:∀n',(qA M.h [(id,.gone),(jd,.gone),(nm,.mat 0 (xs++ys))]) n'=if n'=nm then some (.mat 0 (xs++ys)) else if n'=jd then some .gone else if n'=id then some .gone else M.h n':=fun n'=>by
  show(qW (qW (qW M.h id .gone) jd .gone) nm _) n'=_
  by_cases e:n'=nm
  ·rw[if_pos e,e,yA]
  ·rw[if_neg e,yE _ _ e]
   by_cases e2:n'=jd
   ·rw[if_pos e2,e2,yA]
   ·rw[if_neg e2,yE _ _ e2]
    by_cases e3:n'=id
    ·rw[if_pos e3,e3,yA]
    ·rw[if_neg e3,yE _ _ e3]
 have CT:∀b∈C.fp,b<M.H.size:=fun b hb=>(ok.own b ⟨id,_,C,ab,rfl,hC,hb⟩).2
 have CU:∀b∈Cj.fp,b<M.H.size:=fun b hb=>(ok.own b ⟨jd,_,Cj,cj,rfl,cW,hb⟩).2
 have bz:∀R∈(C.rows++Cj.rows).filterMap (·.1),R∈C.fp∧C.blk≠some R∨R∈Cj.fp:=fun R hR=>by
  rw[List.filterMap_append] at hR
  rcases List.mem_append.1 hR with h|h
  ·refine .inl ⟨by simp only[zT.fp,List.mem_append];exact .inr h,fun e=>?_⟩
   exact(List.nodup_append.1 Mx).2.2 R (by simp[e]) R h rfl
  ·exact .inr (by simp only[zT.fp,List.mem_append];exact .inr h)
 have CV:∀R∈(C.rows++Cj.rows).filterMap (·.1),R<M.H.size∧C.blk≠some R:=fun R hR=>by
  rcases bz R hR with⟨h1,h2⟩|h
  ·exact⟨CT R h1,h2⟩
  ·exact⟨CU R h,fun e=>cQ R (jT e) h⟩
 have nd':C'.fp.Nodup:=by
  simp only[zT.fp,ja]
  cases hB:C'.blk with
  |none=>simpa using WQ Mx WR cQ
  |some B=>
   simp only[Option.toList_some,List.singleton_append]
   refine List.nodup_cons.2 ⟨fun hm=>?_,WQ Mx WR cQ⟩
   grind
 have:=zG.move_ok (M:=M) (nm:=nm) (o':=.mat 0 (xs++ys)) (C':=C') (h':=qA M.h [(id,.gone),(jd,.gone),(nm,.mat 0 (xs++ys))]) (H':=H') ok (fun j=>j=id∨j=jd) aG
  (fun j hj=>by
   rcases hj with rfl|rfl
   ·exact⟨_,ab,rfl,by rw[hh,if_neg Ha,if_neg aV,if_pos rfl]⟩
   ·exact⟨_,cj,rfl,by rw[hh,if_neg hnj,if_pos rfl]⟩)
  (by rw[hh,if_pos rfl]) (fun n' h1 h2=>by rw[hh,if_neg h2,if_neg (fun e=>h1 (.inr e)),if_neg (fun e=>h1 (.inl e))]) cM
  (fun b hb hn=>hH b hb fun e=>hn id C (.inl rfl) hC (jT e)) bX
  (fun b hb=>by
   simp only[zT.fp,ja,List.mem_append] at hb
   rcases hb with hb|hb
   ·cases hB:C'.blk with
    |none=>rw[hB] at hb;simp at hb
    |some B=>
     rw[hB] at hb
     simp at hb
     subst hb
     rcases Mw b hB with h|h
     ·exact .inl h
     ·exact .inr ⟨id,C,.inl rfl,hC,jT h⟩
   simp_all)
  (fun x=>by
   refine⟨CR,hl,CQ,?_,nd',?_⟩
   ·rw[ja,List.length_append,hO.2.2.2.1,kg.2.2.2.1,List.length_append]
   ·cases hB:C'.blk with
    |none=>rw[hB] at hx;exact hx
    |some B=>
     rw[hB] at hx
     obtain⟨vals,e,k1,k2,k3⟩:=hx
     refine⟨vals,e,k1,k2,fun k hk=>?_⟩
     obtain⟨rb,v,q1,q2,q3,q4⟩:=k3 k hk
     refine⟨rb,v,by rw[ja];exact q1,q2,q3.ext x,fun R hR=>?_⟩
     obtain⟨rv,er,q5,q6⟩:=q4 R hR
     have WS:=CV R (List.mem_filterMap.2 ⟨_,List.mem_of_getElem? q1,hR⟩)
     exact⟨rv,er,by show H'[R]? =_;rw[hH R WS.1 WS.2];exact q5,q6⟩)
 exact⟨_,_,M.move nm C' (qA M.h [(id,.gone),(jd,.gone),(nm,.mat 0 (xs++ys))]) H',hr,hw.2.1,hw.2.2.1,hw.2.2.2,hw.1.symm,rfl,this.1,this.2,C',κset_same _ _ _,by rw[hl] at hA⊢;exact hA⟩
theorem My {H}{xs:List (List Int)}{rc:List (Option Nat×Nat)}{bS:List Value}(hl:bS.length=xs.length)(h:∀k (h:k<xs.length),xK H xs[k] rc[k]? bS[k]?):∀u∈bS,u.one1=true:=by
 intro u hu
 obtain⟨k,hk,rfl⟩:=List.getElem_of_mem hu
 have:=h k (by omega)
 rw[List.getElem?_eq_getElem hk] at this
 exact this.one
theorem vCr {P M w}(ok:Ok M)(hM:M.H=w.heap){id jd nm v1 v2 t e T x b xs ys}(hu:P.underlying t=some (.slice e))(cD:fU P e=some (.sl (.int .i64)))
  (aG:M.h nm=none) (ab:M.h id=some (.mat v1 xs)) (cj:M.h jd=some (.mat v2 ys)) (aV:id≠jd) (hb:zQ M (.osl id none) b) (hx:zQ M (.osl jd none) x)
  (aH:(xs.length+ys.length)*P.bytesOf e≤140737488355328∧xs.length+ys.length≤140737488355328):
  qD P (Builtin.append_ #[t,t] T #[b,x]) M w (.c (.osl nm none)) [(id,.gone),(jd,.gone),(nm,.mat 0 (xs++ys))]:=by
 obtain⟨i,z,h1,h2,h3,h4,h5,h6,h7⟩:=mV cD
 obtain⟨C,hC,hO⟩:=ok.obj id _ ab
 obtain⟨Cj,cW,kg⟩:=ok.obj jd _ cj
 obtain⟨a1,a2,a3,a4,olds,a5,a6,a7⟩:=WN hO
 obtain⟨b1,b2,b3,b4,news,b5,b6,b7⟩:=WN kg
 have ho:=WO hC hb a5 a1 a2 (My a5 a6) a7
 have hn:=WO cW hx b5 b1 b2 (My b5 b6) b7
 have mY:(xs++ys).length=xs.length+ys.length:=List.length_append
 have bP:=My b5 b6
 have aU:∀k (h:k<(xs++ys).length),xK M.H (xs++ys)[k] (C.rows++Cj.rows)[k]? (olds++news)[k]? :=by
  intro k hk
  by_cases aT:k<xs.length
  ·rw[List.getElem_append_left aT,List.getElem?_append_left (by omega),List.getElem?_append_left (by omega)]
   exact a6 k aT
  ·rw[List.getElem_append_right (by omega),List.getElem?_append_right (by omega),List.getElem?_append_right (by omega),a3,a5]
   exact b6 _ (by omega)
 obtain⟨C',au,A,sCap,rfl,kR⟩:=hb
 rw[hC] at au;cases au
 rw[a1] at ho kR
 have oI:i.size=1:=h3
 have Mh:z.cells.size=1:=h7
 by_cases bZ:xs.length+ys.length≤sCap
 ·cases hB:C.blk with
  |none=>
   rw[hB] at kR
   obtain⟨rfl,h0,rfl⟩:=kR
   have hr:=mW (P:=P) (w:=w) (A:=none) (sLen:=xs.length) (sCap:=0) T hu h1 oI (by rw[←hM];exact hn) bZ w rfl
   rw[←mY] at hr
   have bW:xs++ys=[]:=List.eq_nil_of_length_eq_zero (by omega)
   rw[a1]
   refine G9 (C':=⟨none,(xs++ys).length,1,0,C.rows++Cj.rows⟩) (H':=M.H) ok hM ab cj aV hC cW aG (Nat.le_refl _) (fun _ _ _=>rfl) (fun _ _=>rfl) rfl rfl rfl rfl (fun B hB=>by cases hB) bW ⟨none,0,rfl,rfl,(by show(xs++ys).length=0;omega),rfl⟩ ⟨hM.symm,rfl,rfl,rfl⟩ hr
  |some B=>
   rw[hB] at kR a7
   obtain⟨hc,a,rfl,ha,hs⟩:=kR
   obtain⟨vals,ev,k5,k6,k7⟩:=a7
   rw[Nat.zero_mul] at ha
   rw[Nat.zero_add,a2,Nat.mul_one] at hs
   have bX:qN M.H B=vals.size:=by simp only[qN,k5]
   rw[bX] at hs
   have fE:w.heap[B]? =some (.cells vals ev (0,0)):=by rw[←hM];exact k5
   by_cases h0:sCap=0
   ·have hr := mW (P := P) (w := w) (A := some ⟨B, a, none⟩) (sLen := xs.length) (sCap := sCap) T hu h1 oI (by rw [← hM]; exact hn) bZ w (by
     have:news=[]:=List.eq_nil_of_length_eq_zero (by omega)
     rw[this];rfl)
    rw[←mY] at hr
    have bW:xs++ys=[]:=List.eq_nil_of_length_eq_zero (by omega)
    rw[a1]
    refine G9 (C':=⟨some B,(xs++ys).length,1,0,C.rows++Cj.rows⟩) (H':=M.H) ok hM ab cj aV hC cW aG (Nat.le_refl _) (fun _ _ _=>rfl) (fun _ _=>rfl) rfl rfl rfl rfl (fun B' gb=>.inr (by cases gb;exact hB))
     ⟨vals,ev,k5,by rw[bW];simp,fun k hk=>by rw[bW] at hk;simp at hk⟩ ⟨_,sCap,rfl,(by show(xs++ys).length≤sCap;omega),a,rfl,.inl h0,by rw[h0];simp⟩ ⟨hM.symm,rfl,rfl,rfl⟩ hr
   ·have kf:a=0:=by rcases ha with ha|ha<;>omega
    subst kf
    have ax:xs.length+news.length≤vals.size:=by omega
    have cP:=run_storeCells_at (P:=P) B xs.length ev news 0 vals w fE (by simpa using ax) (fun v hv=>tu (bP v hv))
    simp only[Nat.add_zero] at cP
    have hr:=mW (P:=P) (w:=w) (A:=some ⟨B,0,none⟩) (sLen:=xs.length) (sCap:=sCap) T hu h1 oI (by rw[←hM];exact hn) bZ (w.setRow B (yF vals xs.length news))
     (by show(storeCells (Addr.add ⟨B,0,none⟩ (xs.length*1)) news).run P w=_;rw[Addr.add_lit,Nat.zero_add,Nat.mul_one];exact cP)
    rw[←mY] at hr
    obtain⟨f1,f2,f3,f4⟩:=kP fE (new:=yF vals xs.length news) (dP ax)
    rw[a1]
    refine G9 (C':=⟨some B,(xs++ys).length,1,0,C.rows++Cj.rows⟩) (H':=(w.setRow B (yF vals xs.length news)).heap) ok hM ab cj aV hC cW aG (by rw[hM,f1];exact Nat.le_refl _) (fun b hb hn=>by rw[hM];exact f3 b fun e=>hn (e▸hB))
     (fun b _=>by rw[hM];exact f4 b) rfl rfl rfl rfl (fun B' gb=>.inr (by cases gb;exact hB)) ⟨_,ev,f2,by rw[dP ax];omega,fun k hk=>?_⟩ ⟨_,sCap,rfl,(by show(xs++ys).length≤sCap;omega),0,rfl,.inr (by simp),by show(0+sCap)*1≤qN _ B;rw[f4,←hM,bX];omega⟩ ⟨rfl,rfl,rfl,rfl⟩ hr
    have:=aU k hk
    rw[wU ax]
    by_cases aT:k<xs.length
    ·rw[if_pos aT,k7 k aT]
     rw[List.getElem?_append_left (l₁:=olds) (by omega)] at this
     exact this
    ·rw[if_neg aT,if_pos (by omega)]
     rw[List.getElem?_append_right (l₁:=olds) (by omega),a5] at this
     exact this
 ·have hr:=Mr (P:=P) (w:=w) T hu h1 h2 oI (by rw[←hM];exact ho) (by rw[←hM];exact hn) (by omega) (by rw[h6] at aH;exact aH.1) aH.2
  have kN:=grownCap_ge w (xs.length+ys.length) sCap e
  rw[←mY] at hr kN
  generalize kO:olds.toArray++news.toArray++Builtin.zeroCells z.cells (grownCap w (xs++ys).length sCap e-(xs++ys).length)=us at hr
  have Mz:us.size=grownCap w (xs++ys).length sCap e:=by
   rw[←kO]
   simp only[Array.size_append,List.size_toArray,xJ,Mh]
   omega
  have MA:∀k,k<(xs++ys).length→us[k]? =(olds++news)[k]? :=fun k hk=>by
   rw[←kO,Array.getElem?_append_left (by simp;omega)]
   simp
  have hbz:∀us:Array Value,qN (M.H.push (.cells us e)) M.H.size=us.size:=fun us=>by simp[qN]
  rw[a1]
  refine G9 (C':=⟨some M.H.size,(xs++ys).length,1,0,C.rows++Cj.rows⟩) (H':=M.H.push (.cells us e)) (w':=w.drew.alloc (.cells us e)) ok hM ab cj aV hC cW aG (by simp) (fun b hb _=>lM hb) (fun b hb=>xm (lM hb)) rfl rfl rfl rfl
   (fun B' gb=>.inl (by cases gb;exact⟨Nat.le_refl _,by simp⟩)) ⟨us,e,tt,by omega,fun k hk=>?_⟩ ⟨_,_,rfl,kN,0,by rw[hM],.inr (by simp),(by rw[hbz,Mz];show(0+_)*1≤_;omega)⟩ ⟨(by rw[hM];rfl),rfl,rfl,rfl⟩ hr
  rw[MA k hk]
  exact aU k hk
theorem tI {c s v u}(h:qX (bif c then s else .stuck) v u):c=true∧qX s v u:=by
 cases c with
 |true=>simp_all
 |false=>exact h.elim
theorem WT {c a b v u}(h:qX (bif c then a else b) v u):(c=true∧qX a v u)∨(c=false∧qX b v u):=by
 grind
theorem WU {z:Value}{t}(h:z.cells.toList=eu t)(hs:z.cells.size=t.size){n i j}(hj:j<t.size)(hi:i<n):(Builtin.zeroCells z.cells n).toList[i*t.size+j]? =(eu t)[j]? :=by
 have aL:=Nat.mul_le_mul_right t.size (show i+1≤n by omega)
 rw[List.getElem?_eq_getElem (l:=eu t) (by grind),←Wu h hs (i:=i) hj]
 simp[Builtin.zeroCells]
 grind
theorem yRg {z:Value}{t}(h:z.cells.toList=eu t)(hs:z.cells.size=t.size){n}:∀v∈(Builtin.zeroCells z.cells n).toList,v.one1=true:=by
 intro v hv
 have hz:∀u∈eu t,u.one1=true:=by
  clear h hs hv
  induction t with
  |pair a b xF xG=>
   intro u hu
   rcases List.mem_append.1 hu with hu|hu
   all_goals simp_all
  |_=>
   intro u hu
   rw[List.mem_singleton.1 hu];rfl
 obtain⟨k,hk,rfl⟩:=List.getElem_of_mem hv
 have qu:k<n*t.size:=by rw[Array.length_toList,xJ,hs] at hk;exact hk
 have h0:=t.size_pos
 have := WU h hs (n := n) (i := k / t.size) (j := k % t.size) (Nat.mod_lt _ h0) (by
  rw[Nat.div_lt_iff_lt_mul h0];omega)
 rw[Nat.div_add_mod' k t.size,List.getElem?_eq_getElem hk,List.getElem?_eq_getElem (by grind),Option.some.injEq] at this
 simp_all
theorem MB {P}{M:zG}{w:World}(ok:Ok M)(hM:M.H=w.heap){id nm n':Nat}{t:Ty}{ez zs}{C:zT}{H'}{s:Sem Value}{c:Nat}{A:Option Addr}{w':World}
  (ab:M.h id=some (.arr true t ez)) (hC:M.κ id=some C) (aG:M.h nm=none) (cM:H'.size=M.H.size) (hH:∀b,b∉C.fp→H'[b]? =M.H[b]?) (bX:∀b,qN H' b=qN M.H b)
  (hx:∀M',yB M M'→M'.H=H'→M'.G=M.G→match C.blk with
   |none=>zs=[]
   |some B=>∃vals e,H'[B]? =some (.cells vals e (0,0))∧zs.length*t.size≤vals.size∧∀i (h:i<zs.length),zU M'.H M'.G t zs[i] (fun j=>vals[i*t.size+j]?))
  (hn : n' ≤ zs.length) (hc : zs.length ≤ c) (hA:match C.blk with
   |none=>A=none∧n'=0∧c=0
   |some B=>∃a,A=some ⟨B,a,none⟩∧(c=0∨a=0)∧c*t.size≤qN M.H B)
  (hw:w'.heap=H'∧w'.os=w.os∧w'.tape=w.tape∧w'.output=w.output) (hr:s.run P w=.ok (.slice A n' c) w'):
  qD P s M w (.c (.osl nm (some (0,n')))) [(id,.gone),(nm,.arr true t zs)]:=by
 obtain⟨C0,mX,hO⟩:=ok.obj id _ ab
 rw[hC] at mX;cases mX
 obtain⟨fr,ff⟩:=CC hO
 have aV:id≠nm:=fun e=>by simp_all
 let C':zT:=⟨C.blk,zs.length,t.size,0,[]⟩
 have hh:∀n',(qA M.h [(id,.gone),(nm,.arr true t zs)]) n'=if n'=nm then some (.arr true t zs) else if n'=id then some .gone else M.h n':=fun n'=>by
  show(qW (qW M.h id .gone) nm _) n'=_
  by_cases e:n'=nm
  ·rw[if_pos e,e,yA]
  ·rw[if_neg e,yE _ _ e]
   by_cases e2:n'=id
   ·rw[if_pos e2,e2,yA]
   ·rw[if_neg e2,yE _ _ e2]
 have:=zG.move_ok (M:=M) (nm:=nm) (o':=.arr true t zs) (C':=C') (h':=qA M.h [(id,.gone),(nm,.arr true t zs)]) (H':=H') ok (fun j=>j=id) aG
  (fun j hj=>⟨.arr true t ez,by rw[hj];exact ab,rfl,by simp_all⟩)
  (by rw[hh,if_pos rfl]) (by grind) (by omega) (fun b hb hn=>hH b (hn id C rfl hC)) (fun b _=>bX b)
  (fun b hb=>.inr ⟨id,C,rfl,hC,by
   simp only[C',zT.fp,List.filterMap_nil,List.append_nil] at hb
   rw[ff];exact hb⟩)
  (fun x=>by
   refine⟨rfl,rfl,fun _=>rfl,?_⟩
   have:=hx _ x rfl rfl
   cases hB:C.blk with
   |none=>simp_all
   |some B=>
    rw[hB] at this
    obtain⟨vals,e,h1,h2,h3⟩:=this
    exact⟨vals,e,h1,by simp,h2,h3⟩)
 refine⟨_,_,_,hr,hw.2.1,hw.2.2.1,hw.2.2.2,by rw[hw.1];rfl,rfl,this.1,this.2,C',κset_same _ _ _,by grind,⟨_,c,rfl,?_⟩,_,_,_,rfl,by grind⟩
 show match C.blk with
  |none=>_
  |some B=>_
 cases hB:C.blk with
 |none=>rw[hB] at hA;exact hA
 |some B=>
  rw[hB] at hA
  obtain⟨a,h2,h3,h4⟩:=hA
  refine⟨by omega,a,h2,by simpa using h3,?_⟩
  show(0+c)*t.size≤qN H' B
  simp_all
theorem yZn {P}{M w}(ok:Ok M)(hM:M.H=w.heap){id nm i j m t e T ty x b xs}(hu:P.underlying t=some (.slice e))(cD:fU P e=some ty)
  (aG:M.h nm=none) (ab:M.h id=some (.arr true ty xs)) (hb:zQ M (.osl id (some (0,i))) b) (hx:zQ M (.osl id (some (j,m))) x) (kL:i≤j):
  qD P (Builtin.append_ #[t,t] T #[b,x]) M w (.c (.osl nm (some (0,i+m)))) [(id,.gone),(nm,.arr true ty (xs.take i++qQ xs j m++xs.drop (i+m)))]:=by
 obtain⟨inf,z,h1,h2,h3,h4,h5,h6,h7⟩:=mV cD
 obtain⟨C,hC,hO⟩:=ok.obj id _ ab
 obtain⟨news,hR,hE⟩:=tH hC hO hx
 obtain⟨C1,fa,gh,_⟩:=hx
 rw[hC] at fa;cases fa
 obtain⟨C1,fa,dA,⟨A,c,rfl,hS⟩,eZ⟩:=hb
 rw[hC] at fa;cases fa
 obtain⟨_,_,_,eZ,CK⟩:=eZ
 cases eZ
 have hlen:=hO.1
 have tJ:(fz xs (some (j,m))).length=m:=xq (by omega)
 rw[tJ] at hR
 have Hb:news.length=m*ty.size:=hR.choose_spec.choose_spec.2.1
 have oJ:(qQ xs j m).length=m:=tJ
 have oK:(xs.take i).length=i:=by rw[List.length_take];omega
 have CW:(xs.take i++qQ xs j m++xs.drop (i+m)).length=xs.length:=by
  rw[List.length_append,List.length_append,oJ,oK,List.length_drop];omega
 have aH:i+m≤c:=by omega
 cases hB:C.blk with
 |none=>
  rw[hB] at hS
  obtain⟨rfl,rfl,rfl⟩:=hS
  have hr:=mW (P:=P) (w:=w) (A:=none) (sLen:=0) (sCap:=0) T hu h1 h3 (by rw[←hM];exact hR) aH w rfl
  refine MB (s:=Builtin.append_ #[t,t] T #[.slice none 0 0,x]) (H':=M.H) ok hM ab hC aG rfl (fun _ _=>rfl) (fun _=>rfl) (fun M' _ _ _=>?_) (by omega) (by omega) ?_ ⟨hM.symm,rfl,rfl,rfl⟩ hr
  ·rw[hB]
   exact List.eq_nil_of_length_eq_zero (by omega)
  ·rw[hB]
   exact⟨rfl,by omega,rfl⟩
 |some B=>
  rw[hB] at hS
  obtain⟨hc,a,rfl,ha,hs⟩:=hS
  obtain⟨k1,k2,k3,k4⟩:=hO
  rw[hB] at k4
  obtain⟨vals,ev,k5,k6,k7,k8⟩:=k4
  rw[Nat.zero_mul] at ha
  rw[Nat.zero_add,k2] at hs
  have bX:qN M.H B=vals.size:=by simp only[qN,k5]
  have fE:w.heap[B]? =some (.cells vals ev (0,0)):=by rw[←hM];exact k5
  by_cases h0:c=0
  ·have hm0:m=0:=by omega
   have hr := mW (P := P) (w := w) (A := some ⟨B, a, none⟩) (sLen := i) (sCap := c) T hu h1 h3 (by rw [← hM]; exact hR) aH w (by
    have:news=[]:=List.eq_nil_of_length_eq_zero (by rw[Hb,hm0,Nat.zero_mul])
    rw[this];rfl)
   refine MB (s:=Builtin.append_ #[t,t] T #[.slice (some ⟨B,a,none⟩) i c,x]) (H':=M.H) ok hM ab hC aG rfl (fun _ _=>rfl) (fun _=>rfl) (fun M' _ _ _=>?_) (by omega) (by omega) ?_ ⟨hM.symm,rfl,rfl,rfl⟩ hr
   ·rw[hB]
    refine⟨vals,ev,k5,by rw[CW];exact k7,fun p hp=>?_⟩
    rw[CW] at hp;omega
   ·rw[hB]
    exact⟨a,rfl,.inl h0,by rw[h0];simp⟩
  ·have kf:a=0:=by rcases ha with ha|ha<;>omega
   subst kf
   have hle:=Nat.mul_le_mul_right ty.size (show i+m≤xs.length by omega)
   rw[Nat.add_mul] at hle
   have ax:i*ty.size+news.length≤vals.size:=by omega
   have cP:=run_storeCells_at (P:=P) B (i*ty.size) ev news 0 vals w fE (by simpa using ax) (fun v hv=>tu (hR.choose_spec.choose_spec.2.2.1 v hv))
   simp only[Nat.add_zero] at cP
   have hr:=mW (P:=P) (w:=w) (A:=some ⟨B,0,none⟩) (sLen:=i) (sCap:=c) T hu h1 h3 (by rw[←hM];exact hR) aH (w.setRow B (yF vals (i*ty.size) news)) (by show(storeCells (Addr.add ⟨B,0,none⟩ (i*ty.size)) news).run P w=_;rw[Addr.add_lit,Nat.zero_add];exact cP)
   obtain⟨f1,f2,f3,f4⟩:=kP fE (new:=yF vals (i*ty.size) news) (dP ax)
   refine MB (s:=Builtin.append_ #[t,t] T #[.slice (some ⟨B,0,none⟩) i c,x]) (H':=(w.setRow B (yF vals (i*ty.size) news)).heap) ok hM ab hC aG (by rw[hM];exact f1)
    (fun b hb=>by rw[hM];exact f3 b fun e=>hb (e▸jT hB)) (fun b=>by rw[hM];exact f4 b) (fun M' xt hH hG=>?_) (by omega) (by omega) ?_ ⟨rfl,rfl,rfl,rfl⟩ hr
   ·rw[hB]
    refine⟨_,ev,f2,by rw[CW,dP ax];exact k7,fun p hp=>?_⟩
    rw[CW] at hp
    have aL:=Nat.mul_le_mul_right ty.size (show p+1≤xs.length by omega)
    rw[Nat.add_mul] at aL
    have old:(xs.take i++qQ xs j m++xs.drop (i+m))[p]? =xs[p]? →(∀q,q<ty.size→(yF vals (i*ty.size) news)[p*ty.size+q]? =vals[p*ty.size+q]?)→zU M'.H M'.G ty ((xs.take i++qQ xs j m++xs.drop (i+m))[p]'(by omega)) (fun q=>(yF vals (i*ty.size) news)[p*ty.size+q]?):=fun e1 e2=>by
     have e3:(xs.take i++qQ xs j m++xs.drop (i+m))[p]'(by omega)=xs[p]:=by
      rw[List.getElem?_eq_getElem (by omega),List.getElem?_eq_getElem hp,Option.some.injEq] at e1
      exact e1
     rw[e3]
     exact yK xt.G xt.sameG ty _ _ _ e2 (k8 p hp)
    by_cases Hc:p<i
    ·refine old ?_ fun q hq=>?_
     ·rw[List.append_assoc,List.getElem?_append_left (by omega),List.getElem?_take,if_pos Hc]
     ·have:=Nat.mul_le_mul_right ty.size (show p+1≤i by omega)
      rw[Nat.add_mul] at this
      rw[wU ax,if_pos (by omega)]
    ·by_cases CX:p<i+m
     ·have e3:(xs.take i++qQ xs j m++xs.drop (i+m))[p]'(by omega)=(fz xs (some (j,m)))[p-i]'(by omega):=by
       rw[List.getElem_append_left (by rw[List.length_append,oK,oJ];exact CX),List.getElem_append_right (by omega)]
       simp only[oK];rfl
      rw[e3]
      refine yK xt.G xt.sameG ty _ _ _ (fun q hq=>?_) (hE (p-i) (by omega))
      have q1:=Nat.mul_le_mul_right ty.size (show i≤p by omega)
      have q2:=Nat.mul_le_mul_right ty.size (show p-i+1≤m by omega)
      rw[Nat.add_mul] at q2
      have q3:(p-i)*ty.size=p*ty.size-i*ty.size:=Nat.sub_mul ..
      rw[wU ax,if_neg (by omega),if_pos (by omega)]
      congr 1;omega
     ·refine old ?_ fun q hq=>?_
      ·rw[List.getElem?_append_right (by rw[List.length_append,oK,oJ];omega),List.getElem?_drop]
       congr 1
       rw[List.length_append,oK,oJ];omega
      ·have:=Nat.mul_le_mul_right ty.size (show i+m≤p by omega)
       rw[Nat.add_mul] at this
       rw[wU ax,if_neg (by omega),if_neg (by omega)]
   ·rw[hB]
    exact⟨0,rfl,.inr rfl,by rw[←k2] at hs⊢;exact hs⟩
theorem vB5 {P M w}(ok:Ok M)(hM:M.H=w.heap){t T id lo n rx v u}(hx:zQ M (.osl id (some (lo,n))) rx)
  (h:qX (Gt P M.h t id lo n) v u):qD P (Builtin.clear_ #[t] T #[rx]) M w v u:=by
 unfold Gt at h
 split at h
 case h_2=>exact h.elim
 rename_i e s xs hu ab
 split at h
 case h_2=>exact h.elim
 rename_i ty cD
 obtain⟨heq,h⟩:=tI h
 have:=Ck heq
 subst this
 obtain⟨_,rfl,rfl⟩:=dN h
 obtain⟨inf,z,h1,h2,h3,h4,h5,h6,h7⟩:=mV cD
 obtain⟨C,hC,gh,⟨A,c,rfl,hS⟩,_⟩:=hx
 obtain⟨C1,fa,hO⟩:=ok.obj id _ ab
 rw[hC] at fa;cases fa
 by_cases G8:n=0
 ·subst G8
  have e0:xs.take lo++List.replicate 0 ty.dflt++xs.drop (lo+0)=xs:=by simp
  rw[e0]
  refine⟨.tuple #[],w,M,?_,rfl,rfl,rfl,hM,?_,ok,yL.refl M,trivial⟩
  ·cases A with
   |none=>simp[Builtin.clear_,run_underlying hu]
   |some a=>simp[Builtin.clear_,run_underlying hu]
  ·rw[LD,xp ab]
 ·obtain⟨k1,k2,k3,k4⟩:=hO
  cases hB:C.blk with
  |none=>rw[hB] at hS;omega
  |some B=>
   rw[hB] at hS k4
   obtain⟨hc,a,rfl,ha,hs⟩:=hS
   obtain⟨vals,ev,k5,k6,k7,k8⟩:=k4
   have mO:a=lo*ty.size:=by rw[←k2];rcases ha with ha|ha<;>omega
   subst mO
   have fE:w.heap[B]? =some (.cells vals ev (0,0)):=by rw[←hM];exact k5
   have CW:(Builtin.zeroCells z.cells n).toList.length=n*ty.size:=by rw[Array.length_toList,xJ,h7]
   have hle:=Nat.mul_le_mul_right ty.size (show lo+n≤xs.length by omega)
   rw[Nat.add_mul] at hle
   have ax:lo*ty.size+(Builtin.zeroCells z.cells n).toList.length≤vals.size:=by omega
   have bP:∀v∈(Builtin.zeroCells z.cells n).toList,v.one1=true:=yRg h4 h7
   have cP:=run_storeCells_at (P:=P) B (lo*ty.size) ev (Builtin.zeroCells z.cells n).toList 0 vals w fE (by simpa using ax) (fun v hv=>tu (bP v hv))
   simp only[Nat.add_zero] at cP
   obtain⟨f1,f2,f3,f4⟩:=kP fE (new:=yF vals (lo*ty.size) (Builtin.zeroCells z.cells n).toList) (dP ax)
   have kj:(Builtin.clear_ #[t] T #[.slice (some ⟨B,lo*ty.size,none⟩) n c]).run P w=.ok (.tuple #[]) (w.setRow B (yF vals (lo*ty.size) (Builtin.zeroCells z.cells n).toList)):=by
    obtain⟨n',rfl⟩:∃n',n=n'+1:=⟨n-1,by omega⟩
    have e:(storeCells ⟨B,lo*ty.size,none⟩ (Builtin.zeroCells z.cells (n'+1)).toList).run P w=.ok () (w.setRow B (yF vals (lo*ty.size) (Builtin.zeroCells z.cells (n'+1)).toList)):=cP
    simp[Builtin.clear_,run_underlying hu,zeroValue,typeInfo,h1,h2,e]
   have hH:∀b,b∉C.fp→(w.setRow B (yF vals (lo*ty.size) (Builtin.zeroCells z.cells n).toList)).heap[b]? =M.H[b]? :=fun b oD=>by
    rw[hM];exact f3 b fun e=>oD (e▸jT hB)
   have bX:∀b,b<M.H.size→qN (w.setRow B (yF vals (lo*ty.size) (Builtin.zeroCells z.cells n).toList)).heap b=qN M.H b:=fun b _=>by rw[hM];exact f4 b
   have hol:(xs.take lo++List.replicate n ty.dflt++xs.drop (lo+n)).length=xs.length:=by
    simp only[List.length_append,List.length_take,List.length_replicate,List.length_drop];omega
   have x:=zG.write_ext ok ab rfl hC C.le_refl hH bX (.arr true ty (xs.take lo++List.replicate n ty.dflt++xs.drop (lo+n)))
   have := zG.write_ok ok ab rfl hC C.le_refl (fun _ h => h) (by rw [hM]; exact f1) hH bX (o' := .arr true ty (xs.take lo ++ List.replicate n ty.dflt ++ xs.drop (lo + n))) (by
    refine⟨by rw[hol];exact k1,k2,k3,?_⟩
    rw[hB]
    refine⟨_,ev,f2,fun h=>(by cases h),by rw[hol,dP ax];exact k7,fun p hp=>?_⟩
    rw[hol] at hp
    have aL:=Nat.mul_le_mul_right ty.size (show p+1≤xs.length by omega)
    rw[Nat.add_mul] at aL
    have oL:(xs.take lo).length=lo:=by rw[List.length_take];omega
    have old:(xs.take lo++List.replicate n ty.dflt++xs.drop (lo+n))[p]? =xs[p]? →(∀q,q<ty.size→(yF vals (lo*ty.size) (Builtin.zeroCells z.cells n).toList)[p*ty.size+q]? =vals[p*ty.size+q]?)→
      zU (M.write id (.arr true ty (xs.take lo++List.replicate n ty.dflt++xs.drop (lo+n))) C (w.setRow B (yF vals (lo*ty.size) (Builtin.zeroCells z.cells n).toList)).heap).H (M.write id (.arr true ty (xs.take lo++List.replicate n ty.dflt++xs.drop (lo+n))) C (w.setRow B (yF vals (lo*ty.size) (Builtin.zeroCells z.cells n).toList)).heap).G ty ((xs.take lo++List.replicate n ty.dflt++xs.drop (lo+n))[p]'(by omega)) (fun q=>(yF vals (lo*ty.size) (Builtin.zeroCells z.cells n).toList)[p*ty.size+q]?):=fun e1 e2=>by
     have e3:(xs.take lo++List.replicate n ty.dflt++xs.drop (lo+n))[p]'(by omega)=xs[p]:=by
      rw[List.getElem?_eq_getElem (by omega),List.getElem?_eq_getElem hp,Option.some.injEq] at e1
      exact e1
     rw[e3]
     exact yK x.G x.sameG ty _ _ _ e2 (k8 p hp)
    by_cases Hc:p<lo
    ·refine old ?_ fun q hq=>?_
     ·rw[List.append_assoc,List.getElem?_append_left (by omega),List.getElem?_take,if_pos Hc]
     ·have:=Nat.mul_le_mul_right ty.size (show p+1≤lo by omega)
      rw[Nat.add_mul] at this
      rw[wU ax,if_pos (by omega)]
    ·by_cases CX:p<lo+n
     ·have e3:(xs.take lo++List.replicate n ty.dflt++xs.drop (lo+n))[p]'(by omega)=ty.dflt:=by
       rw[List.getElem_append_left (by rw[List.length_append,oL,List.length_replicate];exact CX),List.getElem_append_right (by omega)]
       simp
      rw[e3]
      refine CM ty _ fun q hq=>?_
      have q1:=Nat.mul_le_mul_right ty.size (show lo≤p by omega)
      have q2:=Nat.mul_le_mul_right ty.size (show p-lo+1≤n by omega)
      rw[Nat.add_mul] at q2
      have q3:(p-lo)*ty.size=p*ty.size-lo*ty.size:=Nat.sub_mul ..
      rw[wU ax,if_neg (by omega),if_pos (by omega),show p*ty.size+q-lo*ty.size=(p-lo)*ty.size+q by omega,WU h4 h7 hq (by omega)]
     ·refine old ?_ fun q hq=>?_
      ·rw[List.getElem?_append_right (by rw[List.length_append,oL,List.length_replicate];omega),List.getElem?_drop]
       congr 1
       rw[List.length_append,oL,List.length_replicate];omega
      ·have:=Nat.mul_le_mul_right ty.size (show lo+n≤p by omega)
       rw[Nat.add_mul] at this
       rw[wU ax,if_neg (by omega),if_neg (by omega)])
   exact⟨_,_,_,kj,rfl,rfl,rfl,rfl,rfl,this.1,this.2,trivial⟩
theorem yY4 {P M w}(ok:Ok M)(hM:M.H=w.heap){mat nm t T b x v u rb rx}
  (hb:zN M b rb) (hx:zN M x rx) (h:qX (xd P mat nm M.h t b x) v u):qD P (Builtin.append_ #[t,t] T #[rb,rx]) M w v u:=by
 unfold xd at h
 split at h
 case h_2=>exact h.elim
 rename_i e b x hu aG
 split at h
 ·exact h.elim
 rename_i ty cD
 cases mat with
 |true=>
  split at h
  ·rename_i id jd
   split at h
   ·rename_i v1 xs v2 ys ab cj
    cases aV:Nat.beq id jd with
    |true=>rw[aV] at h;exact h.elim
    |false=>
     rw[aV] at h
     obtain⟨hr,rfl,rfl⟩:=dN h
     exact vCr ok hM hu cD aG ab cj (fun e=>by subst e;simp at aV) hb hx (CP hr)
   ·exact h.elim
  ·exact h.elim
 |false=>
  simp only[cond_false] at h
  split at h
  ·split at h
   ·rename_i ys u1 ht
    obtain⟨hr,rfl,rfl⟩:=dN h
    obtain⟨rfl,news,h1,h2⟩:=WM ok hx ht
    rw[show rb=.slice none 0 0 from hb]
    exact yWd ok hM hu cD aG h1 h2 (CP hr)
   ·exact h.elim
  ·split at h
   ·rename_i s xs ab
    split at h
    ·rename_i zs ys u1 hz ht
     obtain⟨e1,hz⟩:=gL hz
     subst e1
     subst hz
     obtain⟨rfl,news,h1,h2⟩:=WM ok hx ht
     split at h
     ·rcases WT h with⟨hc,h⟩|⟨_,h⟩
      ·split at h
       ·rename_i i' jd j m zs e1 e2 _
        cases e1
        have:=Nat.eq_of_beq_eq_true hc
        subst this
        obtain⟨_,hz⟩:=gL e2
        subst hz
        obtain⟨hr,rfl,rfl⟩:=dN h
        exact yZn ok hM hu cD aG ab hb hx (Nat.le_of_ble_eq_true hr)
       ·exact h.elim
      ·obtain⟨hr,rfl,rfl⟩:=dN h
       exact Mv ok hM hu cD aG ab hb rfl h1 h2 (CP hr)
     ·rcases WT h with⟨hc,h⟩|⟨_,h⟩
      ·exact h.elim
      ·obtain⟨hr,rfl,rfl⟩:=dN h
       exact Mv ok hM hu cD aG ab hb trivial h1 h2 (CP hr)
     ·exact h.elim
    ·exact h.elim
   ·exact h.elim
  ·exact h.elim
theorem MC {M}(ok:Ok M){c v t ys}(hv:zQ M c v)(h:fV M.h c=some ⟨t,ys⟩){kd}(ht:t=.int kd):
  ∃news,Rd M.H v ys.length t.size news∧∃F,∀i hi,zU M.H F t ys[i] (fun j=>news[i*t.size+j]?):=by
 unfold fV at h
 split at h
 ·cases h
  obtain⟨news,h1,h2⟩:=Mq hv
  exact⟨news,h1,_,h2⟩
 ·split at h
  ·rename_i own s xs ab
   cases h
   obtain⟨C,hC,hO⟩:=ok.obj _ _ ab
   obtain⟨news,h1,h2⟩:=tH hC hO hv
   exact⟨news,h1,_,h2⟩
  all_goals grind
 ·rename_i id i ver
  split at h
  ·rename_i v' xs ab
   cases dm:Nat.beq v' ver with
   |false=>simp_all
   |true=>
    rw[dm] at h
    cases h
    have e:v'=ver:=by simp_all
    subst e
    obtain⟨C,hC,hO⟩:=ok.obj _ _ ab
    obtain⟨C',au,bP,_,aL⟩:=hv
    rw[hC] at au;cases au
    obtain⟨rb,rl,CY,qy⟩:=aL hO.1
    by_cases hi:i<xs.length
    ·obtain⟨B,lO,v2,k1,k2,k3,k4,k5,k6⟩:=xo hO hi
     rw[CY] at k3
     cases k3
     rw[show xs.getD i []=xs[i] by simp_all]
     cases rb with
     |none=>
      obtain⟨rfl,h0⟩:=qy
      have bW:xs[i]=[]:=by grind
      rw[bW]
      obtain⟨news,q1,q2⟩:=CN (H:=M.H) (F:=M.G) (t:=.int .i64) (A:=none) (c:=0)
      exact⟨news,q1,_,q2⟩
     |some R=>
      obtain⟨a,c,rfl,h1,h2,h3⟩:=qy
      by_cases h0:xs[i].length=0
      ·have bW:xs[i]=[]:=by grind
       rw[bW]
       obtain⟨news,q1,q2⟩:=CN (H:=M.H) (F:=M.G) (t:=.int .i64) (A:=some ⟨R,a,none⟩) (c:=c)
       exact⟨news,q1,_,q2⟩
      ·have ha:a=0:=by omega
       subst ha
       obtain ⟨news, q1, q2⟩ := Mp (H := M.H) (F := fun _ => True) (t := .int .i64) (ys := xs[i]) (B := R) (o := 0) (c := c) h1 (fun j hj=>by
        simp[zU,Ty.size]
        simp_all)
       exact⟨news,q1,_,q2⟩
    ·have:C.rows[i]? =none:=List.getElem?_eq_none (by have:=hO.2.2.2.1;omega)
     simp_all
  ·cases h
 ·cases h
theorem yR2 {M}(ok:Ok M){c v t ys}(hv:zQ M c v)(h:fV M.h c=some ⟨t,ys⟩):∃A k,v=.slice A ys.length k:=by
 by_cases ht:t=.int .i64
 ·obtain⟨news,⟨A,k,e,_⟩,_⟩:=MC ok hv h ht
  simp_all
 unfold fV at h
 split at h
 ·cases h
  obtain⟨news,⟨A,k,e,_⟩,_⟩:=Mq hv
  simp_all
 ·rename_i id r
  split at h
  ·rename_i own s xs ab
   cases h
   obtain⟨C,hC,hO⟩:=ok.obj _ _ ab
   obtain⟨news,⟨A,k,e,_⟩,_⟩:=tH hC hO hv
   simp_all
  ·rename_i ver xs ab
   cases r with
   |none=>
    cases h
    obtain⟨C,hC,hO⟩:=ok.obj _ _ ab
    obtain⟨C',au,A,k,e,_⟩:=hv
    rw[hC] at au;cases au
    exact⟨A,k,by rw[e,hO.2.1]⟩
   |some p=>cases h
  ·cases h
 all_goals grind
theorem yQn {M}(ok:Ok M){c v n}(hv:zQ M c v)(h:wu M.h c=some n):∃A k,v=.slice A n k:=by
 unfold wu at h
 split at h
 ·cases h;exact⟨none,0,hv⟩
 ·obtain⟨C,B,_,_,e⟩:=hv
  simp_all
 ·split at h
  ·rename_i t xs hr
   cases h
   exact yR2 ok hv hr
  ·cases h
theorem yWc {P w t e A n k T ts}(h0:ts[0]? =some t)(hu:P.underlying t=some (.slice e)):
  (Builtin.len_ ts T #[.slice A n k]).run P w=.ok (.int .i64 n) w:=by
 have hr:(underlying t).run P w=.ok (.slice e) w:=by simp[underlying,hu]
 simp[Builtin.len_,h0,hr,goInt]
theorem WV {P M w}(ok:Ok M)(hM:M.H=w.heap){lt l rl v u ts T}(hl:zI (zN M) l rl.toList)
  (h:qX (Gu lt l) v u):qD P (bif lt then Builtin.min_ ts T rl else Builtin.max_ ts T rl) M w v u:=by
 unfold Gu at h
 split at h
 ·rename_i k x j y
  obtain⟨rfl,rfl⟩:=vQ h
  obtain⟨rl⟩:=rl
  match rl,hl with
  |[a,b],⟨h1,h2,_⟩=>
   rw[show a=.int k x from h1,show b=.int j y from h2]
   refine .pure (rv:=.int k (bif lt then(bif decide (y<x) then y else x) else(bif decide (y>x) then y else x))) ok hM ?_ rfl
   cases lt<;>simp[Builtin.min_,Builtin.max_,Builtin.min2,Builtin.max2,Bool.cond_decide]
 ·rename_i k x j y i z
  obtain⟨rfl,rfl⟩:=vQ h
  obtain⟨rl⟩:=rl
  match rl,hl with
  |[a,b,c],⟨h1,h2,h3,_⟩=>
   rw[show a=.int k x from h1,show b=.int j y from h2,show c=.int i z from h3]
   refine .pure (rv:=_) ok hM ?_ rfl
   cases lt<;>simp[Builtin.min_,Builtin.max_,Builtin.min2,Builtin.max2,Bool.cond_decide]
 ·exact h.elim
theorem WW {M:zG}:∀{cs ns},tm cs=some ns→cs=ns.map (.int .i64)
 |[],ns,h=>by cases h;rfl
 |.int .i64 n::l,ns,h=>by
  unfold tm at h
  split at h
  ·rename_i r hr
   cases h
   rw[WW (M:=M) hr];rfl
  ·cases h
theorem WX xs:∀(ns:List Int) i,tn xs i (ns.map (.int .i64))=(((xs.drop i).take ns.length)++ns.drop ((xs.drop i).take ns.length).length).map (.int .i64)
 |[],i=>by rfl
 |n::ns,i=>by
  simp only[List.map_cons,tn,WX xs ns (i+1)]
  by_cases hi:i<xs.length
  ·have hb:Nat.blt i xs.length=true:=by simp_all
   rw[hb,List.drop_eq_getElem_cons hi]
   grind
  ·have hb:Nat.blt i xs.length=false:=by
    cases h:Nat.blt i xs.length with
    |false=>rfl
    |true=>exact absurd (by simp_all) hi
   have e1:xs.drop i=[]:=List.drop_eq_nil_of_le (by omega)
   grind
theorem vAd {P M w}(ok:Ok M)(hM:M.H=w.heap){t e ts T d s v u rd rs}(h0:ts[0]? =some t)(hu:P.underlying t=some (.slice e))(he:P.cellsOf e=1)
  (hd:zN M d rd) (hs:zN M s rs) (h:qX (xe M.h d s) v u):qD P (Builtin.copy_ ts T #[rd,rs]) M w v u:=by
 unfold xe at h
 split at h
 case h_2=>exact h.elim
 rename_i id off n s
 split at h
 case h_2=>exact h.elim
 rename_i cells ys ab lR
 split at h
 case h_2=>exact h.elim
 rename_i vs cZ
 split at h
 case h_2=>exact h.elim
 rename_i ns Md
 obtain⟨_,rfl,rfl⟩:=dN h
 clear h
 obtain⟨C,B,hC,hB,rfl⟩:=hd
 obtain⟨C',au,B',vals,ev,k1,k2,k3,k4,k5⟩:=ok.obj id _ ab
 rw[hC] at au;cases au
 rw[hB] at k1;cases k1
 obtain⟨c1,c2,c3⟩:=Cy cZ
 obtain⟨i,hi⟩:=kM (P:=P) (t:=e) (by omega)
 obtain⟨A,k,rfl,dO⟩:∃A k,rs=.slice A ys.length k∧∃news,Rd M.H (.slice A ys.length k) ys.length 1 news∧news=ys.map (.int .i64):=by
  split at lR
  ·cases lR
   exact⟨none,0,hs,[],⟨none,0,rfl,rfl,by simp,rfl⟩,rfl⟩
  ·obtain⟨news,hR,F,hE⟩:=MC ok hs lR rfl
   obtain⟨A,k,e,hl,r⟩:=hR
   refine⟨A,k,e,news,⟨A,k,rfl,hl,r⟩,?_⟩
   refine List.ext_getElem (by simpa[Ty.size] using hl) fun j h1 h2=>?_
   have:=hE j (by simpa using h2)
   simp only[zU,Ty.size,Nat.mul_one,Nat.add_zero] at this
   rw[List.getElem?_eq_getElem h1,Option.some.injEq] at this
   rw[this];simp
 obtain⟨news,⟨A',k',e',hl,bP,dO⟩,CZ⟩:=dO
 cases e'
 let m:=min ys.length n
 have hm:Nat.min ys.length n=m:=rfl
 have tK:(Builtin.firstCells 1 m (.slice A ys.length k)).run P w=.ok (news.take m).toArray w:=by
  have:Rd M.H (.slice A m k) m 1 (news.take m):=by
   refine⟨A,k,rfl,?_,fun u hu=>bP u (List.mem_of_mem_take hu),?_⟩
   all_goals grind
  have:=this.first (P:=P) w hM.symm
  cases A<;>exact this
 have Hd:w.heap[B]? =some (.cells vals ev (0,0)):=by rw[←hM];exact k3
 have cn:=k4.length
 have Hb:(news.take m).length=m:=by rw[List.length_take,hl];omega
 have ax:off+(news.take m).length≤vals.size:=by
  rw[Hb];simp at cn;omega
 have cP:=run_storeCells_at (P:=P) B off ev (news.take m) 0 vals w Hd (by simpa using ax) (fun v hv=>tu (bP v (List.mem_of_mem_take hv)))
 simp only[Nat.add_zero] at cP
 have kj:(Builtin.copy_ ts T #[.slice (some ⟨B,off,none⟩) n n,.slice A ys.length k]).run P w=.ok (.int .i64 (m:Nat)) (w.setRow B (yF vals off (news.take m))):=by
  simp[Builtin.copy_,h0,run_underlying hu,Builtin.lenOf,eY w hi,he,hm,tK,goInt]
  have e:(storeCells ⟨B,off,none⟩ (news.take m)).run P w=.ok () (w.setRow B (yF vals off (news.take m))):=cP
  rw[e];rfl
 obtain⟨f1,f2,f3,f4⟩:=kP Hd (new:=yF vals off (news.take m)) (dP ax)
 have hH:∀b,b∉C.fp→(w.setRow B (yF vals off (news.take m))).heap[b]? =M.H[b]? :=fun b oD=>by
  rw[hM];exact f3 b fun e=>oD (e▸jT hB)
 have bX:∀b,b<M.H.size→qN (w.setRow B (yF vals off (news.take m))).heap b=qN M.H b:=fun b _=>by rw[hM];exact f4 b
 let o':Obj:=.box true (cells.take off++tn ys 0 vs++cells.drop (off+n))
 have x:=zG.write_ext ok ab rfl hC C.le_refl hH bX o'
 have av:cells.take off++tn ys 0 vs++cells.drop (off+n)=cells.take off++(ys.take m).map (.int .i64)++cells.drop (off+((ys.take m).map (zR.int .i64)).length):=by
  have hv:=WW (M:=M) Md
  have hnn:ns.length=n:=by rw[←c3,hv];simp
  have C3:(ys.drop 0).take ns.length=ys.take m:=by
   grind
  rw[hv,WX,C3,List.map_append,List.map_drop,←hv,List.append_assoc,List.append_assoc,List.append_assoc]
  congr 2
  have He:(ys.take m).length=m:=by rw[List.length_take];omega
  have e1:cells.drop (off+n)=(cells.drop (off+m)).drop (n-m):=by
   rw[List.drop_drop];congr 1;omega
  rw[List.length_map,He,c2,List.drop_take,List.drop_drop,e1,List.take_append_drop]
 have := zG.write_ok ok ab rfl hC C.le_refl (fun _ h => h) (by rw [hM]; exact f1) hH bX (o' := o') (by
  refine⟨B,_,ev,hB,k2,f2,?_,fun h=>(by cases h)⟩
  rw[av]
  refine LI x k4 (us:=news.take m) ?_ (by simpa using ax)
  rw[CZ]
  refine zI.of_get (by simp) fun j h1 h2=>?_
  simp[zQ])
 exact⟨_,_,_,kj,rfl,rfl,rfl,rfl,rfl,this.1,this.2,rfl⟩
theorem WY {P t}(h:Cq P t=true):∃k e i,P.underlying t=some (.map k e)∧P.underlying k=some (.int .i64)∧P.info? e=some i∧i.zero=some (.bool false):=by
 unfold Cq at h
 split at h
 ·split at h
  ·rename_i hk hz
   obtain⟨i,h1,h2⟩:=Option.bind_eq_some_iff.1 hz
   grind
  ·cases h
 ·cases h
theorem yL3 {P M w}(ok:Ok M)(hM:M.H=w.heap){nm t v u}(h:qX (w8 P nm M.h t) v u):qD P (Instr.makeMap t none) M w v u:=by
 unfold w8 at h
 split at h
 case h_2=>exact h.elim
 rename_i aG
 obtain⟨_,h⟩:=tI h
 obtain⟨_,rfl,rfl⟩:=dN h
 let C:zT:=⟨some M.H.size,0,0,0,[]⟩
 have := zG.new_ok ok aG (.imap []) C (.map #[] 0) (by simp [C, zT.fp]) (by
  refine⟨M.H.size,#[],0,rfl,rfl,tt,by simp,fun n=>rfl⟩)
 refine⟨.map (some w.heap.size),w.alloc (.map #[] 0),_,?_,rfl,rfl,rfl,?_,rfl,this.1,this.2,C,M.H.size,κset_same _ _ _,rfl,by rw[hM]⟩
 ·rfl
 ·show M.H.push _=w.heap.push _
  rw[hM]
theorem MD {n}:∀{es i},(∀e∈es,∃m b,e.key=.int .i64 m∧e.val=.bool b)→
  (jJ n es=none∧Instr.findNow (.int .i64) (.int .i64 n) es i=some none)∨
  (∃j b e,jJ n es=some (.bool b)∧Instr.findNow (.int .i64) (.int .i64 n) es i=some (some (i+j,.bool b))∧es[j]? =some e∧e.key=.int .i64 n∧
   ∀f:MapEntry→MapEntry,(∀e,(f e).key=.int .i64 n)→jJ n (es.modify j f)=some (f e).val∧(∀m,m≠n→jJ m (es.modify j f)=jJ m es)∧∀e'∈es.modify j f,e'∈es∨e'=f e)
 |[],i,_=>.inl ⟨rfl,rfl⟩
 |e::es,i,h=>by
  obtain⟨m,b,h1,h2⟩:=h e (by simp)
  by_cases hm:n=m
  ·subst hm
   refine .inr ⟨0,b,e,?_,?_,rfl,h1,fun f hf=>⟨?_,fun m aV=>?_,fun e' he=>?_⟩⟩
   ·simp[jJ,h1,h2]
   ·simp[Instr.findNow,Instr.sameNow,h1,h2]
   ·simp[jJ,hf]
   ·simp[jJ,hf,h1,aV]
   grind
  ·have hs:Instr.findNow (.int .i64) (.int .i64 n) (e::es) i=Instr.findNow (.int .i64) (.int .i64 n) es (i+1):=by
    have hb:(n==m)=false:=by simp[hm]
    simp[Instr.findNow,Instr.sameNow,h1,hb]
   have hf:jJ n (e::es)=jJ n es:=by simp[jJ,h1,hm]
   rcases MD (es:=es) (i:=i+1) (by grind) with⟨k1,k2⟩|⟨j,b',e',k1,k2,k3,k4,k5⟩
   ·exact .inl ⟨hf.trans k1,hs.trans k2⟩
   ·refine .inr ⟨j+1,b',e',hf.trans k1,by grind,by simp_all,k4,fun f hfk=>?_⟩
    obtain⟨q1,q2,q3⟩:=k5 f hfk
    refine⟨by simp[jJ,h1,hm,q1],fun m' aV=>?_,fun e'' he=>?_⟩
    ·rw[List.modify_succ_cons]
     simp[jJ,q2 m' aV]
    grind
theorem Hf {P w r es ck}(h:w.heap[r]? =some (.map es ck)):(getObj r).run P w=.ok (.map es ck) w:=by
 simp[getObj,Sem.run,h]
theorem WZ {P w r es ck} o (h:w.heap[r]? =some (.map es ck)):(setObj r o).run P w=.ok () {w with heap:=w.heap.setIfInBounds r o}:=by
 simp[setObj,Sem.run,h]
theorem Hg {P w k b n}(h:P.underlying k=some (.int .i64)):(Instr.checkKey b 10000 k (.int .i64 n)).run P w=.ok () w:=by
 unfold Instr.checkKey
 simp[run_underlying h]
theorem Hh {P w k n es r}(h:P.underlying k=some (.int .i64))(hf:Instr.findNow (.int .i64) (.int .i64 n) es 0=some r):(Instr.findKey k (.int .i64 n) es).run P w=.ok r w:=by
 unfold Instr.findKey
 simp[run_underlying h,hf]
theorem vG3 {P M w}(ok:Ok M)(hM:M.H=w.heap){t x i v u rx ri}(hx:zN M x rx)(hi:zN M i ri)(h:qX (w9 P M.h t x i) v u):qD P (Instr.lookup t rx ri false) M w v u:=by
 unfold w9 at h
 split at h
 case h_2=>exact h.elim
 rename_i id n
 split at h
 case h_2=>exact h.elim
 rename_i cg ab
 obtain⟨hb,h⟩:=tI h
 obtain⟨rfl,rfl⟩:=vQ h
 obtain⟨k,e,inf,h1,h2,h3,h4⟩:=WY hb
 obtain⟨C,B,hC,hB,rfl⟩:=hx
 obtain⟨C',au,B',es,ck,k1,k2,k3,k4,k5⟩:=ok.obj id _ ab
 rw[hC] at au;cases au
 rw[hB] at k1;cases k1
 have kh:ri=.int .i64 n:=hi
 subst kh
 rw[hM] at k3
 refine .pure (rv:=.bool ((cg.lookup n).getD false)) ok hM ?_ rfl
 have h5:=k5 n
 unfold Instr.lookup
 rcases MD (n:=n) (i:=0) k4 with⟨q1,q2⟩|⟨j,b,e',q1,q2,q3,q4,q5⟩
 ·have:cg.lookup n=none:=by cases hl:cg.lookup n with|none=>rfl|some b=>simp_all
  simp[run_underlying h1,Hf k3,Hg h2,Hh h2 q2,zeroValue,typeInfo,h3,h4,this]
 ·have:cg.lookup n=some b:=by cases hl:cg.lookup n with|none=>simp_all|some b=>simp_all
  simp[run_underlying h1,Hf k3,Hg h2,Hh h2 q2,this]
theorem ME {n b c}:∀{es},jJ n es=none→∀m,jJ m (es++[⟨.int .i64 n,.bool b,c⟩])=if m=n then some (.bool b) else jJ m es
 |[],_,m=>by rfl
 |e::es,h,m=>by
  rw[List.cons_append]
  have aC:∀(m:Int) (l:List MapEntry),jJ m (e::l)=match e.key with|.int .i64 k=>if m=k then some e.val else jJ m l|_=>jJ m l:=fun m l=>rfl
  rw[aC] at h
  rw[aC,aC]
  split at h
  ·rename_i k hk
   split at h
   ·cases h
   ·by_cases hm:m=k
    ·grind
    ·rw[if_neg hm,ME h m,if_neg hm]
  ·exact ME h m
theorem yMu {P M w}(ok:Ok M)(hM:M.H=w.heap){t x i y v u rx ri ry}(hx:zN M x rx)(hi:zN M i ri)(hy:zN M y ry)(h:qX (xa P M.h t x i y) v u):
  v=.undef∧iX P (Instr.mapUpdate t rx ri ry) M w u:=by
 unfold xa at h
 split at h
 case h_2=>exact h.elim
 rename_i id n b
 split at h
 case h_2=>exact h.elim
 rename_i cg ab
 obtain⟨hb,h⟩:=tI h
 obtain⟨_,rfl,rfl⟩:=dN h
 obtain⟨k,e,inf,h1,h2,h3,h4⟩:=WY hb
 obtain⟨C,B,hC,hB,rfl⟩:=hx
 obtain⟨C',au,B',es,ck,k1,k2,k3,k4,k5⟩:=ok.obj id _ ab
 rw[hC] at au;cases au
 rw[hB] at k1;cases k1
 have kh:ri=.int .i64 n:=hi
 subst kh
 have hry:ry=.bool b:=hy
 subst hry
 have k3':=k3
 rw[hM] at k3
 have write:∀(nc:Array MapEntry) (qz:Nat),(Instr.mapUpdate t (.map (some B)) (.int .i64 n) (.bool b)).run P w=.ok () {w with heap:=w.heap.setIfInBounds B (.map nc qz)}→
   (∀e∈nc.toList,∃m b,e.key=.int .i64 m∧e.val=.bool b)→(∀m,jJ m nc.toList=if m=n then some (.bool b) else jJ m es.toList)→iX P (Instr.mapUpdate t (.map (some B)) (.int .i64 n) (.bool b)) M w [(id,.imap ((n,b)::cg))]:=by
  intro nc qz hr he hf
  have tL:∀c,(w.heap.setIfInBounds B (.map nc qz))[c]? =if c=B then some (.map nc qz) else w.heap[c]? :=by grind
  have hH:∀c,c∉C.fp→(w.heap.setIfInBounds B (.map nc qz))[c]? =M.H[c]? :=fun c hc=>by
   rw[tL,if_neg (fun(e:c=B)=>hc (by rw[e];exact jT hB)),hM]
  have bX:∀c,c<M.H.size→qN (w.heap.setIfInBounds B (.map nc qz)) c=qN M.H c:=fun c _=>by
   unfold qN
   grind
  have := zG.write_ok ok ab rfl hC C.le_refl (by simp) (by rw [hM]; simp) hH bX (o' := .imap ((n, b) :: cg)) (by
   refine⟨B,nc,qz,hB,k2,?_,he,fun m=>?_⟩
   ·show(w.heap.setIfInBounds B (.map nc qz))[B]? =_
    rw[tL,if_pos rfl]
   grind)
  exact⟨_,_,hr,rfl,rfl,rfl,rfl,rfl,this.1,this.2⟩
 refine⟨rfl,?_⟩
 rcases MD (n:=n) (i:=0) k4 with⟨q1,q2⟩|⟨j,b',e',q1,q2,q3,q4,q5⟩
 ·refine write (es.push ⟨.int .i64 n,.bool b,ck⟩) (ck+1) ?_ (fun e he=>?_) fun m=>?_
  ·unfold Instr.mapUpdate
   simp[run_underlying h1,Hf k3,Hg h2,Hh h2 q2,WZ _ k3]
  ·grind
  ·rw[Array.toList_push]
   exact ME q1 m
 ·refine write (es.modify j fun e=>{e with key:=.int .i64 n,val:=.bool b}) ck ?_ (by grind) fun m=>?_
  ·unfold Instr.mapUpdate
   rw[Nat.zero_add] at q2
   simp only[Array.getElem?_toList] at q3
   simp[run_underlying h1,Hf k3,Hg h2,Hh h2 q2,WZ _ k3,q3,q4,Instr.keyThatStays,Instr.sameBits]
  all_goals grind
theorem W0:∀(ns:List Int) (b:ByteArray),ns.foldl (fun r n=>r.push (UInt8.ofNat n.toNat)) b=⟨(b.data.toList++kJ ns).toArray⟩
 |[],b=>by simp[kJ]
 |n::ns,b=>by
  rw[List.foldl_cons,W0 ns]
  simp[kJ]
theorem yL1 {P M}(ok:Ok M){c v xs}(hv:zQ M c v)(h:wq M.h c=some xs){w}(hM:M.H=w.heap):
  ∃A n k,v=.slice A n k∧(Conv.bytesToString v).run P w=.ok (.string ⟨(kJ xs).toArray⟩) w:=by
 unfold wq at h
 split at h
 ·cases h
  refine⟨none,0,0,hv,?_⟩
  rw[show v=.slice none 0 0 from hv]
  rfl
 ·split at h
  ·rename_i ys hr
   obtain rfl:ys=xs:=by simp_all
   obtain⟨news,⟨A,k,e,hl,bP,dO⟩,F,hE⟩:=MC ok hv hr rfl
   refine⟨A,_,k,e,?_⟩
   have hn:news=ys.map (Value.int .u8):=by
    refine List.ext_getElem (by simpa[Ty.size] using hl) fun j h1 h2=>?_
    have:=hE j (by simp_all)
    simp[zU,Ty.size] at this
    grind
   subst e
   cases A with
   |none=>
    have h1:ys=[]:=by grind
    subst h1
    rfl
   |some a=>
    have iV:(loadCells a ys.length).run P w=.ok (ys.map (Value.int .u8)).toArray w:=by
     rcases dO with h0|⟨h1,h2⟩
     ·have h1:ys=[]:=by grind
      subst h1
      rfl
     ·have:=Rd.first (P:=P) (H:=M.H) (v:=.slice (some a) ys.length k) (n:=ys.length) (size:=1) (news:=news) ⟨_,k,rfl,by grind,bP,by grind⟩ w hM.symm
      rw[hn] at this
      simpa[Builtin.firstCells] using this
    rw[run_bytesToString w a _ k ys iV,W0]
    rfl
  ·cases h
structure oM (M:zG) (w:World) (u:yO) (M':zG) (w':World):Prop where
 os:w'.os=w.os
 tape:w'.tape=w.tape
 output:w'.output=w.output
 H:M'.H=w'.heap
 h:M'.h=qA M.h u
 ok:Ok M'
 step:yL M M'
def oN (P:Program)(f:Nat)(args:List zO)(h:Hp)(v:zO)(u:yO):Prop:=
 ∀(M:zG) (w:World) (vs:Array Value),M.h=h→M.H=w.heap→Ok M→zI (zN M) args vs.toList→
  ((callFunc f vs).run P w=.ok (.enter f vs) w∧Calls P f vs w fun
   |.returned rv,w'=>∃M',oM M w u M' w'∧zN M' v rv
   |_,_=>False)∨∃rv w' M',(callFunc f vs).run P w=.ok (.value rv) w'∧oM M w u M' w'∧zN M' v rv
def W1 (P:Program)(S:Gv):Prop:=∀k nm f args h v u,qX (S k nm f args h) v u→oN P f args h v u
structure dB (E:Env):Prop where
 eq:CF E.P E.eqT
 sums:W1 E.P E.sums
section
variable {P:Program} {Q:Exit→Act→World→Prop} {o:Oper} {a:Act} {w:World} {M:zG} {next:Act→World→Prop} {v:zO} {u:yO}
theorem dR {s}(hr:qD P s M w v u)(he:execOp a.eval o=(do pure (.value (←s)):Sem Next))(hn:∀M' w' rv,oM M w u M' w'→zN M' v rv→next (a.put o.dst rv) w'):
  o.wp P a w next Q:=by
 obtain⟨rv,w',M',h1,h2,h3,h4,h5,h6,h7,h8,h9⟩:=hr
 unfold Oper.wp
 rw[he]
 simp[h1]
 exact hn M' w' rv ⟨h2,h3,h4,h5,h6,h7,h8⟩ h9
theorem W2 {s}(hr:iX P s M w u)(he:execOp a.eval o=(do s;pure .skip:Sem Next))(hn:∀M' w' rv,oM M w u M' w'→zN M' .undef rv→next (a.put o.dst rv) w'):
  o.wp P a w next Q:=by
 obtain⟨w',M',h1,h2,h3,h4,h5,h6,h7,h8⟩:=hr
 unfold Oper.wp
 rw[he]
 simp[h1]
 exact hn M' w' undef ⟨h2,h3,h4,h5,h6,h7,h8⟩ trivial
theorem nf (ok:Ok M)(hM:M.H=w.heap){rv}(hu:u=[])(hv:zN M v rv)(he:(execOp a.eval o).run P w=.ok (.value rv) w)(hn:∀M' w' rv,oM M w u M' w'→zN M' v rv→next (a.put o.dst rv) w'):
  o.wp P a w next Q:=by
 unfold Oper.wp
 rw[he]
 subst hu
 exact hn M w rv ⟨rfl,rfl,rfl,hM,rfl,ok,.refl M⟩ hv
end
theorem C4 {α β} f:∀(l:List α) (r:List β),l.mapM f=some r→zI (fun a b=>f a=some b) l r
 |[],r,h=>by simp at h;subst h;trivial
 |a::l,r,h=>by
  simp[Option.bind_eq_some_iff] at h
  obtain⟨b,h1,bs,h2,h3⟩:=h
  cases h3
  exact⟨h1,C4 f l bs h2⟩
theorem zI.map_left {α β γ R}{f:α→γ}:∀{l} {m:List β},zI (fun a b=>R (f a) b) l m→zI R (l.map f) m
 |[],[],_=>trivial
 |_::_,_::_,h=>⟨h.1,zI.map_left h.2⟩
def _root_.Go.Operand.lit:Operand→Value
 |.const c=>c
 |_=>undef
theorem yX8 {P:Program}{M:zG}{w:World}{t:TypeId}{d}{y:Operand}{x:zR}{rx ry:Value}{b:Bool}(hu:P.underlying t=some d)(hx:zQ M x rx)(hy:ry=y.lit)
  (h:Lc d y x=some b) op (ng:op=.eql∨op=.neq) ox oy:
  (eqGuard op t ox oy rx ry).run P w=.ok () w∧(binOp op t rx ry).run P w=.ok (.bool (Cn op b)) w:=by
 have key:∀n,(Op.equalIn (n+1) t rx ry).run P w=.ok b w→(eqGuard op t ox oy rx ry).run P w=.ok () w→(binOp op t rx ry=match op with|.eql=>(do pure (.bool (←Op.equal t rx ry)))|_=>(do pure (.bool (!(←Op.equal t rx ry)))))→
   n=9999→(eqGuard op t ox oy rx ry).run P w=.ok () w∧(binOp op t rx ry).run P w=.ok (.bool (Cn op b)) w:=by
  intro n h1 h2 h3 hn
  have fB:(Op.equal t rx ry).run P w=.ok b w:=by subst hn;exact h1
  refine⟨h2,?_⟩
  rw[h3]
  rcases ng with rfl|rfl<;>simp[fB,Cn]
 unfold Lc at h
 split at h<;>cases h<;>simp only[Operand.lit] at hy<;>subst hy
 all_goals (try obtain rfl:rx=_:=hx)
 all_goals (try obtain⟨C,B,_,_,_,rfl⟩:=hx)
 all_goals (try obtain⟨B,o,rfl,_⟩:=hx)
 all_goals (try obtain⟨cv,rfl,_⟩:=hx)
 all_goals (try obtain⟨⟨_,_,_,rfl⟩,_⟩:=hx)
 all_goals
  refine key 9999 ?_ ?_ ?_ rfl
  ·generalize 9999=n
   unfold Op.equalIn
   simp[run_underlying hu]
  ·rcases ng with rfl|rfl<;>simp[eqGuard]
  ·rcases ng with rfl|rfl<;>rfl
theorem MF {M}{ev:Operand→zO}{ρ:Operand→Value}(aF:∀x,zN M (ev x) (ρ x)):∀(l:List (Nat×Operand)),zI (tF M) (l.map fun p=>(p.1,ev p.2)) (l.map fun p=>(p.1,ρ p.2))
 |[]=>trivial
 |p::l=>⟨⟨rfl,aF p.2⟩,MF aF l⟩
theorem W3 {f:Operand→Value}(parts:Array (Nat×Operand)):(parts.map fun(i,x)=>(i,f x))=(parts.toList.map fun p=>(p.1,f p.2)).toArray:=by
 grind
theorem W4 {M}{ev:Operand→zO}{ρ}(aF:∀x,zN M (ev x) (ρ x)):∀{l ids},zI (fun x id=>qh (ev x)=some id) l ids→
  zI (fun id u=>∃C B,M.κ id=some C∧C.blk=some B∧u=.pointer (some ⟨B,0,none⟩)) ids (l.map ρ)
 |[],[],_=>trivial
 |x::l,id::ids,h=>by
  refine⟨?_,W4 aF h.2⟩
  have h1:qh (ev x)=some id:=h.1
  have hx:=aF x
  unfold qh at h1
  split at h1
  ·rename_i xL hc
   cases h1
   rw[hc] at hx
   exact hx
  ·cases h1
theorem W5 {M ev ρ}(aF:∀x,zN M (ev x) (ρ x)):∀(l:List Operand),zI (zN M) (l.map ev) (l.map ρ)
 |[]=>trivial
 |x::l=>⟨aF x,W5 aF l⟩
theorem vFp {E}(hE:dB E){A}{k pre}{Q}{o}{a}{w}{M}{next}{v}{u ev}(ok:Ok M)(hM:M.H=w.heap)
  (aF:∀x,zN M (ev x) (a.eval x)) (h:qX (gJ E A k pre o ev M.h) v u) (hn:∀M' w' rv,oM M w u M' w'→zN M' v rv→next (a.put o.dst rv) w'):o.wp E.P a w next Q:=by
 unfold gJ at h
 dsimp only at h
 split at h
 ·rename_i x ho
  obtain⟨rfl,rfl⟩:=vQ h
  exact nf ok hM rfl (aF x) (by cases o;cases ho;rfl) hn
 ·rename_i x ho
  obtain⟨rfl,rfl⟩:=vQ h
  exact nf ok hM rfl (aF x) (by cases o;cases ho;rfl) hn
 ·rename_i c x y ho
  split at h
  ·rename_i cb hc
   have ie:=aF c
   rw[hc] at ie
   have ie:a.eval c=.bool cb:=ie
   split at h
   ·rename_i xb yb hx hy
    obtain⟨rfl,rfl⟩:=vQ h
    have h1:=aF x
    have h2:=aF y
    rw[hx] at h1
    rw[hy] at h2
    refine nf (rv:=.bool (bif cb then xb else yb)) ok hM rfl (show zN M (.c (.bool _)) (.bool _) from rfl) ?_ hn
    have h1:a.eval x=.bool xb:=h1
    have h2:a.eval y=.bool yb:=h2
    cases o
    cases ho
    show(do pure (.value (if←asBool (a.eval c) then a.eval x else a.eval y)):Sem Next).run E.P w=_
    cases cb<;>simp[ie,asBool,h1,h2]
   ·refine nf (rv:=if cb then a.eval x else a.eval y) ok hM ?_ ?_ ?_ hn
    ·rcases h with⟨_,_,rfl⟩|⟨_,⟨_,_,rfl⟩|⟨_,h⟩⟩
     ·rfl
     ·rfl
     ·exact h.elim
    ·rcases h with⟨rfl,rfl,_⟩|⟨rfl,⟨_,rfl,_⟩|⟨_,h⟩⟩
     ·exact aF x
     ·exact aF y
     ·exact h.elim
    ·cases o
     cases ho
     show(do pure (.value (if←asBool (a.eval c) then a.eval x else a.eval y)):Sem Next).run E.P w=_
     cases cb<;>simp[ie,asBool]
  ·exact h.elim
 ·rename_i t ho
  split at h
  ·rename_i zs aG hz
   obtain⟨_,rfl,rfl⟩:=dN h
   exact dR (yOb ok hM aG hz) (by cases o;cases ho;rfl) hn
  ·exact h.elim
 ·rename_i t x ho
  split at h
  ·rename_i vs aG hv
   obtain⟨_,rfl,rfl⟩:=dN h
   exact dR (vIk ok hM aG (aF x) hv _) (by cases o;cases ho;rfl) hn
  ·exact h.elim
 ·rename_i t parts ho
  have hp:=MF aF parts.toList
  have:=yZw ok hM hp h
  exact dR this (by cases o;cases ho;rw[←W3];rfl) hn
 ·rename_i t n parts ho
  have hp:=MF aF parts.toList
  exact dR (yQ5 ok hM hp h) (by cases o;cases ho;rw[←W3];rfl) hn
 ·rename_i t x ho
  exact dR (vDy ok hM (aF x) h) (by cases o;cases ho;rfl) hn
 ·rename_i t x y ho
  obtain⟨rfl,hr⟩:=yZr ok hM (aF x) (aF y) h
  exact W2 hr (by cases o;cases ho;rfl) hn
 ·rename_i x ho
  have hx:=aF x
  have key:∀c,ev x=.c c→v=.c c→u=[]→(match a.eval x with|.pointer none|.nilIface|.nilFunc=>False|.func (.method _) _ _=>False|_=>True)→o.wp E.P a w next Q:=by
   intro c hc hv hu hm
   rw[hc] at hx
   refine nf (rv:=a.eval x) ok hM hu (by rw[hv];exact hx) ?_ hn
   cases o
   cases ho
   simp only[execOp]
   generalize a.eval x=r at*
   split<;>first|rfl|exact hm.elim
  split at h
  ·rename_i i j hc
   obtain⟨rfl,rfl⟩:=vQ h
   refine key _ hc rfl rfl ?_
   rw[hc] at hx
   obtain⟨C,B,_,_,e⟩:=hx
   rw[e];trivial
  ·rename_i i j k hc
   obtain⟨rfl,rfl⟩:=vQ h
   refine key _ hc rfl rfl ?_
   rw[hc] at hx
   obtain⟨C,B,_,_,_,e⟩:=hx
   rw[e];trivial
  ·rename_i i j k l hc
   obtain⟨rfl,rfl⟩:=vQ h
   refine key _ hc rfl rfl ?_
   rw[hc] at hx
   obtain⟨B,o,e,_⟩:=hx
   rw[e];trivial
  ·rename_i i j hc
   obtain⟨rfl,rfl⟩:=vQ h
   refine key _ hc rfl rfl ?_
   rw[hc] at hx
   obtain⟨cv,e,_⟩:=hx
   rw[e];trivial
  ·exact h.elim
 ·rename_i op t x y _ ho
  cases hc:(VL y&&VK op) with
  |false=>
   rw[hc] at h
   exact dR (vH6 hE.eq ok hM (aF x) (aF y) h) (by cases o;cases ho;rfl) hn
  |true=>
   rw[hc] at h
   rw[Bool.and_eq_true] at hc
   have ng:op=.eql∨op=.neq:=by cases op<;>first|(left;rfl)|(right;rfl)|(cases hc.2)
   split at h
   ·rename_i d cv hu ie
    split at h
    ·rename_i b hb
     obtain⟨rfl,rfl⟩:=vQ h
     have hx:=aF x
     rw[ie] at hx
     have hy:a.eval y=y.lit:=by
      cases y<;>first|rfl|(cases hc.1)
     obtain⟨h1,h2⟩:=yX8 (w:=w) hu hx hy hb op ng x y
     refine nf (rv:=.bool (Cn op b)) ok hM rfl (show zN M (.c (.bool _)) (.bool _) from rfl) ?_ hn
     cases o
     cases ho
     show(do pure (.value (←(do eqGuard op t x y (a.eval x) (a.eval y);binOp op t (a.eval x) (a.eval y)))):Sem Next).run E.P w=_
     simp only[Sem.run_bind,h1,Result.andThen_ok,h2,Sem.run_pure]
    ·exact h.elim
   ·exact h.elim
 ·rename_i op t x ho
  exact dR (yNv ok hM (aF x) h) (by cases o;cases ho;rfl) hn
 ·rename_i s d x ho
  split at h
  ·rename_i k1 k k2 n hs hd hx
   obtain⟨rfl,rfl⟩:=vQ h
   have ig:=aF x
   rw[hx] at ig
   have ig:a.eval x=.int k2 n:=ig
   refine nf (rv:=.int k (k.wrap n)) ok hM rfl (show zN M (.c (.int _ _)) (.int _ _) from rfl) ?_ hn
   cases o
   cases ho
   show(do pure (.value (←convert s d (a.eval x))):Sem Next).run E.P w=_
   simp[convert,run_underlying hs,run_underlying hd,ig,Conv.intToInt]
  ·rename_i e c hs hd hx
   split at h
   ·rename_i xs he C5
    obtain⟨rfl,rfl⟩:=vQ h
    have ig:=aF x
    rw[hx] at ig
    obtain⟨A,n,k,e1,e2⟩:=yL1 (P:=E.P) (w:=w) ok ig C5 hM
    refine nf (rv:=.string ⟨(kJ xs).toArray⟩) ok hM rfl (show zN M (.c (.str xs)) _ from rfl) ?_ hn
    cases o
    cases ho
    show(do pure (.value (←convert s d (a.eval x))):Sem Next).run E.P w=_
    rw[e1] at e2⊢
    simp only[Sem.run_bind,run_convert_bytes_string w s d e A n k hs he hd,e2,Result.andThen_ok,Sem.run_pure]
   ·exact h.elim
  ·exact h.elim
 ·rename_i f first captured ho
  cases hf:Nat.beq first.size 0 with
  |false=>rw[hf] at h;exact h.elim
  |true=>
   rw[hf] at h
   simp only[cond_true] at h
   split at h
   ·rename_i ids ij
    obtain⟨rfl,rfl⟩:=vQ h
    have h0:first=#[]:=Array.eq_empty_of_size_eq_zero (by simpa using hf)
    refine nf (rv:=.func (.func f) #[] (captured.map a.eval)) ok hM rfl ?_ ?_ hn
    case refine_2=>
     cases o
     cases ho
     show(do pure (.value (←Instr.makeFunc (.func f) (first.map a.eval) (captured.map a.eval))):Sem Next).run E.P w=_
     subst h0
     simp[Instr.makeFunc]
    refine⟨_,rfl,?_⟩
    rw[Array.toList_map]
    exact W4 aF (C4 _ _ _ ij)
   ·exact h.elim
 ·rename_i t l c ho
  exact dR (vC5 ok hM (aF l) (aF c) h) (by cases o;cases ho;rfl) hn
 ·rename_i t ho
  exact dR (yL3 ok hM h) (by cases o;cases ho;rfl) hn
 ·rename_i t x i ho
  exact dR (vG3 ok hM (aF x) (aF i) h) (by cases o;cases ho;rfl) hn
 ·rename_i t x i y ho
  obtain⟨rfl,hr⟩:=yMu ok hM (aF x) (aF i) (aF y) h
  exact W2 hr (by cases o;cases ho;rfl) hn
 ·rename_i t x lo hi mx ho
  have hO:∀y:Option Operand,xD M (y.map ev) (y.map a.eval):=fun y=>by
   cases y with
   |none=>trivial
   |some y=>exact aF y
  exact dR (vD3 ok hM (aF x) (hO lo) (hO hi) (hO mx) h) (by cases o;cases ho;rfl) hn
 ·rename_i t x f ho
  exact dR (vGk ok hM (aF x) h) (by cases o;cases ho;rfl) hn
 ·rename_i t x f ho
  exact dR (yUu ok hM (aF x) h) (by cases o;cases ho;rfl) hn
 ·rename_i t x i ho
  exact dR (vBw ok hM (aF x) (aF i) h) (by cases o;cases ho;rfl) hn
 ·rename_i t x i ho
  exact dR (vB4 ok hM (aF x) (aF i) h) (by cases o;cases ho;rfl) hn
 ·rename_i t i ho
  have ht:=aF t
  split at h
  ·rename_i xs C5
   rw[C5] at ht
   obtain⟨vs,cB,aU⟩:=ht
   split at h
   ·rename_i g cs hi
    obtain⟨hp,rfl⟩:=Ly h
    have hl:=aU.length
    have aT:i<xs.length:=by
     rcases Nat.lt_or_ge i xs.length with h|h
     ·exact h
     ·rw[List.getElem?_eq_none h] at hi;cases hi
    have fZ:i<vs.size:=by simp at hl;omega
    have hc:=aU.get i aT (by simpa using fZ)
    rw[List.getElem?_eq_getElem aT,Option.some.injEq] at hi
    rw[hi] at hc
    refine nf (rv:=vs[i]) ok hM rfl ?_ ?_ hn
    ·rcases LC hp with⟨e1,rfl⟩|⟨e1,c,rfl,rfl⟩
     ·cases e1;exact hc
     ·cases e1;exact hc
    ·cases o
     cases ho
     show(do pure (.value (←Instr.extract (a.eval t) i)):Sem Next).run E.P w=_
     rw[cB]
     simp[Instr.extract,fZ]
   ·exact h.elim
  ·exact h.elim
 ·rename_i c ho
  have bT:=W5 aF c.args.toList
  have exec:∀b,c.callee=.builtin b→∀s:Sem Value,(∀C,Go.builtin b c.argTypes o.type C (c.args.map a.eval)=(do pure (.value (←s)):Sem Next))→execOp a.eval o=(do pure (.value (←s)):Sem Next):=fun b hb s hs=>by
   cases o
   cases ho
   show(do let d←resolve a.eval c _;invoke d.target d.args:Sem Next)=_
   unfold resolve
   rw[hb]
   exact hs _
  have gi:c.args.map a.eval=(c.args.toList.map a.eval).toArray:=by cases c.args;simp
  split at h
  ·rename_i b gj
   unfold Lq at h
   split at h
   ·split at h
    case h_2=>exact h.elim
    rename_i x hx
    have h1:∃rx,(c.args.toList.map a.eval).toArray=#[rx]∧zQ M x rx:=by
     rw[hx] at bT
     match hl:c.args.toList.map a.eval,bT with
     |[rx],hh=>exact⟨rx,rfl,hh.1⟩
    obtain⟨rx,tM,ig⟩:=h1
    split at h
    ·rename_i e hu
     split at h
     ·rename_i n hlen
      obtain⟨rfl,rfl⟩:=vQ h
      obtain⟨t,ht,hu⟩:=Option.bind_eq_some_iff.1 hu
      obtain⟨A,k,rfl⟩:=yQn ok ig hlen
      refine dR (s:=Builtin.len_ c.argTypes o.type (c.args.map a.eval)) ?_ (exec _ gj _ fun _=>rfl) hn
      rw[gi,tM]
      exact .pure ok hM (yWc ht hu) rfl
     ·exact h.elim
    ·exact h.elim
   ·split at h
    case h_2=>exact h.elim
    rename_i b x hx
    have h1:∃rb rx,(c.args.toList.map a.eval).toArray=#[rb,rx]∧zN M b rb∧zN M x rx:=by
     rw[hx] at bT
     match hl:c.args.toList.map a.eval,bT with
     |[rb,rx],hh=>exact⟨rb,rx,rfl,hh.1,hh.2.1⟩
    obtain⟨rb,rx,tM,MG,ig⟩:=h1
    split at h
    ·rename_i t t' hts
     obtain⟨htt,h'⟩:=tI h
     have:t=t':=by simpa using htt
     subst this
     refine dR (s:=Builtin.append_ c.argTypes o.type (c.args.map a.eval)) ?_ (exec _ gj _ fun _=>rfl) hn
     have ht:c.argTypes=#[t,t]:=by
      have:=congrArg List.toArray hts
      simpa using this
     rw[gi,tM,ht]
     exact yY4 ok hM MG ig h'
    ·exact h.elim
   ·split at h
    case h_2=>exact h.elim
    rename_i d s hx
    have h1:∃rb rx,(c.args.toList.map a.eval).toArray=#[rb,rx]∧zN M d rb∧zN M s rx:=by
     rw[hx] at bT
     match hl:c.args.toList.map a.eval,bT with
     |[rb,rx],hh=>exact⟨rb,rx,rfl,hh.1,hh.2.1⟩
    obtain⟨rb,rx,tM,MG,ig⟩:=h1
    split at h
    ·rename_i e hu
     obtain⟨MH,h⟩:=tI h
     obtain⟨t,ht,hu⟩:=Option.bind_eq_some_iff.1 hu
     refine dR (s:=Builtin.copy_ c.argTypes o.type (c.args.map a.eval)) ?_ (exec _ gj _ fun _=>rfl) hn
     rw[gi,tM]
     exact vAd ok hM ht hu (by simpa using MH) MG ig h
    ·exact h.elim
   ·split at h
    case h_2=>exact h.elim
    rename_i id lo n hx
    have h1:∃rx,(c.args.toList.map a.eval).toArray=#[rx]∧zQ M (.osl id (some (lo,n))) rx:=by
     rw[hx] at bT
     match hl:c.args.toList.map a.eval,bT with
     |[rx],hh=>exact⟨rx,rfl,hh.1⟩
    obtain⟨rx,tM,ig⟩:=h1
    split at h
    ·rename_i t ht
     refine dR (s:=Builtin.clear_ c.argTypes o.type (c.args.map a.eval)) ?_ (exec _ gj _ fun _=>rfl) hn
     rw[gi,tM]
     obtain⟨rv,w',M',q1,q2⟩:=vB5 (T:=o.type) ok hM ig h
     refine⟨rv,w',M',?_,q2⟩
     have e:(Builtin.clear_ c.argTypes o.type #[rx]).run E.P w=(Builtin.clear_ #[t] o.type #[rx]).run E.P w:=by
      simp only[Builtin.clear_,ht]
      rfl
     rw[e];exact q1
    ·exact h.elim
   ·refine dR (s:=Builtin.max_ c.argTypes o.type (c.args.map a.eval)) ?_ (exec _ gj _ fun _=>rfl) hn
    rw[gi]
    exact WV (lt:=false) (ts:=c.argTypes) (T:=o.type) ok hM bT h
   ·refine dR (s:=Builtin.min_ c.argTypes o.type (c.args.map a.eval)) ?_ (exec _ gj _ fun _=>rfl) hn
    rw[gi]
    exact WV (lt:=true) (ts:=c.argTypes) (T:=o.type) ok hM bT h
   ·exact h.elim
  ·rename_i f gj
   split at h
   ·rename_i MI cap hf
    have W6:=aF f
    rw[hf] at W6
    obtain⟨cv,ie,C6⟩:=W6
    have aU:zI (zN M) (c.args.toList.map ev++cap.map fun id=>.c (.ptr id 0)) (c.args.map a.eval++cv).toList:=by
     rw[Array.toList_append,Array.toList_map]
     exact bT.append (zI.map_left C6)
    have xA:(execOp a.eval o).run E.P w=(callFunc MI (c.args.map a.eval++cv)).run E.P w:=by
     cases o
     cases ho
     show(do let d←resolve a.eval c _;invoke d.target d.args:Sem Next).run E.P w=_
     unfold resolve
     rw[gj]
     simp only[ie,Deferred.ofValue,Sem.run_bind,Sem.run_pure,Result.andThen_ok,invoke,Array.empty_append]
    rcases hE.sums k _ MI _ M.h v u h M w _ rfl hM ok aU with⟨h1,h2⟩|⟨rv,w',M',h1,hB,hv⟩
    case inr=>
     unfold Oper.wp
     rw[xA,h1]
     exact hn M' w' rv hB hv
    unfold Oper.wp
    rw[xA,h1,Oper.upon_enter]
    refine Calls.mono h2 fun e w' he=>?_
    cases e with
    |returned rv=>
     obtain⟨M',hB,hv⟩:=he
     exact hn M' w' rv hB hv
    |panicked _=>exact he.elim
    |outgrown=>exact he.elim
   ·exact h.elim
  ·exact h.elim
 ·exact h.elim
section
variable {P:Program} {h h':Hp}
theorem yXd {t a}(hh:∀id∈yC a,h id=h' id):wx P h t a=wx P h' t a:=by
 unfold wx
 cases a with
 |c v=>cases v<;>first|rfl|(have:=hh _ (List.mem_singleton.2 rfl);simp_all)
 |_=>rfl
theorem W7 {v}(hh:∀id∈yT v,h id=h' id):kK h v=kK h' v:=by
 unfold kK
 cases v<;>first|rfl|(have:=hh _ (List.mem_singleton.2 rfl);simp_all)
theorem MJ:∀{vs},(∀id∈vs.flatMap yT,h id=h' id)→j6 h vs=j6 h' vs
 |[],_=>rfl
 |v::vs,hh=>by
  simp  at hh
  unfold j6
  rw[W7 fun id hi=>hh id (.inl hi),MJ (by grind)]
theorem W8 {v vs}(e:kI v=some vs):vs.flatMap yT=yC v:=by
 unfold kI at e
 split at e
 ·cases e;simp[yC]
 ·cases e;rfl
 ·cases e
theorem yYk {t a v}(ha:∀id∈yC a,h id=h' id)(hv:∀id∈yC v,h id=h' id):wy P h t a v=wy P h' t a v:=by
 unfold wy
 cases e:kI v with
 |none=>rfl
 |some vs=>
  have hf:j6 h vs=j6 h' vs:=MJ (by rw[W8 e];exact hv)
  cases a with
  |c x=>
   cases x with
   |mptr id i=>
    have h1:=ha _ (List.mem_singleton.2 rfl)
    simp only[h1]
    generalize h' id=ob
    rcases ob with _|(_|_|_|_|_|_|_)<;>first|rfl|skip
    all_goals cases v with
    |c y=>cases y with
     |osl jd r=>cases r with
      |none=>
       have h2:=hv _ (List.mem_singleton.2 rfl)
       simp_all
      |some _=>rfl
     |_=>rfl
    |_=>rfl
   |ptr id off=>
    have h1:=ha _ (List.mem_singleton.2 rfl)
    simp_all
   |eptr id i off=>
    have h1:=ha _ (List.mem_singleton.2 rfl)
    simp_all
   |meptr id i j ver=>
    have h1:=ha _ (List.mem_singleton.2 rfl)
    simp[h1]
   |_=>rfl
  |_=>rfl
theorem Hi {v}(hh:∀id∈yT v,h id=h' id):fV h v=fV h' v:=by
 unfold fV
 cases v<;>first|rfl|(have:=hh _ (List.mem_singleton.2 rfl);simp_all)
theorem vDs {v}(hh:∀id∈yT v,h id=h' id):wu h v=wu h' v:=by
 have e:=Hi hh
 unfold wu
 grind
theorem vHm {t x i}(hh:∀id∈yC x,h id=h' id):wz P h t x i=wz P h' t x i:=by
 unfold wz
 generalize P.underlying t=d
 rcases d with _|d
 ·rfl
 ·cases d with
  |slice e=>
   cases x with
   |c v=>
    cases i with
    |c iv=>
     cases iv with
     |int k n=>cases v<;>first|rfl|(have:=hh _ (List.mem_singleton.2 rfl);simp_all)
     |_=>cases v<;>rfl
    |_=>rfl
   |_=>rfl
  |array n e=>
   grind
  |_=>rfl
theorem vCz {nm t}(h0:h nm=h' nm):w8 P nm h t=w8 P nm h' t:=by
 unfold w8
 rw[h0]
theorem vAu {t x i}(hh:∀id∈yC x,h id=h' id):w9 P h t x i=w9 P h' t x i:=by
 unfold w9
 split
 ·rename_i id n
  rw[hh id (by simp[yC,yT])]
 ·rfl
theorem ySr {t x i y}(hh:∀id∈yC x,h id=h' id):xa P h t x i y=xa P h' t x i y:=by
 unfold xa
 split
 ·rename_i id n b
  rw[hh id (by simp[yC,yT])]
 ·rfl
theorem yNk {t x lo hi mx}(hh:∀id∈yC x,h id=h' id):xc P h t x lo hi mx=xc P h' t x lo hi mx:=by
 unfold xc
 split
 ·rfl
 ·rename_i id r _
  rw[hh id (by simp[yC,yT])]
 ·rename_i id _
  rw[hh id (by simp[yC,yT])]
 ·rename_i id off _
  rw[hh id (by simp[yC,yT])]
 ·rfl
theorem yZd {v}(hh:∀id∈yC v,h id=h' id):tj h v=tj h' v:=by
 unfold tj
 cases v with
 |c v=>cases v with
  |osl jd r=>cases r with
   |none=>
    have h2:=hh _ (List.mem_singleton.2 rfl)
    simp_all
   |some _=>rfl
  |_=>rfl
 |_=>rfl
theorem W9:∀{parts rows},(∀id∈(parts.map (·.2)).flatMap yC,h id=h' id)→tl h rows parts=tl h' rows parts
 |[],_,_=>rfl
 |(i,v)::rest,rows,hh=>by
  simp only[List.map_cons,List.flatMap_cons,List.mem_append] at hh
  unfold tl
  rw[yZd fun id hi=>hh id (.inl hi)]
  cases tj h' v with
  |none=>rfl
  |some p=>simp[W9 fun id hi=>hh id (.inr hi)]
theorem Xa {t}:∀{parts xs},(∀id∈(parts.map (·.2)).flatMap yC,h id=h' id)→mK h t xs parts=mK h' t xs parts
 |[],_,_=>rfl
 |(i,v)::rest,xs,hh=>by
  simp only[List.map_cons,List.flatMap_cons,List.mem_append] at hh
  unfold mK
  cases e:kI v with
  |none=>rfl
  |some vs=>
   have hf:j6 h vs=j6 h' vs:=MJ (by rw[W8 e];simp_all)
   simp[hf]
   cases j6 h' vs with
   |none=>rfl
   |some p=>
    dsimp only
    cases Cl t p.1 with
    |none=>rfl
    |some x=>simp[Xa fun id hi=>hh id (.inr hi)]
theorem yTr {mat nm t n parts}(h0:h nm=h' nm)(hh:∀id∈(parts.map (·.2)).flatMap yC,h id=h' id):
  w6 P mat nm h t n parts=w6 P mat nm h' t n parts:=by
 have e':∀ty:Ty,mK h ty (List.replicate n ty.dflt) parts=mK h' ty (List.replicate n ty.dflt) parts:=fun ty=>Xa hh
 unfold w6
 rw[h0,W9 hh]
 simp_all
theorem yNu {mat nm t l c}(h0:h nm=h' nm):w7 P mat nm h t l c=w7 P mat nm h' t l c:=by
 unfold w7
 rw[h0]
theorem yX0 {t v}(hh:∀id∈yT v,h id=h' id):om h t v=om h' t v:=by
 unfold om
 cases v with
 |osl id r=>
  have:=hh _ (List.mem_singleton.2 rfl)
  simp_all
 |_=>rfl
theorem vBi {mat:Bool}{nm:Nat}{t:TypeId}{b x:zO}(h0:h nm=h' nm)(hb:∀id∈yC b,h id=h' id)(hx:∀id∈yC x,h id=h' id):xd P mat nm h t b x=xd P mat nm h' t b x:=by
 unfold xd
 rw[h0]
 generalize P.underlying t=d
 rcases d with _|d
 ·rfl
 cases d with
 |slice e=>
  generalize h' nm=on
  cases on with
  |some _=>rfl
  |none=>
   cases b with
   |c b=>
    cases x with
    |c x=>
     have ht:∀ty,om h ty x=om h' ty x:=fun ty=>yX0 hx
     simp only[ht]
     cases b with
     |osl id r=>
      have h1:=hb _ (List.mem_singleton.2 rfl)
      simp only[h1]
      cases x with
      |osl jd r2=>
       have h2:=hx _ (List.mem_singleton.2 rfl)
       grind
      |_=>cases mat with
       |false=>rfl
       |true=>
        generalize fU P e=et
        rcases et with _|(_|_|_|_)<;>first|rfl|skip
        rename_i t2
        cases t2<;>first|rfl|skip
        rename_i k
        cases k<;>cases r<;>rfl
     |_=>cases mat with
      |false=>rfl
      |true=>
       generalize fU P e=et
       rcases et with _|(_|_|_|_)<;>first|rfl|skip
       rename_i t2
       cases t2<;>first|rfl|skip
       rename_i k
       cases k<;>rfl
    |_=>rfl
   |_=>rfl
 |_=>rfl
theorem vB0 {d s}(hd:∀id∈yC d,h id=h' id)(hs:∀id∈yC s,h id=h' id):xe h d s=xe h' d s:=by
 unfold xe
 cases d with
 |c d=>
  cases s with
  |c s=>
   cases d with
   |bsl id off n=>
    have h1:=hd _ (List.mem_singleton.2 rfl)
    have h2:fV h s=fV h' s:=Hi hs
    grind
   |_=>rfl
  |_=>simp
 |_=>rfl
end
theorem yZl {E}{A}{k pre}{o}{ev oO}{h}(he:∀x∈o.op.operands,ev x=oO x):gJ E A k pre o ev h=gJ E A k pre o oO h:=by
 obtain⟨dst,op,type,pos,after,guard⟩:=o
 have ek:∀ps:Array (Nat×Operand),(∀x∈ps.map (·.2),ev x=oO x)→(ps.toList.map fun p=>(p.1,ev p.2))=(ps.toList.map fun p=>(p.1,oO p.2)):=fun ps hp=>
  List.map_congr_left (by grind)
 have maps:∀xs:Array Operand,(∀x∈xs,ev x=oO x)→xs.toList.map ev=xs.toList.map oO:=by simp
 cases op<;>simp only[Op.operands] at he<;>simp only[gJ]
 case build t ps=>rw[ek ps fun x hx=>he x (by simpa using hx)]
 case buildSlice t n ps=>rw[ek ps fun x hx=>he x (by simpa using hx)]
 case makeFunc fn first captured=>
  cases fn<;>first|rfl|skip
  have:captured.toList.mapM (fun x=>qh (ev x))=captured.toList.mapM (fun x=>qh (oO x)):=by
   have h2:∀l:List Operand,(∀x∈l,ev x=oO x)→l.mapM (fun x=>qh (ev x))=l.mapM (fun x=>qh (oO x)):=fun l=>by
    induction l with
    |nil=>exact fun _=>rfl
    |cons y l ih=>simp_all
   exact by grind
  simp only[this]
 case call c=>
  obtain⟨callee,args,Xb⟩:=c
  have ha:=maps args fun x hx=>he x (by simp[Call.operands,hx])
  cases callee with
  |value f=>
   have hf:=he f (by simp[Call.operands])
   simp only[hf,ha]
  |builtin b=>simp only[ha]
  |invoke _ _=>rfl
 case makeMap t r=>cases r<;>rfl
 case lookup t x i ok=>cases ok<;>simp_all
 case slice t x lo hi mx=>
  have h1:=he x (by simp)
  cases lo<;>cases hi<;>cases mx<;>simp_all
 all_goals (first|rfl|(simp only[he _ (by simp:_∈#[_])];done)|(simp_all;done))
def fF (S:Gv):Prop:=∀k nm f (args:List zO) h h',(args.any vW=false→∀id,(id∈args.flatMap yC∨j8 nm id=true)→h id=h' id)→(args.any vW=true→h=h')→S k nm f args h=S k nm f args h'
theorem yS4 nm:j8 nm nm=true:=by
 simp[j8]
theorem yVn {E}(hS:fF E.sums){A k pre o ev h h'}
  (hh:match mM ev o with|none=>h=h'|some l=>∀id,(id∈l∨j8 (mL pre o.dst) id=true)→h id=h' id):gJ E A k pre o ev h=gJ E A k pre o ev h':=by
 have full:h=h'→gJ E A k pre o ev h=gJ E A k pre o ev h':=fun e=>by rw[e]
 unfold mM at hh
 dsimp only at hh
 cases hq:VM o.op with
 |true=>
  obtain⟨dst,op,type,pos,after,guard⟩:=o
  cases op<;>first|rfl|cases hq
 |false=>
 rw[hq] at hh
 simp only[cond_false] at hh
 cases hc:(Lr o.op&&(o.op.operands.toList.map ev).any vW) with
 |true=>rw[hc] at hh;exact full hh
 |false=>
  rw[hc] at hh
  replace hh:∀id,(id∈(o.op.operands.toList.map ev).flatMap yC∨j8 (mL pre o.dst) id=true)→h id=h' id:=hh
  have h0:h (mL pre o.dst)=h' (mL pre o.dst):=hh _ (.inr (yS4 _))
  have hx:∀x∈o.op.operands,∀id∈yC (ev x),h id=h' id:=by grind
  obtain⟨dst,op,type,pos,after,guard⟩:=o
  dsimp only at h0 hx hc
  cases op<;>simp only[Op.operands] at hx<;>simp only[gJ]
  case alloc t=>rw[h0]
  case box t x=>rw[h0]
  case buildSlice t n ps=>
   exact yTr h0 (by grind)
  case load t x=>exact yXd (hx x (by simp))
  case store t x y=>exact yYk (hx x (by simp)) (hx y (by simp))
  case makeSlice t l c=>exact yNu h0
  case slice t x lo hi mx=>exact yNk (hx x (by simp))
  case makeMap t r=>cases r<;>first|rfl|exact vCz h0
  case lookup t x i ok=>cases ok<;>first|rfl|exact vAu (hx x (by simp))
  case mapUpdate t x i y=>exact ySr (hx x (by simp))
  case indexAddr t x i=>exact vHm (hx x (by simp))
  case convert s d x=>
   have hx:=hx x (by simp)
   have hs:∀v,ev x=.c v→wq h v=wq h' v:=fun v e=>by
    have:=Hi (h:=h) (h':=h') (v:=v) fun id ab=>hx id (by rw[e];exact ab)
    unfold wq
    cases v<;>first|rfl|simp only[this]
   split
   ·rfl
   ·rename_i e c _ _ hc
    rw[hs c hc]
   ·rfl
  case call c=>
   obtain⟨callee,args,Xb⟩:=c
   have ha:∀v∈args.toList.map ev,∀id∈yC v,h id=h' id:=fun v hv=>by
    obtain⟨x,tN,rfl⟩:=List.mem_map.1 hv
    exact hx x (by simp at tN;simp[Call.operands,tN])
   cases callee with
   |value f=>
    dsimp only
    cases hf:ev f with
    |c fv=>cases fv with
     |fn MI cap=>
      dsimp only
      simp only[Lr,Bool.true_and] at hc
      have eZ:cap=[]:=by
       have hm:ev f∈(Op.call ⟨.value f,args,Xb⟩).operands.toList.map ev:=List.mem_map_of_mem (by simp[Op.operands,Call.operands])
       have:=List.any_eq_false.1 hc _ hm
       rw[hf] at this
       simpa[vW] using this
      subst eZ
      simp only[List.map_nil,List.append_nil]
      have hb:(args.toList.map ev).any vW=false:=by
       refine List.any_eq_false.2 fun v hv=>?_
       obtain⟨x,tN,rfl⟩:=List.mem_map.1 hv
       exact List.any_eq_false.1 hc _ (List.mem_map_of_mem (by simp at tN;simp[Op.operands,Call.operands,tN]))
      refine hS _ _ _ _ _ _ (fun _ id ab=>?_) fun ht=>?_
      ·rcases ab with ab|ab
       ·obtain⟨v,hv,ab⟩:=List.mem_flatMap.1 ab
        exact ha v hv id ab
       ·exact hh id (.inr ab)
      ·rw[hb] at ht;cases ht
     |_=>rfl
    |_=>rfl
   |invoke _ _=>rfl
   |builtin b=>
    generalize hl:args.toList.map ev=l at ha
    unfold Lq
    cases b<;>first|rfl|skip
    case len=>
     match l,ha with
     |[],_=>rfl
     |[v],ha=>cases v with
      |c v=>
       have:=vDs (ha (.c v) (by simp))
       simp only[this]
      |_=>rfl
     |v::_::_,_=>cases v<;>rfl
    case append=>
     match l,ha with
     |[],_|[_],_|_::_::_::_,_=>rfl
     |[b,x],ha=>
      have:=fun mat t=>vBi (P:=E.P) (mat:=mat) (t:=t) h0 (ha b (by simp)) (ha x (by simp))
      simp only[this]
    case clear=>
     match l,ha with
     |[],_=>rfl
     |[v],ha=>cases v with
      |c v=>cases v with
       |osl id r=>cases r with
        |none=>rfl
        |some p=>
         have e:=ha (.c (.osl id (some p))) (by simp) id (by simp[yC,yT])
         dsimp only
         split
         ·unfold Gt;rw[e]
         ·rfl
       |_=>rfl
      |_=>rfl
     |v::_::_,_=>cases v with
      |c v=>cases v with
       |osl id r=>cases r<;>rfl
       |_=>rfl
      |_=>rfl
    case copy=>
     match l,ha with
     |[],_|[_],_|_::_::_::_,_=>rfl
     |[b,x],ha=>
      have:=vB0 (ha b (by simp)) (ha x (by simp))
      simp only[this]
  case makeFunc fn first captured=>cases fn<;>rfl
  all_goals rfl
end Go.Ab
set_option linter.unusedSectionVars false
namespace Go.Ab
structure fG (M M':zG):Prop where
 F:∀b,M.F b→M'.F b
 G:∀b,M.G b→M'.G b
 same:∀b,M.F b→M'.H[b]? =M.H[b]?
 sameG:∀b,M.G b→M'.H[b]? =M.H[b]?
 bsz:∀b,b<M.H.size→qN M'.H b=qN M.H b
 size:M.H.size≤M'.H.size
 frame:∀b,b<M.H.size→¬qF M b→M'.H[b]? =M.H[b]?
 own:∀b,qF M' b→b<M.H.size→qF M b
 Gb:∀b,M'.G b→b<M.H.size→M.G b∨qF M b
 Fb:∀b,M'.F b→b<M.H.size→M.F b∨qF M b
theorem yL.grow {M M'}(s:yL M M'):fG M M':=⟨s.ext.F,s.ext.G,s.ext.same,s.ext.sameG,s.ext.bsz,s.size,s.frame,s.own,s.Gb,s.Fb⟩
theorem fG.trans {M M' iU}(x:fG M M')(y:fG M' iU):fG M iU where
 F b h:=y.F b (x.F b h)
 G b h:=y.G b (x.G b h)
 same b h:=(y.same b (x.F b h)).trans (x.same b h)
 sameG b h:=(y.sameG b (x.G b h)).trans (x.sameG b h)
 bsz b h:=(y.bsz b (by have:=x.size;omega)).trans (x.bsz b h)
 size:=Nat.le_trans x.size y.size
 frame b h hn:=by
  have:=x.size
  rw[y.frame b (by omega) fun ho=>hn (x.own b ho h),x.frame b h hn]
 own b ho h:=x.own b (y.own b ho (by have:=x.size;omega)) h
 Gb b hg h:=by
  rcases y.Gb b hg (by have:=x.size;omega) with k|k
  ·exact x.Gb b k h
  ·exact .inr (x.own b k h)
 Fb b hg h:=by
  rcases y.Fb b hg (by have:=x.size;omega) with k|k
  ·exact x.Fb b k h
  ·exact .inr (x.own b k h)
def ik (M M':zG):Prop:=∀id C,M.κ id=some C→∃C',M'.κ id=some C'∧C'.blk=C.blk
structure oP (nl:Bool) (M M':zG):Prop where
 g:fG M M'
 k:nl=true→ik M M'
theorem oP.step {nl M M' iU}(x:oP nl M M')(s:yL M' iU):oP nl M iU:=
 ⟨x.g.trans s.grow,fun h id C hC=>by
  obtain⟨C1,h1,e1⟩:=x.k h id C hC
  obtain⟨C2,h2,le⟩:=s.ext.κ id C1 h1
  exact⟨C2,h2,le.blk.trans e1⟩⟩
theorem oP.trans {M M' iU}(x:oP false M M')(y:fG M' iU):oP false M iU:=⟨x.g.trans y,by simp⟩
structure vA (nl:Bool) (na nt:Nat) (a0:Nat→Value) (M0:zG) (w0:World) (st:St) (a:Act) (w:World):Prop where
 ex:∃M:zG,M.h=st.h∧M.H=w.heap∧Ok M∧oP nl M0 M∧∀t,zN M (st.t t) (a.tmps.getD t undef)
 defers:a.defers=[]
 size:a.tmps.size=nt
 os:w.os=w0.os
 tape:w.tape=w0.tape
 output:w.output=w0.output
 keep:∀t,t<na→a.tmps.getD t undef=a0 t
theorem Xc {M}{st:St}{a:Act}(h:∀t,zN M (st.t t) (a.tmps.getD t undef)) x:zN M (st.ev x) (a.eval x):=by
 cases x with
 |tmp t=>exact h t
 |const v=>exact yNl M v
 |global g=>trivial
 |func f=>exact⟨#[],rfl,trivial⟩
theorem MK {t s v}(h:t s=v):wT t s v=t:=by
 funext n
 unfold wT
 cases e:Nat.beq n s with
 |false=>rfl
 |true=>
  simp_all
def xM (ops:Array Oper)(o:Oper)(st:St):Option Bool:=match o.guard with
 |none=>some true
 |some (j,want)=>match GB ops j with
  |none=>none
  |some s=>match st.t s with
   |.c (.bool b)=>some (b==want)
   |.skp=>some false
   |_=>none
theorem Xd {R ops o st yes no}{out:R}(h:GC ops o st yes no=some out):
  ∃b,xM ops o st=some b∧(if b=true then yes st else no st)=some out:=by
 unfold GC at h
 unfold xM
 cases hg:o.guard with
 |none=>simp_all
 |some p=>
  obtain⟨j,want⟩:=p
  rw[hg] at h
  dsimp only at h⊢
  cases hs:GB ops j with
  |none=>simp_all
  |some s=>
   rw[hs] at h
   dsimp only at h⊢
   split at h
   ·rename_i b hb
    rw[hb]
    refine⟨b==want,rfl,?_⟩
    cases b with
    |true=>
     simp[MK hb] at h
     cases want<;>exact h
    |false=>
     simp[MK hb] at h
     cases want<;>exact h
   all_goals simp_all
theorem getD_some {a:Array Value}{s v}(h:a.getD s undef=v)(hv:v≠undef):a[s]? =some v:=by
 by_cases hs:s<a.size
 all_goals simp_all
theorem Xe {ops o st b nl na nt a0 M0 w0 w a}(h:xM ops o st=some b)(R:vA nl na nt a0 M0 w0 st a w):Region.wanted o (yielded ops a.tmps)=b:=by
 obtain⟨M,_,_,_,_,ht⟩:=R.ex
 unfold xM at h
 unfold Region.wanted
 split at h
 ·simp_all
 ·rename_i j want hg
  rw[hg]
  split at h
  ·cases h
  ·rename_i s hs
   have hv:=ht s
   have xN:(ops[j]?).bind (·.dst)=some s:=hs
   split at h
   ·rename_i b' hb
    cases h
    rw[hb] at hv
    have:=getD_some hv (by nofun)
    simp only[yielded,xN,Option.bind_some,this]
    rfl
   ·rename_i hb
    cases h
    rw[hb] at hv
    have hv:a.tmps.getD s undef=undef:=hv
    have:∀x:Option Value,(x=none∨x=some undef)→((match x with|some (.bool b)=>some b|_=>none:Option Bool)==some want)=false:=fun x hx=>by
     rcases hx with rfl|rfl<;>cases want<;>rfl
    refine this _ ?_
    by_cases aT:s<a.tmps.size
    all_goals simp_all
   ·cases h
theorem oM.rel {nl na nt a0 M0 M M' w0 w w' st a dst v u rv}(R:vA nl na nt a0 M0 w0 st a w)(hh:M.h=st.h)(hs:oP nl M0 M)(ht:∀t,zN M (st.t t) (a.tmps.getD t undef))
  (hd:∀d,dst=some d→na≤d∧d<nt) (hB:oM M w u M' w') (hv:zN M' v rv):vA nl na nt a0 M0 w0 {t:=fy st.t dst v,h:=qA st.h u} (a.put dst rv) w' where
 ex:=by
  refine⟨M',by rw[hB.h,hh],hB.H,hB.ok,hs.step hB.step,fun t=>?_⟩
  cases dst with
  |none=>exact(ht t).ext hB.step.ext
  |some d=>
   show zN M' (wT st.t d v t) ((a.tmps.setIfInBounds d rv).getD t undef)
   have aT:d<a.tmps.size:=by rw[R.size];simp_all
   unfold wT
   cases e:Nat.beq t d with
   |true=>
    simp_all
   |false=>
    have e:t≠d:=fun e'=>by simp_all
    have:=(ht t).ext hB.step.ext
    simp[Array.getElem?_setIfInBounds_ne (Ne.symm e)] at this⊢
    exact this
 defers:=by cases dst<;>exact R.defers
 size:=by cases dst<;>simp[Act.put,R.size]
 os:=hB.os.trans R.os
 tape:=hB.tape.trans R.tape
 output:=hB.output.trans R.output
 keep t h:=by
  cases dst with
  |none=>exact R.keep t h
  |some d=>
   have aV:d≠t:=by grind
   rw[←R.keep t h]
   simp[Act.put,Array.getElem?_setIfInBounds_ne aV]
theorem vA.skip {nl na nt a0 M0 w0 w st a dst}(hd:∀d,dst=some d→na≤d)(R:vA nl na nt a0 M0 w0 st a w):vA nl na nt a0 M0 w0 {st with t:=fy st.t dst .skp} (a.put dst undef) w where
 ex:=by
  obtain⟨M,h1,h2,h3,h4,ht⟩:=R.ex
  refine⟨M,h1,h2,h3,h4,fun t=>?_⟩
  cases dst with
  |none=>exact ht t
  |some d=>
   show zN M (wT st.t d .skp t) ((a.tmps.setIfInBounds d undef).getD t undef)
   unfold wT
   cases e:Nat.beq t d with
   |true=>
    have e:t=d:=by simp_all
    subst e
    show(a.tmps.setIfInBounds t undef).getD t undef=undef
    simp
   |false=>
    have e:t≠d:=fun e'=>by simp_all
    have:=ht t
    simp[Array.getElem?_setIfInBounds_ne (Ne.symm e)] at this⊢
    exact this
 defers:=by cases dst<;>exact R.defers
 size:=by cases dst<;>simp[Act.put,R.size]
 os:=R.os
 tape:=R.tape
 output:=R.output
 keep t h:=by
  cases dst with
  |none=>exact R.keep t h
  |some d=>
   have aV:d≠t:=by grind
   rw[←R.keep t h]
   simp[Act.put,Array.getElem?_setIfInBounds_ne aV]
section
variable {E:Env} {A:qB} {nl:Bool} {k pre na nt:Nat} {a0:Nat→Value} {R:Type} {M0:zG} {w0:World} {Q:Exit→Act→World→Prop}
theorem vA.op (hE:dB E){st a w}{o:Oper}{v u next}(r:vA nl na nt a0 M0 w0 st a w)(hd:∀d,o.dst=some d→na≤d∧d<nt)(hy:qX (gJ E A k pre o st.ev st.h) v u)
  (hn:∀a' w',vA nl na nt a0 M0 w0 {t:=fy st.t o.dst v,h:=qA st.h u} a' w'→next a' w'):o.wp E.P a w next Q:=by
 obtain⟨M,h1,h2,h3,h4,ht⟩:=r.ex
 rw[←h1] at hy
 exact vFp hE h3 h2 (Xc ht) hy fun M' w' rv hB hv=>hn _ _ (hB.rel r h1 h4 ht hd hv)
theorem ML (hE:dB E){dst}(h:qi na nt dst=true):∀d,dst=some d→na≤d∧d<nt:=fun d hd=>by
 simp[qi] at h
 simp_all
theorem Xf (hE:dB E){o st K}{out:R}(h:GA E A k pre na nt o st K=some out):
  (∀d,o.dst=some d→na≤d∧d<nt)∧∃v u,qX (gJ E A k pre o st.ev st.h) v u∧K v u {t:=fy st.t o.dst v,h:=qA st.h u}=some out:=by
 unfold GA at h
 cases hc:qi na nt o.dst with
 |false=>simp_all
 |true=>
  rw[hc] at h
  exact⟨ML hE hc,yG.elim_some h⟩
theorem Xg (hE:dB E){ops}:∀l st K (out:R) a w,(∀p∈l,ops[p.1]? =some p.2)→GD E A k pre na nt ops l st K=some out→vA nl na nt a0 M0 w0 st a w→
  (∀bx a' w',vA nl na nt a0 M0 w0 bx a' w'→K bx=some out→Q .normal a' w')→wpOps E.P ops Q (l.map (·.1)) a w
 |[],st,K,out,a,w,_,h,r,hK=>hK st a w r h
 |(i,o)::rest,st,K,out,a,w,hl,h,r,hK=>by
  have ho:ops[i]? =some o:=hl (i,o) (by simp)
  have ih:=fun st K out a w=>Xg hE rest st K out a w fun p hp=>hl p (by grind)
  obtain⟨b,hb,h⟩:=Xd h
  have hw:=Xe hb r
  simp[wpOps,ho]
  cases b with
  |true=>
   rw[if_pos rfl] at h
   rw[if_pos hw]
   obtain⟨hd,v,u,hy,h⟩:=Xf hE h
   exact .inl (vA.op hE r hd hy (by grind))
  |false=>
   rw[if_neg (by simp[hw])]
   cases hc:qi na nt o.dst with
   |false=>simp_all
   |true=>
    rw[hc] at h
    exact ih _ _ _ _ _ h (r.skip fun d hd=>(ML hE hc d hd).1) hK
end
def xO (o:Oper)(acc:Array Nat):Nat:=o.after.foldl (fun s e=>if Region.binds .any e then s|||2^e.on|||acc.getD e.on 0 else s) 0
theorem Xh (acc:Array Nat) i:∀(l:List Edge) s,(l.foldl (fun s e=>if Region.binds .any e then s|||2^e.on|||acc.getD e.on 0 else s) s).testBit i=true→
  s.testBit i=true∨∃e∈l,Region.binds .any e=true∧(e.on=i∨(acc.getD e.on 0).testBit i=true)
 |[],s,h=>.inl h
 |e::l,s,h=>by
  rcases Xh acc i l _ h with h|⟨e',he,h⟩
  all_goals grind
def C7 (ops:Array Oper)(acc:Array Nat):Prop:=∀j,j<acc.size→∀i,(acc.getD j 0).testBit i=true→∃o,ops[j]? =some o∧∃e∈o.after.toList,Region.binds .any e=true∧(e.on=i∨(e.on<j∧(acc.getD e.on 0).testBit i=true))
theorem vEy {ops acc o}(h:C7 ops acc)(ho:ops[acc.size]? =some o):C7 ops (acc.push (xO o acc)):=by
 have old:∀j,j<acc.size→(acc.push (xO o acc)).getD j 0=acc.getD j 0:=fun j hj=>by
  simp[Array.getElem?_push,Nat.ne_of_lt hj]
 intro j hj i hb
 simp  at hj
 by_cases aT:j<acc.size
 ·rw[old j aT] at hb
  obtain⟨o',h1,e,h2,h3,h4⟩:=h j aT i hb
  grind
 ·have e:j=acc.size:=by omega
  subst e
  rw[show(acc.push (xO o acc)).getD acc.size 0=xO o acc by simp] at hb
  unfold xO at hb
  rw[←Array.foldl_toList] at hb
  rcases Xh acc i _ _ hb with hb|⟨e,h2,h3,h4⟩
  all_goals grind
theorem yXu ops:C7 ops (Region.before ops):=by
 have key:∀(l:List Oper) (acc:Array Nat),C7 ops acc→(∀m (hm:m<l.length),ops[acc.size+m]? =some l[m])→
   C7 ops (l.foldl (fun acc o=>acc.push (xO o acc)) acc):=by
  intro l
  induction l with
  |nil=>simp
  |cons o l ih=>
   intro acc h ho
   refine ih _ (vEy h (ho 0 (by simp))) fun m hm=>?_
   have:=ho (m+1) (by simp;omega)
   grind
 have:=key ops.toList #[] (nofun) (by simp)
 unfold Region.before
 rw[←Array.foldl_toList]
 exact this
theorem Xi {ops i j}(h:ka (Region.before ops) i j=true):∃o,ops[j]? =some o∧∃e∈o.after.toList,Region.binds .any e=true∧(e.on=i∨(e.on<j∧ka (Region.before ops) i e.on=true)):=by
 unfold ka at h
 by_cases hj:j<(Region.before ops).size
 ·exact yXu ops j hj i h
 simp_all
def C8 (ops:Array Oper)(S:Nat→Bool):Prop:=∀j o,S j=true→ops[j]? =some o→∀e∈o.after.toList,Region.binds .any e=true→S e.on=true
theorem Xj {ops S}(hS:C8 ops S){i}:∀n j,j=n→ka (Region.before ops) i j=true→S j=true→S i=true:=by
 intro n
 induction n using Nat.strongRecOn with
 |_ n ih=>
  intro j hj h hs
  obtain⟨o,ho,e,he,hb,h⟩:=Xi h
  have Xk:=hS j o hs ho e he hb
  grind
theorem yQi {ops S}(hS:C8 ops S){i j}(h:ka (Region.before ops) i j=true)(hr:∀o,ops[j]? =some o→∀e∈o.after.toList,Region.binds .any e=true→S e.on=true):S i=true:=by
 obtain⟨o,ho,e,he,hb,h⟩:=Xi h
 have Xk:=hr o ho e he hb
 rcases h with h|⟨h,hi⟩
 ·simp_all
 ·exact Xj hS _ _ rfl hi Xk
structure It where
 i:Nat
 o:Oper
 v:zO
 u:yO
 r:Option (List Nat)
 wt:Bool
def It.dn (pre:Nat)(it:It):xg:=⟨it.i,mL pre it.o.dst,jH it.u,it.r⟩
def vI (st:St)(it:It):St:={t:=fy st.t it.o.dst it.v,h:=qA st.h it.u}
section
variable (E:Env) (A:qB) (k pre na nt:Nat) (ops:Array Oper)
structure gk (st:St) (it:It):Prop where
 w:xM ops it.o st=some it.wt
 y:it.wt=true→(∀d,it.o.dst=some d→na≤d∧d<nt)∧qX (gJ E A k pre it.o st.ev st.h) it.v it.u∧it.r=mM st.ev it.o
 n:it.wt=false→it.v=.skp∧it.u=[]∧∀d,it.o.dst=some d→na≤d∧d<nt
def MM (b:Array Nat)(x y:It):Prop:=ka b x.i y.i=true∨(ow ops x.i y.i=true∧(x.wt=true→y.wt=true→ou (x.dn pre) (y.dn pre)=false))
end
section
variable {E:Env} {A:qB} {k pre na nt:Nat} {R:Type} {ops:Array Oper} {b:Array Nat}
theorem MN (hE:dB E):∀rest done st K (out:R),xh E A k pre na nt ops b rest done st K=some out→
  ∃cH:List It,cH.map (fun it=>(it.i,it.o))=rest∧K (cH.foldl vI st)=some out∧(∀bD it post,cH=bD++it::post→gk E A k pre na nt ops (bD.foldl vI st) it)∧
   (∀d∈done,∀it∈cH,ka b d.i it.i=true∨(ow ops d.i it.i=true∧(it.wt=true→ou d (it.dn pre)=false)))∧cH.Pairwise (MM pre ops b)
 |[],done,st,K,out,h=>⟨[],rfl,h,by simp,by simp,.nil⟩
 |(i,o)::rest,done,st,K,out,h=>by
  unfold xh at h
  generalize hc:(done.all fun d=>ka b d.i i||ow ops d.i i)=c at h
  cases c with
  |false=>cases h
  |true=>
   have nh:∀d∈done,ka b d.i i=true∨ow ops d.i i=true:=by grind
   rw[cond_true] at h
   obtain⟨bw,hb,h⟩:=Xd h
   cases bw with
   |true=>
    rw[if_pos rfl] at h
    obtain⟨hd,v,u,hy,h⟩:=Xf hE h
    dsimp only at h
    generalize ca:(done.all fun d=>ka b d.i i|| !ou d ⟨i,mL pre o.dst,jH u,mM st.ev o⟩)=c2 at h
    cases c2 with
    |false=>simp_all
    |true=>
     rw[cond_true] at h
     have CK:∀d∈done,ka b d.i i=true∨ou d ⟨i,mL pre o.dst,jH u,mM st.ev o⟩=false:=by grind
     obtain⟨cH,h1,h2,h3,h4,h5⟩:=MN hE rest _ _ K out h
     let it:It:=⟨i,o,v,u,mM st.ev o,true⟩
     refine⟨it::cH,by grind,h2,fun bD C9 post e=>?_,fun d re C9 kS=>?_,?_⟩
     ·cases bD with
      |nil=>
       obtain⟨rfl,rfl⟩:=e
       exact⟨hb,by grind,by simp⟩
      |cons p bD=>
       simp only[List.cons_append,List.cons.injEq] at e
       obtain⟨rfl,e⟩:=e
       exact h3 bD C9 post e
     ·rcases List.mem_cons.1 kS with rfl|kS
      ·rcases nh d re with h|h
       ·grind
       ·rcases CK d re with h'|h'
        ·grind
        ·exact .inr ⟨h,fun _=>h'⟩
      simp_all
     ·refine List.pairwise_cons.2 ⟨fun y tO=>?_,h5⟩
      rcases h4 (it.dn pre) (List.mem_cons_self ..) y tO with h|⟨h,h'⟩
      ·exact .inl h
      ·exact .inr ⟨h,by grind⟩
   |false=>
    rw[if_neg (by simp)] at h
    have oQ:qi na nt o.dst=true:=by
     grind
    rw[oQ] at h
    rw[cond_true] at h
    obtain⟨cH,h1,h2,h3,h4,h5⟩:=MN hE rest _ _ K out h
    let it:It:=⟨i,o,.skp,[],some [],false⟩
    refine⟨it::cH,by grind,h2,fun bD C9 post e=>?_,fun d re C9 kS=>?_,?_⟩
    ·cases bD with
     |nil=>
      obtain⟨rfl,rfl⟩:=e
      exact⟨hb,by simp,fun _=>⟨rfl,rfl,ML hE oQ⟩⟩
     |cons p bD=>
      simp  at e
      obtain⟨rfl,e⟩:=e
      exact h3 bD C9 post e
    ·grind
    ·refine List.pairwise_cons.2 ⟨fun y tO=>?_,h5⟩
     rcases h4 (it.dn pre) (List.mem_cons_self ..) y tO with h|⟨h,h'⟩
     ·exact .inl h
     ·exact .inr ⟨h,by simp⟩
end
theorem Xl {t t' d v x}(h:t x=t' x):fy t d v x=fy t' d v x:=by
 cases d with
 |none=>exact h
 |some d=>
  show wT t d v x=wT t' d v x
  unfold wT
  simp_all
theorem Hj {t d v x}(h:d≠some x):fy t d v x=t x:=by
 cases d with
 |none=>rfl
 |some d=>
  show wT t d v x=_
  unfold wT
  cases e:Nat.beq x d with
  |false=>rfl
  |true=>simp_all
theorem yXl {t t' v x}:fy t (some x) v x=fy t' (some x) v x:=by
 show wT t x v x=wT t' x v x
 unfold wT
 simp
theorem yPp {t d e v u}(h:∀x,d=some x→e≠some x):fy (fy t d v) e u=fy (fy t e u) d v:=by
 funext x
 by_cases hd:d=some x
 ·subst hd
  rw[Hj (h x rfl)]
  exact yXl
 ·rw[Hj hd]
  exact Xl (Hj hd)
theorem tP {n}:∀{u h h'},h n=h' n→qA h u n=qA h' u n
 |[],_,_,e=>e
 | (id, o) :: u, h, h', e => tP (u := u) (by
   by_cases hn:n=id
   ·subst hn;rw[yA,yA]
   ·rw[yE _ _ hn,yE _ _ hn];exact e)
theorem Xm {n}:∀{u h h'},n∈jH u→qA h u n=qA h' u n
 |(id,o)::u,h,h',hm=>by
  by_cases hu:n∈jH u
  ·exact Xm (u:=u) hu
  ·have e:n=id:=by
    simp[jH] at hm hu
    simp_all
   subst e
   exact tP (u:=u) (by rw[yA,yA])
theorem vCh {u v h}(hd:∀a∈jH u,a∉jH v):qA (qA h u) v=qA (qA h v) u:=by
 funext n
 by_cases hu:n∈jH u
 ·rw[xI (hd n hu)]
  exact Xm hu
 ·rw[xI (u:=u) (h:=qA h v) hu]
  exact tP (xI hu)
theorem yLr {st x y}(hd:∀t,x.o.dst=some t→y.o.dst≠some t)(hu:∀a∈jH x.u,a∉jH y.u):vI (vI st x) y=vI (vI st y) x:=by
 unfold vI
 simp
 exact⟨yPp hd,vCh hu⟩
theorem Xn {x}:∀{l:List It} {st},(∀y∈l,(∀t,x.o.dst=some t→y.o.dst≠some t)∧∀a∈jH x.u,a∉jH y.u)→vI (l.foldl vI st) x=l.foldl vI (vI st x)
 |[],_,_=>rfl
 |y::l,st,h=>by
  rw[List.foldl_cons,List.foldl_cons,yLr (by grind) (by grind)]
  exact Xn (by grind)
theorem Hk t:∀(l:List It) st bx,st.t t=bx.t t→(l.foldl vI st).t t=((l.filter fun it=>it.o.dst==some t).foldl vI bx).t t
 |[],_,_,h=>h
 |y::l,st,bx,h=>by
  rw[List.foldl_cons,List.filter_cons]
  cases hy:y.o.dst==some t with
  |true=>
   exact Hk t l _ _ (Xl h)
  |false=>
   exact Hk t l _ _ (by
    show fy st.t y.o.dst y.v t=_
    rw[Hj (by simp_all)];exact h)
theorem Hl n:∀(l:List It) st bx,st.h n=bx.h n→(l.foldl vI st).h n=((l.filter fun it=>(jH it.u).contains n).foldl vI bx).h n
 |[],_,_,h=>h
 |y::l,st,bx,h=>by
  rw[List.foldl_cons,List.filter_cons]
  cases hy:(jH y.u).contains n with
  |true=>
   exact Hl n l _ _ (tP h)
  |false=>
   exact Hl n l _ _ (by
    show qA st.h y.u n=_
    rw[xI (by simpa[jH] using hy)];exact h)
theorem Xo {S W bD post}{it:It}(kS:S it=false)(h1:∀y∈bD,W y=true→S y=true)(h2:∀y∈post,W y=true→S y=false):((bD++it::post).filter S).filter W=bD.filter W:=by
 have e1:(bD.filter S).filter W=bD.filter W:=by
  rw[List.filter_filter]
  refine List.filter_congr fun y hy=>?_
  simp_all
 simp_all
def xP (d:xg)(a:Nat):Prop:=match d.refs with
 |none=>True
 |some l=>a∈l∨j8 d.nm a=true
theorem MO {x y}(h:ou x y=false):(∀a∈x.upd,¬xP y a)∧(∀a∈y.upd,¬xP x a)∧∀a∈x.upd,a∉y.upd:=by
 unfold ou at h
 have key:∀(d e:xg),Gz d.upd e.refs=false→d.upd.any (j8 e.nm)=false→∀a∈d.upd,¬xP e a:=by
  intro d e hm ho a ha hl
  unfold Gz at hm
  unfold xP at hl
  cases hr:e.refs with
  |none=>
   simp_all
  |some l=>
   simp_all
 refine⟨by grind,by grind,fun a ha hb=>?_⟩
 simp_all
section
variable {E:Env} {A:qB} {k pre na nt:Nat} {R:Type} {ops:Array Oper}
theorem MP {i j x y}(hi:ops[i]? =some x)(hj:ops[j]? =some y)(h:ow ops i j=true):
  (∀d,x.dst=some d→d∉y.looksAt ops)∧(∀d,x.dst=some d→y.dst≠some d)∧(∀d,y.dst=some d→d∉x.looksAt ops):=by
 unfold ow at h
 rw[hi,hj] at h
 exact Oper.apart_spec h
theorem vDw (hE:dB E)(hS:fF E.sums){S}(hC:C8 ops S){st bD post it}(dU:∀y∈bD++it::post,ops[y.i]? =some y.o)(hg:gk E A k pre na nt ops (bD.foldl vI st) it)
  (hu:∀y∈bD++it::post,y.wt=false→y.u=[]) (hp:(bD++it::post).Pairwise (MM pre ops (Region.before ops))) (kS:S it.i=false)
  (hr:∀o,ops[it.i]? =some o→∀e∈o.after.toList,Region.binds .any e=true→S e.on=true):
  gk E A k pre na nt ops (((bD++it::post).filter fun y=>S y.i).foldl vI st) it∧
   (∀y∈post,S y.i=true→(∀t,it.o.dst=some t→y.o.dst≠some t)∧∀a∈jH it.u,a∉jH y.u):=by
 have rf:ops[it.i]? =some it.o:=dU it (by simp)
 obtain⟨Hc,CX,hp3⟩:=List.pairwise_append.1 hp
 have before:∀y∈bD,S y.i=false→ow ops y.i it.i=true∧(y.wt=true→it.wt=true→ou (y.dn pre) (it.dn pre)=false):=fun y hy hs=>by
  rcases hp3 y hy it (by simp) with h|h
  ·rw[yQi hC h hr] at hs;cases hs
  ·exact h
 have behind:∀y∈post,S y.i=true→ow ops it.i y.i=true∧(it.wt=true→y.wt=true→ou (it.dn pre) (y.dn pre)=false):=fun y hy hs=>by
  rcases(List.pairwise_cons.1 CX).1 y hy with h|h
  ·rw[Xj hC _ _ rfl h hs] at kS;cases kS
  ·exact h
 have rj:∀t,t∈it.o.looksAt ops→(((bD++it::post).filter fun y=>S y.i).foldl vI st).t t=(bD.foldl vI st).t t:=fun t ht=>by
  rw[Hk t _ st st rfl,Hk t bD st st rfl,Xo kS (fun y hy hw=>?_) fun y hy hw=>?_]
  ·cases hs:S y.i with
   |true=>rfl
   |false=>
    have:=(MP (dU y (by simp[hy])) rf (before y hy hs).1).1 t (by simpa using hw)
    exact absurd ht this
  ·cases hs:S y.i with
   |false=>rfl
   |true=>
    have:=(MP rf (dU y (by simp[hy])) (behind y hy hs).1).2.2 t (by simpa using hw)
    simp_all
 have Xp:it.wt=true→∀n,xP (it.dn pre) n→(((bD++it::post).filter fun y=>S y.i).foldl vI st).h n=(bD.foldl vI st).h n:=fun hw n hn=>by
  rw[Hl n _ st st rfl,Hl n bD st st rfl,Xo kS (fun y hy tO=>?_) fun y hy tO=>?_]
  ·cases hs:S y.i with
   |true=>rfl
   |false=>
    have hm:n∈jH y.u:=by simpa using tO
    have MQ:y.wt=true:=by
     cases h:y.wt with
     |true=>rfl
     |false=>rw[hu y (by simp[hy]) h] at hm;simp[jH] at hm
    exact absurd hn ((MO ((before y hy hs).2 MQ hw)).1 n hm)
  ·cases hs:S y.i with
   |false=>rfl
   |true=>
    have hm:n∈jH y.u:=by simpa using tO
    have MQ:y.wt=true:=by
     cases h:y.wt with
     |true=>rfl
     |false=>rw[hu y (by simp[hy]) h] at hm;simp[jH] at hm
    exact absurd hn ((MO ((behind y hy hs).2 hw MQ)).2.1 n hm)
 generalize hL:((bD++it::post).filter fun y=>S y.i).foldl vI st=Hm at rj Xp⊢
 refine⟨⟨?_,fun hw=>?_,hg.n⟩,fun y hy hs=>?_⟩
 ·rw[←hg.w]
  unfold xM
  cases tQ:it.o.guard with
  |none=>rfl
  |some p=>
   obtain⟨j,want⟩:=p
   dsimp only
   cases fH:GB ops j with
   |none=>rfl
   |some s=>
    have:s∈it.o.looksAt ops:=by
     have fH:(ops[j]?).bind (·.dst)=some s:=fH
     simp only[Oper.looksAt,tQ,fH]
     simp
    simp_all
 ·obtain⟨hd,hy,Xq⟩:=hg.y hw
  have aF:∀x∈it.o.op.operands,Hm.ev x=(bD.foldl vI st).ev x:=fun x hx=>by
   cases x with
   |tmp t=>exact rj t (List.mem_append_left _ (List.mem_filterMap.2 ⟨.tmp t,by simpa using hx,rfl⟩))
   |_=>rfl
  have hrefs:mM Hm.ev it.o=mM (bD.foldl vI st).ev it.o:=by
   unfold mM
   have:it.o.op.operands.toList.map Hm.ev=it.o.op.operands.toList.map (bD.foldl vI st).ev:=List.map_congr_left (by grind)
   simp only[this]
  refine⟨hd,?_,by rw[Xq,hrefs]⟩
  rw[yZl aF]
  have hh : gJ E A k pre it.o (bD.foldl vI st).ev Hm.h = gJ E A k pre it.o (bD.foldl vI st).ev (bD.foldl vI st).h := yVn hS (by
   rw[←Xq]
   have:=Xp hw
   unfold xP at this
   have hdn:(it.dn pre).refs=it.r:=rfl
   rw[hdn] at this
   cases h:it.r with
   |none=>
    grind
   |some l=>
    rw[h] at this
    exact this)
  rw[hh]
  exact hy
 ·obtain⟨h1,h2⟩:=behind y hy hs
  refine⟨(MP rf (dU y (by simp[hy])) h1).2.1,fun a ha hb=>?_⟩
  have hwi:it.wt=true:=by
   cases h:it.wt with
   |true=>rfl
   |false=>rw[hu it (by simp) h] at ha;simp[jH] at ha
  have hwy:y.wt=true:=by
   cases h:y.wt with
   |true=>rfl
   |false=>rw[hu y (by simp[hy]) h] at hb;simp[jH] at hb
  exact(MO (h2 hwi hwy)).2.2 a ha hb
end
theorem yRi {ops}(h:Ct ops=true){j o}(ho:ops[j]? =some o):∀e∈o.after.toList,Region.binds .any e=true→e.on<j:=by
 intro e he hb
 have hm:(o,j)∈ops.toList.zipIdx:=by
  grind
 have:=List.all_eq_true.1 (List.all_eq_true.1 h _ hm) e he
 simp_all
theorem Hn {L:Array Bool}{i}(hi:i<L.size) j:(L.setIfInBounds i true).getD j false=(L.getD j false||i==j):=by
 by_cases h:i=j
 all_goals simp_all
section
variable {E:Env} {A:qB} {nl:Bool} {k pre na nt:Nat} {a0:Nat→Value} {R:Type} {ops:Array Oper} {M0:zG} {w0:World} {Q:Exit→Act→World→Prop}
theorem yQc (hE:dB E)(hS:fF E.sums)(he:Ct ops=true){cH st}(hi:cH.map (·.i)=List.range ops.size)(dU:∀y∈cH,ops[y.i]? =some y.o)(hg:∀bD it post,cH=bD++it::post→gk E A k pre na nt ops (bD.foldl vI st) it)
  (hp:cH.Pairwise (MM pre ops (Region.before ops))) (hQ:∀a w,vA nl na nt a0 M0 w0 (cH.foldl vI st) a w→Q .normal a w):
  ∀fuel L a w,L.size=ops.size→(∃U:List Nat,U.length≤fuel∧∀j,j<ops.size→L.getD j false=false→j∈U)→C8 ops (fun j=>L.getD j false)→
   vA nl na nt a0 M0 w0 ((cH.filter fun y=>L.getD y.i false).foldl vI st) a w→wpAny E.P .any ops Q fuel L a w:=by
 have hu:∀y∈cH,y.wt=false→y.u=[]:=fun y hy hw=>by
  obtain⟨bD,post,e⟩:=List.append_of_mem hy
  exact((hg bD y post e).n hw).2.1
 have MR:∀y∈cH,y.i<ops.size:=fun y hy=>(Array.getElem?_eq_some_iff.1 (dU y hy)).1
 have cC:(cH.map (·.i)).Nodup:=by rw[hi];exact List.nodup_range
 have full:∀(L:Array Bool) (a:Act) (w:World),(∀j,j<ops.size→L.getD j false=true)→vA nl na nt a0 M0 w0 ((cH.filter fun y=>L.getD y.i false).foldl vI st) a w→Q .normal a w:=fun L a w hl r=>by
  rw[List.filter_eq_self.2 fun y hy=>hl y.i (MR y hy)] at r
  exact hQ a w r
 have rdy:∀(L:Array Bool),L.size=ops.size→Region.ready .any ops L=[]→∀j,j<ops.size→L.getD j false=true:=fun L hL hr j=>by
  induction j using Nat.strongRecOn with
  |_ j ih=>
   intro hj
   cases hb:L.getD j false with
   |true=>rfl
   |false=>
    have ho:ops[j]? =some ops[j]:=Array.getElem?_eq_getElem hj
    have:j∈Region.ready .any ops L:=mem_ready.2 ⟨by
     have MS:j<L.size:=by omega
     simpa[Array.getD,MS] using hb,ops[j],ho,fun e he' bh=>by
      have aT:=yRi he ho e (by simpa using he') bh
      exact ih e.on aT (by omega)⟩
    rw[hr] at this;cases this
 intro fuel
 induction fuel with
 |zero=>
  intro L a w hL hU hC r
  obtain⟨U,hUl,hU⟩:=hU
  have hU0:U=[]:=List.eq_nil_of_length_eq_zero (by omega)
  have aU:∀j,j<ops.size→L.getD j false=true:=by grind
  refine⟨?_,full L a w aU r⟩
  cases hr:Region.ready .any ops L with
  |nil=>rfl
  |cons j l=>
   have:j∈Region.ready .any ops L:=by rw[hr];exact List.mem_cons_self ..
   obtain⟨h0,o,ho,_⟩:=mem_ready.1 this
   have hj:=(Array.getElem?_eq_some_iff.1 ho).1
   have:=aU j hj
   have MS:j<L.size:=by omega
   simp[Array.getD,MS] at this h0
   rw[this] at h0;cases h0
 |succ fuel ih=>
  intro L a w hL hU hC r
  refine⟨fun hr=>full L a w (rdy L hL hr) r,fun i hir=>?_⟩
  obtain⟨h0,o,ho,tR⟩:=mem_ready.1 hir
  have Da:=(Array.getElem?_eq_some_iff.1 ho).1
  have Db:i<L.size:=by omega
  have Ho:L.getD i false=false:=by simpa[Array.getD,Db] using h0
  obtain⟨it,kS,oR⟩:∃it∈cH,it.i=i:=by
   have:i∈cH.map (·.i):=by rw[hi];simpa using Da
   obtain⟨it,h1,h2⟩:=List.mem_map.1 this
   exact⟨it,h1,h2⟩
  obtain⟨bD,post,e⟩:=List.append_of_mem kS
  have rf:ops[it.i]? =some it.o:=dU it kS
  have fb:o=it.o:=by rw[oR,ho] at rf;exact Option.some.inj rf
  subst fb
  have rk:=vDw hE hS hC (by rw[←e];exact dU) (hg bD it post e) (by rw[←e];exact hu) (by rw[←e];exact hp) (by rw[oR];exact Ho) (by grind)
  rw[←e] at rk
  obtain⟨tQ,Dc⟩:=rk
  have hw:=Xe tQ.w r
  have qW:(cH.filter fun y=>(L.setIfInBounds i true).getD y.i false).foldl vI st=vI ((cH.filter fun y=>L.getD y.i false).foldl vI st) it:=by
   have other:∀y∈bD++post,(L.setIfInBounds i true).getD y.i false=L.getD y.i false:=fun y hy=>by
    rw[Hn Db]
    grind
   have e1:cH.filter (fun y=>L.getD y.i false)=bD.filter (fun y=>L.getD y.i false)++post.filter (fun y=>L.getD y.i false):=by
    conv=>lhs;rw[e]
    rw[List.filter_append,List.filter_cons,if_neg (by rw[oR,Ho];simp)]
   have e2:cH.filter (fun y=>(L.setIfInBounds i true).getD y.i false)=bD.filter (fun y=>L.getD y.i false)++it::post.filter (fun y=>L.getD y.i false):=by
    conv=>lhs;rw[e]
    rw[List.filter_append,List.filter_cons,if_pos (by rw[oR,Hn Db];simp),List.filter_congr fun y hy=>other y (List.mem_append_left _ hy),List.filter_congr fun y hy=>other y (List.mem_append_right _ hy)]
   rw[e1,e2,List.foldl_append,List.foldl_append,List.foldl_cons]
   exact (Xn fun y hy=>by
    obtain⟨hy1,hy2⟩:=List.mem_filter.1 hy
    exact Dc y hy1 hy2).symm
  have au:C8 ops fun j=>(L.setIfInBounds i true).getD j false:=fun j o' hj kb ed Xr hb=>by
   dsimp only at hj⊢
   rw[Hn Db] at hj
   refine getD_set_true ?_
   rw[Bool.or_eq_true] at hj
   rcases hj with hj|hj
   ·exact hC j o' hj kb ed Xr hb
   ·have:i=j:=by simpa using hj
    subst this
    rw[ho] at kb;cases kb
    exact tR ed (by simpa using Xr) hb
  have Xs:∃U:List Nat,U.length≤fuel∧∀j,j<ops.size→(L.setIfInBounds i true).getD j false=false→j∈U:=by
   obtain⟨U,hl,hU⟩:=hU
   refine⟨U.erase i,?_,fun j hj hb=>?_⟩
   ·rw[List.length_erase_of_mem (hU i Da Ho)];omega
   ·rw[Hn Db,Bool.or_eq_false_iff] at hb
    exact(List.mem_erase_of_ne (by have:=hb.2;simp at this;exact fun h=>this h.symm)).2 (hU j hj hb.1)
  unfold wpOp
  rw[ho]
  dsimp only
  cases tS:it.wt with
  |true=>
   rw[tS] at hw
   rw[if_pos hw]
   obtain⟨hd,hy,_⟩:=tQ.y tS
   refine .inl (vA.op hE r hd hy fun a' w' r'=>?_)
   exact ih _ _ _ (by simpa using hL) Xs au (by rw[qW];exact r')
  |false=>
   rw[tS] at hw
   rw[if_neg (by simp[hw])]
   obtain⟨hv,mT,oQ⟩:=tQ.n tS
   refine ih _ _ _ (by simpa using hL) Xs au ?_
   rw[qW]
   have:=r.skip (dst:=it.o.dst) fun d hd=>(oQ d hd).1
   unfold vI
   rw[hv,mT]
   exact this
theorem yNz (hE:dB E)(hS:fF E.sums){id st K}{out:R}{a w}(hm:E.P.follows .mixedOrders=true)(he:Ct ops=true)
  (h:xh E A k pre na nt ops (Region.before ops) (ops.toList.zipIdx.map fun p=>(p.2,p.1)) [] st K=some out) (r:vA nl na nt a0 M0 w0 st a w)
  (hK:∀bx a' w',vA nl na nt a0 M0 w0 bx a' w'→K bx=some out→Q .normal a' w'):(Code.region id ops true).wp E.P Q a w:=by
 obtain⟨cH,h1,h2,h3,_,h5⟩:=MN hE _ _ _ _ _ h
 have hi:cH.map (·.i)=List.range ops.size:=by
  have:=congrArg (List.map Prod.fst) h1
  rw[List.map_map,List.map_map] at this
  refine Eq.trans this ?_
  have e:(Prod.fst∘fun p:Oper×Nat=>(p.2,p.1))=Prod.snd:=rfl
  rw[e,List.zipIdx_map_snd,←List.range_eq_range']
  simp
 have dU:∀y∈cH,ops[y.i]? =some y.o:=fun y hy=>by
  have:(y.i,y.o)∈ops.toList.zipIdx.map fun p=>(p.2,p.1):=by grind
  grind
 refine wp_region_any hm (yQc hE hS he (nt:=nt) (na:=na) (a0:=a0) (M0:=M0) (w0:=w0) hi dU h3 h5 (fun a w r=>hK _ a w r h2) _ _ _ _ (by simp) ⟨List.range ops.size,by simp,by grind⟩ (fun j o hj=>?_) ?_)
 ·by_cases h:j<ops.size<;>simp[h] at hj
 ·rw[List.filter_eq_nil_iff.2 fun y hy=>by
   by_cases h:y.i<ops.size<;>simp[h]]
  exact⟨r.ex,r.defers,r.size,r.os,r.tape,r.output,r.keep⟩
end
def zG.nilObj (M:zG)(nm:Nat)(o:Obj)(sz:Nat):zG:={M with κ:=κset M.κ nm ⟨none,0,sz,0,[]⟩,h:=qW M.h nm o}
def gl (t:Ty)(rows:Bool):Obj:=bif rows then .mat 0 [] else .arr true t []
def il (t:Ty)(rows:Bool):Nat:=bif rows then 1 else t.size
theorem zG.nilObj_ok {M}(ok:Ok M){nm}(aG:M.h nm=none) t rows:
  Ok (M.nilObj nm (gl t rows) (il t rows))∧yB M (M.nilObj nm (gl t rows) (il t rows))∧(∀b,qF (M.nilObj nm (gl t rows) (il t rows)) b→qF M b):=by
 have hO:∀M':zG,yJ M' (gl t rows) ⟨none,0,il t rows,0,[]⟩:=fun M'=>by
  cases rows with
  |false=>exact⟨rfl,rfl,by simp,rfl⟩
  |true=>exact⟨rfl,rfl,rfl,rfl,by simp[zT.fp],rfl⟩
 have x:yB M (M.nilObj nm (gl t rows) (il t rows)):=⟨fun id C h=>by
  have aV:id≠nm:=fun e=>by rw[e,ok.non nm aG] at h;cases h
  exact⟨C,by show κset M.κ nm _ id=_;rw[κset_ne _ _ aV];exact h,C.le_refl⟩,fun _ h=>h,fun _ h=>h,fun _ _=>rfl,fun _ _=>rfl,fun _ _=>rfl⟩
 refine⟨Ok.build ok x (fun id=>id=nm) (fun id h=>yE _ _ h) (fun id h=>κset_ne _ _ h) (fun _ _ _ _ _ _ _ _ _=>rfl) (fun id o C h1 h2 h3 h4 b hb=>(ok.own b ⟨id,o,C,h2,h3,h4,hb⟩).1) (Nat.le_refl _)
  (fun id o e h=>?_) (fun id e h=>?_) (fun id o C b e h1 h2 h3 h4=>?_) ok.GF ok.Flt,x,fun b hb=>?_⟩
 ·subst e
  have e1:(M.nilObj id (gl t rows) (il t rows)).h id=some (gl t rows):=yA _ _ _
  rw[e1] at h
  cases h
  exact⟨_,κset_same _ _ _,hO _⟩
 ·have e1:(M.nilObj id (gl t rows) (il t rows)).h id=some (gl t rows):=yA _ _ _
  simp_all
 ·subst e
  have e1:(M.nilObj id (gl t rows) (il t rows)).κ id=some _:=κset_same _ _ _
  rw[e1] at h3
  cases h3
  simp[zT.fp] at h4
 ·obtain⟨id,o,C,h1,h2,h3,h4⟩:=hb
  by_cases e:id=nm
  ·subst e
   have e1:(M.nilObj id (gl t rows) (il t rows)).κ id=some _:=κset_same _ _ _
   rw[e1] at h3
   cases h3
   simp[zT.fp] at h4
  ·exact⟨id,o,C,by rw[←h1];exact(yE _ _ e).symm,h2,by rw[←h3];exact(κset_ne _ _ e).symm,h4⟩
theorem fG.same_mem {M M'}(hF:M'.F=M.F)(hG:M'.G=M.G)(hH:M'.H=M.H)(ho:∀b,qF M' b→qF M b):fG M M':=
 ⟨by grind,by grind,by grind,by grind,by grind,by simp_all,by grind,by grind,
  by grind,by grind⟩
theorem fG.refl M:fG M M:=.same_mem rfl rfl rfl (by simp)
section
variable {na nt:Nat} {a0:Nat→Value} {M0:zG} {w0 w:World} {a:Act}
theorem zI.set_left {α β R l}{m:List β}(h:zI R l m){j}{c:α}(hc:∀(h1:j<l.length) h2,R c m[j]):zI R (l.set j c) m:=by
 refine zI.of_get (by rw[List.length_set];exact h.length) fun i hi bj=>?_
 rw[List.length_set] at hi
 by_cases e:j=i
 ·simp_all
 ·rw[List.getElem_set_ne e]
  exact h.get i hi bj
theorem yM3 {st}{s j}(r:vA false na nt a0 M0 w0 st a w):vA false na nt a0 M0 w0 (Ls st s j) a w:=by
 obtain⟨M,h1,h2,h3,h4,h5⟩:=r.ex
 unfold Ls
 split
 ·split
  ·rename_i c hs
   split
   ·rename_i c' u hf
    have hv:=h5 s
    rw[hs] at hv
    rw[←h1] at hf
    obtain⟨L,k1,k2,k3,k4,k5,_⟩:=Cz h3 (wI.refl _) (show zQ M c _ from hv) hf
    refine⟨⟨L,by rw[k2,h1],k1.trans h2,k3,h4.trans k4.grow,fun t=>?_⟩,r.defers,r.size,r.os,r.tape,r.output,r.keep⟩
    show zN _ (wT st.t s _ t) _
    unfold wT
    cases e:Nat.beq t s with
    |false=>exact(h5 t).ext k4.ext
    |true=>
     have e:t=s:=by simpa using e
     subst e
     exact k5
   ·exact r
  ·exact r
 ·rename_i j
  split
  ·rename_i id hs
   split
   ·rename_i cells ab
    split
    ·rename_i c yD
     split
     ·rename_i c' u hf
      rw[←h1] at hf ab
      obtain⟨C0,mX,hO0⟩:=h3.obj id _ ab
      obtain⟨B0,rp,e0,b10,b20,b30,Xt,b50⟩:=hO0
      have hj:j<cells.length:=(List.getElem?_eq_some_iff.1 yD).1
      have MT:j<rp.toList.length:=by rw[←Xt.length];exact hj
      have ie:=Xt.get j hj MT
      have ec:cells[j]=c:=by grind
      rw[ec] at ie
      obtain⟨L,k1,k2,k3,k4,k5,k6,_⟩:=Cz h3 (wI.refl _) ie hf
      have tT:L.h id=some (.box true cells):=by
       rcases k6 id with h|⟨own,t,xs,h,_⟩|⟨ver,xs,h,_⟩
       all_goals simp_all
      obtain⟨C,hC,hO⟩:=k3.obj id _ tT
      obtain⟨B,vals,e,b1,b2,b3,b4,b5⟩:=hO
      obtain⟨C1,fa,le⟩:=k4.ext.κ id C0 mX
      rw[hC] at fa;cases fa
      have eB:B=B0:=by rw[le.blk,b10] at b1;simp_all
      subst eB
      rw[k1,b30] at b3
      cases b3
      have hx:=zG.write_ext (H':=L.H) k3 tT rfl hC C.le_refl (by simp) (by simp) (.box true (cells.set j c'))
      have hw := zG.write_ok (H' := L.H) (o' := .box true (cells.set j c')) k3 tT rfl hC C.le_refl (by simp) rfl (by simp) (by simp) (by
       refine⟨B,rp,e0,b1,b2,by show L.H[B]? =_;simp_all,?_,by simp⟩
       exact(b4.mono fun _ _ h=>h.ext hx).set_left fun _ _=>k5.ext hx)
      refine⟨⟨L.write id (.box true (cells.set j c')) C L.H,?_,k1.trans h2,hw.1,(h4.trans k4.grow).trans hw.2.grow,fun t=>((h5 t).ext k4.ext).ext hx⟩,r.defers,r.size,r.os,r.tape,r.output,r.keep⟩
      show qW L.h id _=qW (qA st.h u) id _
      rw[k2,h1]
     ·exact r
    ·exact r
   ·exact r
  ·rename_i cells hs
   split
   ·rename_i c yD
    split
    ·rename_i c' u hf
     have hv:=h5 s
     rw[hs] at hv
     obtain⟨vs,cB,aU⟩:=hv
     rw[←h1] at hf
     have hj:j<cells.length:=by grind
     have MT:j<vs.toList.length:=by rw[←aU.length];exact hj
     have ie:=aU.get j hj MT
     have ec:cells[j]=c:=by grind
     rw[ec] at ie
     obtain⟨L,k1,k2,k3,k4,k5,k6,_⟩:=Cz h3 (wI.refl _) ie hf
     refine⟨⟨L,by rw[k2,h1],k1.trans h2,k3,h4.trans k4.grow,fun t=>?_⟩,r.defers,r.size,r.os,r.tape,r.output,r.keep⟩
     show zN _ (wT st.t s _ t) _
     unfold wT
     cases e:Nat.beq t s with
     |false=>exact(h5 t).ext k4.ext
     |true=>
      have e:t=s:=by simpa using e
      subst e
      exact⟨vs,cB,(aU.mono fun _ _ h=>h.ext k4.ext).set_left (by grind)⟩
    ·exact r
   ·exact r
  ·exact r
theorem vEz {st nm g}(r:vA false na nt a0 M0 w0 st a w)(aG:st.h nm=none):vA false na nt a0 M0 w0 (Lt st nm g) a w:=by
 obtain⟨M,h1,h2,h3,h4,h5⟩:=r.ex
 have hM:M.h nm=none:=by simp_all
 obtain⟨k1,k2,k3⟩:=M.nilObj_ok h3 hM g.2.2.1 g.2.2.2
 have bW:zQ (M.nilObj nm (gl g.2.2.1 g.2.2.2) (il g.2.2.1 g.2.2.2)) (.osl nm none) (.slice none 0 0):=⟨_,κset_same _ _ _,none,0,rfl,rfl,rfl,rfl⟩
 have gr:oP false M0 (M.nilObj nm (gl g.2.2.1 g.2.2.2) (il g.2.2.1 g.2.2.2)):=h4.trans (.same_mem rfl rfl rfl k3)
 unfold Lt
 cases Xu:g.2.2.2&&VO g.2.2.1 with
 |true=>exact yM3 r
 |false=>
 split
 ·split
  ·rename_i hs
   refine⟨⟨M.nilObj nm (gl g.2.2.1 g.2.2.2) (il g.2.2.1 g.2.2.2),?_,h2,k1,gr,fun t=>?_⟩,r.defers,r.size,r.os,r.tape,r.output,r.keep⟩
   ·show qW M.h nm _=qW st.h nm _
    rw[h1];rfl
   ·show zN _ (wT st.t g.1 _ t) _
    unfold wT
    cases e:Nat.beq t g.1 with
    |false=>exact(h5 t).ext k2
    |true=>
     have e:t=g.1:=by simpa using e
     subst e
     have hv:=h5 g.1
     rw[hs] at hv
     rw[hv];exact bW
  ·exact r
 ·rename_i j hj
  split
  ·rename_i id hs
   split
   ·rename_i cells ab
    split
    ·have aV:id≠nm:=by grind
     let M1:=M.nilObj nm (gl g.2.2.1 g.2.2.2) (il g.2.2.1 g.2.2.2)
     have lP:M1.h id=some (.box true cells):=by
      show qW M.h nm _ id=_
      rw[yE _ _ aV,h1];exact ab
     obtain⟨C,hC,hO⟩:=k1.obj id _ lP
     obtain⟨B,vals,e,b1,b2,b3,b4,b5⟩:=hO
     have hx:=zG.write_ext (H':=M1.H) k1 lP rfl hC C.le_refl (by grind) (by grind) (.box true (cells.set j (.osl nm none)))
     have hw := zG.write_ok (H' := M1.H) (o' := .box true (cells.set j (.osl nm none))) k1 lP rfl hC C.le_refl (by simp) rfl (by grind) (by grind) (by
      refine⟨B,vals,e,b1,b2,b3,?_,by simp⟩
      have hl:=b4.length
      refine zI.of_get (by simp_all) fun i hi bj=>?_
      have hb:=b4.get i (by omega) bj
      by_cases Xv:j=i
      ·subst Xv
       rw[List.getElem_set_self]
       have ec:cells[j]=.nsl:=by
        grind
       rw[ec] at hb
       rw[hb]
       exact bW.ext hx
      ·rw[List.getElem_set_ne Xv]
       exact hb.ext hx)
     refine⟨⟨M1.write id (.box true (cells.set j (.osl nm none))) C M1.H,?_,h2,hw.1,gr.trans hw.2.grow,fun t=>((h5 t).ext k2).ext hx⟩,r.defers,r.size,r.os,r.tape,r.output,r.keep⟩
     show qW (qW M.h nm _) id _=qW (qW st.h nm _) id _
     rw[h1];rfl
    ·exact r
   ·exact r
  ·exact r
theorem Xw:∀{l st bx nm},vA false na nt a0 M0 w0 st a w→GG st nm l=some bx→vA false na nt a0 M0 w0 bx a w
 |[],st,bx,nm,r,h=>by cases h;exact r
 |g::l,st,bx,nm,r,h=>by
  unfold GG at h
  split at h
  ·rename_i aG
   exact Xw (vEz r aG) h
  ·cases h
theorem Xx {id}:∀{l n i},jO id l n=some i→n≤i∧l[i-n]? =some id
 |x::l,n,i,h=>by
  unfold jO at h
  cases e:Nat.beq x id with
  |true=>
   simp_all
  |false=>
   rw[e] at h
   obtain⟨h1,h2⟩:=Xx (l:=l) h
   grind
theorem MU {h}:∀n {todo seen},seen.Nodup→(xi h n todo seen).Nodup
 |0,_,_,hs
 |n+1,[],_,hs=>hs
 |n+1,id::todo,seen,hs=>by
  unfold xi
  cases e:seen.any (Nat.beq id) with
  |true=>exact MU n hs
  |false=>
   refine MU n (List.nodup_append.2 ⟨hs,by simp,fun x hx y hy exy=>?_⟩)
   have:y=id:=by simp_all
   have:=List.any_eq_false.1 e x hx
   simp_all
def lS (base : Nat) (κ : Nat → Option zT) (ids : List Nat) : Nat → Option zT := fun n => if base ≤ n then (match ids[n-base]? with
 |some id=>(κ id).map fun C=>{C with ver:=0}
 |none=>none) else none
def zG.ren (M:zG)(base:Nat)(ids:List Nat):zG:={M with κ:=lS base M.κ ids,h:=tp base M.h ids}
theorem yXo {base h ids n o}(e:tp base h ids n=some o):∃id o',base≤n∧ids[n-base]? =some id∧h id=some o'∧o=qm h (fun i=>(jO i ids 0).map (base+·)) o':=by
 unfold tp at e
 cases hb:Nat.ble base n with
 |false=>simp_all
 |true=>
  rw[hb] at e
  split at e
  ·obtain⟨o',h1,h2⟩:=Option.map_eq_some_iff.1 e
   simp_all
  ·cases e
theorem vAz {base κ ids id i C}(hi:jO id ids 0=some i)(hC:κ id=some C):lS base κ ids (base+i)=some {C with ver:=0}:=by
 obtain⟨_,h⟩:=Xx hi
 unfold lS
 simp_all
theorem MV {M}(ok:Ok M){base ids c v}(h:zQ M c v):zQ (M.ren base ids) (ql M.h (fun i=>(jO i ids 0).map (base+·)) c) v:=by
 have h1:=h.one
 have look:∀id C,M.κ id=some C→∀i,(jO id ids 0).map (base+·)=some i→(M.ren base ids).κ i=some {C with ver:=0}:=fun id C hC i hi=>by
  obtain⟨j,hj,rfl⟩:=Option.map_eq_some_iff.1 hi
  exact vAz hj hC
 unfold ql
 cases c with
 |osl id r=>
  dsimp only
  obtain⟨C,hC,h⟩:=h
  cases e:(jO id ids 0).map (base+·) with
  |none=>exact h1
  |some i=>cases r with
   |none=>exact⟨_,look id C hC i e,h⟩
   |some p=>exact⟨_,look id C hC i e,h⟩
 |bsl id x y=>
  dsimp only
  obtain⟨C,B,hC,h⟩:=h
  cases e:(jO id ids 0).map (base+·) with
  |none=>exact h1
  |some i=>exact⟨_,B,look id C hC i e,h⟩
 |ptr id x=>
  dsimp only
  obtain⟨C,B,hC,h⟩:=h
  cases e:(jO id ids 0).map (base+·) with
  |none=>exact h1
  |some i=>exact⟨_,B,look id C hC i e,h⟩
 |eptr id x y=>
  dsimp only
  obtain⟨C,B,hC,h⟩:=h
  cases e:(jO id ids 0).map (base+·) with
  |none=>exact h1
  |some i=>exact⟨_,B,look id C hC i e,h⟩
 |mrow id x ver=>
  dsimp only
  obtain⟨C,hC,ho,hle,h⟩:=h
  cases e:(jO id ids 0).map (base+·) with
  |none=>exact h1
  |some i=>
   split
   ·rename_i i' v' xs ei ab
    cases ei
    cases dm:Nat.beq v' ver with
    |false=>exact h1
    |true=>
     have gf:v'=ver:=by simpa using dm
     obtain⟨C',au,hO⟩:=ok.obj id _ ab
     rw[hC] at au;cases au
     exact⟨_,look id C hC i e,h1,Nat.le_refl _,fun _=>h (by rw[hO.1,gf])⟩
   ·exact h1
 |mptr id x=>
  dsimp only
  obtain⟨C,B,hC,h⟩:=h
  cases e:(jO id ids 0).map (base+·) with
  |none=>exact h1
  |some i=>exact⟨_,B,look id C hC i e,h⟩
 |meptr id x y ver=>
  dsimp only
  obtain⟨C,hC,ho,hle,h⟩:=h
  cases e:(jO id ids 0).map (base+·) with
  |none=>exact h1
  |some i=>
   split
   ·rename_i i' v' xs ei ab
    cases ei
    cases dm:Nat.beq v' ver with
    |false=>exact h1
    |true=>
     have gf:v'=ver:=by simp_all
     obtain⟨C',au,hO⟩:=ok.obj id _ ab
     rw[hC] at au;cases au
     exact⟨_,look id C hC i e,h1,by simp,fun _=>h (by rw[hO.1,gf])⟩
   ·exact h1
 |map id=>
  dsimp only
  obtain⟨C,B,hC,h⟩:=h
  cases e:(jO id ids 0).map (base+·) with
  |none=>exact h1
  |some i=>exact⟨_,B,look id C hC i e,h⟩
 |fn f cap=>
  dsimp only
  obtain⟨cv,rfl,h⟩:=h
  split
  ·rename_i c hc
   refine⟨cv,rfl,?_⟩
   have:=C4 _ _ _ hc
   generalize cv.toList=l at h
   clear hc h1
   induction cap generalizing c l with
   |nil=>cases c with
    |nil=>cases l with
     |nil=>trivial
     |cons _ _=>exact h.elim
    |cons _ _=>exact this.elim
   |cons x cap ih=>cases c with
    |nil=>exact this.elim
    |cons y c=>cases l with
     |nil=>exact h.elim
     |cons u l=>
      obtain⟨⟨C,B,hC,hh⟩,h⟩:=h
      exact⟨⟨_,B,look x C hC y this.1,hh⟩,ih c this.2 l h⟩
  rfl
 |fsl sh t xs=>exact h
 |fptr sh t x off=>exact h
 |_=>exact h
theorem Dd {M}(ok:Ok M){base ids}:∀{cs vs},zI (zQ M) cs vs→zI (zQ (M.ren base ids)) (cs.map (ql M.h fun i=>(jO i ids 0).map (base+·))) vs
 |[],[],_=>trivial
 |_::_,_::_,h=>⟨MV ok h.1,Dd ok h.2⟩
theorem yV9 {M}(ok:Ok M){base ids x v}(h:zN M x v):zN (M.ren base ids) (VN M.h (fun i=>(jO i ids 0).map (base+·)) x) v:=by
 cases x with
 |undef=>trivial
 |skp=>exact h
 |c x=>exact MV (c:=x) ok h
 |agg cs=>
  obtain⟨vs,h1,h2⟩:=h
  exact⟨vs,h1,Dd ok h2⟩
 |tup xs=>
  obtain⟨vs,h1,h2⟩:=h
  refine⟨vs,h1,zI.map_left (h2.mono fun p u hp=>?_)⟩
  obtain⟨b,cs⟩:=p
  cases b with
  |true=>
   obtain⟨us,q1,q2⟩:=hp
   exact⟨us,q1,Dd ok q2⟩
  |false=>
   cases cs with
   |nil=>exact hp
   |cons c cs=>cases cs with
    |nil=>exact MV (c:=c) ok hp
    |cons _ _=>exact hp
theorem Xy {M}(ok:Ok M){base ids o C}(h:yJ M o C):yJ (M.ren base ids) (qm M.h (fun i=>(jO i ids 0).map (base+·)) o) {C with ver:=0}:=by
 cases o with
 |box own cells=>
  obtain⟨B,vals,e,h1,h2,h3,h4,h5⟩:=h
  exact⟨B,vals,e,h1,h2,h3,Dd ok h4,h5⟩
 |robox cells=>
  obtain⟨B,vals,e,h1,h2,h3,h4,h5⟩:=h
  exact⟨B,vals,e,h1,h2,h3,Dd ok h4,h5⟩
 |arr own t xs=>exact h
 |mat ver xs=>
  obtain⟨h1,h2⟩:=h
  exact⟨rfl,h2⟩
 |pmat ver xs n=>
  obtain⟨h1,h2⟩:=h
  exact⟨rfl,h2⟩
 |imap cg=>exact h
 |gone=>trivial
theorem MW {h ρ} o:(qm h ρ o).owned=o.owned:=by cases o<;>rfl
theorem zG.ren_ok {M}(ok:Ok M){base ids}(cC:ids.Nodup):Ok (M.ren base ids)∧∀b,qF (M.ren base ids) b→qF M b:=by
 have at':∀n o,(M.ren base ids).h n=some o→∃id o' C,base≤n∧ids[n-base]? =some id∧M.h id=some o'∧M.κ id=some C∧o=qm M.h (fun i=>(jO i ids 0).map (base+·)) o'∧yJ M o' C∧(M.ren base ids).κ n=some {C with ver:=0}:=fun n o h=>by
  obtain⟨id,o',h1,h2,h3,h4⟩:=yXo h
  obtain⟨C,hC,hO⟩:=ok.obj id _ h3
  refine⟨id,o',C,h1,h2,h3,hC,h4,hO,?_⟩
  show lS base M.κ ids n=_
  unfold lS
  simp_all
 have j7:∀b,qF (M.ren base ids) b→qF M b:=fun b ⟨n,o,C,h1,h2,h3,h4⟩=>by
  obtain⟨id,o',C',k1,k2,k3,k4,k5,k6,k7⟩:=at' n o h1
  rw[k7] at h3
  cases h3
  exact⟨id,o',C',k3,by rw[←h2,k5,MW],k4,h4⟩
 refine⟨⟨fun n o h=>?_,fun n h=>?_,fun i j oi oj Ci Cj b kL h1 h2 h3 h4 h5 h6 h7 h8=>?_,fun b h=>ok.own b (j7 b h),ok.GF,ok.Flt⟩,j7⟩
 ·obtain⟨id,o',C,k1,k2,k3,k4,rfl,k6,k7⟩:=at' n o h
  exact⟨_,k7,Xy ok k6⟩
 ·show lS base M.κ ids n=none
  unfold lS
  split
  ·rename_i hb
   split
   ·rename_i id ab
    have:M.h id=none:=by
     cases e:M.h id with
     |none=>rfl
     |some o=>
      have:(M.ren base ids).h n=some (qm M.h (fun i=>(jO i ids 0).map (base+·)) o):=by
       show tp base M.h ids n=_
       unfold tp
       rw[show Nat.ble base n=true from Nat.ble_eq_true_of_le hb,ab]
       simp[e]
      simp_all
    rw[ok.non id this];rfl
   ·rfl
  ·rfl
 ·obtain⟨id,o',C,k1,k2,k3,k4,k5,k6,k7⟩:=at' i oi h1
  obtain⟨jd,p',D,q1,q2,q3,q4,q5,q6,q7⟩:=at' j oj h2
  rw[k7] at h5
  rw[q7] at h6
  cases h5
  cases h6
  refine ok.disj id jd o' p' C D b (fun e=>?_) k3 q3 (by rw[←h3,k5,MW]) (by rw[←h4,q5,MW]) k4 q4 h7 h8
  have hi:=(List.getElem?_eq_some_iff.1 k2)
  have hj:=(List.getElem?_eq_some_iff.1 q2)
  have:=(List.getElem_inj (h₀:=hi.1) (h₁:=hj.1) cC).1 (by omega)
  omega
theorem Xz:∀{a b},Gw a b=true→a=b
 |[],[],_=>rfl
 |x::a,y::b,h=>by
  simp only[Gw,Bool.and_eq_true] at h
  rw[Nat.eq_of_beq_eq_true h.1,Xz h.2]
theorem vDo {c v}(h:Ll c v=true):c=.undef∨c=v:=by
 unfold Ll at h
 split at h
 ·simp
 ·simp
 ·simp
 ·simp
 ·simp
 ·simp_all
 ·simp_all
 ·simp_all
 ·simp only[Bool.and_eq_true] at h
  exact .inr (by rw[Nat.eq_of_beq_eq_true h.1,Xz h.2])
 all_goals simp_all
theorem kk {α:Type}{c x}{y:α}(h:(bif c then x else none)=some y):c=true∧x=some y:=by
 grind
theorem oS {M}(ok:Ok M):∀{l cs d vs},iR l cs=some d→zI (zQ M) cs vs→zI (zQ M) (lL l d) vs
 |[],[],_,[],_,_=>trivial
 |.int k::l,c::cs,d,v::vs,h,hv=>by
  cases c<;>first|(cases h;done)|skip
  obtain⟨hk,h⟩:=kk h
  split at h
  ·rename_i d' hd
   cases h
   refine⟨?_,oS ok hd hv.2⟩
   rw[←od hk];exact hv.1
  ·cases h
 |.bool::l,c::cs,d,v::vs,h,hv=>by
  cases c<;>first|(cases h)|skip
  unfold iR at h
  split at h
  ·rename_i d' hd
   cases h
   exact⟨hv.1,oS ok hd hv.2⟩
  ·cases h
 |.dat sh t::l,c::cs,d,v::vs,h,hv=>by
  cases c<;>first|(cases h;done)|skip
  ·rename_i Cr s xs
   obtain⟨hs,h⟩:=kk h
   split at h
   ·rename_i ys d' hx hd
    cases h
    obtain⟨e,hx⟩:=gL hx
    subst e
    subst hx
    refine⟨?_,oS ok hd hv.2⟩
    have h1:zU M.H (bif Cr then M.G else M.F) (.sl s) xs (fun _=>some v):=hv.1
    cases sh with
    |true=>
     have:Cr=true:=by simp_all
     subst this
     exact h1
    |false=>cases Cr with
     |false=>exact h1
     |true=>exact yK ok.GF (by simp) _ _ _ _ (by simp) h1
   ·cases h
  ·unfold iR at h
   split at h
   ·rename_i d' hd
    cases h
    refine⟨?_,oS ok hd hv.2⟩
    rw[show v=.slice none 0 0 from hv.1]
    exact⟨none,0,0,rfl,rfl,by simp,by simp⟩
   ·cases h
 |.lit c::l,x::cs,d,v::vs,h,hv=>by
  obtain⟨he,h⟩:=kk h
  refine⟨?_,oS ok h hv.2⟩
  rcases vDo he with rfl|rfl
  ·exact hv.1.one
  ·exact hv.1
theorem yXa {M}(ok:Ok M){v a d rv}(h:Lm v a=some d)(hv:zN M a rv):zN M (Ln v d) rv:=by
 cases v with
 |c x=>
  cases a with
  |c y=>
   have:=oS ok (vs:=[rv]) (show iR [x] [y]=some d from h) ⟨hv,trivial⟩
   show zN M (match lL [x] d with|c::_=>.c c|[]=>.undef) rv
   match hh:lL [x] d,this with
   |[c],this=>exact this.1
  |_=>cases h
 |agg l=>
  cases a with
  |agg vs=>
   obtain⟨us,rfl,hx⟩:=hv
   exact⟨us,rfl,oS ok (show iR l vs=some d from h) hx⟩
  |_=>cases h
theorem yP9 {M}(ok:Ok M){o x d C}(h:Gx o x=some d)(hO:yJ M x C)(hv:C.ver=0):yJ M (Gy o d) C∧(Gy o d).owned=x.owned:=by
 unfold Gx at h
 split at h
 ·obtain⟨he,h'⟩:=kk h
  have he:=eq_of_beq he
  subst he
  clear h
  obtain⟨B,vals,e,h1,h2,h3,h4,h5⟩:=hO
  exact⟨⟨B,vals,e,h1,h2,h3,oS ok h' h4,h5⟩,rfl⟩
 ·obtain⟨B,vals,e,h1,h2,h3,h4,h5⟩:=hO
  exact⟨⟨B,vals,e,h1,h2,h3,oS ok h h4,h5⟩,rfl⟩
 ·obtain⟨he,h'⟩:=kk h
  have he:=eq_of_beq he
  subst he
  obtain⟨e,hx⟩:=gL h'
  subst e
  subst hx
  exact⟨hO,rfl⟩
 ·cases h
  exact⟨⟨hv,hO.2⟩,rfl⟩
 ·cases h
  exact⟨⟨hv,hO.2⟩,rfl⟩
 ·cases h
  exact⟨hO,rfl⟩
 ·cases h
theorem XA {f t}:∀{l d n v},GH f t l=some d→(xf l d).lookup n=some v→∃(s:VS) (x:SL s.cells),Lm s (f (t n))=some x∧v=Ln s x
 |s::l,d,n,v,hr,h=>by
  unfold GH at hr
  split at hr
  ·rename_i x ds h1 h2
   cases hr
   unfold xf at h
   rw[List.lookup_cons] at h
   cases e:n==s.1 with
   |true=>
    grind
   |false=>
    rw[e] at h
    exact XA h2 h
  ·cases hr
theorem XB {f h0}:∀{l ids d},GI f h0 l ids=some d→(oq l d).length=ids.length∧∀(i:Nat) o,(oq l d)[i]? =some o→∃(s:OS) (x:s.den) (id:Nat) (y:Obj),ids[i]? =some id∧h0 id=some y∧Gx s (f y)=some x∧o=Gy s x
 |[],[],d,_=>⟨rfl,nofun⟩
 |s::l,id::ids,d,h=>by
  unfold GI at h
  split at h
  ·rename_i x ds h1 h2
   cases h
   obtain⟨y,h3,h4⟩:=Option.bind_eq_some_iff.1 h1
   obtain⟨k1,k2⟩:=XB h2
   refine⟨by simp[oq,k1],fun i o hi=>?_⟩
   cases i with
   |zero=>
    simp[oq] at hi
    grind
   |succ i=>
    simp[oq] at hi
    simp_all
  ·cases h
theorem vGs {g0 base n:Nat}{S:zH}{st:St}{d:S.den}(r:vA false na nt a0 M0 w0 st a w)(h:Lu g0 base n S st=some d):vA false na nt a0 M0 w0 (zP base S d) a w:=by
 unfold Lu at h
 split at h
 ·cases h
 rename_i st1 hg
 have r:=Xw r hg
 dsimp only at h
 generalize ij:xi st1.h n _ []=ids at h
 have cC:ids.Nodup:=by rw[←ij];exact MU n List.nodup_nil
 split at h
 case h_2=>cases h
 rename_i da db ha hb
 cases h
 obtain⟨M,h1,h2,h3,h4,h5⟩:=r.ex
 rw[←h1] at ha hb
 obtain⟨k1,k2⟩:=M.ren_ok h3 (base:=base) cC
 obtain⟨ol,oa⟩:=XB hb
 let M':zG:={M.ren base ids with h:=(zP base S (da,db)).h}
 have Hq:∀n o',M'.h n=some o'→∃o C,(M.ren base ids).h n=some o∧M'.κ n=some C∧yJ (M.ren base ids) o' C∧o'.owned=o.owned:=fun m o' e=>by
  have e:(bif Nat.ble base m then(oq S.objs db)[m-base]? else none)=some o':=e
  obtain⟨hle,e⟩:=kk e
  obtain⟨s,x,id,y,q1,q2,q3,rfl⟩:=oa _ _ e
  obtain⟨C,hC,hO⟩:=h3.obj id y q2
  have hκ:(M.ren base ids).κ m=some {C with ver:=0}:=by
   show lS base M.κ ids m=_
   unfold lS
   simp_all
  have hh:(M.ren base ids).h m=some (qm M.h (fun i=>(jO i ids 0).map (base+·)) y):=by
   show tp base M.h ids m=_
   unfold tp
   grind
  obtain⟨p1,p2⟩:=yP9 k1 q3 (Xy h3 hO) rfl
  grind
 have x:yB (M.ren base ids) M':=⟨fun _ C h=>⟨C,h,C.le_refl⟩,fun _ h=>h,fun _ h=>h,fun _ _=>rfl,by grind,fun _ _=>rfl⟩
 have aA:∀b,qF M' b→qF (M.ren base ids) b:=fun b ⟨id,o',C,q1,q2,q3,q4⟩=>by
  obtain⟨o,D,p1,p2,p3,p4⟩:=Hq id o' q1
  exact⟨id,o,C,p1,by rw[←p4];exact q2,q3,q4⟩
 have gd:Ok M':=by
  refine⟨fun id o' q=>?_,fun id q=>?_,fun i j oi oj Ci Cj b kL q1 q2 q3 q4 q5 q6 q7 q8=>?_,fun b hb=>k1.own b (aA b hb),k1.GF,k1.Flt⟩
  ·obtain⟨o,C,p1,p2,p3,p4⟩:=Hq id o' q
   exact⟨C,p2,p3.ext x (by grind)⟩
  ·have q:(bif Nat.ble base id then(oq S.objs db)[id-base]? else none)=none:=q
   show lS base M.κ ids id=none
   unfold lS
   cases hle:Nat.ble base id with
   |false=>rw[if_neg fun h=>by rw[Nat.ble_eq_true_of_le h] at hle;cases hle]
   |true=>
    simp_all
  ·obtain⟨o1,C1,p1,p2,p3,p4⟩:=Hq i oi q1
   obtain⟨o2,C2,p5,p6,p7,p8⟩:=Hq j oj q2
   exact k1.disj i j o1 o2 Ci Cj b kL p1 p5 (by rw[←p4];exact q3) (by rw[←p8];exact q4) q5 q6 q7 q8
 refine⟨⟨M',rfl,h2,gd,h4.trans (.same_mem rfl rfl rfl (by grind)),fun m=>?_⟩,r.defers,r.size,r.os,r.tape,r.output,r.keep⟩
 show zN M' (match(xf S.slots da).lookup m with|some v=>v|none=>.undef) _
 cases hl:(xf S.slots da).lookup m with
 |none=>trivial
 |some v=>
  obtain⟨s,y,q1,rfl⟩:=XA ha hl
  exact(yXa k1 q1 (yV9 h3 (h5 m))).ext x
theorem Hr {pre S st d}(r:vA false na nt a0 M0 w0 st a w)(h:Cu pre S st=some d):vA false na nt a0 M0 w0 (zP (pre+eC) S d) a w:=vGs r h
end
end Go.Ab
