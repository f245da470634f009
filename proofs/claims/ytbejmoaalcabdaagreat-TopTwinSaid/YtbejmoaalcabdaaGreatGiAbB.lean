/- part 1 -/
import Derived.Test.YtbejmoaalcabdaaGreatGiAbA
import Derived.Laws.BytesString
set_option linter.unusedVariables false
set_option linter.unusedSimpArgs false
namespace Go.Ab
theorem yTe off:∀l k cells,off+k+l.length≤cells.size→
  (l.zipIdx k).foldl (fun(cs:Array Value) (p:Value×Nat)=>cs.setIfInBounds (off+p.2) p.1) cells=yS cells (off+k) l
 |[],k,cells,h=>by
  apply Array.ext_getElem?
  intro j
  rw[jG h]
  simp_all
 |c::l,k,cells,h=>by
  simp
  rw[yTe off l (k+1) _ (by grind)]
  apply Array.ext_getElem?
  intro j
  rw[jG (by grind),jG (by omega)]
  grind
theorem Re place cells i v rest off size (h:place i=some (off,size))(h1:v.cells.size=size)(h2:off+size≤cells.size):
  Instr.fill place cells ((i,v)::rest)=Instr.fill place (yS cells off v.cells.toList) rest:=by
 have hc:¬(v.cells.size≠size||decide (off+v.cells.size>cells.size))=true:=by
  simp_all
 simp only[Instr.fill,h]
 rw[if_neg hc]
 congr 1
 rw[←Array.foldl_toList,Array.toList_zipIdx]
 have:=yTe off v.cells.toList 0 cells (by simp;omega)
 omega
def xG (M:zL):(Nat×zX)→(Nat×Value)→Prop:=fun p q=>p.1=q.1∧zV M p.2 q.2
theorem Rf {M place}:∀{parts aL cells out vals},zM (zY M) cells vals.toList→
  zM (xG M) parts aL→Gg place cells parts=some out→∃res,Instr.fill place vals aL=some res∧zM (zY M) out res.toList
 |[],[],cells,out,vals,hc,_,h=>by cases h;exact⟨vals,rfl,hc⟩
 |(i,v)::parts,(i',rv)::aL,cells,out,vals,hc,hp,h=>by
  obtain⟨⟨hi,hv⟩,hp⟩:=hp
  subst hi
  unfold Gg at h
  split at h
  ·rename_i off size vs BU dz
   cases hb:(Nat.beq vs.length size&&Nat.ble (off+size) cells.length) with
   |false=>simp_all
   |true=>
    rw[hb] at h
    simp only[Bool.and_eq_true] at hb
    have b1:=Nat.eq_of_beq_eq_true hb.1
    have b2:=Nat.le_of_ble_eq_true hb.2
    split at h
    ·rename_i bC Rg
     obtain⟨p1,rfl⟩:=QD _ _ _ _ Rg
     have dj:=KP dz hv
     have hl:=dj.length
     have mB:=hc.length
     simp  at hl mB
     have yN:=QG (yL.refl M) hc dj (off:=off) (by simp_all)
     obtain⟨res,h1,h2⟩:=Rf yN hp h
     exact⟨res,by rw[Re place vals i rv aL off size BU (by omega) (by omega)];exact h1,h2⟩
    ·cases h
  ·cases h
theorem yDi {P} w:∀(l:List Field),l.all (fun f=>(P.info? f.type).isSome)=true→
  (l.mapM fun f=>(do pure (f.offset,←sizeOf f.type):Sem (Nat×Nat))).run P w=.ok (l.map fun f=>(f.offset,P.cellsOf f.type)) w
 |[],_=>by simp
 |f::l,h=>by
  simp only[List.all_cons,Bool.and_eq_true] at h
  obtain⟨i,hi⟩:=Option.isSome_iff_exists.1 h.1
  rw[List.mapM_cons]
  simp only[Sem.run_bind,gU w hi,Result.andThen_ok,Sem.run_pure,yDi w l h.2,List.map_cons]
theorem vLe {P M w}(ok:Ok M)(hM:M.H=w.heap){t parts aL v u}(hp:zM (xG M) parts aL)
  (h:yH (Qi P t parts) v u):qM P (Instr.build t aL.toArray) M w v u:=by
 unfold Qi at h
 split at h
 ·exact h.elim
 ·rename_i zero hz
  obtain⟨i,z,h1,h2,h3,h4,rfl⟩:=yQg hz
  have hzero:=KL M h4
  split at h
  ·rename_i fs hs
   obtain⟨bg,h⟩:=fR h
   split at h
   ·rename_i cells hf
    obtain⟨rfl,rfl⟩:=wF h
    have BU:(fun(j:Nat)=>(fs[j]?).map fun(f:Field)=>(f.offset,P.cellsOf f.type))=(fun(j:Nat)=>(fs.toList.map fun f=>(f.offset,P.cellsOf f.type)).toArray[j]?):=by
     simp
    obtain⟨res,k1,k2⟩:=Rf hzero hp hf
    refine qM.pure ok hM (rv:=.agg res) ?_ ⟨res,rfl,k2⟩
    have hm:=yDi (P:=P) w fs.toList bg
    simp[Instr.build,zeroValue,Qz w h1,run_underlying hs,Array.mapM_eq_mapM_toList]
    simp_all
   ·exact h.elim
  ·rename_i n e hs
   obtain⟨bg,h⟩:=fR h
   obtain⟨y,hy⟩:=Option.isSome_iff_exists.1 bg
   split at h
   ·rename_i cells hf
    obtain⟨rfl,rfl⟩:=wF h
    obtain⟨res,k1,k2⟩:=Rf hzero hp hf
    refine qM.pure ok hM (rv:=.agg res) ?_ ⟨res,rfl,k2⟩
    simp[Instr.build,zeroValue,Sem.run_bind,Qz w h1,Result.andThen_ok,h2,Sem.run_pure,run_underlying hs,gU w hy]
    simp_all
   ·exact h.elim
  ·exact h.elim
theorem qM.after {P s M M1 w v u1 u2}(h1:M1.h=qL M.h u1)(st:yX M M1)(h:qM P s M1 w v u2):qM P s M w v (u1++u2):=by
 obtain⟨rv,w',M',a1,a2,a3,a4,a5,a6,a7,a8,a9⟩:=h
 exact⟨rv,w',M',a1,a2,a3,a4,a5,by rw[a6,h1,kq],a7,st.trans a8,a9⟩
theorem wT.fresh {h0 h}(hf:wT h0 h){n}(hn:h0 n=none):h n=none:=by
 rcases hf n with e|⟨o,t,xs,e1,_⟩|⟨o,xs,e1,_⟩
 all_goals simp_all
theorem yFz {t vs x}(h:Ga t vs=some x):vs.length=t.size∧rH t t.dflt 0 vs=some x:=by
 unfold Ga at h
 cases hb:Nat.beq vs.length t.size with
 |false=>simp_all
 |true=>simp_all
theorem vSd {M t vs us x}(h:Ga t vs=some x)(hv:zM (zY M) vs us){rd}(hr:∀i,i<us.length→rd i=us[i]?):qE M.H M.G t x rd:=by
 obtain⟨h1,h2⟩:=yFz h
 have hl:=hv.length
 refine QL t vs us t.dflt x 0 (fun j=>(gx t)[j]?) rd (GC t _ (by simp)) h2 hv (by grind) (by grind)
theorem vAr {h0 t n}:∀{parts aL xs out vals u M},Ok M→wT h0 M.h→xs.length=n→vals.size=n*t.size→
  (∀k h,qE M.H M.G t xs[k] (fun j=>vals[k*t.size+j]?))→(∀p∈parts,p.1<n)→zM (xG M) parts aL→pA h0 t xs parts=some (out,u)→
  ∃res M',Instr.fill (fun i=>some (i*t.size,t.size)) vals aL=some res∧M'.H=M.H∧M'.h=qL M.h u∧Ok M'∧yX M M'∧wT h0 M'.h∧out.length=n∧res.size=n*t.size∧
   (∀k h,qE M'.H M'.G t out[k] (fun j=>res[k*t.size+j]?))
 |[],[],xs,out,vals,u,M,ok,hf,hx,hs,hE,_,_,h=>by
  cases h
  exact⟨vals,M,rfl,rfl,rfl,ok,yX.refl M,hf,hx,hs,hE⟩
 |(i,v)::parts,(i',rv)::aL,xs,out,vals,u,M,ok,hf,hx,hs,hE,bd,hp,h=>by
  obtain⟨⟨hi,hv⟩,hp⟩:=hp
  dsimp only at hi hv
  subst hi
  unfold pA at h
  split at h
  ·rename_i vs dz
   split at h
   ·rename_i QT u1 BJ
    split at h
    ·rename_i x ug
     split at h
     ·rename_i xs' us bV
      cases h
      have dj:=KP dz hv
      obtain⟨M1,a1,a2,a3,a4,a5,a6,a7⟩:=QI ok hf dj BJ
      have hl:=a5.length
      simp  at hl
      have K1:=(yFz ug).1
      have fk:i<n:=bd (i,v) (by simp)
      have aW:=Nat.mul_le_mul_right t.size (show i+1≤n by omega)
      rw[Nat.add_mul] at aW
      have aJ:i*t.size+rv.cells.toList.length≤vals.size:=by simp_all
      have hE1:∀k (h:k<(xs.set i x).length),qE M1.H M1.G t (xs.set i x)[k] (fun j=>(yS vals (i*t.size) rv.cells.toList)[k*t.size+j]?):=by
       intro k hk
       rw[List.length_set] at hk
       by_cases e:k=i
       ·subst e
        rw[List.getElem_set_self]
        refine vSd ug a5 fun j hj=>?_
        rw[jG aJ,if_neg (by omega),if_pos (by omega)]
        simp
       ·rw[List.getElem_set_ne (Ne.symm e)]
        refine yY a4.ext.G (by grind) t _ _ _ (fun j hj=>?_) (hE k hk)
        rw[jG aJ,Array.length_toList]
        rcases yAd (Ne.symm e) hj with h|h
        all_goals grind
      obtain⟨res,M2,b1,b2,b3,b4,b5,b6,b7,b8,b9⟩:=vAr a3 a6 (by simp_all) (by rw[gf aJ];exact hs) hE1
       (fun p hp=>bd p (by grind)) (hp.mono fun p q hpq=>⟨hpq.1,by
        obtain⟨_,hq⟩:=hpq
        exact zV.ext a4.ext hq⟩) bV
      exact⟨res,M2,by rw[Re _ vals i rv aL (i*t.size) t.size rfl (by omega) (by omega)];exact b1,b2.trans a1,by rw[b3,a2,kq],b4,a4.trans b5,b6,b7,b8,b9⟩
     ·cases h
    ·cases h
   ·cases h
  ·cases h
theorem yO9 {P w t e n aL}{ty:Ty}{i z res}(hu:P.underlying t=some (.slice e))(hi:P.info? e=some i)
  (hz:i.zero=some z) (hs:i.size=ty.size) (cP:n*P.cellsOf e≤16777216) (hf:Instr.fill (fun j=>some (j*ty.size,ty.size)) (madeCells z.cells (n*ty.size)) aL=some res):
  (Instr.buildSlice t n aL.toArray).run P w=.ok (.slice (some ⟨w.heap.size,0,none⟩) n n) (w.alloc (.cells res e)):=by
 have hc:P.cellsOf e=ty.size:=by rw[Qy hi];exact hs
 rw[hc] at cP
 have h1:¬2^24<n*ty.size:=by omega
 by_cases h0:n*ty.size=0
 ·have hm:madeCells z.cells (n*ty.size)=#[]:=by rw[h0];simp[madeCells]
  rw[hm] at hf
  simp[Instr.buildSlice,run_underlying hu,gU w hi,hc,h0]
  simp[Array.range_zero',hf,newRow]
 ·simp[Instr.buildSlice,run_underlying hu,Result.andThen_ok,gU w hi,hc,h1,if_false,h0,Sem.run_pure,zeroValue,Qz w hi,hz]
  rw[show(Array.range (n*ty.size)).map (z.cells[· %z.cells.size]!)=madeCells z.cells (n*ty.size) from rfl,hf]
  rfl
theorem ySi {parts:List (Nat×zX)}{n}(h:parts.all (fun p=>Nat.blt p.1 n)=true):∀p∈parts,p.1<n:=by
 simp only[List.all_eq_true] at h
 exact fun p hp=>QJ (h p hp)
theorem vE7 {P M w}(ok:Ok M)(hM:M.H=w.heap){nm t e n parts aL ty xs u}
  (hp:zM (xG M) parts aL) (hu:P.underlying t=some (.slice e)) (aQ:M.h nm=none) (dB:ja P e=some ty) (cP:n*P.cellsOf e≤16777216) (bd:∀p∈parts,p.1<n)
  (hf:pA M.h ty (List.replicate n ty.dflt) parts=some (xs,u)):
  qM P (Instr.buildSlice t n aL.toArray) M w (.c (.osl nm none)) (u++[(nm,.arr true ty xs)]):=by
 obtain⟨i,z,h1,h2,h3,h4,h5,h6,h7⟩:=pK dB
 obtain⟨res,M',b1,b2,b3,b4,b5,b6,b7,b8,b9⟩:=vAr (n:=n) ok (wT.refl _) (by simp) (vals:=madeCells z.cells (n*ty.size)) (by rw[size_madeCells])
  (fun k hk=>by rw[yUs hk];exact yIg h4 h7 (by simp_all)) bd hp hf
 have hr:=yO9 (P:=P) (w:=w) hu h1 h2 h3 cP b1
 refine qM.after b3 b5 (ySa b4 (by grind) (b6.fresh aQ) (c:=n) (us:=res) (e:=e) (by omega) (by omega) (by grind) ?_)
 simp_all
structure uh (M:zL) (J:List Nat) (n:Nat) (rows:List (List Int)) (vals:Array Value) (rc:List (Option Nat×Nat)):Prop where
 len:rows.length=n
 size:vals.size=n
 rlen:rc.length=n
 row:∀k (h:k<rows.length),∃rb v,rc[k]? =some (rb,rows[k].length)∧vals[k]? =some v∧lK M.H rb rows[k].length v∧
  (∀R,rb=some R→∃rv er,M.H[R]? =some (.cells rv er (0,0))∧∀j (h':j<rows[k].length),rv[j]? =some (.int .i64 rows[k][j]))
 nd:(rc.filterMap (·.1)).Nodup
 of:∀R∈rc.filterMap (·.1),∃j∈J,∃C,M.κ j=some C∧R∈C.fp
 js:∀j∈J,∃ys:List Int,M.h j=some (.arr true (.int .i64) ys)
theorem uh.put {M}(ok:Ok M){J n rows vals rc}(I:uh M J n rows vals rc){i}(hi:i<n){v rv r u}
  (hv:zV M v rv) (ht:xo M.h v=some (r,u)) (hJ:∀p∈u,p.1∉J):∃K2,uh M (J++u.map (·.1)) n (rows.set i r) (yS vals i rv.cells.toList) K2∧rv.cells.size=1∧(∀p∈u,p.2=.gone):=by
 have put:∀(rb:Option Nat) (J':List Nat),rv.one1=true→lK M.H rb r.length rv→(∀R,rb=some R→∃rv er,M.H[R]? =some (.cells rv er (0,0))∧∀j (h':j<r.length),rv[j]? =some (.int .i64 r[j]))→
   (∀R,rb=some R→R∉rc.filterMap (·.1))→(∀R,rb=some R→∃j∈J',∃C,M.κ j=some C∧R∈C.fp)→(∀j∈J',∃ys:List Int,M.h j=some (.arr true (.int .i64) ys))→
   uh M (J++J') n (rows.set i r) (yS vals i rv.cells.toList) (rc.set i (rb,r.length))∧rv.cells.size=1:=by
  intro rb J' h1 h2 h3 h4 h5 h6
  have aF:rv.cells=#[rv]:=by cases rv<;>first|rfl|cases h1
  obtain⟨s1,s2⟩:=KS (x:=(rb,r.length)) rc i I.nd h4
  have aJ:i+rv.cells.toList.length≤vals.size:=by rw[aF,I.size];show i+1≤n;omega
  refine⟨⟨by rw[List.length_set];exact I.len,by rw[gf aJ];exact I.size,by rw[List.length_set];exact I.rlen,fun k hk=>?_,s1,fun R hR=>?_,fun j hj=>?_⟩,by rw[aF];rfl⟩
  ·rw[List.length_set] at hk
   by_cases e:k=i
   ·subst e
    rw[List.getElem_set_self]
    refine⟨rb,rv,?_,?_,h2,h3⟩
    ·rw[List.getElem?_set_self (by rw[I.rlen];exact hi)]
    ·rw[jG aJ,if_neg (by omega),if_pos (by rw[aF];show k<k+1;omega),aF]
     simp
   ·rw[List.getElem_set_ne (Ne.symm e)]
    obtain⟨nY,v',p1,p2,p3,p4⟩:=I.row k hk
    refine⟨nY,v',by rw[List.getElem?_set_ne (Ne.symm e)];exact p1,?_,p3,p4⟩
    rw[jG aJ,aF]
    grind
  ·rcases s2 R hR with h|h
   ·obtain⟨j,hj,hC⟩:=I.of R h
    exact⟨j,by grind,hC⟩
   grind
  ·rcases List.mem_append.1 hj with h|h
   ·exact I.js j h
   ·exact h6 j h
 unfold xo at ht
 split at ht
 ·rename_i jd
  split at ht
  ·rename_i ys cY
   cases ht
   obtain⟨Cj,ez,mA⟩:=ok.obj jd _ cY
   obtain⟨jr,jf⟩:=Gu mA
   obtain⟨r1,r2⟩:=QQ ez mA hv
   have uc:∀j∈[jd],∃ys:List Int,M.h j=some (.arr true (.int .i64) ys):=by grind
   have:=put Cj.blk [jd] (zY.one (c:=.osl jd none) hv) r1 r2 (fun R hR hm=>?_) (by grind) (fun j hj=>uc j hj)
   ·exact(by grind)
   ·obtain⟨j,hj,C,hC,hRC⟩:=I.of R hm
    obtain⟨ys',lN⟩:=I.js j hj
    have bm:j≠jd:=fun e=>hJ (jd,.gone) (by simp) (e▸hj)
    exact ok.disj j jd _ _ C Cj R bm lN cY rfl rfl hC ez hRC (fi hR)
  ·cases ht
 ·cases ht
  have e:rv=.slice none 0 0:=hv
  have:=put none [] (by rw[e];rfl) ⟨e,rfl⟩ (by simp) (by simp) (by simp) (by simp)
  exact by grind
 ·cases ht
theorem BV:∀{l},rJ l=true→l.Nodup
 |[],_=>by simp
 |a::l,h=>by
  simp only[rJ,Bool.and_eq_true] at h
  refine List.nodup_cons.2 ⟨fun hm=>?_,BV h.2⟩
  have:l.any (Nat.beq a)=true:=List.any_eq_true.2 ⟨a,hm,by simp⟩
  simp_all
theorem yG1 {M}(ok:Ok M){n}:∀{parts aL J rows out vals rc u},uh M J n rows vals rc→
  (∀p∈parts,p.1<n)→zM (xG M) parts aL→xp M.h rows parts=some (out,u)→(J++u.map (·.1)).Nodup→
  ∃res K2,Instr.fill (fun i=>some (i*1,1)) vals aL=some res∧uh M (J++u.map (·.1)) n out res K2∧(∀p∈u,p.2=.gone)
 |[],[],J,rows,out,vals,rc,u,I,_,_,h,_=>by
  cases h
  exact⟨vals,rc,rfl,by simp_all,by simp⟩
 |(i,v)::parts,(i',rv)::aL,J,rows,out,vals,rc,u,I,bd,hp,h,dA=>by
  obtain⟨⟨hi,hv⟩,hp⟩:=hp
  subst hi
  unfold xp at h
  split at h
  ·rename_i r u1 ht
   split at h
   ·rename_i abB us bV
    cases h
    rw[List.map_append,←List.append_assoc] at dA
    have fk:i<n:=bd (i,v) (by simp)
    obtain⟨K2,I',h1,hg⟩:=I.put ok fk hv ht (by grind)
    obtain⟨res,rc2,b1,b2,b3⟩:=yG1 ok I' (by grind) hp bV dA
    refine⟨res,rc2,?_,by simp_all,fun p hp=>?_⟩
    ·rw[Re _ vals i rv aL (i*1) 1 rfl h1 (by rw[I.size];omega),Nat.mul_one];exact b1
    grind
   ·cases h
  ·cases h
theorem Rh {j}:∀{u h},(∀p∈u,p.2=.gone)→j∈u.map (·.1)→qL h u j=some .gone
 |(id,o)::u,h,hg,hj=>by
  have ho:o=.gone:=hg (id,o) (by simp)
  subst ho
  by_cases hm:j∈u.map (·.1)
  ·exact Rh (u:=u) (by grind) hm
  ·have e:j=id:=by
    simp_all
   subst e
   show qL (yF h j .gone) u j=_
   rw[KT]
   ·exact yM _ _ _
   ·rw[Bool.eq_false_iff]
    simp_all
theorem BW {n u h}(hn:n∉u.map (·.1)):qL h u n=h n:=by
 refine KT h ?_
 rw[Bool.eq_false_iff]
 simp_all
theorem vWh {P:Program}{M:zL}{w}(ok:Ok M)(hM:M.H=w.heap){nm n c}{rows res rc J}{u:vC}{e s}
  (aQ:M.h nm=none) (I:uh M J n rows (res.extract 0 n) rc) (hJ:∀j,j∈J→j∈u.map (·.1)) (hg:∀p∈u,p.2=.gone∧∃o,M.h p.1=some o∧o.owned=true) (hc:n≤c) (hs:c≤res.size)
  w' (hw:w'.heap=w.heap.push (.cells res e)∧w'.os=w.os∧w'.tape=w.tape∧w'.output=w.output)
  (hr:s.run P w=.ok (.slice (some ⟨w.heap.size,0,none⟩) n c) w'):qM P s M w (.c (.osl nm none)) (u++[(nm,.mat 0 rows)]):=by
 let C:qC:=⟨some M.H.size,n,1,0,rc⟩
 have hnJ:nm∉u.map (·.1):=(by grind)
 have aW:∀R∈rc.filterMap (·.1),∃j C,(j∈u.map (·.1))∧M.κ j=some C∧R∈C.fp:=fun R hR=>by
  obtain⟨j,hj,C,hC,hm⟩:=I.of R hR
  grind
 have abQ:∀R∈rc.filterMap (·.1),R<M.H.size:=fun R hR=>by
  obtain⟨j,hj,C,hC,hm⟩:=I.of R hR
  obtain⟨ys,hy⟩:=I.js j hj
  exact(ok.own R ⟨j,_,C,hy,rfl,hC,hm⟩).2
 have hh:∀n',(qL M.h (u++[(nm,.mat 0 rows)])) n'=if n'=nm then some (.mat 0 rows) else qL M.h u n':=fun n'=>by
  rw[kq,QC]
  by_cases e:n'=nm
  ·rw[if_pos e,e,yM]
  ·rw[if_neg e,yQ _ _ e]
 have:=zL.move_ok (M:=M) (nm:=nm) (o':=.mat 0 rows) (C':=C) (h':=qL M.h (u++[(nm,.mat 0 rows)])) (H':=M.H.push (.cells res e)) ok (fun j=>j∈u.map (·.1)) aQ
  (fun j hj=>by
   obtain⟨p,hp,e⟩:=List.mem_map.1 hj
   obtain⟨_,o,ho,gY⟩:=hg p hp
   refine⟨o,by rw[←e];exact ho,gY,?_⟩
   have bm:j≠nm:=by grind
   rw[hh,if_neg bm]
   exact Rh (by grind) hj)
  (by rw[hh,if_pos rfl]) (fun n' h1 h2=>by rw[hh,if_neg h2];exact BW h1) (by simp) (fun b hb _=>nW hb) (fun b hb=>BC (nW hb))
  (fun b hb=>by
   simp only[C,qC.fp,Option.toList_some,List.singleton_append,List.mem_cons] at hb
   grind)
  (fun x=>by
   refine⟨rfl,I.len.symm,rfl,by rw[I.len];exact I.rlen,?_,res,e,xw,by rw[I.len];omega,fun k hk=>?_⟩
   ·simp only[C,qC.fp,Option.toList_some,List.singleton_append]
    exact List.nodup_cons.2 ⟨by grind,I.nd⟩
   ·obtain⟨rb,v,p1,p2,p3,p4⟩:=I.row k hk
    refine⟨rb,v,p1,?_,p3.ext x,fun R hR=>?_⟩
    ·grind
    ·obtain⟨rv,er,p5,p6⟩:=p4 R hR
     refine⟨rv,er,?_,p6⟩
     have:R<M.H.size:=by grind
     show(M.H.push _)[R]? =_
     grind)
 refine⟨_,_,_,hr,hw.2.1,hw.2.2.1,hw.2.2.2,by show M.H.push _=_;rw[hw.1,hM],rfl,this.1,this.2,C,κset_same _ _ _,_,c,rfl,?_⟩
 refine⟨hc,0,by rw[hM],.inr (by simp),?_⟩
 have:qX (M.H.push (.cells res e)) M.H.size=res.size:=by simp[qX]
 show(0+c)*1≤qX (M.H.push (.cells res e)) M.H.size
 rw[this];omega
theorem Ri {P M w}(ok:Ok M)(hM:M.H=w.heap){mat nm t n parts aL v u}
  (hp:zM (xG M) parts aL) (h:yH (Bm P mat nm M.h t n parts) v u):qM P (Instr.buildSlice t n aL.toArray) M w v u:=by
 unfold Bm at h
 split at h
 ·rename_i e hu aQ
  obtain⟨cP,h⟩:=fR h
  have cP:=Nat.le_of_ble_eq_true cP
  cases mat with
  |true=>
   split at h
   ·rename_i rows u' dB hf
    obtain⟨hb,h⟩:=fR h
    simp only[Bool.and_eq_true] at hb
    obtain⟨_,rfl,rfl⟩:=gd h
    obtain⟨i,z,h1,h2,h3,h4,h5,h6,h7⟩:=pK dB
    have K0:z.cells.toList=[.slice none 0 0]:=h4
    have Rc:z.cells.size=1:=h7
    have I0:uh M [] n (List.replicate n []) (madeCells z.cells (n*1)) (List.replicate n (none,0)):=by
     refine⟨by simp,by rw[size_madeCells,Nat.mul_one],by simp,fun k hk=>?_,by simp,by simp,by simp⟩
     have hkn:k<n:=by simp_all
     refine⟨none,.slice none 0 0,by simp[hkn],?_,⟨rfl,by simp⟩,by simp⟩
     simp only[madeCells]
     have:z.cells.toList[0]'(by grind)=.slice none 0 0:=by grind
     grind
    obtain⟨res,rc,b1,b2,b3⟩:=yG1 ok I0 (ySi hb.2) hp hf (by simpa using BV hb.1)
    have hr:=yO9 (P:=P) (w:=w) (ty:=.sl (.int .i64)) hu h1 h2 h3 cP b1
    have Rj:res.extract 0 n=res:=by
     have:=b2.size
     simp_all
    refine vWh ok hM aQ (by rw[Rj];exact b2) (by simp) (fun p hp=>⟨b3 p hp,?_⟩) (by simp) (by rw[b2.size];omega) (w.alloc (.cells res e)) ⟨rfl,rfl,rfl,rfl⟩ hr
    obtain⟨ys,hy⟩:=b2.js p.1 (by grind)
    exact⟨_,hy,rfl⟩
   ·exact h.elim
  |false=>
   simp  at h
   split at h
   ·rename_i ty dB
    split at h
    ·rename_i xs u' hf
     obtain⟨hb,h⟩:=fR h
     obtain⟨_,rfl,rfl⟩:=gd h
     exact vE7 ok hM hp hu aQ dB cP (ySi hb) hf
    ·exact h.elim
   ·exact h.elim
 ·exact h.elim
theorem Rk {H F}:∀t x rd,qE H F t x rd→∀j,j<t.size→∃v,rd j=some v∧v.one1=true
 |.int k,x,rd,h,j,hj
 |.bool,x,rd,h,j,hj=>by
  simp[Ty.size] at hj
  obtain rfl:j=0:=by omega
  exact⟨_,h,rfl⟩
 |.sl t,x,rd,h,j,hj=>by
  simp[Ty.size] at hj
  obtain rfl:j=0:=by omega
  obtain⟨A,n,c,h1,_⟩:=h
  exact⟨_,h1,rfl⟩
 |.pair a b,x,rd,h,j,hj=>by
  simp[Ty.size] at hj
  by_cases bd:j<a.size
  ·exact Rk a _ _ h.1 j bd
  ·have:=Rk b _ _ h.2 (j-a.size) (by omega)
   simp_all
def Rd (H : Array Go.Obj) (v : Value) (n size : Nat) (news : List Value) : Prop := ∃ A c, v = .slice A n c ∧ news.length = n * size ∧ (∀ u ∈ news, u.one1 = true) ∧ (match A with
 |none=>n=0
 |some a=>n=0∨a.spot=none∧∀j u,news[j]? =some u→yN H a.block (a.off+j)=some u)
theorem Rd.first {P H v n size news}(h:Rd H v n size news) w (hw:w.heap=H):(Builtin.firstCells size n v).run P w=.ok news.toArray w:=by
 obtain⟨A,c,rfl,hl,_,h⟩:=h
 cases A with
 |none=>
  have h0:n=0:=h
  subst h0
  have:news=[]:=by grind
  subst this
  rfl
 |some a=>
  rcases h with h0|⟨hs,h⟩
  ·subst h0
   have:news=[]:=by grind
   subst this
   simp[Builtin.firstCells,loadCells,loadCellsFrom]
  ·obtain⟨B,o,sp⟩:=a
   cases hs
   exact run_firstCells_some w size n ⟨B,o,none⟩ n c news hl (fun j u hu=>by rw[Addr.add_lit,rO,hw];simp_all)
theorem Rl {H F t}{ys:List t.den}{B o c}(hc:ys.length≤c)(h:∀i hi,qE H F t ys[i] (fun j=>yN H B (o+i*t.size+j))):
  ∃news,Rd H (.slice (some ⟨B,o,none⟩) ys.length c) ys.length t.size news∧∀i hi,qE H F t ys[i] (fun j=>news[i*t.size+j]?):=by
 have tot:∀k,k<ys.length*t.size→∃v,yN H B (o+k)=some v∧v.one1=true:=by
  intro k hk
  have hi:k/t.size<ys.length:=Nat.div_lt_of_lt_mul (by grind)
  obtain⟨v,h1,h2⟩:=Rk t _ _ (h _ hi) (k%t.size) (Nat.mod_lt _ t.size_pos)
  refine⟨v,?_,h2⟩
  rw[Nat.add_assoc,Nat.mul_comm,Nat.div_add_mod] at h1
  exact h1
 refine⟨(List.range (ys.length*t.size)).map fun k=>(yN H B (o+k)).getD undef,⟨_,c,rfl,by simp,fun u hu=>?_,.inr ⟨rfl,fun j u hu=>?_⟩⟩,fun i hi=>?_⟩
 ·grind
 ·grind
 ·refine yY (by simp) (by simp) t _ _ _ (fun j hj=>?_) (h i hi)
  have aW:=Nat.mul_le_mul_right t.size (show i+1≤ys.length by omega)
  grind
theorem GD {H F t A c}:∃news,Rd H (.slice A 0 c) 0 t.size news∧∀i hi,qE H F t ([]:List t.den)[i] (fun j=>news[i*t.size+j]?):=
 ⟨[],⟨A,c,rfl,by simp,by simp,by grind⟩,by simp⟩
theorem Rm {H F t}{ys:List t.den}{v}(h:qE H F (.sl t) ys (fun _=>some v)):
  ∃news,Rd H v ys.length t.size news∧∀i hi,qE H F t ys[i] (fun j=>news[i*t.size+j]?):=by
 simp[qE] at h
 obtain⟨A,n,c,rfl,rfl,hc,h⟩:=h
 rcases h with⟨rfl,_⟩|⟨B,o,rfl,hB,hE⟩
 ·exact GD
 ·exact Rl hc hE
theorem xH {M own t xs C id r v}(hC:M.κ id=some C)(hO:yV M (.arr own t xs) C)(hv:zY M (.osl id r) v):
  ∃news,Rd M.H v (iK xs r).length t.size news∧∀i hi,qE M.H M.G t (iK xs r)[i] (fun j=>news[i*t.size+j]?):=by
 obtain⟨h1,h2,h3,h4⟩:=hO
 obtain⟨C',aD,hv⟩:=hv
 rw[hC] at aD;cases aD
 have key:∀lo n,lo+n≤C.len→wU M.H C lo n v→∃news,Rd M.H v (qW xs lo n).length t.size news∧∀i (hi:i<(qW xs lo n).length),qE M.H M.G t (qW xs lo n)[i] (fun j=>news[i*t.size+j]?):=by
  intro lo n hn hS
  obtain⟨A,c,rfl,hS⟩:=hS
  have hl:=BG (xs:=xs) (lo:=lo) (n:=n) (by omega)
  by_cases h0:n=0
  ·subst h0
   have e:qW xs lo 0=[]:=by rfl
   exact GD
  ·cases hB:C.blk with
   |none=>simp_all
   |some B=>
    rw[hB] at hS h4
    obtain⟨hc,a,rfl,ha,_⟩:=hS
    obtain⟨vals,e,h5,h6,h7,h8⟩:=h4
    have nk:a=lo*C.sz:=by omega
    have := Rl (H := M.H) (F := M.G) (ys := qW xs lo n) (B := B) (o := a) (c := c) (by omega) (fun i hi=>by
     obtain⟨bP,e1⟩:=KQ hi
     rw[e1]
     refine yY (by simp) (by simp) t _ _ _ (fun j hj=>?_) (h8 (lo+i) bP)
     rw[nk,h2,←Nat.add_mul]
     simp[yN,h5])
    simp_all
 cases r with
 |none=>
  have:=key 0 C.len (by omega) hv
  rw[h1,yIw] at this
  exact this
 |some p=>exact key p.1 p.2 hv.1 hv.2.1
theorem pL {P w t e i A sLen sCap n size x news} T (hu:P.underlying t=some (.slice e))(hi:P.info? e=some i)(hs:i.size=size)
  (hx : Rd w.heap x n size news) (aU : sLen + n ≤ sCap) w' (hw:match A with
   |none=>w'=w
   |some a=>(storeCells (a.add (sLen*size)) news).run P w=.ok () w'):
  (Builtin.append_ #[t,t] T #[.slice A sLen sCap,x]).run P w=.ok (.slice A (sLen+n) sCap) w':=by
 have hf:=hx.first (P:=P) w rfl
 obtain⟨X,c,rfl,_⟩:=hx
 subst hs
 cases A with
 |none=>
  subst hw
  simp[Builtin.append_,run_underlying hu,sizeOf,typeInfo,hi,Builtin.lenOf,aU,hf]
 |some a=>simp[Builtin.append_,run_underlying hu,sizeOf,typeInfo,hi,Builtin.lenOf,aU,hf,hw]
theorem Rn {P}{w}{t e}{i}{z}{A sLen sCap n size x olds news} T (hu:P.underlying t=some (.slice e))(hi:P.info? e=some i)(hz:i.zero=some z)
  (hs:i.size=size) (hb:Rd w.heap (.slice A sLen sCap) sLen size olds) (hx:Rd w.heap x n size news) (hg:sCap<sLen+n) (h46:(sLen+n)*i.bytes≤140737488355328) (abR:sLen+n≤140737488355328):
  (Builtin.append_ #[t,t] T #[.slice A sLen sCap,x]).run P w=
   .ok (.slice (some ⟨w.heap.size,0,none⟩) (sLen+n) (grownCap w (sLen+n) sCap e)) (w.drew.alloc (.cells (olds.toArray++news.toArray++Builtin.zeroCells z.cells (grownCap w (sLen+n) sCap e-(sLen+n))) e)):=by
 have hf:=hx.first (P:=P) w.drew rfl
 have hfo:=hb.first (P:=P) w.drew rfl
 obtain⟨X,c,rfl,_⟩:=hx
 subst hs
 have hn:¬(sLen+n≤sCap):=by omega
 have abS:¬(9223372036854775807<((sLen:Int)+(n:Int))):=by omega
 have abT:¬(281474976710656<Builtin.nextslicecap (sLen+n) sCap*i.bytes):=by
  have h1:=Nat.mul_le_mul_right i.bytes (nextslicecap_le hg)
  grind
 simp[Builtin.append_,run_underlying hu,sizeOf,typeInfo,zeroValue,hi,hz,Builtin.lenOf,Question.forced,hf,hfo,newRow,grownCap]
 grind
theorem BX z n:(Builtin.zeroCells z n).size=n*z.size:=by simp[Builtin.zeroCells]
theorem Ro {H F t}{xs ys:List t.den}{olds news:List Value}(hl:olds.length=xs.length*t.size)(hx:∀i h,qE H F t xs[i] (fun j=>olds[i*t.size+j]?))
  (hy:∀i h,qE H F t ys[i] (fun j=>news[i*t.size+j]?)):∀i h,qE H F t (xs++ys)[i] (fun j=>(olds++news)[i*t.size+j]?):=by
 intro i hi
 by_cases h:i<xs.length
 ·rw[List.getElem_append_left h]
  refine yY (by simp) (by simp) t _ _ _ (fun j hj=>?_) (hx i h)
  have:=Nat.mul_le_mul_right t.size (show i+1≤xs.length by omega)
  grind
 ·rw[List.getElem_append_right (by omega)]
  refine yY (by simp) (by simp) t _ _ _ (fun j hj=>?_) (hy (i-xs.length) (by grind))
  have:=Nat.mul_le_mul_right t.size (show xs.length≤i by omega)
  rw[List.getElem?_append_right (by omega),hl]
  congr 1
  rw[Nat.sub_mul];omega
def GG (M:zL)(w:World)(v:zX)(u:vC)(rv:Value)(w':World):Prop:=
 ∃M',w'.os=w.os∧w'.tape=w.tape∧w'.output=w.output∧M'.H=w'.heap∧M'.h=qL M.h u∧Ok M'∧yX M M'∧zV M' v rv
theorem GG.runs {P s M w w' v u rv}(h:GG M w v u rv w')(hr:s.run P w=.ok rv w'):qM P s M w v u:=by
 obtain⟨M',h⟩:=h
 exact⟨_,_,M',hr,h⟩
theorem yO6 {M w}(ok:Ok M)(hM:M.H=w.heap){nm t zs us e c}{u:vC}(aQ:M.h nm=none)
  (hg:∀p∈u,p.2=.gone∧∃o,M.h p.1=some o∧o.owned=true) (hc:zs.length≤c) (hs:c*t.size≤us.size) (hx:∀i h,qE M.H M.G t zs[i] (fun j=>us[i*t.size+j]?))
  {w':World} (hw:w'.heap=w.heap.push (.cells us e)∧w'.os=w.os∧w'.tape=w.tape∧w'.output=w.output):
  GG M w (.c (.osl nm none)) (u++[(nm,.arr true t zs)]) (.slice (some ⟨w.heap.size,0,none⟩) zs.length c) w':=by
 let C:qC:=⟨some M.H.size,zs.length,t.size,0,[]⟩
 have hh:∀n',(qL M.h (u++[(nm,.arr true t zs)])) n'=if n'=nm then some (.arr true t zs) else qL M.h u n':=fun n'=>by
  rw[kq,QC]
  by_cases e:n'=nm
  ·rw[if_pos e,e,yM]
  ·rw[if_neg e,yQ _ _ e]
 have hle:=Nat.mul_le_mul_right t.size hc
 have:=zL.move_ok (M:=M) (nm:=nm) (o':=.arr true t zs) (C':=C) (h':=qL M.h (u++[(nm,.arr true t zs)])) (H':=M.H.push (.cells us e)) ok (fun j=>j∈u.map (·.1)) aQ
  (fun j hj=>by
   obtain⟨p,hp,e⟩:=List.mem_map.1 hj
   obtain⟨_,o,ho,gY⟩:=hg p hp
   refine⟨o,by simp_all,gY,?_⟩
   have bm:j≠nm:=by grind
   rw[hh,if_neg bm]
   exact Rh (by grind) hj)
  (by simp_all) (fun n' h1 h2=>by rw[hh,if_neg h2];exact BW h1) (by simp) (by grind) (fun b hb=>BC (nW hb))
  (fun b hb=>by
   simp only[C,qC.fp] at hb
   simp_all)
  (fun x=>⟨rfl,rfl,(by grind),us,e,xw,by simp,by omega,fun i hi=>yY x.G x.sameG t _ _ _ (by simp) (hx i hi)⟩)
 refine⟨_,hw.2.1,hw.2.2.1,hw.2.2.2,by show M.H.push _=_;simp_all,rfl,this.1,this.2,C,κset_same _ _ _,_,c,rfl,?_⟩
 refine⟨hc,0,by rw[hM],by simp,?_⟩
 have:qX (M.H.push (.cells us e)) M.H.size=us.size:=by simp[qX]
 show(0+c)*t.size≤qX (M.H.push (.cells us e)) M.H.size
 simp_all
theorem yWz {P M w}(ok:Ok M)(hM:M.H=w.heap){nm t zs us e s c}{u:vC}(aQ:M.h nm=none)
  (hg:∀p∈u,p.2=.gone∧∃o,M.h p.1=some o∧o.owned=true) (hc:zs.length≤c) (hs:c*t.size≤us.size) (hx:∀i h,qE M.H M.G t zs[i] (fun j=>us[i*t.size+j]?))
  {w'} (hr:s.run P w=.ok (.slice (some ⟨w.heap.size,0,none⟩) zs.length c) w') (hw:w'.heap=w.heap.push (.cells us e)∧w'.os=w.os∧w'.tape=w.tape∧w'.output=w.output):
  qM P s M w (.c (.osl nm none)) (u++[(nm,.arr true t zs)]):=
 (yO6 ok hM aQ hg hc hs hx hw).runs hr
theorem yE8 {M:zL}{w:World}(ok:Ok M)(hM:M.H=w.heap){id nm:Nat}{t:Ty}{gz zs:List t.den}{C:qC}{H':Array Go.Obj}{c:Nat}{A:Option Addr}{w':World}
  (an:M.h id=some (.arr true t gz)) (hC:M.κ id=some C) (aQ:M.h nm=none) (dN:H'.size=M.H.size) (hH:∀b,b∉C.fp→H'[b]? =M.H[b]?) (cO:∀b,qX H' b=qX M.H b)
  (hx:∀M',yL M M'→M'.H=H'→M'.G=M.G→match C.blk with
   |none=>zs=[]
   |some B=>∃vals e,H'[B]? =some (.cells vals e (0,0))∧zs.length*t.size≤vals.size∧∀i (h:i<zs.length),qE M'.H M'.G t zs[i] (fun j=>vals[i*t.size+j]?))
  (hA:match C.blk with
   |none=>A=none∧zs.length=0∧c=0
   |some B=>zs.length≤c∧∃a,A=some ⟨B,a,none⟩∧(c=0∨a=0)∧c*t.size≤qX M.H B)
  (hw:w'.heap=H'∧w'.os=w.os∧w'.tape=w.tape∧w'.output=w.output):
  GG M w (.c (.osl nm none)) [(id,.gone),(nm,.arr true t zs)] (.slice A zs.length c) w':=by
 obtain⟨C0,pM,hO⟩:=ok.obj id _ an
 rw[hC] at pM;cases pM
 obtain⟨fr,ff⟩:=Gu hO
 have bm:id≠nm:=by grind
 let C':qC:=⟨C.blk,zs.length,t.size,0,[]⟩
 have hh:∀n',(qL M.h [(id,.gone),(nm,.arr true t zs)]) n'=if n'=nm then some (.arr true t zs) else if n'=id then some .gone else M.h n':=fun n'=>by
  show(yF (yF M.h id .gone) nm _) n'=_
  by_cases e:n'=nm
  ·rw[if_pos e,e,yM]
  ·rw[if_neg e,yQ _ _ e]
   by_cases e2:n'=id
   ·rw[if_pos e2,e2,yM]
   ·rw[if_neg e2,yQ _ _ e2]
 have:=zL.move_ok (M:=M) (nm:=nm) (o':=.arr true t zs) (C':=C') (h':=qL M.h [(id,.gone),(nm,.arr true t zs)]) (H':=H') ok (fun j=>j=id) aQ
  (fun j hj=>⟨.arr true t gz,by rw[hj];exact an,rfl,by simp_all⟩)
  (by rw[hh,if_pos rfl]) (by grind) (by omega) (by grind) (fun b _=>cO b)
  (fun b hb=>.inr ⟨id,C,rfl,hC,by
   simp only[C',qC.fp,List.filterMap_nil,List.append_nil] at hb
   rw[ff];exact hb⟩)
  (fun x=>by
   refine⟨rfl,rfl,(by grind),?_⟩
   have:=hx _ x rfl rfl
   show match C.blk with
    |none=>_
    |some B=>_
   cases hB:C.blk with
   |none=>simp_all
   |some B=>
    rw[hB] at this
    obtain⟨vals,e,h1,h2,h3⟩:=this
    exact⟨vals,e,h1,by simp,h2,h3⟩)
 refine⟨_,hw.2.1,hw.2.2.1,hw.2.2.2,by rw[hw.1];rfl,rfl,this.1,this.2,C',κset_same _ _ _,_,c,rfl,?_⟩
 show match C.blk with
  |none=>_
  |some B=>_
 cases hB:C.blk with
 |none=>rw[hB] at hA;exact hA
 |some B=>
  rw[hB] at hA
  obtain⟨h1,a,h2,h3,h4⟩:=hA
  refine⟨h1,a,h2,by simpa using h3,?_⟩
  show(0+c)*t.size≤qX H' B
  simp_all
theorem Rp {P M w}(ok:Ok M)(hM:M.H=w.heap){id nm t gz zs C H' s c A w'}
  (an:M.h id=some (.arr true t gz)) (hC:M.κ id=some C) (aQ:M.h nm=none) (dN:H'.size=M.H.size) (hH:∀b,b∉C.fp→H'[b]? =M.H[b]?) (cO:∀b,qX H' b=qX M.H b)
  (hx:∀M',yL M M'→M'.H=H'→M'.G=M.G→match C.blk with
   |none=>zs=[]
   |some B=>∃vals e,H'[B]? =some (.cells vals e (0,0))∧zs.length*t.size≤vals.size∧∀i h,qE M'.H M'.G t zs[i] (fun j=>vals[i*t.size+j]?))
  (hA:match C.blk with
   |none=>A=none∧zs.length=0∧c=0
   |some B=>zs.length≤c∧∃a,A=some ⟨B,a,none⟩∧(c=0∨a=0)∧c*t.size≤qX M.H B)
  (hw:w'.heap=H'∧w'.os=w.os∧w'.tape=w.tape∧w'.output=w.output) (hr:s.run P w=.ok (.slice A zs.length c) w'):
  qM P s M w (.c (.osl nm none)) [(id,.gone),(nm,.arr true t zs)]:=
 (yE8 ok hM an hC aQ dN hH cO hx hA hw).runs hr
theorem GH {n b}(h:(Nat.ble (n*b) 140737488355328&&Nat.ble n 140737488355328)=true):n*b≤140737488355328∧n≤140737488355328:=by
 simp_all
theorem Rq {H H' F F'}:∀t x rd,t.flat=true→qE H F t x rd→qE H' F' t x rd
 |.int k,n,rd,_,h
 |.bool,n,rd,_,h=>h
 |.pair a b,p,rd,hf,h=>by
  simp[Ty.flat] at hf
  exact⟨Rq a _ _ hf.1 h.1,Rq b _ _ hf.2 h.2⟩
theorem yXj {M:zL}{sh s}{xs:List s.den}{v}(hs:(sh||s.flat)=true)(hv:qE M.H (bif sh then M.G else M.F) (.sl s) xs (fun _=>some v)):
  ∃news,Rd M.H v xs.length s.size news∧∀i hi,qE M.H M.G s xs[i] (fun j=>news[i*s.size+j]?):=by
 obtain⟨news,h1,h2⟩:=Rm hv
 refine⟨news,h1,fun i hi=>?_⟩
 cases sh with
 |true=>simp_all
 |false=>exact Rq _ _ _ hs (h2 i hi)
theorem yYp {M}(ok:Ok M){t x ys u v}(hv:zY M x v)(h:rK M.h t x=some (ys,u)):
  u=[]∧∃news,Rd M.H v ys.length t.size news∧∀i hi,qE M.H M.G t ys[i] (fun j=>news[i*t.size+j]?):=by
 unfold rK at h
 split at h
 ·cases h
  have e:v=.slice none 0 0:=hv
  subst e
  exact⟨rfl,GD⟩
 ·rename_i sh s xs
  cases hs:(sh||s.flat) with
  |false=>simp_all
  |true=>
   rw[hs] at h
   simp  at h
   obtain⟨zs,hz,rfl,rfl⟩:=h
   obtain⟨e,hz⟩:=kt hz
   subst e
   subst hz
   exact⟨rfl,yXj hs hv⟩
 ·rename_i sh s xs
  cases hs:(sh||s.flat) with
  |false=>rw[hs] at h;cases h
  |true=>
   rw[hs] at h
   simp  at h
   obtain⟨zs,hz,rfl,rfl⟩:=h
   obtain⟨e,hz⟩:=kt hz
   subst e
   subst hz
   exact⟨rfl,yXj hs hv.2⟩
 ·split at h
  ·rename_i own s xs an
   simp  at h
   obtain⟨zs,hz,rfl,rfl⟩:=h
   obtain⟨e,hz⟩:=kt hz
   subst e
   subst hz
   obtain⟨C,hC,hO⟩:=ok.obj _ _ an
   exact⟨rfl,xH hC hO hv⟩
  ·cases h
 ·cases h
theorem Rr {P M w}(ok:Ok M)(hM:M.H=w.heap){nm t e T ty x ys news}(hu:P.underlying t=some (.slice e))(dB:ja P e=some ty)(aQ:M.h nm=none)
  (hx:Rd M.H x ys.length ty.size news) (hE:∀i hi,qE M.H M.G ty ys[i] (fun j=>news[i*ty.size+j]?)) (aU:ys.length*P.bytesOf e≤140737488355328∧ys.length≤140737488355328):
  qM P (Builtin.append_ #[t,t] T #[.slice none 0 0,x]) M w (.c (.osl nm none)) [(nm,.arr true ty ys)]:=by
 obtain⟨i,z,h1,h2,h3,h4,h5,h6,h7⟩:=pK dB
 by_cases h0:ys.length=0
 ·have hy:ys=[]:=by grind
  subst hy
  have hr:=pL (P:=P) (w:=w) (A:=none) (sLen:=0) (sCap:=0) T hu h1 h3 (by rw[←hM];exact hx) (by simp) w rfl
  let C:qC:=⟨none,0,ty.size,0,[]⟩
  have:=zL.move_ok (M:=M) (nm:=nm) (o':=.arr true ty []) (C':=C) (h':=yF M.h nm (.arr true ty [])) (H':=M.H) ok (fun _=>False) aQ (by simp) (yM _ _ _)
   (fun n' _ h2=>yQ _ _ h2) (by simp) (by simp) (by simp) (nofun) (fun x=>⟨rfl,rfl,by grind,rfl⟩)
  exact⟨_,_,M.move nm C (yF M.h nm (.arr true ty [])) M.H,hr,rfl,rfl,rfl,hM,rfl,this.1,this.2,C,κset_same _ _ _,_,_,rfl,rfl,rfl,rfl⟩
 ·have hb:Rd w.heap (.slice none 0 0) 0 ty.size []:=⟨none,0,rfl,by simp,by simp,rfl⟩
  have hr:=Rn (P:=P) (w:=w) T hu h1 h2 h3 hb (by rw[←hM];exact hx) (by omega) (by simp_all) (by omega)
  simp  at hr
  have hlen:news.length=ys.length*ty.size:=hx.choose_spec.choose_spec.2.1
  have kp:=grownCap_ge w ys.length 0 e
  refine yWz (u:=[]) ok hM aQ (by simp) kp ?_ (fun i hi=>?_) hr ⟨rfl,rfl,rfl,rfl⟩
  ·simp[BX,h7,hlen,←Nat.add_mul]
   simp_all
  ·refine yY (by simp) (by simp) ty _ _ _ (fun j hj=>?_) (hE i hi)
   have:=Nat.mul_le_mul_right ty.size (show i+1≤ys.length by omega)
   grind
theorem Rs {P}{M w}(ok:Ok M)(hM:M.H=w.heap){id nm t e T ty x b gz ys r news}(hu:P.underlying t=some (.slice e))(dB:ja P e=some ty)
  (aQ:M.h nm=none) (an:M.h id=some (.arr true ty gz)) (hb:zY M (.osl id r) b) (oe:match r with|none=>True|some (lo,_)=>lo=0)
  (hx:Rd M.H x ys.length ty.size news) (hE:∀i hi,qE M.H M.G ty ys[i] (fun j=>news[i*ty.size+j]?))
  (aU:((iK gz r).length+ys.length)*P.bytesOf e≤140737488355328∧(iK gz r).length+ys.length≤140737488355328):
  qM P (Builtin.append_ #[t,t] T #[b,x]) M w (.c (.osl nm none)) [(id,.gone),(nm,.arr true ty (iK gz r++ys))]:=by
 obtain⟨i,z,h1,h2,h3,h4,h5,h6,h7⟩:=pK dB
 obtain⟨C,hC,hO⟩:=ok.obj id _ an
 obtain⟨olds,ho,hEo⟩:=xH hC hO hb
 have hlen:news.length=ys.length*ty.size:=hx.choose_spec.choose_spec.2.1
 have lQ:olds.length=(iK gz r).length*ty.size:=ho.choose_spec.choose_spec.2.1
 obtain⟨C',aD,hS⟩:=hb
 rw[hC] at aD;cases aD
 have nq:∃n,(iK gz r).length=n∧wU M.H C 0 n b:=by
  cases r with
  |none=>exact⟨C.len,by rw[hO.1];rfl,hS⟩
  |some p=>
   obtain⟨lo,n⟩:=p
   have:lo=0:=oe
   subst this
   exact⟨n,BG (by have:=hO.1;have:=hS.1;omega),hS.2.1⟩
 obtain⟨n,hn,A,sCap,rfl,nq⟩:=nq
 rw[hn] at lQ ho aU
 have bg:=Ro (H:=M.H) (F:=M.G) (t:=ty) (xs:=iK gz r) (ys:=ys) (olds:=olds) (news:=news) (by rw[hn];exact lQ) hEo hE
 have pN:(iK gz r++ys).length=n+ys.length:=by rw[List.length_append,hn]
 by_cases cQ:n+ys.length≤sCap
 ·
  cases hB:C.blk with
  |none=>
   rw[hB] at nq
   obtain⟨rfl,rfl,rfl⟩:=nq
   have hr:=pL (P:=P) (w:=w) (A:=none) (sLen:=0) (sCap:=0) T hu h1 h3 (by rw[←hM];exact hx) cQ w rfl
   rw[←pN] at hr
   refine Rp (s:=Builtin.append_ #[t,t] T #[.slice none 0 0,x]) (H':=M.H) ok hM an hC aQ rfl (fun _ _=>rfl) (fun _=>rfl) (fun M' _ _ _=>?_) ?_ ⟨hM.symm,rfl,rfl,rfl⟩ hr
   ·rw[hB]
    exact List.eq_nil_of_length_eq_zero (by omega)
   ·rw[hB]
    exact⟨rfl,by omega,rfl⟩
  |some B=>
   rw[hB] at nq
   obtain⟨hc,a,rfl,ha,hs⟩:=nq
   obtain⟨k1,k2,k3,k4⟩:=hO
   rw[hB] at k4
   obtain⟨vals,ev,k5,k6,k7,k8⟩:=k4
   rw[Nat.zero_mul] at ha
   rw[Nat.zero_add,k2] at hs
   have cO:qX M.H B=vals.size:=by simp only[qX,k5]
   rw[cO] at hs
   have iM:w.heap[B]? =some (.cells vals ev (0,0)):=by rw[←hM];exact k5
   by_cases h0:sCap=0
   ·
    have GI:n=0:=by omega
    have Rt:ys.length=0:=by omega
    have hr := pL (P := P) (w := w) (A := some ⟨B, a, none⟩) (sLen := n) (sCap := sCap) T hu h1 h3 (by rw [← hM]; exact hx) cQ w (by
     have:news=[]:=List.eq_nil_of_length_eq_zero (by rw[hlen,Rt,Nat.zero_mul])
     rw[this];rfl)
    rw[←pN] at hr
    have K0:iK gz r++ys=[]:=List.eq_nil_of_length_eq_zero (by omega)
    refine Rp (s:=Builtin.append_ #[t,t] T #[.slice (some ⟨B,a,none⟩) n sCap,x]) (H':=M.H) ok hM an hC aQ rfl (fun _ _=>rfl) (fun _=>rfl) (fun M' _ _ _=>?_) ?_ ⟨hM.symm,rfl,rfl,rfl⟩ hr
    ·rw[hB]
     refine⟨vals,ev,k5,by rw[K0];simp,fun i hi=>?_⟩
     rw[K0] at hi;simp at hi
    ·rw[hB]
     exact⟨by omega,a,rfl,.inl h0,by rw[h0];simp⟩
   ·have mz:a=0:=by rcases ha with ha|ha<;>omega
    subst mz
    have hle:=Nat.mul_le_mul_right ty.size cQ
    rw[Nat.add_mul] at hle
    have aJ:n*ty.size+news.length≤vals.size:=by omega
    have eH:=run_storeCells_at (P:=P) B (n*ty.size) ev news 0 vals w iM (by simpa using aJ) (fun v hv=>xx (hx.choose_spec.choose_spec.2.2.1 v hv))
    simp only[Nat.add_zero] at eH
    have hr:=pL (P:=P) (w:=w) (A:=some ⟨B,0,none⟩) (sLen:=n) (sCap:=sCap) T hu h1 h3 (by rw[←hM];exact hx) cQ (w.setRow B (yS vals (n*ty.size) news)) (by show(storeCells (Addr.add ⟨B,0,none⟩ (n*ty.size)) news).run P w=_;rw[Addr.add_lit,Nat.zero_add];exact eH)
    rw[←pN] at hr
    obtain⟨f1,f2,f3,f4⟩:=nj iM (new:=yS vals (n*ty.size) news) (gf aJ)
    refine Rp (s:=Builtin.append_ #[t,t] T #[.slice (some ⟨B,0,none⟩) n sCap,x]) (H':=(w.setRow B (yS vals (n*ty.size) news)).heap) ok hM an hC aQ (by rw[hM];exact f1)
     (fun b hb=>by rw[hM];exact f3 b fun e=>hb (e▸fi hB)) (fun b=>by rw[hM];exact f4 b) (fun M' xt hH hG=>?_) ?_ ⟨rfl,rfl,rfl,rfl⟩ hr
    ·rw[hB]
     refine⟨_,ev,f2,by rw[pN,gf aJ,Nat.add_mul];omega,fun i hi=>?_⟩
     refine yY xt.G xt.sameG ty _ _ _ (fun j hj=>?_) (bg i hi)
     have aW:=Nat.mul_le_mul_right ty.size (show i+1≤n+ys.length by omega)
     rw[Nat.add_mul,Nat.add_mul] at aW
     rw[jG aJ]
     by_cases bd:i*ty.size+j<n*ty.size
     ·rw[if_pos bd,List.getElem?_append_left (by omega)]
      obtain⟨A',c',e1,_,_,hold⟩:=ho
      simp only[Value.slice.injEq] at e1
      obtain⟨rfl,_,rfl⟩:=e1
      rcases hold with GI|⟨_,hold⟩
      ·rw[GI] at bd;omega
      ·have xI:i*ty.size+j<olds.length:=by omega
       have:=hold (i*ty.size+j) olds[i*ty.size+j] (List.getElem?_eq_getElem xI)
       rw[List.getElem?_eq_getElem xI,←this]
       simp only[yN,k5,Nat.zero_add]
     ·rw[if_neg bd,if_pos (by omega),List.getElem?_append_right (by omega),lQ]
    ·rw[hB]
     exact by grind
 ·
  have hr:=Rn (P:=P) (w:=w) T hu h1 h2 h3 (by rw[←hM];exact ho) (by rw[←hM];exact hx) (by omega) (by rw[h6] at aU;exact aU.1) aU.2
  have kp:=grownCap_ge w (n+ys.length) sCap e
  rw[←pN] at hr kp
  refine yWz (s:=Builtin.append_ #[t,t] T #[.slice A n sCap,x]) (u:=[(id,.gone)]) ok hM aQ (fun p hp=>?_) kp ?_ (fun i hi=>?_) hr ⟨rfl,rfl,rfl,rfl⟩
  ·simp only[List.mem_singleton] at hp
   subst hp
   exact⟨rfl,_,an,rfl⟩
  ·simp only[Array.size_append,List.size_toArray,BX,h7,hlen,lQ,←Nat.add_mul]
   exact Nat.le_of_eq (by congr 1;omega)
  ·refine yY (fun _ h=>h) (fun _ _=>rfl) ty _ _ _ (fun j hj=>?_) (bg i hi)
   have:=Nat.mul_le_mul_right ty.size (show i+1≤n+ys.length by omega)
   rw[Nat.add_mul,Nat.add_mul] at this
   rw[Array.getElem?_append_left (by simp;omega)]
   simp
def BY (H:Array Go.Obj)(row:List Int)(m:Option (Option Nat×Nat))(c:Option Value):Prop:=∃rb v,m=some (rb,row.length)∧c=some v∧lK H rb row.length v∧
 (∀R,rb=some R→∃rv er,H[R]? =some (.cells rv er (0,0))∧∀j (h':j<row.length),rv[j]? =some (.int .i64 row[j]))
theorem yP1 {M ver xs C}(h:yV M (.mat ver xs) C):C.len=xs.length∧C.sz=1∧C.rows.length=xs.length∧C.fp.Nodup∧
  ∃cF:List Value,cF.length=xs.length∧(∀k (h:k<xs.length),BY M.H xs[k] C.rows[k]? cF[k]?)∧
   (match C.blk with
    |none=>xs=[]
    |some B=>∃vals e,M.H[B]? =some (.cells vals e (0,0))∧xs.length≤vals.size∧∀k,k<xs.length→vals[k]? =cF[k]?):=by
 obtain⟨h1,h2,h3,h4,h5,h6⟩:=h
 refine⟨h2,h3,h4,h5,?_⟩
 cases hB:C.blk with
 |none=>
  simp_all
 |some B=>
  rw[hB] at h6
  obtain⟨vals,e,h7,h8,h9⟩:=h6
  refine⟨vals.toList.take xs.length,by simp;omega,fun k hk=>?_,vals,e,h7,h8,by grind⟩
  obtain⟨rb,v,k1,k2,k3,k4⟩:=h9 k hk
  exact⟨rb,v,k1,by grind,k3,k4⟩
theorem BY.one {H row m v}(h:BY H row m (some v)):v.one1=true:=by
 obtain⟨rb,v',_,e,h,_⟩:=h
 cases e
 exact h.one
theorem yXy {M}{xs:List (List Int)}{C id v}(hC:M.κ id=some C)(hv:zY M (.osl id none) v){cF}(hl:cF.length=xs.length)(hlen:C.len=xs.length)(dN:C.sz=1)
  (cj : ∀ u ∈ cF, u.one1 = true) (hb:match C.blk with
    |none=>xs=[]
    |some B=>∃vals e,M.H[B]? =some (.cells vals e (0,0))∧xs.length≤vals.size∧∀k,k<xs.length→vals[k]? =cF[k]?):Rd M.H v xs.length 1 cF:=by
 obtain⟨C',aD,A,c,rfl,hS⟩:=hv
 rw[hC] at aD;cases aD
 rw[hlen]
 refine⟨A,c,rfl,by omega,cj,?_⟩
 cases hB:C.blk with
 |none=>
  simp_all
 |some B=>
  rw[hB] at hS hb
  obtain⟨hc,a,rfl,ha,_⟩:=hS
  obtain⟨vals,e,h1,h2,h3⟩:=hb
  by_cases h0:xs.length=0
  ·omega
  ·refine .inr ⟨rfl,fun j u hu=>?_⟩
   have mz:a=0:=by omega
   have hj:j<xs.length:=by
    grind
   simp[yN]
   simp_all
theorem yEs {C D:qC}(hC:C.fp.Nodup)(hD:D.fp.Nodup)(dR:∀b,b∈C.fp→b∉D.fp):((C.rows++D.rows).filterMap (·.1)).Nodup:=by
 rw[List.filterMap_append]
 refine List.nodup_append.2 ⟨(List.nodup_append.1 hC).2.1,(List.nodup_append.1 hD).2.1,fun a ha b hb e=>?_⟩
 exact dR a (by simp[qC.fp];simp_all) (by simp[qC.fp];simp_all)
theorem K3 {P M w w'}(ok:Ok M)(hM:M.H=w.heap){id jd nm v1 v2 xs ys C Cj C' s A c H'}
  (an:M.h id=some (.mat v1 xs)) (cY:M.h jd=some (.mat v2 ys)) (bm:id≠jd) (hC:M.κ id=some C) (ez:M.κ jd=some Cj) (aQ:M.h nm=none) (dN:M.H.size≤H'.size)
  (hH:∀b,b<M.H.size→C.blk≠some b→H'[b]? =M.H[b]?) (cO:∀b,b<M.H.size→qX H' b=qX M.H b)
  (hl:C'.len=(xs++ys).length) (BZ:C'.sz=1) (xJ:C'.ver=0) (lR:C'.rows=C.rows++Cj.rows) (Ru:∀B,C'.blk=some B→(M.H.size≤B∧B<H'.size)∨C.blk=some B)
  (hx:match C'.blk with
   |none=>xs++ys=[]
   |some B=>∃vals e,H'[B]? =some (.cells vals e (0,0))∧(xs++ys).length≤vals.size∧∀k (h:k<(xs++ys).length),BY M.H (xs++ys)[k] (C.rows++Cj.rows)[k]? vals[k]?)
  (hA:wU H' C' 0 C'.len (.slice A (xs++ys).length c))
  (hw:w'.heap=H'∧w'.os=w.os∧w'.tape=w.tape∧w'.output=w.output) (hr:s.run P w=.ok (.slice A (xs++ys).length c) w'):
  qM P s M w (.c (.osl nm none)) [(id,.gone),(jd,.gone),(nm,.mat 0 (xs++ys))]:=by
 obtain⟨C0,pM,hO⟩:=ok.obj id _ an
 rw[hC] at pM;cases pM
 obtain⟨C1,gX,mA⟩:=ok.obj jd _ cY
 rw[ez] at gX;cases gX
 have Rv:=hO.2.2.2.2.1
 have ndD:=mA.2.2.2.2.1
 have dR:∀b,b∈C.fp→b∉Cj.fp:=fun b h1 h2=>ok.disj id jd _ _ C Cj b bm an cY rfl rfl hC ez h1 h2
 have K4:id≠nm:=by grind
 have hnj:jd≠nm:=by grind
 have hh:∀n',(qL M.h [(id,.gone),(jd,.gone),(nm,.mat 0 (xs++ys))]) n'=if n'=nm then some (.mat 0 (xs++ys)) else if n'=jd then some .gone else if n'=id then some .gone else M.h n':=fun n'=>by
  show(yF (yF (yF M.h id .gone) jd .gone) nm _) n'=_
  by_cases e:n'=nm
  ·rw[if_pos e,e,yM]
  ·rw[if_neg e,yQ _ _ e]
   by_cases e2:n'=jd
   ·rw[if_pos e2,e2,yM]
   ·rw[if_neg e2,yQ _ _ e2]
    by_cases e3:n'=id
    ·rw[if_pos e3,e3,yM]
    ·rw[if_neg e3,yQ _ _ e3]
 have GJ:∀b∈C.fp,b<M.H.size:=fun b hb=>(ok.own b ⟨id,_,C,an,rfl,hC,hb⟩).2
 have GK:∀b∈Cj.fp,b<M.H.size:=fun b hb=>(ok.own b ⟨jd,_,Cj,cY,rfl,ez,hb⟩).2
 have cJ:∀R∈(C.rows++Cj.rows).filterMap (·.1),R∈C.fp∧C.blk≠some R∨R∈Cj.fp:=fun R hR=>by
  rw[List.filterMap_append] at hR
  rcases List.mem_append.1 hR with h|h
  ·refine .inl ⟨by simp only[qC.fp,List.mem_append];exact .inr h,fun e=>?_⟩
   exact(List.nodup_append.1 Rv).2.2 R (by simp[e]) R h rfl
  ·exact .inr (by simp only[qC.fp,List.mem_append];exact .inr h)
 have GL:∀R∈(C.rows++Cj.rows).filterMap (·.1),R<M.H.size∧C.blk≠some R:=fun R hR=>by
  rcases cJ R hR with⟨h1,h2⟩|h
  ·exact⟨GJ R h1,h2⟩
  ·exact⟨GK R h,fun e=>dR R (fi e) h⟩
 have nd':C'.fp.Nodup:=by
  simp only[qC.fp,lR]
  cases hB:C'.blk with
  |none=>simpa using yEs Rv ndD dR
  |some B=>
   simp only[Option.toList_some,List.singleton_append]
   refine List.nodup_cons.2 ⟨fun hm=>?_,yEs Rv ndD dR⟩
   grind
 have:=zL.move_ok (M:=M) (nm:=nm) (o':=.mat 0 (xs++ys)) (C':=C') (h':=qL M.h [(id,.gone),(jd,.gone),(nm,.mat 0 (xs++ys))]) (H':=H') ok (fun j=>j=id∨j=jd) aQ
  (fun j hj=>by
   rcases hj with rfl|rfl
   ·exact⟨_,an,rfl,by rw[hh,if_neg K4,if_neg bm,if_pos rfl]⟩
   ·exact⟨_,cY,rfl,by rw[hh,if_neg hnj,if_pos rfl]⟩)
  (by rw[hh,if_pos rfl]) (fun n' h1 h2=>by rw[hh,if_neg h2,if_neg (fun e=>h1 (.inr e)),if_neg (fun e=>h1 (.inl e))]) dN
  (fun b hb hn=>hH b hb fun e=>hn id C (.inl rfl) hC (fi e)) cO
  (fun b hb=>by
   simp only[qC.fp,lR,List.mem_append] at hb
   rcases hb with hb|hb
   ·cases hB:C'.blk with
    |none=>rw[hB] at hb;simp at hb
    |some B=>
     rw[hB] at hb
     simp at hb
     subst hb
     rcases Ru b hB with h|h
     ·exact .inl h
     ·exact .inr ⟨id,C,.inl rfl,hC,fi h⟩
   simp_all)
  (fun x=>by
   refine⟨xJ,hl,BZ,?_,nd',?_⟩
   ·rw[lR,List.length_append,hO.2.2.2.1,mA.2.2.2.1,List.length_append]
   ·cases hB:C'.blk with
    |none=>rw[hB] at hx;exact hx
    |some B=>
     rw[hB] at hx
     obtain⟨vals,e,k1,k2,k3⟩:=hx
     refine⟨vals,e,k1,k2,fun k hk=>?_⟩
     obtain⟨rb,v,q1,q2,q3,q4⟩:=k3 k hk
     refine⟨rb,v,by rw[lR];exact q1,q2,q3.ext x,fun R hR=>?_⟩
     obtain⟨rv,er,q5,q6⟩:=q4 R hR
     have hRm:=GL R (List.mem_filterMap.2 ⟨_,List.mem_of_getElem? q1,hR⟩)
     exact⟨rv,er,by show H'[R]? =_;rw[hH R hRm.1 hRm.2];exact q5,q6⟩)
 exact⟨_,_,M.move nm C' (qL M.h [(id,.gone),(jd,.gone),(nm,.mat 0 (xs++ys))]) H',hr,hw.2.1,hw.2.2.1,hw.2.2.2,hw.1.symm,rfl,this.1,this.2,C',κset_same _ _ _,by rw[hl] at hA⊢;exact hA⟩
theorem Rw {H}{xs:List (List Int)}{rc:List (Option Nat×Nat)}{cF:List Value}(hl:cF.length=xs.length)(h:∀k (h:k<xs.length),BY H xs[k] rc[k]? cF[k]?):∀u∈cF,u.one1=true:=by
 intro u hu
 obtain⟨k,hk,rfl⟩:=List.getElem_of_mem hu
 have:=h k (by omega)
 rw[List.getElem?_eq_getElem hk] at this
 exact this.one
theorem vTx {P M w}(ok:Ok M)(hM:M.H=w.heap){id jd nm v1 v2 t e T x b xs ys}(hu:P.underlying t=some (.slice e))(dB:ja P e=some (.sl (.int .i64)))
  (aQ:M.h nm=none) (an:M.h id=some (.mat v1 xs)) (cY:M.h jd=some (.mat v2 ys)) (bm:id≠jd) (hb:zY M (.osl id none) b) (hx:zY M (.osl jd none) x)
  (aU:(xs.length+ys.length)*P.bytesOf e≤140737488355328∧xs.length+ys.length≤140737488355328):
  qM P (Builtin.append_ #[t,t] T #[b,x]) M w (.c (.osl nm none)) [(id,.gone),(jd,.gone),(nm,.mat 0 (xs++ys))]:=by
 obtain⟨i,z,h1,h2,h3,h4,h5,h6,h7⟩:=pK dB
 obtain⟨C,hC,hO⟩:=ok.obj id _ an
 obtain⟨Cj,ez,mA⟩:=ok.obj jd _ cY
 obtain⟨a1,a2,a3,a4,olds,a5,a6,a7⟩:=yP1 hO
 obtain⟨b1,b2,b3,b4,news,b5,b6,b7⟩:=yP1 mA
 have ho:=yXy hC hb a5 a1 a2 (Rw a5 a6) a7
 have hn:=yXy ez hx b5 b1 b2 (Rw b5 b6) b7
 have pN:(xs++ys).length=xs.length+ys.length:=List.length_append
 have cj:=Rw b5 b6
 have bg:∀k (h:k<(xs++ys).length),BY M.H (xs++ys)[k] (C.rows++Cj.rows)[k]? (olds++news)[k]? :=by
  intro k hk
  by_cases bd:k<xs.length
  ·rw[List.getElem_append_left bd,List.getElem?_append_left (by omega),List.getElem?_append_left (by omega)]
   exact a6 k bd
  ·rw[List.getElem_append_right (by omega),List.getElem?_append_right (by omega),List.getElem?_append_right (by omega),a3,a5]
   exact b6 _ (by omega)
 obtain⟨C',aD,A,sCap,rfl,nq⟩:=hb
 rw[hC] at aD;cases aD
 rw[a1] at ho nq
 have rY:i.size=1:=h3
 have Rc:z.cells.size=1:=h7
 by_cases cQ:xs.length+ys.length≤sCap
 ·cases hB:C.blk with
  |none=>
   rw[hB] at nq
   obtain⟨rfl,h0,rfl⟩:=nq
   have hr:=pL (P:=P) (w:=w) (A:=none) (sLen:=xs.length) (sCap:=0) T hu h1 rY (by rw[←hM];exact hn) cQ w rfl
   rw[←pN] at hr
   have cI:xs++ys=[]:=List.eq_nil_of_length_eq_zero (by omega)
   rw[a1]
   refine K3 (C':=⟨none,(xs++ys).length,1,0,C.rows++Cj.rows⟩) (H':=M.H) ok hM an cY bm hC ez aQ (Nat.le_refl _) (fun _ _ _=>rfl) (fun _ _=>rfl) rfl rfl rfl rfl (fun B hB=>by cases hB) cI ⟨none,0,rfl,rfl,(by show(xs++ys).length=0;omega),rfl⟩ ⟨hM.symm,rfl,rfl,rfl⟩ hr
  |some B=>
   rw[hB] at nq a7
   obtain⟨hc,a,rfl,ha,hs⟩:=nq
   obtain⟨vals,ev,k5,k6,k7⟩:=a7
   rw[Nat.zero_mul] at ha
   rw[Nat.zero_add,a2,Nat.mul_one] at hs
   have cO:qX M.H B=vals.size:=by simp only[qX,k5]
   rw[cO] at hs
   have iM:w.heap[B]? =some (.cells vals ev (0,0)):=by rw[←hM];exact k5
   by_cases h0:sCap=0
   ·have hr := pL (P := P) (w := w) (A := some ⟨B, a, none⟩) (sLen := xs.length) (sCap := sCap) T hu h1 rY (by rw [← hM]; exact hn) cQ w (by
     have:news=[]:=List.eq_nil_of_length_eq_zero (by omega)
     rw[this];rfl)
    rw[←pN] at hr
    have cI:xs++ys=[]:=List.eq_nil_of_length_eq_zero (by omega)
    rw[a1]
    refine K3 (C':=⟨some B,(xs++ys).length,1,0,C.rows++Cj.rows⟩) (H':=M.H) ok hM an cY bm hC ez aQ (Nat.le_refl _) (fun _ _ _=>rfl) (fun _ _=>rfl) rfl rfl rfl rfl (fun B' jk=>.inr (by cases jk;exact hB))
     ⟨vals,ev,k5,by rw[cI];simp,fun k hk=>by rw[cI] at hk;simp at hk⟩ ⟨_,sCap,rfl,(by show(xs++ys).length≤sCap;omega),a,rfl,.inl h0,by rw[h0];simp⟩ ⟨hM.symm,rfl,rfl,rfl⟩ hr
   ·have mz:a=0:=by rcases ha with ha|ha<;>omega
    subst mz
    have aJ:xs.length+news.length≤vals.size:=by omega
    have eH:=run_storeCells_at (P:=P) B xs.length ev news 0 vals w iM (by simpa using aJ) (fun v hv=>xx (cj v hv))
    simp only[Nat.add_zero] at eH
    have hr:=pL (P:=P) (w:=w) (A:=some ⟨B,0,none⟩) (sLen:=xs.length) (sCap:=sCap) T hu h1 rY (by rw[←hM];exact hn) cQ (w.setRow B (yS vals xs.length news))
     (by show(storeCells (Addr.add ⟨B,0,none⟩ (xs.length*1)) news).run P w=_;rw[Addr.add_lit,Nat.zero_add,Nat.mul_one];exact eH)
    rw[←pN] at hr
    obtain⟨f1,f2,f3,f4⟩:=nj iM (new:=yS vals xs.length news) (gf aJ)
    rw[a1]
    refine K3 (C':=⟨some B,(xs++ys).length,1,0,C.rows++Cj.rows⟩) (H':=(w.setRow B (yS vals xs.length news)).heap) ok hM an cY bm hC ez aQ (by rw[hM,f1];exact Nat.le_refl _) (fun b hb hn=>by rw[hM];exact f3 b fun e=>hn (e▸hB))
     (fun b _=>by rw[hM];exact f4 b) rfl rfl rfl rfl (fun B' jk=>.inr (by cases jk;exact hB)) ⟨_,ev,f2,by rw[gf aJ];omega,fun k hk=>?_⟩ ⟨_,sCap,rfl,(by show(xs++ys).length≤sCap;omega),0,rfl,.inr (by simp),by show(0+sCap)*1≤qX _ B;rw[f4,←hM,cO];omega⟩ ⟨rfl,rfl,rfl,rfl⟩ hr
    have:=bg k hk
    rw[jG aJ]
    by_cases bd:k<xs.length
    ·rw[if_pos bd,k7 k bd]
     rw[List.getElem?_append_left (l₁:=olds) (by omega)] at this
     exact this
    ·rw[if_neg bd,if_pos (by omega)]
     rw[List.getElem?_append_right (l₁:=olds) (by omega),a5] at this
     exact this
 ·have hr:=Rn (P:=P) (w:=w) T hu h1 h2 rY (by rw[←hM];exact ho) (by rw[←hM];exact hn) (by omega) (by rw[h6] at aU;exact aU.1) aU.2
  have kp:=grownCap_ge w (xs.length+ys.length) sCap e
  rw[←pN] at hr kp
  generalize ni:olds.toArray++news.toArray++Builtin.zeroCells z.cells (grownCap w (xs++ys).length sCap e-(xs++ys).length)=us at hr
  have Rx:us.size=grownCap w (xs++ys).length sCap e:=by
   rw[←ni]
   simp only[Array.size_append,List.size_toArray,BX,Rc]
   omega
  have Ry:∀k,k<(xs++ys).length→us[k]? =(olds++news)[k]? :=fun k hk=>by
   rw[←ni,Array.getElem?_append_left (by simp;omega)]
   simp
  have hbz:∀us:Array Value,qX (M.H.push (.cells us e)) M.H.size=us.size:=fun us=>by simp[qX]
  rw[a1]
  refine K3 (C':=⟨some M.H.size,(xs++ys).length,1,0,C.rows++Cj.rows⟩) (H':=M.H.push (.cells us e)) (w':=w.drew.alloc (.cells us e)) ok hM an cY bm hC ez aQ (by simp) (fun b hb _=>nW hb) (fun b hb=>BC (nW hb)) rfl rfl rfl rfl
   (fun B' jk=>.inl (by cases jk;exact⟨Nat.le_refl _,by simp⟩)) ⟨us,e,xw,by omega,fun k hk=>?_⟩ ⟨_,_,rfl,kp,0,by rw[hM],.inr (by simp),(by rw[hbz,Rx];show(0+_)*1≤_;omega)⟩ ⟨(by rw[hM];rfl),rfl,rfl,rfl⟩ hr
  rw[Ry k hk]
  exact bg k hk
theorem xK {c s v u}(h:yH (bif c then s else .stuck) v u):c=true∧yH s v u:=by
 cases c with
 |true=>simp_all
 |false=>exact h.elim
theorem yBp {c a b v u}(h:yH (bif c then a else b) v u):(c=true∧yH a v u)∨(c=false∧yH b v u):=by
 grind
theorem yGj {z:Value}{t}(h:z.cells.toList=gx t)(hs:z.cells.size=t.size){n i j}(hj:j<t.size)(hi:i<n):(Builtin.zeroCells z.cells n).toList[i*t.size+j]? =(gx t)[j]? :=by
 have aW:=Nat.mul_le_mul_right t.size (show i+1≤n by omega)
 rw[List.getElem?_eq_getElem (l:=gx t) (by grind),←yT1 h hs (i:=i) hj]
 simp[Builtin.zeroCells]
 grind
theorem vW0 {z:Value}{t}(h:z.cells.toList=gx t)(hs:z.cells.size=t.size){n}:∀v∈(Builtin.zeroCells z.cells n).toList,v.one1=true:=by
 intro v hv
 have hz:∀u∈gx t,u.one1=true:=by
  clear h hs hv
  induction t with
  |pair a b BR BS=>
   intro u hu
   rcases List.mem_append.1 hu with hu|hu
   all_goals simp_all
  |_=>
   intro u hu
   rw[List.mem_singleton.1 hu];rfl
 obtain⟨k,hk,rfl⟩:=List.getElem_of_mem hv
 have ue:k<n*t.size:=by rw[Array.length_toList,BX,hs] at hk;exact hk
 have h0:=t.size_pos
 have := yGj h hs (n := n) (i := k / t.size) (j := k % t.size) (Nat.mod_lt _ h0) (by
  rw[Nat.div_lt_iff_lt_mul h0];omega)
 rw[Nat.div_add_mod' k t.size,List.getElem?_eq_getElem hk,List.getElem?_eq_getElem (by grind),Option.some.injEq] at this
 simp_all
theorem Rz {P}{M:zL}{w:World}(ok:Ok M)(hM:M.H=w.heap){id nm n':Nat}{t:Ty}{gz zs}{C:qC}{H'}{s:Sem Value}{c:Nat}{A:Option Addr}{w':World}
  (an:M.h id=some (.arr true t gz)) (hC:M.κ id=some C) (aQ:M.h nm=none) (dN:H'.size=M.H.size) (hH:∀b,b∉C.fp→H'[b]? =M.H[b]?) (cO:∀b,qX H' b=qX M.H b)
  (hx:∀M',yL M M'→M'.H=H'→M'.G=M.G→match C.blk with
   |none=>zs=[]
   |some B=>∃vals e,H'[B]? =some (.cells vals e (0,0))∧zs.length*t.size≤vals.size∧∀i (h:i<zs.length),qE M'.H M'.G t zs[i] (fun j=>vals[i*t.size+j]?))
  (hn : n' ≤ zs.length) (hc : zs.length ≤ c) (hA:match C.blk with
   |none=>A=none∧n'=0∧c=0
   |some B=>∃a,A=some ⟨B,a,none⟩∧(c=0∨a=0)∧c*t.size≤qX M.H B)
  (hw:w'.heap=H'∧w'.os=w.os∧w'.tape=w.tape∧w'.output=w.output) (hr:s.run P w=.ok (.slice A n' c) w'):
  qM P s M w (.c (.osl nm (some (0,n')))) [(id,.gone),(nm,.arr true t zs)]:=by
 obtain⟨C0,pM,hO⟩:=ok.obj id _ an
 rw[hC] at pM;cases pM
 obtain⟨fr,ff⟩:=Gu hO
 have bm:id≠nm:=fun e=>by simp_all
 let C':qC:=⟨C.blk,zs.length,t.size,0,[]⟩
 have hh:∀n',(qL M.h [(id,.gone),(nm,.arr true t zs)]) n'=if n'=nm then some (.arr true t zs) else if n'=id then some .gone else M.h n':=fun n'=>by
  show(yF (yF M.h id .gone) nm _) n'=_
  by_cases e:n'=nm
  ·rw[if_pos e,e,yM]
  ·rw[if_neg e,yQ _ _ e]
   by_cases e2:n'=id
   ·rw[if_pos e2,e2,yM]
   ·rw[if_neg e2,yQ _ _ e2]
 have:=zL.move_ok (M:=M) (nm:=nm) (o':=.arr true t zs) (C':=C') (h':=qL M.h [(id,.gone),(nm,.arr true t zs)]) (H':=H') ok (fun j=>j=id) aQ
  (fun j hj=>⟨.arr true t gz,by rw[hj];exact an,rfl,by simp_all⟩)
  (by rw[hh,if_pos rfl]) (by grind) (by omega) (fun b hb hn=>hH b (hn id C rfl hC)) (fun b _=>cO b)
  (fun b hb=>.inr ⟨id,C,rfl,hC,by
   simp only[C',qC.fp,List.filterMap_nil,List.append_nil] at hb
   rw[ff];exact hb⟩)
  (fun x=>by
   refine⟨rfl,rfl,fun _=>rfl,?_⟩
   have:=hx _ x rfl rfl
   cases hB:C.blk with
   |none=>simp_all
   |some B=>
    rw[hB] at this
    obtain⟨vals,e,h1,h2,h3⟩:=this
    exact⟨vals,e,h1,by simp,h2,h3⟩)
 refine⟨_,_,_,hr,hw.2.1,hw.2.2.1,hw.2.2.2,by rw[hw.1];rfl,rfl,this.1,this.2,C',κset_same _ _ _,by grind,⟨_,c,rfl,?_⟩,_,_,_,rfl,by grind⟩
 show match C.blk with
  |none=>_
  |some B=>_
 cases hB:C.blk with
 |none=>rw[hB] at hA;exact hA
 |some B=>
  rw[hB] at hA
  obtain⟨a,h2,h3,h4⟩:=hA
  refine⟨by omega,a,h2,by simpa using h3,?_⟩
  show(0+c)*t.size≤qX H' B
  simp_all
theorem RA {P}{M w}(ok:Ok M)(hM:M.H=w.heap){id nm i j m t e T ty x b xs}(hu:P.underlying t=some (.slice e))(dB:ja P e=some ty)
  (aQ:M.h nm=none) (an:M.h id=some (.arr true ty xs)) (hb:zY M (.osl id (some (0,i))) b) (hx:zY M (.osl id (some (j,m))) x) (mw:i≤j):
  qM P (Builtin.append_ #[t,t] T #[b,x]) M w (.c (.osl nm (some (0,i+m)))) [(id,.gone),(nm,.arr true ty (xs.take i++qW xs j m++xs.drop (i+m)))]:=by
 obtain⟨inf,z,h1,h2,h3,h4,h5,h6,h7⟩:=pK dB
 obtain⟨C,hC,hO⟩:=ok.obj id _ an
 obtain⟨news,hR,hE⟩:=xH hC hO hx
 obtain⟨C1,gX,cM,_⟩:=hx
 rw[hC] at gX;cases gX
 obtain⟨C1,gX,gC,⟨A,c,rfl,hS⟩,gW⟩:=hb
 rw[hC] at gX;cases gX
 obtain⟨_,_,_,gW,BQ⟩:=gW
 cases gW
 have hlen:=hO.1
 have nr:(iK xs (some (j,m))).length=m:=BG (by omega)
 rw[nr] at hR
 have GM:news.length=m*ty.size:=hR.choose_spec.choose_spec.2.1
 have rZ:(qW xs j m).length=m:=nr
 have sb:(xs.take i).length=i:=by rw[List.length_take];omega
 have GN:(xs.take i++qW xs j m++xs.drop (i+m)).length=xs.length:=by
  rw[List.length_append,List.length_append,rZ,sb,List.length_drop];omega
 have aU:i+m≤c:=by omega
 cases hB:C.blk with
 |none=>
  rw[hB] at hS
  obtain⟨rfl,rfl,rfl⟩:=hS
  have hr:=pL (P:=P) (w:=w) (A:=none) (sLen:=0) (sCap:=0) T hu h1 h3 (by rw[←hM];exact hR) aU w rfl
  refine Rz (s:=Builtin.append_ #[t,t] T #[.slice none 0 0,x]) (H':=M.H) ok hM an hC aQ rfl (fun _ _=>rfl) (fun _=>rfl) (fun M' _ _ _=>?_) (by omega) (by omega) ?_ ⟨hM.symm,rfl,rfl,rfl⟩ hr
  ·rw[hB]
   exact List.eq_nil_of_length_eq_zero (by omega)
  ·rw[hB]
   exact⟨rfl,by omega,rfl⟩
 |some B=>
  rw[hB] at hS
  obtain⟨hc,a,rfl,ha,hs⟩:=hS
  obtain⟨k1,k2,k3,k4⟩:=hO
  rw[hB] at k4
  obtain⟨vals,ev,k5,k6,k7,k8⟩:=k4
  rw[Nat.zero_mul] at ha
  rw[Nat.zero_add,k2] at hs
  have cO:qX M.H B=vals.size:=by simp only[qX,k5]
  have iM:w.heap[B]? =some (.cells vals ev (0,0)):=by rw[←hM];exact k5
  by_cases h0:c=0
  ·have hm0:m=0:=by omega
   have hr := pL (P := P) (w := w) (A := some ⟨B, a, none⟩) (sLen := i) (sCap := c) T hu h1 h3 (by rw [← hM]; exact hR) aU w (by
    have:news=[]:=List.eq_nil_of_length_eq_zero (by rw[GM,hm0,Nat.zero_mul])
    rw[this];rfl)
   refine Rz (s:=Builtin.append_ #[t,t] T #[.slice (some ⟨B,a,none⟩) i c,x]) (H':=M.H) ok hM an hC aQ rfl (fun _ _=>rfl) (fun _=>rfl) (fun M' _ _ _=>?_) (by omega) (by omega) ?_ ⟨hM.symm,rfl,rfl,rfl⟩ hr
   ·rw[hB]
    refine⟨vals,ev,k5,by rw[GN];exact k7,fun p hp=>?_⟩
    rw[GN] at hp;omega
   ·rw[hB]
    exact⟨a,rfl,.inl h0,by rw[h0];simp⟩
  ·have mz:a=0:=by rcases ha with ha|ha<;>omega
   subst mz
   have hle:=Nat.mul_le_mul_right ty.size (show i+m≤xs.length by omega)
   rw[Nat.add_mul] at hle
   have aJ:i*ty.size+news.length≤vals.size:=by omega
   have eH:=run_storeCells_at (P:=P) B (i*ty.size) ev news 0 vals w iM (by simpa using aJ) (fun v hv=>xx (hR.choose_spec.choose_spec.2.2.1 v hv))
   simp only[Nat.add_zero] at eH
   have hr:=pL (P:=P) (w:=w) (A:=some ⟨B,0,none⟩) (sLen:=i) (sCap:=c) T hu h1 h3 (by rw[←hM];exact hR) aU (w.setRow B (yS vals (i*ty.size) news)) (by show(storeCells (Addr.add ⟨B,0,none⟩ (i*ty.size)) news).run P w=_;rw[Addr.add_lit,Nat.zero_add];exact eH)
   obtain⟨f1,f2,f3,f4⟩:=nj iM (new:=yS vals (i*ty.size) news) (gf aJ)
   refine Rz (s:=Builtin.append_ #[t,t] T #[.slice (some ⟨B,0,none⟩) i c,x]) (H':=(w.setRow B (yS vals (i*ty.size) news)).heap) ok hM an hC aQ (by rw[hM];exact f1)
    (fun b hb=>by rw[hM];exact f3 b fun e=>hb (e▸fi hB)) (fun b=>by rw[hM];exact f4 b) (fun M' xt hH hG=>?_) (by omega) (by omega) ?_ ⟨rfl,rfl,rfl,rfl⟩ hr
   ·rw[hB]
    refine⟨_,ev,f2,by rw[GN,gf aJ];exact k7,fun p hp=>?_⟩
    rw[GN] at hp
    have aW:=Nat.mul_le_mul_right ty.size (show p+1≤xs.length by omega)
    rw[Nat.add_mul] at aW
    have xL:(xs.take i++qW xs j m++xs.drop (i+m))[p]? =xs[p]? →(∀q,q<ty.size→(yS vals (i*ty.size) news)[p*ty.size+q]? =vals[p*ty.size+q]?)→qE M'.H M'.G ty ((xs.take i++qW xs j m++xs.drop (i+m))[p]'(by omega)) (fun q=>(yS vals (i*ty.size) news)[p*ty.size+q]?):=fun e1 e2=>by
     have e3:(xs.take i++qW xs j m++xs.drop (i+m))[p]'(by omega)=xs[p]:=by
      rw[List.getElem?_eq_getElem (by omega),List.getElem?_eq_getElem hp,Option.some.injEq] at e1
      exact e1
     rw[e3]
     exact yY xt.G xt.sameG ty _ _ _ e2 (k8 p hp)
    by_cases K5:p<i
    ·refine xL ?_ fun q hq=>?_
     ·rw[List.append_assoc,List.getElem?_append_left (by omega),List.getElem?_take,if_pos K5]
     ·have:=Nat.mul_le_mul_right ty.size (show p+1≤i by omega)
      rw[Nat.add_mul] at this
      rw[jG aJ,if_pos (by omega)]
    ·by_cases GO:p<i+m
     ·have e3:(xs.take i++qW xs j m++xs.drop (i+m))[p]'(by omega)=(iK xs (some (j,m)))[p-i]'(by omega):=by
       rw[List.getElem_append_left (by rw[List.length_append,sb,rZ];exact GO),List.getElem_append_right (by omega)]
       simp only[sb];rfl
      rw[e3]
      refine yY xt.G xt.sameG ty _ _ _ (fun q hq=>?_) (hE (p-i) (by omega))
      have q1:=Nat.mul_le_mul_right ty.size (show i≤p by omega)
      have q2:=Nat.mul_le_mul_right ty.size (show p-i+1≤m by omega)
      rw[Nat.add_mul] at q2
      have q3:(p-i)*ty.size=p*ty.size-i*ty.size:=Nat.sub_mul ..
      rw[jG aJ,if_neg (by omega),if_pos (by omega)]
      congr 1;omega
     ·refine xL ?_ fun q hq=>?_
      ·rw[List.getElem?_append_right (by rw[List.length_append,sb,rZ];omega),List.getElem?_drop]
       congr 1
       rw[List.length_append,sb,rZ];omega
      ·have:=Nat.mul_le_mul_right ty.size (show i+m≤p by omega)
       rw[Nat.add_mul] at this
       rw[jG aJ,if_neg (by omega),if_neg (by omega)]
   ·rw[hB]
    exact⟨0,rfl,.inr rfl,by rw[←k2] at hs⊢;exact hs⟩
theorem vF2 {P M w}(ok:Ok M)(hM:M.H=w.heap){t T id lo n rx v u}(hx:zY M (.osl id (some (lo,n))) rx)
  (h:yH (Kr P M.h t id lo n) v u):qM P (Builtin.clear_ #[t] T #[rx]) M w v u:=by
 unfold Kr at h
 split at h
 case h_2=>exact h.elim
 rename_i e s xs hu an
 split at h
 case h_2=>exact h.elim
 rename_i ty dB
 obtain⟨heq,h⟩:=xK h
 have:=F9 heq
 subst this
 obtain⟨_,rfl,rfl⟩:=gd h
 obtain⟨inf,z,h1,h2,h3,h4,h5,h6,h7⟩:=pK dB
 obtain⟨C,hC,cM,⟨A,c,rfl,hS⟩,_⟩:=hx
 obtain⟨C1,gX,hO⟩:=ok.obj id _ an
 rw[hC] at gX;cases gX
 by_cases GI:n=0
 ·subst GI
  have e0:xs.take lo++List.replicate 0 ty.dflt++xs.drop (lo+0)=xs:=by simp
  rw[e0]
  refine⟨.tuple #[],w,M,?_,rfl,rfl,rfl,hM,?_,ok,yX.refl M,trivial⟩
  ·cases A with
   |none=>simp[Builtin.clear_,run_underlying hu]
   |some a=>simp[Builtin.clear_,run_underlying hu]
  ·rw[QC,BF an]
 ·obtain⟨k1,k2,k3,k4⟩:=hO
  cases hB:C.blk with
  |none=>rw[hB] at hS;omega
  |some B=>
   rw[hB] at hS k4
   obtain⟨hc,a,rfl,ha,hs⟩:=hS
   obtain⟨vals,ev,k5,k6,k7,k8⟩:=k4
   have nk:a=lo*ty.size:=by rw[←k2];rcases ha with ha|ha<;>omega
   subst nk
   have iM:w.heap[B]? =some (.cells vals ev (0,0)):=by rw[←hM];exact k5
   have GN:(Builtin.zeroCells z.cells n).toList.length=n*ty.size:=by rw[Array.length_toList,BX,h7]
   have hle:=Nat.mul_le_mul_right ty.size (show lo+n≤xs.length by omega)
   rw[Nat.add_mul] at hle
   have aJ:lo*ty.size+(Builtin.zeroCells z.cells n).toList.length≤vals.size:=by omega
   have cj:∀v∈(Builtin.zeroCells z.cells n).toList,v.one1=true:=vW0 h4 h7
   have eH:=run_storeCells_at (P:=P) B (lo*ty.size) ev (Builtin.zeroCells z.cells n).toList 0 vals w iM (by simpa using aJ) (fun v hv=>xx (cj v hv))
   simp only[Nat.add_zero] at eH
   obtain⟨f1,f2,f3,f4⟩:=nj iM (new:=yS vals (lo*ty.size) (Builtin.zeroCells z.cells n).toList) (gf aJ)
   have mE:(Builtin.clear_ #[t] T #[.slice (some ⟨B,lo*ty.size,none⟩) n c]).run P w=.ok (.tuple #[]) (w.setRow B (yS vals (lo*ty.size) (Builtin.zeroCells z.cells n).toList)):=by
    obtain⟨n',rfl⟩:∃n',n=n'+1:=⟨n-1,by omega⟩
    have e:(storeCells ⟨B,lo*ty.size,none⟩ (Builtin.zeroCells z.cells (n'+1)).toList).run P w=.ok () (w.setRow B (yS vals (lo*ty.size) (Builtin.zeroCells z.cells (n'+1)).toList)):=eH
    simp[Builtin.clear_,run_underlying hu,zeroValue,typeInfo,h1,h2,e]
   have hH:∀b,b∉C.fp→(w.setRow B (yS vals (lo*ty.size) (Builtin.zeroCells z.cells n).toList)).heap[b]? =M.H[b]? :=fun b rS=>by
    rw[hM];exact f3 b fun e=>rS (e▸fi hB)
   have cO:∀b,b<M.H.size→qX (w.setRow B (yS vals (lo*ty.size) (Builtin.zeroCells z.cells n).toList)).heap b=qX M.H b:=fun b _=>by rw[hM];exact f4 b
   have hol:(xs.take lo++List.replicate n ty.dflt++xs.drop (lo+n)).length=xs.length:=by
    simp only[List.length_append,List.length_take,List.length_replicate,List.length_drop];omega
   have x:=zL.write_ext ok an rfl hC C.le_refl hH cO (.arr true ty (xs.take lo++List.replicate n ty.dflt++xs.drop (lo+n)))
   have := zL.write_ok ok an rfl hC C.le_refl (fun _ h => h) (by rw [hM]; exact f1) hH cO (o' := .arr true ty (xs.take lo ++ List.replicate n ty.dflt ++ xs.drop (lo + n))) (by
    refine⟨by rw[hol];exact k1,k2,k3,?_⟩
    rw[hB]
    refine⟨_,ev,f2,fun h=>(by cases h),by rw[hol,gf aJ];exact k7,fun p hp=>?_⟩
    rw[hol] at hp
    have aW:=Nat.mul_le_mul_right ty.size (show p+1≤xs.length by omega)
    rw[Nat.add_mul] at aW
    have B1:(xs.take lo).length=lo:=by rw[List.length_take];omega
    have xL:(xs.take lo++List.replicate n ty.dflt++xs.drop (lo+n))[p]? =xs[p]? →(∀q,q<ty.size→(yS vals (lo*ty.size) (Builtin.zeroCells z.cells n).toList)[p*ty.size+q]? =vals[p*ty.size+q]?)→
      qE (M.write id (.arr true ty (xs.take lo++List.replicate n ty.dflt++xs.drop (lo+n))) C (w.setRow B (yS vals (lo*ty.size) (Builtin.zeroCells z.cells n).toList)).heap).H (M.write id (.arr true ty (xs.take lo++List.replicate n ty.dflt++xs.drop (lo+n))) C (w.setRow B (yS vals (lo*ty.size) (Builtin.zeroCells z.cells n).toList)).heap).G ty ((xs.take lo++List.replicate n ty.dflt++xs.drop (lo+n))[p]'(by omega)) (fun q=>(yS vals (lo*ty.size) (Builtin.zeroCells z.cells n).toList)[p*ty.size+q]?):=fun e1 e2=>by
     have e3:(xs.take lo++List.replicate n ty.dflt++xs.drop (lo+n))[p]'(by omega)=xs[p]:=by
      rw[List.getElem?_eq_getElem (by omega),List.getElem?_eq_getElem hp,Option.some.injEq] at e1
      exact e1
     rw[e3]
     exact yY x.G x.sameG ty _ _ _ e2 (k8 p hp)
    by_cases K5:p<lo
    ·refine xL ?_ fun q hq=>?_
     ·rw[List.append_assoc,List.getElem?_append_left (by omega),List.getElem?_take,if_pos K5]
     ·have:=Nat.mul_le_mul_right ty.size (show p+1≤lo by omega)
      rw[Nat.add_mul] at this
      rw[jG aJ,if_pos (by omega)]
    ·by_cases GO:p<lo+n
     ·have e3:(xs.take lo++List.replicate n ty.dflt++xs.drop (lo+n))[p]'(by omega)=ty.dflt:=by
       rw[List.getElem_append_left (by rw[List.length_append,B1,List.length_replicate];exact GO),List.getElem_append_right (by omega)]
       simp
      rw[e3]
      refine GC ty _ fun q hq=>?_
      have q1:=Nat.mul_le_mul_right ty.size (show lo≤p by omega)
      have q2:=Nat.mul_le_mul_right ty.size (show p-lo+1≤n by omega)
      rw[Nat.add_mul] at q2
      have q3:(p-lo)*ty.size=p*ty.size-lo*ty.size:=Nat.sub_mul ..
      rw[jG aJ,if_neg (by omega),if_pos (by omega),show p*ty.size+q-lo*ty.size=(p-lo)*ty.size+q by omega,yGj h4 h7 hq (by omega)]
     ·refine xL ?_ fun q hq=>?_
      ·rw[List.getElem?_append_right (by rw[List.length_append,B1,List.length_replicate];omega),List.getElem?_drop]
       congr 1
       rw[List.length_append,B1,List.length_replicate];omega
      ·have:=Nat.mul_le_mul_right ty.size (show lo+n≤p by omega)
       rw[Nat.add_mul] at this
       rw[jG aJ,if_neg (by omega),if_neg (by omega)])
   exact⟨_,_,_,mE,rfl,rfl,rfl,rfl,rfl,this.1,this.2,trivial⟩
theorem vNe {P M w}(ok:Ok M)(hM:M.H=w.heap){mat nm t T b x v u rb rx}
  (hb:zV M b rb) (hx:zV M x rx) (h:yH (Bt P mat nm M.h t b x) v u):qM P (Builtin.append_ #[t,t] T #[rb,rx]) M w v u:=by
 unfold Bt at h
 split at h
 case h_2=>exact h.elim
 rename_i e b x hu aQ
 split at h
 ·exact h.elim
 rename_i ty dB
 cases mat with
 |true=>
  split at h
  ·rename_i id jd
   split at h
   ·rename_i v1 xs v2 ys an cY
    cases bm:Nat.beq id jd with
    |true=>rw[bm] at h;exact h.elim
    |false=>
     rw[bm] at h
     obtain⟨hr,rfl,rfl⟩:=gd h
     exact vTx ok hM hu dB aQ an cY (fun e=>by subst e;simp at bm) hb hx (GH hr)
   ·exact h.elim
  ·exact h.elim
 |false=>
  simp only[cond_false] at h
  split at h
  ·split at h
   ·rename_i ys u1 ht
    obtain⟨hr,rfl,rfl⟩:=gd h
    obtain⟨rfl,news,h1,h2⟩:=yYp ok hx ht
    rw[show rb=.slice none 0 0 from hb]
    exact Rr ok hM hu dB aQ h1 h2 (GH hr)
   ·exact h.elim
  ·split at h
   ·rename_i s xs an
    split at h
    ·rename_i zs ys u1 hz ht
     obtain⟨e1,hz⟩:=kt hz
     subst e1
     subst hz
     obtain⟨rfl,news,h1,h2⟩:=yYp ok hx ht
     split at h
     ·rcases yBp h with⟨hc,h⟩|⟨_,h⟩
      ·split at h
       ·rename_i i' jd j m zs e1 e2 _
        cases e1
        have:=Nat.eq_of_beq_eq_true hc
        subst this
        obtain⟨_,hz⟩:=kt e2
        subst hz
        obtain⟨hr,rfl,rfl⟩:=gd h
        exact RA ok hM hu dB aQ an hb hx (Nat.le_of_ble_eq_true hr)
       ·exact h.elim
      ·obtain⟨hr,rfl,rfl⟩:=gd h
       exact Rs ok hM hu dB aQ an hb rfl h1 h2 (GH hr)
     ·rcases yBp h with⟨hc,h⟩|⟨_,h⟩
      ·exact h.elim
      ·obtain⟨hr,rfl,rfl⟩:=gd h
       exact Rs ok hM hu dB aQ an hb trivial h1 h2 (GH hr)
     ·exact h.elim
    ·exact h.elim
   ·exact h.elim
  ·exact h.elim
theorem RB {M}(ok:Ok M){c v t ys}(hv:zY M c v)(h:jb M.h c=some ⟨t,ys⟩){kd}(ht:t=.int kd):
  ∃news,Rd M.H v ys.length t.size news∧∃F,∀i hi,qE M.H F t ys[i] (fun j=>news[i*t.size+j]?):=by
 unfold jb at h
 split at h
 ·cases h
  obtain⟨news,h1,h2⟩:=Rm hv
  exact⟨news,h1,_,h2⟩
 ·split at h
  ·rename_i own s xs an
   cases h
   obtain⟨C,hC,hO⟩:=ok.obj _ _ an
   obtain⟨news,h1,h2⟩:=xH hC hO hv
   exact⟨news,h1,_,h2⟩
  all_goals grind
 ·rename_i id i ver
  split at h
  ·rename_i v' xs an
   cases fl:Nat.beq v' ver with
   |false=>simp_all
   |true=>
    rw[fl] at h
    cases h
    have e:v'=ver:=by simp_all
    subst e
    obtain⟨C,hC,hO⟩:=ok.obj _ _ an
    obtain⟨C',aD,cj,_,aW⟩:=hv
    rw[hC] at aD;cases aD
    obtain⟨rb,rl,sd,pO⟩:=aW hO.1
    by_cases hi:i<xs.length
    ·obtain⟨B,nY,v2,k1,k2,k3,k4,k5,k6⟩:=BE hO hi
     rw[sd] at k3
     cases k3
     rw[show xs.getD i []=xs[i] by simp_all]
     cases rb with
     |none=>
      obtain⟨rfl,h0⟩:=pO
      have cI:xs[i]=[]:=by grind
      rw[cI]
      obtain⟨news,q1,q2⟩:=GD (H:=M.H) (F:=M.G) (t:=.int .i64) (A:=none) (c:=0)
      exact⟨news,q1,_,q2⟩
     |some R=>
      obtain⟨a,c,rfl,h1,h2,h3⟩:=pO
      by_cases h0:xs[i].length=0
      ·have cI:xs[i]=[]:=by grind
       rw[cI]
       obtain⟨news,q1,q2⟩:=GD (H:=M.H) (F:=M.G) (t:=.int .i64) (A:=some ⟨R,a,none⟩) (c:=c)
       exact⟨news,q1,_,q2⟩
      ·have ha:a=0:=by omega
       subst ha
       obtain ⟨news, q1, q2⟩ := Rl (H := M.H) (F := fun _ => True) (t := .int .i64) (ys := xs[i]) (B := R) (o := 0) (c := c) h1 (fun j hj=>by
        simp[qE,Ty.size]
        simp_all)
       exact⟨news,q1,_,q2⟩
    ·have:C.rows[i]? =none:=List.getElem?_eq_none (by have:=hO.2.2.2.1;omega)
     simp_all
  ·cases h
 ·cases h
theorem vKr {M}(ok:Ok M){c v t ys}(hv:zY M c v)(h:jb M.h c=some ⟨t,ys⟩):∃A k,v=.slice A ys.length k:=by
 by_cases ht:t=.int .i64
 ·obtain⟨news,⟨A,k,e,_⟩,_⟩:=RB ok hv h ht
  simp_all
 unfold jb at h
 split at h
 ·cases h
  obtain⟨news,⟨A,k,e,_⟩,_⟩:=Rm hv
  simp_all
 ·rename_i id r
  split at h
  ·rename_i own s xs an
   cases h
   obtain⟨C,hC,hO⟩:=ok.obj _ _ an
   obtain⟨news,⟨A,k,e,_⟩,_⟩:=xH hC hO hv
   simp_all
  ·rename_i ver xs an
   cases r with
   |none=>
    cases h
    obtain⟨C,hC,hO⟩:=ok.obj _ _ an
    obtain⟨C',aD,A,k,e,_⟩:=hv
    rw[hC] at aD;cases aD
    exact⟨A,k,by rw[e,hO.2.1]⟩
   |some p=>cases h
  ·cases h
 all_goals grind
theorem vOo {M}(ok:Ok M){c v n}(hv:zY M c v)(h:Bh M.h c=some n):∃A k,v=.slice A n k:=by
 unfold Bh at h
 split at h
 ·cases h;exact⟨none,0,hv⟩
 ·obtain⟨C,B,_,_,e⟩:=hv
  simp_all
 ·split at h
  ·rename_i t xs hr
   cases h
   exact vKr ok hv hr
  ·cases h
theorem vKf {P w t e A n k T ts}(h0:ts[0]? =some t)(hu:P.underlying t=some (.slice e)):
  (Builtin.len_ ts T #[.slice A n k]).run P w=.ok (.int .i64 n) w:=by
 have hr:(underlying t).run P w=.ok (.slice e) w:=by simp[underlying,hu]
 simp[Builtin.len_,h0,hr,goInt]
theorem yP8 {P M w}(ok:Ok M)(hM:M.H=w.heap){lt l rl v u ts T}(hl:zM (zV M) l rl.toList)
  (h:yH (Ks lt l) v u):qM P (bif lt then Builtin.min_ ts T rl else Builtin.max_ ts T rl) M w v u:=by
 unfold Ks at h
 split at h
 ·rename_i k x j y
  obtain⟨rfl,rfl⟩:=wF h
  obtain⟨rl⟩:=rl
  match rl,hl with
  |[a,b],⟨h1,h2,_⟩=>
   rw[show a=.int k x from h1,show b=.int j y from h2]
   refine .pure (rv:=.int k (bif lt then(bif decide (y<x) then y else x) else(bif decide (y>x) then y else x))) ok hM ?_ rfl
   cases lt<;>simp[Builtin.min_,Builtin.max_,Builtin.min2,Builtin.max2,Bool.cond_decide]
 ·rename_i k x j y i z
  obtain⟨rfl,rfl⟩:=wF h
  obtain⟨rl⟩:=rl
  match rl,hl with
  |[a,b,c],⟨h1,h2,h3,_⟩=>
   rw[show a=.int k x from h1,show b=.int j y from h2,show c=.int i z from h3]
   refine .pure (rv:=_) ok hM ?_ rfl
   cases lt<;>simp[Builtin.min_,Builtin.max_,Builtin.min2,Builtin.max2,Bool.cond_decide]
 ·exact h.elim
theorem yJk {M:zL}:∀{cs ns},xq cs=some ns→cs=ns.map (.int .i64)
 |[],ns,h=>by cases h;rfl
 |.int .i64 n::l,ns,h=>by
  unfold xq at h
  split at h
  ·rename_i r hr
   cases h
   rw[yJk (M:=M) hr];rfl
  ·cases h
theorem yFl xs:∀(ns:List Int) i,xr xs i (ns.map (.int .i64))=(((xs.drop i).take ns.length)++ns.drop ((xs.drop i).take ns.length).length).map (.int .i64)
 |[],i=>by rfl
 |n::ns,i=>by
  simp only[List.map_cons,xr,yFl xs ns (i+1)]
  by_cases hi:i<xs.length
  ·have hb:Nat.blt i xs.length=true:=by simp_all
   rw[hb,List.drop_eq_getElem_cons hi]
   grind
  ·have hb:Nat.blt i xs.length=false:=by
    cases h:Nat.blt i xs.length with
    |false=>rfl
    |true=>exact absurd (by simp_all) hi
   have e1:xs.drop i=[]:=List.drop_eq_nil_of_le (by omega)
   grind
theorem vR4 {P M w}(ok:Ok M)(hM:M.H=w.heap){t e ts T d s v u rd rs}(h0:ts[0]? =some t)(hu:P.underlying t=some (.slice e))(he:P.cellsOf e=1)
  (hd:zV M d rd) (hs:zV M s rs) (h:yH (Bu M.h d s) v u):qM P (Builtin.copy_ ts T #[rd,rs]) M w v u:=by
 unfold Bu at h
 split at h
 case h_2=>exact h.elim
 rename_i id off n s
 split at h
 case h_2=>exact h.elim
 rename_i cells ys an oh
 split at h
 case h_2=>exact h.elim
 rename_i vs eG
 split at h
 case h_2=>exact h.elim
 rename_i ns Q9
 obtain⟨_,rfl,rfl⟩:=gd h
 clear h
 obtain⟨C,B,hC,hB,rfl⟩:=hd
 obtain⟨C',aD,B',vals,ev,k1,k2,k3,k4,k5⟩:=ok.obj id _ an
 rw[hC] at aD;cases aD
 rw[hB] at k1;cases k1
 obtain⟨c1,c2,c3⟩:=Gq eG
 obtain⟨i,hi⟩:=nh (P:=P) (t:=e) (by omega)
 obtain⟨A,k,rfl,kL⟩:∃A k,rs=.slice A ys.length k∧∃news,Rd M.H (.slice A ys.length k) ys.length 1 news∧news=ys.map (.int .i64):=by
  split at oh
  ·cases oh
   exact⟨none,0,hs,[],⟨none,0,rfl,rfl,by simp,rfl⟩,rfl⟩
  ·obtain⟨news,hR,F,hE⟩:=RB ok hs oh rfl
   obtain⟨A,k,e,hl,r⟩:=hR
   refine⟨A,k,e,news,⟨A,k,rfl,hl,r⟩,?_⟩
   refine List.ext_getElem (by simpa[Ty.size] using hl) fun j h1 h2=>?_
   have:=hE j (by simpa using h2)
   simp only[qE,Ty.size,Nat.mul_one,Nat.add_zero] at this
   rw[List.getElem?_eq_getElem h1,Option.some.injEq] at this
   rw[this];simp
 obtain⟨news,⟨A',k',e',hl,cj,kL⟩,GP⟩:=kL
 cases e'
 let m:=min ys.length n
 have hm:Nat.min ys.length n=m:=rfl
 have xM:(Builtin.firstCells 1 m (.slice A ys.length k)).run P w=.ok (news.take m).toArray w:=by
  have:Rd M.H (.slice A m k) m 1 (news.take m):=by
   refine⟨A,k,rfl,?_,fun u hu=>cj u (List.mem_of_mem_take hu),?_⟩
   all_goals grind
  have:=this.first (P:=P) w hM.symm
  cases A<;>exact this
 have hbw:w.heap[B]? =some (.cells vals ev (0,0)):=by rw[←hM];exact k3
 have bI:=k4.length
 have GM:(news.take m).length=m:=by rw[List.length_take,hl];omega
 have aJ:off+(news.take m).length≤vals.size:=by
  rw[GM];simp at bI;omega
 have eH:=run_storeCells_at (P:=P) B off ev (news.take m) 0 vals w hbw (by simpa using aJ) (fun v hv=>xx (cj v (List.mem_of_mem_take hv)))
 simp only[Nat.add_zero] at eH
 have mE:(Builtin.copy_ ts T #[.slice (some ⟨B,off,none⟩) n n,.slice A ys.length k]).run P w=.ok (.int .i64 (m:Nat)) (w.setRow B (yS vals off (news.take m))):=by
  simp[Builtin.copy_,h0,run_underlying hu,Builtin.lenOf,gU w hi,he,hm,xM,goInt]
  have e:(storeCells ⟨B,off,none⟩ (news.take m)).run P w=.ok () (w.setRow B (yS vals off (news.take m))):=eH
  rw[e];rfl
 obtain⟨f1,f2,f3,f4⟩:=nj hbw (new:=yS vals off (news.take m)) (gf aJ)
 have hH:∀b,b∉C.fp→(w.setRow B (yS vals off (news.take m))).heap[b]? =M.H[b]? :=fun b rS=>by
  rw[hM];exact f3 b fun e=>rS (e▸fi hB)
 have cO:∀b,b<M.H.size→qX (w.setRow B (yS vals off (news.take m))).heap b=qX M.H b:=fun b _=>by rw[hM];exact f4 b
 let o':Obj:=.box true (cells.take off++xr ys 0 vs++cells.drop (off+n))
 have x:=zL.write_ext ok an rfl hC C.le_refl hH cO o'
 have aF:cells.take off++xr ys 0 vs++cells.drop (off+n)=cells.take off++(ys.take m).map (.int .i64)++cells.drop (off+((ys.take m).map (zZ.int .i64)).length):=by
  have hv:=yJk (M:=M) Q9
  have hnn:ns.length=n:=by rw[←c3,hv];simp
  have GQ:(ys.drop 0).take ns.length=ys.take m:=by
   grind
  rw[hv,yFl,GQ,List.map_append,List.map_drop,←hv,List.append_assoc,List.append_assoc,List.append_assoc]
  congr 2
  have K6:(ys.take m).length=m:=by rw[List.length_take];omega
  have e1:cells.drop (off+n)=(cells.drop (off+m)).drop (n-m):=by
   rw[List.drop_drop];congr 1;omega
  rw[List.length_map,K6,c2,List.drop_take,List.drop_drop,e1,List.take_append_drop]
 have := zL.write_ok ok an rfl hC C.le_refl (fun _ h => h) (by rw [hM]; exact f1) hH cO (o' := o') (by
  refine⟨B,_,ev,hB,k2,f2,?_,fun h=>(by cases h)⟩
  rw[aF]
  refine QG x k4 (us:=news.take m) ?_ (by simpa using aJ)
  rw[GP]
  refine zM.of_get (by simp) fun j h1 h2=>?_
  simp[zY])
 exact⟨_,_,_,mE,rfl,rfl,rfl,rfl,rfl,this.1,this.2,rfl⟩
theorem yOy {P t}(h:Gh P t=true):∃k e i,P.underlying t=some (.map k e)∧P.underlying k=some (.int .i64)∧P.info? e=some i∧i.zero=some (.bool false):=by
 unfold Gh at h
 split at h
 ·split at h
  ·rename_i hk hz
   obtain⟨i,h1,h2⟩:=Option.bind_eq_some_iff.1 hz
   grind
  ·cases h
 ·cases h
theorem vYv {P M w}(ok:Ok M)(hM:M.H=w.heap){nm t v u}(h:yH (Bo P nm M.h t) v u):qM P (Instr.makeMap t none) M w v u:=by
 unfold Bo at h
 split at h
 case h_2=>exact h.elim
 rename_i aQ
 obtain⟨_,h⟩:=xK h
 obtain⟨_,rfl,rfl⟩:=gd h
 let C:qC:=⟨some M.H.size,0,0,0,[]⟩
 have := zL.new_ok ok aQ (.imap []) C (.map #[] 0) (by simp [C, qC.fp]) (by
  refine⟨M.H.size,#[],0,rfl,rfl,xw,by simp,fun n=>rfl⟩)
 refine⟨.map (some w.heap.size),w.alloc (.map #[] 0),_,?_,rfl,rfl,rfl,?_,rfl,this.1,this.2,C,M.H.size,κset_same _ _ _,rfl,by rw[hM]⟩
 ·rfl
 ·show M.H.push _=w.heap.push _
  rw[hM]
theorem RD {n}:∀{es i},(∀e∈es,∃m b,e.key=.int .i64 m∧e.val=.bool b)→
  (jZ n es=none∧Instr.findNow (.int .i64) (.int .i64 n) es i=some none)∨
  (∃j b e,jZ n es=some (.bool b)∧Instr.findNow (.int .i64) (.int .i64 n) es i=some (some (i+j,.bool b))∧es[j]? =some e∧e.key=.int .i64 n∧
   ∀f:MapEntry→MapEntry,(∀e,(f e).key=.int .i64 n)→jZ n (es.modify j f)=some (f e).val∧(∀m,m≠n→jZ m (es.modify j f)=jZ m es)∧∀e'∈es.modify j f,e'∈es∨e'=f e)
 |[],i,_=>.inl ⟨rfl,rfl⟩
 |e::es,i,h=>by
  obtain⟨m,b,h1,h2⟩:=h e (by simp)
  by_cases hm:n=m
  ·subst hm
   refine .inr ⟨0,b,e,?_,?_,rfl,h1,fun f hf=>⟨?_,fun m bm=>?_,fun e' he=>?_⟩⟩
   ·simp[jZ,h1,h2]
   ·simp[Instr.findNow,Instr.sameNow,h1,h2]
   ·simp[jZ,hf]
   ·simp[jZ,hf,h1,bm]
   grind
  ·have hs:Instr.findNow (.int .i64) (.int .i64 n) (e::es) i=Instr.findNow (.int .i64) (.int .i64 n) es (i+1):=by
    have hb:(n==m)=false:=by simp[hm]
    simp[Instr.findNow,Instr.sameNow,h1,hb]
   have hf:jZ n (e::es)=jZ n es:=by simp[jZ,h1,hm]
   rcases RD (es:=es) (i:=i+1) (by grind) with⟨k1,k2⟩|⟨j,b',e',k1,k2,k3,k4,k5⟩
   ·exact .inl ⟨hf.trans k1,hs.trans k2⟩
   ·refine .inr ⟨j+1,b',e',hf.trans k1,by grind,by simp_all,k4,fun f hfk=>?_⟩
    obtain⟨q1,q2,q3⟩:=k5 f hfk
    refine⟨by simp[jZ,h1,hm,q1],fun m' bm=>?_,fun e'' he=>?_⟩
    ·rw[List.modify_succ_cons]
     simp[jZ,q2 m' bm]
    grind
theorem K7 {P w r es ck}(h:w.heap[r]? =some (.map es ck)):(getObj r).run P w=.ok (.map es ck) w:=by
 simp[getObj,Sem.run,h]
theorem yZi {P w r es ck} o (h:w.heap[r]? =some (.map es ck)):(setObj r o).run P w=.ok () {w with heap:=w.heap.setIfInBounds r o}:=by
 simp[setObj,Sem.run,h]
theorem K8 {P w k b n}(h:P.underlying k=some (.int .i64)):(Instr.checkKey b 10000 k (.int .i64 n)).run P w=.ok () w:=by
 unfold Instr.checkKey
 simp[run_underlying h]
theorem K9 {P w k n es r}(h:P.underlying k=some (.int .i64))(hf:Instr.findNow (.int .i64) (.int .i64 n) es 0=some r):(Instr.findKey k (.int .i64 n) es).run P w=.ok r w:=by
 unfold Instr.findKey
 simp[run_underlying h,hf]
theorem vEl {P M w}(ok:Ok M)(hM:M.H=w.heap){t x i v u rx ri}(hx:zV M x rx)(hi:zV M i ri)(h:yH (Bp P M.h t x i) v u):qM P (Instr.lookup t rx ri false) M w v u:=by
 unfold Bp at h
 split at h
 case h_2=>exact h.elim
 rename_i id n
 split at h
 case h_2=>exact h.elim
 rename_i cX an
 obtain⟨hb,h⟩:=xK h
 obtain⟨rfl,rfl⟩:=wF h
 obtain⟨k,e,inf,h1,h2,h3,h4⟩:=yOy hb
 obtain⟨C,B,hC,hB,rfl⟩:=hx
 obtain⟨C',aD,B',es,ck,k1,k2,k3,k4,k5⟩:=ok.obj id _ an
 rw[hC] at aD;cases aD
 rw[hB] at k1;cases k1
 have mC:ri=.int .i64 n:=hi
 subst mC
 rw[hM] at k3
 refine .pure (rv:=.bool ((cX.lookup n).getD false)) ok hM ?_ rfl
 have h5:=k5 n
 unfold Instr.lookup
 rcases RD (n:=n) (i:=0) k4 with⟨q1,q2⟩|⟨j,b,e',q1,q2,q3,q4,q5⟩
 ·have:cX.lookup n=none:=by cases hl:cX.lookup n with|none=>rfl|some b=>simp_all
  simp[run_underlying h1,K7 k3,K8 h2,K9 h2 q2,zeroValue,typeInfo,h3,h4,this]
 ·have:cX.lookup n=some b:=by cases hl:cX.lookup n with|none=>simp_all|some b=>simp_all
  simp[run_underlying h1,K7 k3,K8 h2,K9 h2 q2,this]
theorem RE {n b c}:∀{es},jZ n es=none→∀m,jZ m (es++[⟨.int .i64 n,.bool b,c⟩])=if m=n then some (.bool b) else jZ m es
 |[],_,m=>by rfl
 |e::es,h,m=>by
  rw[List.cons_append]
  have aM:∀(m:Int) (l:List MapEntry),jZ m (e::l)=match e.key with|.int .i64 k=>if m=k then some e.val else jZ m l|_=>jZ m l:=fun m l=>rfl
  rw[aM] at h
  rw[aM,aM]
  split at h
  ·rename_i k hk
   split at h
   ·cases h
   ·by_cases hm:m=k
    ·grind
    ·rw[if_neg hm,RE h m,if_neg hm]
  ·exact RE h m
theorem vZy {P M w}(ok:Ok M)(hM:M.H=w.heap){t x i y v u rx ri ry}(hx:zV M x rx)(hi:zV M i ri)(hy:zV M y ry)(h:yH (Bq P M.h t x i y) v u):
  v=.undef∧lO P (Instr.mapUpdate t rx ri ry) M w u:=by
 unfold Bq at h
 split at h
 case h_2=>exact h.elim
 rename_i id n b
 split at h
 case h_2=>exact h.elim
 rename_i cX an
 obtain⟨hb,h⟩:=xK h
 obtain⟨_,rfl,rfl⟩:=gd h
 obtain⟨k,e,inf,h1,h2,h3,h4⟩:=yOy hb
 obtain⟨C,B,hC,hB,rfl⟩:=hx
 obtain⟨C',aD,B',es,ck,k1,k2,k3,k4,k5⟩:=ok.obj id _ an
 rw[hC] at aD;cases aD
 rw[hB] at k1;cases k1
 have mC:ri=.int .i64 n:=hi
 subst mC
 have hry:ry=.bool b:=hy
 subst hry
 have k3':=k3
 rw[hM] at k3
 have write:∀(pP:Array MapEntry) (ui:Nat),(Instr.mapUpdate t (.map (some B)) (.int .i64 n) (.bool b)).run P w=.ok () {w with heap:=w.heap.setIfInBounds B (.map pP ui)}→
   (∀e∈pP.toList,∃m b,e.key=.int .i64 m∧e.val=.bool b)→(∀m,jZ m pP.toList=if m=n then some (.bool b) else jZ m es.toList)→lO P (Instr.mapUpdate t (.map (some B)) (.int .i64 n) (.bool b)) M w [(id,.imap ((n,b)::cX))]:=by
  intro pP ui hr he hf
  have xN:∀c,(w.heap.setIfInBounds B (.map pP ui))[c]? =if c=B then some (.map pP ui) else w.heap[c]? :=by grind
  have hH:∀c,c∉C.fp→(w.heap.setIfInBounds B (.map pP ui))[c]? =M.H[c]? :=fun c hc=>by
   rw[xN,if_neg (fun(e:c=B)=>hc (by rw[e];exact fi hB)),hM]
  have cO:∀c,c<M.H.size→qX (w.heap.setIfInBounds B (.map pP ui)) c=qX M.H c:=fun c _=>by
   unfold qX
   grind
  have := zL.write_ok ok an rfl hC C.le_refl (by simp) (by rw [hM]; simp) hH cO (o' := .imap ((n, b) :: cX)) (by
   refine⟨B,pP,ui,hB,k2,?_,he,fun m=>?_⟩
   ·show(w.heap.setIfInBounds B (.map pP ui))[B]? =_
    rw[xN,if_pos rfl]
   grind)
  exact⟨_,_,hr,rfl,rfl,rfl,rfl,rfl,this.1,this.2⟩
 refine⟨rfl,?_⟩
 rcases RD (n:=n) (i:=0) k4 with⟨q1,q2⟩|⟨j,b',e',q1,q2,q3,q4,q5⟩
 ·refine write (es.push ⟨.int .i64 n,.bool b,ck⟩) (ck+1) ?_ (fun e he=>?_) fun m=>?_
  ·unfold Instr.mapUpdate
   simp[run_underlying h1,K7 k3,K8 h2,K9 h2 q2,yZi _ k3]
  ·grind
  ·rw[Array.toList_push]
   exact RE q1 m
 ·refine write (es.modify j fun e=>{e with key:=.int .i64 n,val:=.bool b}) ck ?_ (by grind) fun m=>?_
  ·unfold Instr.mapUpdate
   rw[Nat.zero_add] at q2
   simp only[Array.getElem?_toList] at q3
   simp[run_underlying h1,K7 k3,K8 h2,K9 h2 q2,yZi _ k3,q3,q4,Instr.keyThatStays,Instr.sameBits]
  all_goals grind
theorem vAe:∀(ns:List Int) (b:ByteArray),ns.foldl (fun r n=>r.push (UInt8.ofNat n.toNat)) b=⟨(b.data.toList++nf ns).toArray⟩
 |[],b=>by simp[nf]
 |n::ns,b=>by
  rw[List.foldl_cons,vAe ns]
  simp[nf]
theorem vGk {P M}(ok:Ok M){c v xs}(hv:zY M c v)(h:Bg M.h c=some xs){w}(hM:M.H=w.heap):
  ∃A n k,v=.slice A n k∧(Conv.bytesToString v).run P w=.ok (.string ⟨(nf xs).toArray⟩) w:=by
 unfold Bg at h
 split at h
 ·cases h
  refine⟨none,0,0,hv,?_⟩
  rw[show v=.slice none 0 0 from hv]
  rfl
 ·split at h
  ·rename_i ys hr
   obtain rfl:ys=xs:=by simp_all
   obtain⟨news,⟨A,k,e,hl,cj,kL⟩,F,hE⟩:=RB ok hv hr rfl
   refine⟨A,_,k,e,?_⟩
   have hn:news=ys.map (Value.int .u8):=by
    refine List.ext_getElem (by simpa[Ty.size] using hl) fun j h1 h2=>?_
    have:=hE j (by simp_all)
    simp[qE,Ty.size] at this
    grind
   subst e
   cases A with
   |none=>
    have h1:ys=[]:=by grind
    subst h1
    rfl
   |some a=>
    have lM:(loadCells a ys.length).run P w=.ok (ys.map (Value.int .u8)).toArray w:=by
     rcases kL with h0|⟨h1,h2⟩
     ·have h1:ys=[]:=by grind
      subst h1
      rfl
     ·have:=Rd.first (P:=P) (H:=M.H) (v:=.slice (some a) ys.length k) (n:=ys.length) (size:=1) (news:=news) ⟨_,k,rfl,by grind,cj,by grind⟩ w hM.symm
      rw[hn] at this
      simpa[Builtin.firstCells] using this
    rw[run_bytesToString w a _ k ys lM,vAe]
    rfl
  ·cases h
structure se (M:zL) (w:World) (u:vC) (M':zL) (w':World):Prop where
 os:w'.os=w.os
 tape:w'.tape=w.tape
 output:w'.output=w.output
 H:M'.H=w'.heap
 h:M'.h=qL M.h u
 ok:Ok M'
 step:yX M M'
def sf (P:Program)(f:Nat)(args:List zX)(h:Hp)(v:zX)(u:vC):Prop:=
 ∀(M:zL) (w:World) (vs:Array Value),M.h=h→M.H=w.heap→Ok M→zM (zV M) args vs.toList→
  ((callFunc f vs).run P w=.ok (.enter f vs) w∧Calls P f vs w fun
   |.returned rv,w'=>∃M',se M w u M' w'∧zV M' v rv
   |_,_=>False)∨∃rv w' M',(callFunc f vs).run P w=.ok (.value rv) w'∧se M w u M' w'∧zV M' v rv
def yG2 (P:Program)(S:Kt):Prop:=∀k nm f args h v u,yH (S k nm f args h) v u→sf P f args h v u
structure fS (E:Env):Prop where
 eq:Gx E.P E.eqT
 sums:yG2 E.P E.sums
section
variable {P:Program} {Q:Exit→Act→World→Prop} {o:Oper} {a:Act} {w:World} {M:zL} {next:Act→World→Prop} {v:zX} {u:vC}
theorem gg {s}(hr:qM P s M w v u)(he:execOp a.eval o=(do pure (.value (←s)):Sem Next))(hn:∀M' w' rv,se M w u M' w'→zV M' v rv→next (a.put o.dst rv) w'):
  o.wp P a w next Q:=by
 obtain⟨rv,w',M',h1,h2,h3,h4,h5,h6,h7,h8,h9⟩:=hr
 unfold Oper.wp
 rw[he]
 simp[h1]
 exact hn M' w' rv ⟨h2,h3,h4,h5,h6,h7,h8⟩ h9
theorem yL0 {s}(hr:lO P s M w u)(he:execOp a.eval o=(do s;pure .skip:Sem Next))(hn:∀M' w' rv,se M w u M' w'→zV M' .undef rv→next (a.put o.dst rv) w'):
  o.wp P a w next Q:=by
 obtain⟨w',M',h1,h2,h3,h4,h5,h6,h7,h8⟩:=hr
 unfold Oper.wp
 rw[he]
 simp[h1]
 exact hn M' w' undef ⟨h2,h3,h4,h5,h6,h7,h8⟩ trivial
theorem pQ (ok:Ok M)(hM:M.H=w.heap){rv}(hu:u=[])(hv:zV M v rv)(he:(execOp a.eval o).run P w=.ok (.value rv) w)(hn:∀M' w' rv,se M w u M' w'→zV M' v rv→next (a.put o.dst rv) w'):
  o.wp P a w next Q:=by
 unfold Oper.wp
 rw[he]
 subst hu
 exact hn M w rv ⟨rfl,rfl,rfl,hM,rfl,ok,.refl M⟩ hv
end
theorem GR {α β} f:∀(l:List α) (r:List β),l.mapM f=some r→zM (fun a b=>f a=some b) l r
 |[],r,h=>by simp at h;subst h;trivial
 |a::l,r,h=>by
  simp[Option.bind_eq_some_iff] at h
  obtain⟨b,h1,bs,h2,h3⟩:=h
  cases h3
  exact⟨h1,GR f l bs h2⟩
theorem zM.map_left {α β γ R}{f:α→γ}:∀{l} {m:List β},zM (fun a b=>R (f a) b) l m→zM R (l.map f) m
 |[],[],_=>trivial
 |_::_,_::_,h=>⟨h.1,zM.map_left h.2⟩
def _root_.Go.Operand.lit:Operand→Value
 |.const c=>c
 |_=>undef
theorem vN8 {P:Program}{M:zL}{w:World}{t:TypeId}{d}{y:Operand}{x:zZ}{rx ry:Value}{b:Bool}(hu:P.underlying t=some d)(hx:zY M x rx)(hy:ry=y.lit)
  (h:Qc d y x=some b) op (om:op=.eql∨op=.neq) ox oy:
  (eqGuard op t ox oy rx ry).run P w=.ok () w∧(binOp op t rx ry).run P w=.ok (.bool (Gd op b)) w:=by
 have key:∀n,(Op.equalIn (n+1) t rx ry).run P w=.ok b w→(eqGuard op t ox oy rx ry).run P w=.ok () w→(binOp op t rx ry=match op with|.eql=>(do pure (.bool (←Op.equal t rx ry)))|_=>(do pure (.bool (!(←Op.equal t rx ry)))))→
   n=9999→(eqGuard op t ox oy rx ry).run P w=.ok () w∧(binOp op t rx ry).run P w=.ok (.bool (Gd op b)) w:=by
  intro n h1 h2 h3 hn
  have dO:(Op.equal t rx ry).run P w=.ok b w:=by subst hn;exact h1
  refine⟨h2,?_⟩
  rw[h3]
  rcases om with rfl|rfl<;>simp[dO,Gd]
 unfold Qc at h
 split at h<;>cases h<;>simp only[Operand.lit] at hy<;>subst hy
 all_goals (try obtain rfl:rx=_:=hx)
 all_goals (try obtain⟨C,B,_,_,_,rfl⟩:=hx)
 all_goals (try obtain⟨B,o,rfl,_⟩:=hx)
 all_goals (try obtain⟨cv,rfl,_⟩:=hx)
 all_goals (try obtain⟨⟨_,_,_,rfl⟩,_⟩:=hx)
 all_goals
  refine key 9999 ?_ ?_ ?_ rfl
  ·generalize 9999=n
   unfold Op.equalIn
   simp[run_underlying hu]
  ·rcases om with rfl|rfl<;>simp[eqGuard]
  ·rcases om with rfl|rfl<;>rfl
theorem RF {M}{ev:Operand→zX}{ρ:Operand→Value}(aR:∀x,zV M (ev x) (ρ x)):∀(l:List (Nat×Operand)),zM (xG M) (l.map fun p=>(p.1,ev p.2)) (l.map fun p=>(p.1,ρ p.2))
 |[]=>trivial
 |p::l=>⟨⟨rfl,aR p.2⟩,RF aR l⟩
theorem vCc {f:Operand→Value}(parts:Array (Nat×Operand)):(parts.map fun(i,x)=>(i,f x))=(parts.toList.map fun p=>(p.1,f p.2)).toArray:=by
 grind
theorem yK6 {M}{ev:Operand→zX}{ρ}(aR:∀x,zV M (ev x) (ρ x)):∀{l ids},zM (fun x id=>tT (ev x)=some id) l ids→
  zM (fun id u=>∃C B,M.κ id=some C∧C.blk=some B∧u=.pointer (some ⟨B,0,none⟩)) ids (l.map ρ)
 |[],[],_=>trivial
 |x::l,id::ids,h=>by
  refine⟨?_,yK6 aR h.2⟩
  have h1:tT (ev x)=some id:=h.1
  have hx:=aR x
  unfold tT at h1
  split at h1
  ·rename_i B2 hc
   cases h1
   rw[hc] at hx
   exact hx
  ·cases h1
theorem yXq {M ev ρ}(aR:∀x,zV M (ev x) (ρ x)):∀(l:List Operand),zM (zV M) (l.map ev) (l.map ρ)
 |[]=>trivial
 |x::l=>⟨aR x,yXq aR l⟩
theorem vTw {E}(hE:fS E){A}{k pre}{Q}{o}{a}{w}{M}{next}{v}{u ev}(ok:Ok M)(hM:M.H=w.heap)
  (aR:∀x,zV M (ev x) (a.eval x)) (h:yH (ko E A k pre o ev M.h) v u) (hn:∀M' w' rv,se M w u M' w'→zV M' v rv→next (a.put o.dst rv) w'):o.wp E.P a w next Q:=by
 unfold ko at h
 dsimp only at h
 split at h
 ·rename_i x ho
  obtain⟨rfl,rfl⟩:=wF h
  exact pQ ok hM rfl (aR x) (by cases o;cases ho;rfl) hn
 ·rename_i x ho
  obtain⟨rfl,rfl⟩:=wF h
  exact pQ ok hM rfl (aR x) (by cases o;cases ho;rfl) hn
 ·rename_i c x y ho
  split at h
  ·rename_i cb hc
   have kP:=aR c
   rw[hc] at kP
   have kP:a.eval c=.bool cb:=kP
   split at h
   ·rename_i xb yb hx hy
    obtain⟨rfl,rfl⟩:=wF h
    have h1:=aR x
    have h2:=aR y
    rw[hx] at h1
    rw[hy] at h2
    refine pQ (rv:=.bool (bif cb then xb else yb)) ok hM rfl (show zV M (.c (.bool _)) (.bool _) from rfl) ?_ hn
    have h1:a.eval x=.bool xb:=h1
    have h2:a.eval y=.bool yb:=h2
    cases o
    cases ho
    show(do pure (.value (if←asBool (a.eval c) then a.eval x else a.eval y)):Sem Next).run E.P w=_
    cases cb<;>simp[kP,asBool,h1,h2]
   ·refine pQ (rv:=if cb then a.eval x else a.eval y) ok hM ?_ ?_ ?_ hn
    ·rcases h with⟨_,_,rfl⟩|⟨_,⟨_,_,rfl⟩|⟨_,h⟩⟩
     ·rfl
     ·rfl
     ·exact h.elim
    ·rcases h with⟨rfl,rfl,_⟩|⟨rfl,⟨_,rfl,_⟩|⟨_,h⟩⟩
     ·exact aR x
     ·exact aR y
     ·exact h.elim
    ·cases o
     cases ho
     show(do pure (.value (if←asBool (a.eval c) then a.eval x else a.eval y)):Sem Next).run E.P w=_
     cases cb<;>simp[kP,asBool]
  ·exact h.elim
 ·rename_i t ho
  split at h
  ·rename_i zs aQ hz
   obtain⟨_,rfl,rfl⟩:=gd h
   exact gg (vZq ok hM aQ hz) (by cases o;cases ho;rfl) hn
  ·exact h.elim
 ·rename_i t x ho
  split at h
  ·rename_i vs aQ hv
   obtain⟨_,rfl,rfl⟩:=gd h
   exact gg (Rb ok hM aQ (aR x) hv _) (by cases o;cases ho;rfl) hn
  ·exact h.elim
 ·rename_i t parts ho
  have hp:=RF aR parts.toList
  have:=vLe ok hM hp h
  exact gg this (by cases o;cases ho;rw[←vCc];rfl) hn
 ·rename_i t n parts ho
  have hp:=RF aR parts.toList
  exact gg (Ri ok hM hp h) (by cases o;cases ho;rw[←vCc];rfl) hn
 ·rename_i t x ho
  exact gg (QB ok hM (aR x) h) (by cases o;cases ho;rfl) hn
 ·rename_i t x y ho
  obtain⟨rfl,hr⟩:=vHt ok hM (aR x) (aR y) h
  exact yL0 hr (by cases o;cases ho;rfl) hn
 ·rename_i x ho
  have hx:=aR x
  have key:∀c,ev x=.c c→v=.c c→u=[]→(match a.eval x with|.pointer none|.nilIface|.nilFunc=>False|.func (.method _) _ _=>False|_=>True)→o.wp E.P a w next Q:=by
   intro c hc hv hu hm
   rw[hc] at hx
   refine pQ (rv:=a.eval x) ok hM hu (by rw[hv];exact hx) ?_ hn
   cases o
   cases ho
   simp only[execOp]
   generalize a.eval x=r at*
   split<;>first|rfl|exact hm.elim
  split at h
  ·rename_i i j hc
   obtain⟨rfl,rfl⟩:=wF h
   refine key _ hc rfl rfl ?_
   rw[hc] at hx
   obtain⟨C,B,_,_,e⟩:=hx
   rw[e];trivial
  ·rename_i i j k hc
   obtain⟨rfl,rfl⟩:=wF h
   refine key _ hc rfl rfl ?_
   rw[hc] at hx
   obtain⟨C,B,_,_,_,e⟩:=hx
   rw[e];trivial
  ·rename_i i j k l hc
   obtain⟨rfl,rfl⟩:=wF h
   refine key _ hc rfl rfl ?_
   rw[hc] at hx
   obtain⟨B,o,e,_⟩:=hx
   rw[e];trivial
  ·rename_i i j hc
   obtain⟨rfl,rfl⟩:=wF h
   refine key _ hc rfl rfl ?_
   rw[hc] at hx
   obtain⟨cv,e,_⟩:=hx
   rw[e];trivial
  ·exact h.elim
 ·rename_i op t x y _ ho
  cases hc:(yK0 y&&yEi op) with
  |false=>
   rw[hc] at h
   exact gg (Q3 hE.eq ok hM (aR x) (aR y) h) (by cases o;cases ho;rfl) hn
  |true=>
   rw[hc] at h
   rw[Bool.and_eq_true] at hc
   have om:op=.eql∨op=.neq:=by cases op<;>first|(left;rfl)|(right;rfl)|(cases hc.2)
   split at h
   ·rename_i d cv hu kP
    split at h
    ·rename_i b hb
     obtain⟨rfl,rfl⟩:=wF h
     have hx:=aR x
     rw[kP] at hx
     have hy:a.eval y=y.lit:=by
      cases y<;>first|rfl|(cases hc.1)
     obtain⟨h1,h2⟩:=vN8 (w:=w) hu hx hy hb op om x y
     refine pQ (rv:=.bool (Gd op b)) ok hM rfl (show zV M (.c (.bool _)) (.bool _) from rfl) ?_ hn
     cases o
     cases ho
     show(do pure (.value (←(do eqGuard op t x y (a.eval x) (a.eval y);binOp op t (a.eval x) (a.eval y)))):Sem Next).run E.P w=_
     simp only[Sem.run_bind,h1,Result.andThen_ok,h2,Sem.run_pure]
    ·exact h.elim
   ·exact h.elim
 ·rename_i op t x ho
  exact gg (Q4 ok hM (aR x) h) (by cases o;cases ho;rfl) hn
 ·rename_i s d x ho
  split at h
  ·rename_i k1 k k2 n hs hd hx
   obtain⟨rfl,rfl⟩:=wF h
   have kQ:=aR x
   rw[hx] at kQ
   have kQ:a.eval x=.int k2 n:=kQ
   refine pQ (rv:=.int k (k.wrap n)) ok hM rfl (show zV M (.c (.int _ _)) (.int _ _) from rfl) ?_ hn
   cases o
   cases ho
   show(do pure (.value (←convert s d (a.eval x))):Sem Next).run E.P w=_
   simp[convert,run_underlying hs,run_underlying hd,kQ,Conv.intToInt]
  ·rename_i e c hs hd hx
   split at h
   ·rename_i xs he GS
    obtain⟨rfl,rfl⟩:=wF h
    have kQ:=aR x
    rw[hx] at kQ
    obtain⟨A,n,k,e1,e2⟩:=vGk (P:=E.P) (w:=w) ok kQ GS hM
    refine pQ (rv:=.string ⟨(nf xs).toArray⟩) ok hM rfl (show zV M (.c (.str xs)) _ from rfl) ?_ hn
    cases o
    cases ho
    show(do pure (.value (←convert s d (a.eval x))):Sem Next).run E.P w=_
    rw[e1] at e2⊢
    simp only[Sem.run_bind,run_convert_bytes_string w s d e A n k hs he hd,e2,Result.andThen_ok,Sem.run_pure]
   ·exact h.elim
  ·exact h.elim
 ·rename_i f first captured ho
  cases hf:Nat.beq first.size 0 with
  |false=>rw[hf] at h;exact h.elim
  |true=>
   rw[hf] at h
   simp only[cond_true] at h
   split at h
   ·rename_i ids kR
    obtain⟨rfl,rfl⟩:=wF h
    have h0:first=#[]:=Array.eq_empty_of_size_eq_zero (by simpa using hf)
    refine pQ (rv:=.func (.func f) #[] (captured.map a.eval)) ok hM rfl ?_ ?_ hn
    case refine_2=>
     cases o
     cases ho
     show(do pure (.value (←Instr.makeFunc (.func f) (first.map a.eval) (captured.map a.eval))):Sem Next).run E.P w=_
     subst h0
     simp[Instr.makeFunc]
    refine⟨_,rfl,?_⟩
    rw[Array.toList_map]
    exact yK6 aR (GR _ _ _ kR)
   ·exact h.elim
 ·rename_i t l c ho
  exact gg (vD2 ok hM (aR l) (aR c) h) (by cases o;cases ho;rfl) hn
 ·rename_i t ho
  exact gg (vYv ok hM h) (by cases o;cases ho;rfl) hn
 ·rename_i t x i ho
  exact gg (vEl ok hM (aR x) (aR i) h) (by cases o;cases ho;rfl) hn
 ·rename_i t x i y ho
  obtain⟨rfl,hr⟩:=vZy ok hM (aR x) (aR i) (aR y) h
  exact yL0 hr (by cases o;cases ho;rfl) hn
 ·rename_i t x lo hi mx ho
  have hO:∀y:Option Operand,BN M (y.map ev) (y.map a.eval):=fun y=>by
   cases y with
   |none=>trivial
   |some y=>exact aR y
  exact gg (vQ4 ok hM (aR x) (hO lo) (hO hi) (hO mx) h) (by cases o;cases ho;rfl) hn
 ·rename_i t x f ho
  exact gg (vPr ok hM (aR x) h) (by cases o;cases ho;rfl) hn
 ·rename_i t x f ho
  exact gg (QW ok hM (aR x) h) (by cases o;cases ho;rfl) hn
 ·rename_i t x i ho
  exact gg (QU ok hM (aR x) (aR i) h) (by cases o;cases ho;rfl) hn
 ·rename_i t x i ho
  exact gg (vYf ok hM (aR x) (aR i) h) (by cases o;cases ho;rfl) hn
 ·rename_i t i ho
  have ht:=aR t
  split at h
  ·rename_i xs GS
   rw[GS] at ht
   obtain⟨vs,dz,bg⟩:=ht
   split at h
   ·rename_i g cs hi
    obtain⟨hp,rfl⟩:=Qx h
    have hl:=bg.length
    have bd:i<xs.length:=by
     rcases Nat.lt_or_ge i xs.length with h|h
     ·exact h
     ·rw[List.getElem?_eq_none h] at hi;cases hi
    have jg:i<vs.size:=by simp at hl;omega
    have hc:=bg.get i bd (by simpa using jg)
    rw[List.getElem?_eq_getElem bd,Option.some.injEq] at hi
    rw[hi] at hc
    refine pQ (rv:=vs[i]) ok hM rfl ?_ ?_ hn
    ·rcases QA hp with⟨e1,rfl⟩|⟨e1,c,rfl,rfl⟩
     ·cases e1;exact hc
     ·cases e1;exact hc
    ·cases o
     cases ho
     show(do pure (.value (←Instr.extract (a.eval t) i)):Sem Next).run E.P w=_
     rw[dz]
     simp[Instr.extract,jg]
   ·exact h.elim
  ·exact h.elim
 ·rename_i c ho
  have cG:=yXq aR c.args.toList
  have exec:∀b,c.callee=.builtin b→∀s:Sem Value,(∀C,Go.builtin b c.argTypes o.type C (c.args.map a.eval)=(do pure (.value (←s)):Sem Next))→execOp a.eval o=(do pure (.value (←s)):Sem Next):=fun b hb s hs=>by
   cases o
   cases ho
   show(do let d←resolve a.eval c _;invoke d.target d.args:Sem Next)=_
   unfold resolve
   rw[hb]
   exact hs _
  have jn:c.args.map a.eval=(c.args.toList.map a.eval).toArray:=by cases c.args;simp
  split at h
  ·rename_i b jo
   unfold Qo at h
   split at h
   ·split at h
    case h_2=>exact h.elim
    rename_i x hx
    have h1:∃rx,(c.args.toList.map a.eval).toArray=#[rx]∧zY M x rx:=by
     rw[hx] at cG
     match hl:c.args.toList.map a.eval,cG with
     |[rx],hh=>exact⟨rx,rfl,hh.1⟩
    obtain⟨rx,xO,kQ⟩:=h1
    split at h
    ·rename_i e hu
     split at h
     ·rename_i n hlen
      obtain⟨rfl,rfl⟩:=wF h
      obtain⟨t,ht,hu⟩:=Option.bind_eq_some_iff.1 hu
      obtain⟨A,k,rfl⟩:=vOo ok kQ hlen
      refine gg (s:=Builtin.len_ c.argTypes o.type (c.args.map a.eval)) ?_ (exec _ jo _ fun _=>rfl) hn
      rw[jn,xO]
      exact .pure ok hM (vKf ht hu) rfl
     ·exact h.elim
    ·exact h.elim
   ·split at h
    case h_2=>exact h.elim
    rename_i b x hx
    have h1:∃rb rx,(c.args.toList.map a.eval).toArray=#[rb,rx]∧zV M b rb∧zV M x rx:=by
     rw[hx] at cG
     match hl:c.args.toList.map a.eval,cG with
     |[rb,rx],hh=>exact⟨rb,rx,rfl,hh.1,hh.2.1⟩
    obtain⟨rb,rx,xO,RG,kQ⟩:=h1
    split at h
    ·rename_i t t' hts
     obtain⟨htt,h'⟩:=xK h
     have:t=t':=by simpa using htt
     subst this
     refine gg (s:=Builtin.append_ c.argTypes o.type (c.args.map a.eval)) ?_ (exec _ jo _ fun _=>rfl) hn
     have ht:c.argTypes=#[t,t]:=by
      have:=congrArg List.toArray hts
      simpa using this
     rw[jn,xO,ht]
     exact vNe ok hM RG kQ h'
    ·exact h.elim
   ·split at h
    case h_2=>exact h.elim
    rename_i d s hx
    have h1:∃rb rx,(c.args.toList.map a.eval).toArray=#[rb,rx]∧zV M d rb∧zV M s rx:=by
     rw[hx] at cG
     match hl:c.args.toList.map a.eval,cG with
     |[rb,rx],hh=>exact⟨rb,rx,rfl,hh.1,hh.2.1⟩
    obtain⟨rb,rx,xO,RG,kQ⟩:=h1
    split at h
    ·rename_i e hu
     obtain⟨RH,h⟩:=xK h
     obtain⟨t,ht,hu⟩:=Option.bind_eq_some_iff.1 hu
     refine gg (s:=Builtin.copy_ c.argTypes o.type (c.args.map a.eval)) ?_ (exec _ jo _ fun _=>rfl) hn
     rw[jn,xO]
     exact vR4 ok hM ht hu (by simpa using RH) RG kQ h
    ·exact h.elim
   ·split at h
    case h_2=>exact h.elim
    rename_i id lo n hx
    have h1:∃rx,(c.args.toList.map a.eval).toArray=#[rx]∧zY M (.osl id (some (lo,n))) rx:=by
     rw[hx] at cG
     match hl:c.args.toList.map a.eval,cG with
     |[rx],hh=>exact⟨rx,rfl,hh.1⟩
    obtain⟨rx,xO,kQ⟩:=h1
    split at h
    ·rename_i t ht
     refine gg (s:=Builtin.clear_ c.argTypes o.type (c.args.map a.eval)) ?_ (exec _ jo _ fun _=>rfl) hn
     rw[jn,xO]
     obtain⟨rv,w',M',q1,q2⟩:=vF2 (T:=o.type) ok hM kQ h
     refine⟨rv,w',M',?_,q2⟩
     have e:(Builtin.clear_ c.argTypes o.type #[rx]).run E.P w=(Builtin.clear_ #[t] o.type #[rx]).run E.P w:=by
      simp only[Builtin.clear_,ht]
      rfl
     rw[e];exact q1
    ·exact h.elim
   ·refine gg (s:=Builtin.max_ c.argTypes o.type (c.args.map a.eval)) ?_ (exec _ jo _ fun _=>rfl) hn
    rw[jn]
    exact yP8 (lt:=false) (ts:=c.argTypes) (T:=o.type) ok hM cG h
   ·refine gg (s:=Builtin.min_ c.argTypes o.type (c.args.map a.eval)) ?_ (exec _ jo _ fun _=>rfl) hn
    rw[jn]
    exact yP8 (lt:=true) (ts:=c.argTypes) (T:=o.type) ok hM cG h
   ·exact h.elim
  ·rename_i f jo
   split at h
   ·rename_i RI cap hf
    have hfv:=aR f
    rw[hf] at hfv
    obtain⟨cv,kP,GU⟩:=hfv
    have bg:zM (zV M) (c.args.toList.map ev++cap.map fun id=>.c (.ptr id 0)) (c.args.map a.eval++cv).toList:=by
     rw[Array.toList_append,Array.toList_map]
     exact cG.append (zM.map_left GU)
    have oe:(execOp a.eval o).run E.P w=(callFunc RI (c.args.map a.eval++cv)).run E.P w:=by
     cases o
     cases ho
     show(do let d←resolve a.eval c _;invoke d.target d.args:Sem Next).run E.P w=_
     unfold resolve
     rw[jo]
     simp only[kP,Deferred.ofValue,Sem.run_bind,Sem.run_pure,Result.andThen_ok,invoke,Array.empty_append]
    rcases hE.sums k _ RI _ M.h v u h M w _ rfl hM ok bg with⟨h1,h2⟩|⟨rv,w',M',h1,hB,hv⟩
    case inr=>
     unfold Oper.wp
     rw[oe,h1]
     exact hn M' w' rv hB hv
    unfold Oper.wp
    rw[oe,h1,Oper.upon_enter]
    refine Calls.mono h2 fun e w' he=>?_
    cases e with
    |returned rv=>
     obtain⟨M',hB,hv⟩:=he
     exact hn M' w' rv hB hv
    |panicked _=>exact he.elim
    |outgrown=>exact he.elim
   ·exact h.elim
  ·exact h.elim
 ·exact h.elim
section
variable {P:Program} {h h':Hp}
theorem vWu {t a}(hh:∀id∈yP a,h id=h' id):Bj P h t a=Bj P h' t a:=by
 unfold Bj
 cases a with
 |c v=>cases v<;>first|rfl|(have:=hh _ (List.mem_singleton.2 rfl);simp_all)
 |_=>rfl
theorem yU7 {v}(hh:∀id∈vG v,h id=h' id):ng h v=ng h' v:=by
 unfold ng
 cases v<;>first|rfl|(have:=hh _ (List.mem_singleton.2 rfl);simp_all)
theorem RJ:∀{vs},(∀id∈vs.flatMap vG,h id=h' id)→mq h vs=mq h' vs
 |[],_=>rfl
 |v::vs,hh=>by
  simp  at hh
  unfold mq
  rw[yU7 fun id hi=>hh id (.inl hi),RJ (by grind)]
theorem yS9 {v vs}(e:nc v=some vs):vs.flatMap vG=yP v:=by
 unfold nc at e
 split at e
 ·cases e;simp[yP]
 ·cases e;rfl
 ·cases e
theorem vGw {t a v}(ha:∀id∈yP a,h id=h' id)(hv:∀id∈yP v,h id=h' id):Bk P h t a v=Bk P h' t a v:=by
 unfold Bk
 cases e:nc v with
 |none=>rfl
 |some vs=>
  have hf:mq h vs=mq h' vs:=RJ (by rw[yS9 e];exact hv)
  cases a with
  |c x=>
   cases x with
   |mptr id i=>
    have h1:=ha _ (List.mem_singleton.2 rfl)
    simp only[h1]
    generalize h' id=ob
    rcases ob with _|(_|_|_|_|_|_|_)<;>first|rfl|skip
    all_goals cases v with
    |c y=>cases y with
     |osl jd r=>cases r with
      |none=>
       have h2:=hv _ (List.mem_singleton.2 rfl)
       simp_all
      |some _=>rfl
     |_=>rfl
    |_=>rfl
   |ptr id off=>
    have h1:=ha _ (List.mem_singleton.2 rfl)
    simp_all
   |eptr id i off=>
    have h1:=ha _ (List.mem_singleton.2 rfl)
    simp_all
   |meptr id i j ver=>
    have h1:=ha _ (List.mem_singleton.2 rfl)
    simp[h1]
   |_=>rfl
  |_=>rfl
theorem La {v}(hh:∀id∈vG v,h id=h' id):jb h v=jb h' v:=by
 unfold jb
 cases v<;>first|rfl|(have:=hh _ (List.mem_singleton.2 rfl);simp_all)
theorem vF4 {v}(hh:∀id∈vG v,h id=h' id):Bh h v=Bh h' v:=by
 have e:=La hh
 unfold Bh
 grind
theorem vLk {t x i}(hh:∀id∈yP x,h id=h' id):Bl P h t x i=Bl P h' t x i:=by
 unfold Bl
 generalize P.underlying t=d
 rcases d with _|d
 ·rfl
 ·cases d with
  |slice e=>
   cases x with
   |c v=>
    cases i with
    |c iv=>
     cases iv with
     |int k n=>cases v<;>first|rfl|(have:=hh _ (List.mem_singleton.2 rfl);simp_all)
     |_=>cases v<;>rfl
    |_=>rfl
   |_=>rfl
  |array n e=>
   grind
  |_=>rfl
theorem vRz {nm t}(h0:h nm=h' nm):Bo P nm h t=Bo P nm h' t:=by
 unfold Bo
 rw[h0]
theorem vYi {t x i}(hh:∀id∈yP x,h id=h' id):Bp P h t x i=Bp P h' t x i:=by
 unfold Bp
 split
 ·rename_i id n
  rw[hh id (by simp[yP,vG])]
 ·rfl
theorem vEd {t x i y}(hh:∀id∈yP x,h id=h' id):Bq P h t x i y=Bq P h' t x i y:=by
 unfold Bq
 split
 ·rename_i id n b
  rw[hh id (by simp[yP,vG])]
 ·rfl
theorem vPj {t x lo hi mx}(hh:∀id∈yP x,h id=h' id):Br P h t x lo hi mx=Br P h' t x lo hi mx:=by
 unfold Br
 split
 ·rfl
 ·rename_i id r _
  rw[hh id (by simp[yP,vG])]
 ·rename_i id _
  rw[hh id (by simp[yP,vG])]
 ·rename_i id off _
  rw[hh id (by simp[yP,vG])]
 ·rfl
theorem vV9 {v}(hh:∀id∈yP v,h id=h' id):xo h v=xo h' v:=by
 unfold xo
 cases v with
 |c v=>cases v with
  |osl jd r=>cases r with
   |none=>
    have h2:=hh _ (List.mem_singleton.2 rfl)
    simp_all
   |some _=>rfl
  |_=>rfl
 |_=>rfl
theorem yN9:∀{parts rows},(∀id∈(parts.map (·.2)).flatMap yP,h id=h' id)→xp h rows parts=xp h' rows parts
 |[],_,_=>rfl
 |(i,v)::rest,rows,hh=>by
  simp only[List.map_cons,List.flatMap_cons,List.mem_append] at hh
  unfold xp
  rw[vV9 fun id hi=>hh id (.inl hi)]
  cases xo h' v with
  |none=>rfl
  |some p=>simp[yN9 fun id hi=>hh id (.inr hi)]
theorem vCm {t}:∀{parts xs},(∀id∈(parts.map (·.2)).flatMap yP,h id=h' id)→pA h t xs parts=pA h' t xs parts
 |[],_,_=>rfl
 |(i,v)::rest,xs,hh=>by
  simp only[List.map_cons,List.flatMap_cons,List.mem_append] at hh
  unfold pA
  cases e:nc v with
  |none=>rfl
  |some vs=>
   have hf:mq h vs=mq h' vs:=RJ (by rw[yS9 e];simp_all)
   simp[hf]
   cases mq h' vs with
   |none=>rfl
   |some p=>
    dsimp only
    cases Ga t p.1 with
    |none=>rfl
    |some x=>simp[vCm fun id hi=>hh id (.inr hi)]
theorem RK {mat nm t n parts}(h0:h nm=h' nm)(hh:∀id∈(parts.map (·.2)).flatMap yP,h id=h' id):
  Bm P mat nm h t n parts=Bm P mat nm h' t n parts:=by
 have e':∀ty:Ty,pA h ty (List.replicate n ty.dflt) parts=pA h' ty (List.replicate n ty.dflt) parts:=fun ty=>vCm hh
 unfold Bm
 rw[h0,yN9 hh]
 simp_all
theorem RM {mat nm t l c}(h0:h nm=h' nm):Bn P mat nm h t l c=Bn P mat nm h' t l c:=by
 unfold Bn
 rw[h0]
theorem vY7 {t v}(hh:∀id∈vG v,h id=h' id):rK h t v=rK h' t v:=by
 unfold rK
 cases v with
 |osl id r=>
  have:=hh _ (List.mem_singleton.2 rfl)
  simp_all
 |_=>rfl
theorem vSp {mat:Bool}{nm:Nat}{t:TypeId}{b x:zX}(h0:h nm=h' nm)(hb:∀id∈yP b,h id=h' id)(hx:∀id∈yP x,h id=h' id):Bt P mat nm h t b x=Bt P mat nm h' t b x:=by
 unfold Bt
 rw[h0]
 generalize P.underlying t=d
 rcases d with _|d
 ·rfl
 cases d with
 |slice e=>
  generalize h' nm=on
  cases on with
  |some _=>rfl
  |none=>
   cases b with
   |c b=>
    cases x with
    |c x=>
     have ht:∀ty,rK h ty x=rK h' ty x:=fun ty=>vY7 hx
     simp only[ht]
     cases b with
     |osl id r=>
      have h1:=hb _ (List.mem_singleton.2 rfl)
      simp only[h1]
      cases x with
      |osl jd r2=>
       have h2:=hx _ (List.mem_singleton.2 rfl)
       grind
      |_=>cases mat with
       |false=>rfl
       |true=>
        generalize ja P e=et
        rcases et with _|(_|_|_|_)<;>first|rfl|skip
        rename_i t2
        cases t2<;>first|rfl|skip
        rename_i k
        cases k<;>cases r<;>rfl
     |_=>cases mat with
      |false=>rfl
      |true=>
       generalize ja P e=et
       rcases et with _|(_|_|_|_)<;>first|rfl|skip
       rename_i t2
       cases t2<;>first|rfl|skip
       rename_i k
       cases k<;>rfl
    |_=>rfl
   |_=>rfl
 |_=>rfl
theorem RN {d s}(hd:∀id∈yP d,h id=h' id)(hs:∀id∈yP s,h id=h' id):Bu h d s=Bu h' d s:=by
 unfold Bu
 cases d with
 |c d=>
  cases s with
  |c s=>
   cases d with
   |bsl id off n=>
    have h1:=hd _ (List.mem_singleton.2 rfl)
    have h2:jb h s=jb h' s:=La hs
    grind
   |_=>rfl
  |_=>simp
 |_=>rfl
end
theorem vMo {E}{A}{k pre}{o}{ev sg}{h}(he:∀x∈o.op.operands,ev x=sg x):ko E A k pre o ev h=ko E A k pre o sg h:=by
 obtain⟨dst,op,type,pos,after,guard⟩:=o
 have fh:∀ps:Array (Nat×Operand),(∀x∈ps.map (·.2),ev x=sg x)→(ps.toList.map fun p=>(p.1,ev p.2))=(ps.toList.map fun p=>(p.1,sg p.2)):=fun ps hp=>
  List.map_congr_left (by grind)
 have maps:∀xs:Array Operand,(∀x∈xs,ev x=sg x)→xs.toList.map ev=xs.toList.map sg:=by simp
 cases op<;>simp only[Op.operands] at he<;>simp only[ko]
 case build t ps=>rw[fh ps fun x hx=>he x (by simpa using hx)]
 case buildSlice t n ps=>rw[fh ps fun x hx=>he x (by simpa using hx)]
 case makeFunc fn first captured=>
  cases fn<;>first|rfl|skip
  have:captured.toList.mapM (fun x=>tT (ev x))=captured.toList.mapM (fun x=>tT (sg x)):=by
   have h2:∀l:List Operand,(∀x∈l,ev x=sg x)→l.mapM (fun x=>tT (ev x))=l.mapM (fun x=>tT (sg x)):=fun l=>by
    induction l with
    |nil=>exact fun _=>rfl
    |cons y l ih=>simp_all
   exact by grind
  simp only[this]
 case call c=>
  obtain⟨callee,args,ats⟩:=c
  have ha:=maps args fun x hx=>he x (by simp[Call.operands,hx])
  cases callee with
  |value f=>
   have hf:=he f (by simp[Call.operands])
   simp only[hf,ha]
  |builtin b=>simp only[ha]
  |invoke _ _=>rfl
 case makeMap t r=>cases r<;>rfl
 case lookup t x i ok=>cases ok<;>simp_all
 case slice t x lo hi mx=>
  have h1:=he x (by simp)
  cases lo<;>cases hi<;>cases mx<;>simp_all
 all_goals (first|rfl|(simp only[he _ (by simp:_∈#[_])];done)|(simp_all;done))
def iN (S:Kt):Prop:=∀k nm f (args:List zX) h h',(args.any wI=false→∀id,(id∈args.flatMap yP∨mu nm id=true)→h id=h' id)→(args.any wI=true→h=h')→S k nm f args h=S k nm f args h'
theorem RO nm:mu nm nm=true:=by
 simp[mu]
theorem vVu {E}(hS:iN E.sums){A k pre o ev h h'}
  (hh:match pD ev o with|none=>h=h'|some l=>∀id,(id∈l∨mu (pC pre o.dst) id=true)→h id=h' id):ko E A k pre o ev h=ko E A k pre o ev h':=by
 have full:h=h'→ko E A k pre o ev h=ko E A k pre o ev h':=fun e=>by rw[e]
 unfold pD at hh
 dsimp only at hh
 cases hq:yMs o.op with
 |true=>
  obtain⟨dst,op,type,pos,after,guard⟩:=o
  cases op<;>first|rfl|cases hq
 |false=>
 rw[hq] at hh
 simp only[cond_false] at hh
 cases hc:(Qp o.op&&(o.op.operands.toList.map ev).any wI) with
 |true=>rw[hc] at hh;exact full hh
 |false=>
  rw[hc] at hh
  replace hh:∀id,(id∈(o.op.operands.toList.map ev).flatMap yP∨mu (pC pre o.dst) id=true)→h id=h' id:=hh
  have h0:h (pC pre o.dst)=h' (pC pre o.dst):=hh _ (.inr (RO _))
  have hx:∀x∈o.op.operands,∀id∈yP (ev x),h id=h' id:=by grind
  obtain⟨dst,op,type,pos,after,guard⟩:=o
  dsimp only at h0 hx hc
  cases op<;>simp only[Op.operands] at hx<;>simp only[ko]
  case alloc t=>rw[h0]
  case box t x=>rw[h0]
  case buildSlice t n ps=>
   exact RK h0 (by grind)
  case load t x=>exact vWu (hx x (by simp))
  case store t x y=>exact vGw (hx x (by simp)) (hx y (by simp))
  case makeSlice t l c=>exact RM h0
  case slice t x lo hi mx=>exact vPj (hx x (by simp))
  case makeMap t r=>cases r<;>first|rfl|exact vRz h0
  case lookup t x i ok=>cases ok<;>first|rfl|exact vYi (hx x (by simp))
  case mapUpdate t x i y=>exact vEd (hx x (by simp))
  case indexAddr t x i=>exact vLk (hx x (by simp))
  case convert s d x=>
   have hx:=hx x (by simp)
   have hs:∀v,ev x=.c v→Bg h v=Bg h' v:=fun v e=>by
    have:=La (h:=h) (h':=h') (v:=v) fun id an=>hx id (by rw[e];exact an)
    unfold Bg
    cases v<;>first|rfl|simp only[this]
   split
   ·rfl
   ·rename_i e c _ _ hc
    rw[hs c hc]
   ·rfl
  case call c=>
   obtain⟨callee,args,ats⟩:=c
   have ha:∀v∈args.toList.map ev,∀id∈yP v,h id=h' id:=fun v hv=>by
    obtain⟨x,xP,rfl⟩:=List.mem_map.1 hv
    exact hx x (by simp at xP;simp[Call.operands,xP])
   cases callee with
   |value f=>
    dsimp only
    cases hf:ev f with
    |c fv=>cases fv with
     |fn RI cap=>
      dsimp only
      simp only[Qp,Bool.true_and] at hc
      have gW:cap=[]:=by
       have hm:ev f∈(Op.call ⟨.value f,args,ats⟩).operands.toList.map ev:=List.mem_map_of_mem (by simp[Op.operands,Call.operands])
       have:=List.any_eq_false.1 hc _ hm
       rw[hf] at this
       simpa[wI] using this
      subst gW
      simp only[List.map_nil,List.append_nil]
      have hb:(args.toList.map ev).any wI=false:=by
       refine List.any_eq_false.2 fun v hv=>?_
       obtain⟨x,xP,rfl⟩:=List.mem_map.1 hv
       exact List.any_eq_false.1 hc _ (List.mem_map_of_mem (by simp at xP;simp[Op.operands,Call.operands,xP]))
      refine hS _ _ _ _ _ _ (fun _ id an=>?_) fun ht=>?_
      ·rcases an with an|an
       ·obtain⟨v,hv,an⟩:=List.mem_flatMap.1 an
        exact ha v hv id an
       ·exact hh id (.inr an)
      ·rw[hb] at ht;cases ht
     |_=>rfl
    |_=>rfl
   |invoke _ _=>rfl
   |builtin b=>
    generalize hl:args.toList.map ev=l at ha
    unfold Qo
    cases b<;>first|rfl|skip
    case len=>
     match l,ha with
     |[],_=>rfl
     |[v],ha=>cases v with
      |c v=>
       have:=vF4 (ha (.c v) (by simp))
       simp only[this]
      |_=>rfl
     |v::_::_,_=>cases v<;>rfl
    case append=>
     match l,ha with
     |[],_|[_],_|_::_::_::_,_=>rfl
     |[b,x],ha=>
      have:=fun mat t=>vSp (P:=E.P) (mat:=mat) (t:=t) h0 (ha b (by simp)) (ha x (by simp))
      simp only[this]
    case clear=>
     match l,ha with
     |[],_=>rfl
     |[v],ha=>cases v with
      |c v=>cases v with
       |osl id r=>cases r with
        |none=>rfl
        |some p=>
         have e:=ha (.c (.osl id (some p))) (by simp) id (by simp[yP,vG])
         dsimp only
         split
         ·unfold Kr;rw[e]
         ·rfl
       |_=>rfl
      |_=>rfl
     |v::_::_,_=>cases v with
      |c v=>cases v with
       |osl id r=>cases r<;>rfl
       |_=>rfl
      |_=>rfl
    case copy=>
     match l,ha with
     |[],_|[_],_|_::_::_::_,_=>rfl
     |[b,x],ha=>
      have:=RN (ha b (by simp)) (ha x (by simp))
      simp only[this]
  case makeFunc fn first captured=>cases fn<;>rfl
  all_goals rfl
end Go.Ab
set_option linter.unusedSectionVars false
namespace Go.Ab
structure iO (M M':zL):Prop where
 F:∀b,M.F b→M'.F b
 G:∀b,M.G b→M'.G b
 same:∀b,M.F b→M'.H[b]? =M.H[b]?
 sameG:∀b,M.G b→M'.H[b]? =M.H[b]?
 bsz:∀b,b<M.H.size→qX M'.H b=qX M.H b
 size:M.H.size≤M'.H.size
 frame:∀b,b<M.H.size→¬qP M b→M'.H[b]? =M.H[b]?
 own:∀b,qP M' b→b<M.H.size→qP M b
 Gb:∀b,M'.G b→b<M.H.size→M.G b∨qP M b
 Fb:∀b,M'.F b→b<M.H.size→M.F b∨qP M b
theorem yX.grow {M M'}(s:yX M M'):iO M M':=⟨s.ext.F,s.ext.G,s.ext.same,s.ext.sameG,s.ext.bsz,s.size,s.frame,s.own,s.Gb,s.Fb⟩
theorem iO.trans {M M' lL}(x:iO M M')(y:iO M' lL):iO M lL where
 F b h:=y.F b (x.F b h)
 G b h:=y.G b (x.G b h)
 same b h:=(y.same b (x.F b h)).trans (x.same b h)
 sameG b h:=(y.sameG b (x.G b h)).trans (x.sameG b h)
 bsz b h:=(y.bsz b (by have:=x.size;omega)).trans (x.bsz b h)
 size:=Nat.le_trans x.size y.size
 frame b h hn:=by
  have:=x.size
  rw[y.frame b (by omega) fun ho=>hn (x.own b ho h),x.frame b h hn]
 own b ho h:=x.own b (y.own b ho (by have:=x.size;omega)) h
 Gb b hg h:=by
  rcases y.Gb b hg (by have:=x.size;omega) with k|k
  ·exact x.Gb b k h
  ·exact .inr (x.own b k h)
 Fb b hg h:=by
  rcases y.Fb b hg (by have:=x.size;omega) with k|k
  ·exact x.Fb b k h
  ·exact .inr (x.own b k h)
def Lb (M M':zL):Prop:=∀id C,M.κ id=some C→∃C',M'.κ id=some C'∧C'.blk=C.blk
structure sj (nl:Bool) (M M':zL):Prop where
 g:iO M M'
 k:nl=true→Lb M M'
theorem sj.step {nl M M' lL}(x:sj nl M M')(s:yX M' lL):sj nl M lL:=
 ⟨x.g.trans s.grow,fun h id C hC=>by
  obtain⟨C1,h1,e1⟩:=x.k h id C hC
  obtain⟨C2,h2,le⟩:=s.ext.κ id C1 h1
  exact⟨C2,h2,le.blk.trans e1⟩⟩
theorem sj.trans {M M' lL}(x:sj false M M')(y:iO M' lL):sj false M lL:=⟨x.g.trans y,by simp⟩
structure vQ (nl:Bool) (na nt:Nat) (a0:Nat→Value) (M0:zL) (w0:World) (st:St) (a:Act) (w:World):Prop where
 ex:∃M:zL,M.h=st.h∧M.H=w.heap∧Ok M∧sj nl M0 M∧∀t,zV M (st.t t) (a.tmps.getD t undef)
 defers:a.defers=[]
 size:a.tmps.size=nt
 os:w.os=w0.os
 tape:w.tape=w0.tape
 output:w.output=w0.output
 keep:∀t,t<na→a.tmps.getD t undef=a0 t
theorem yBv {M}{st:St}{a:Act}(h:∀t,zV M (st.t t) (a.tmps.getD t undef)) x:zV M (st.ev x) (a.eval x):=by
 cases x with
 |tmp t=>exact h t
 |const v=>exact vS2 M v
 |global g=>trivial
 |func f=>exact⟨#[],rfl,trivial⟩
theorem RP {t s v}(h:t s=v):jF t s v=t:=by
 funext n
 unfold jF
 cases e:Nat.beq n s with
 |false=>rfl
 |true=>
  simp_all
def B3 (ops:Array Oper)(o:Oper)(st:St):Option Bool:=match o.guard with
 |none=>some true
 |some (j,want)=>match Kz ops j with
  |none=>none
  |some s=>match st.t s with
   |.c (.bool b)=>some (b==want)
   |.skp=>some false
   |_=>none
theorem yZ0 {R ops o st yes no}{out:R}(h:KA ops o st yes no=some out):
  ∃b,B3 ops o st=some b∧(if b=true then yes st else no st)=some out:=by
 unfold KA at h
 unfold B3
 cases hg:o.guard with
 |none=>simp_all
 |some p=>
  obtain⟨j,want⟩:=p
  rw[hg] at h
  dsimp only at h⊢
  cases hs:Kz ops j with
  |none=>simp_all
  |some s=>
   rw[hs] at h
   dsimp only at h⊢
   split at h
   ·rename_i b hb
    rw[hb]
    refine⟨b==want,rfl,?_⟩
    cases b with
    |true=>
     simp[RP hb] at h
     cases want<;>exact h
    |false=>
     simp[RP hb] at h
     cases want<;>exact h
   all_goals simp_all
theorem getD_some {a:Array Value}{s v}(h:a.getD s undef=v)(hv:v≠undef):a[s]? =some v:=by
 by_cases hs:s<a.size
 all_goals simp_all
theorem vAk {ops o st b nl na nt a0 M0 w0 w a}(h:B3 ops o st=some b)(R:vQ nl na nt a0 M0 w0 st a w):Region.wanted o (yielded ops a.tmps)=b:=by
 obtain⟨M,_,_,_,_,ht⟩:=R.ex
 unfold B3 at h
 unfold Region.wanted
 split at h
 ·simp_all
 ·rename_i j want hg
  rw[hg]
  split at h
  ·cases h
  ·rename_i s hs
   have hv:=ht s
   have uj:(ops[j]?).bind (·.dst)=some s:=hs
   split at h
   ·rename_i b' hb
    cases h
    rw[hb] at hv
    have:=getD_some hv (by nofun)
    simp only[yielded,uj,Option.bind_some,this]
    rfl
   ·rename_i hb
    cases h
    rw[hb] at hv
    have hv:a.tmps.getD s undef=undef:=hv
    have:∀x:Option Value,(x=none∨x=some undef)→((match x with|some (.bool b)=>some b|_=>none:Option Bool)==some want)=false:=fun x hx=>by
     rcases hx with rfl|rfl<;>cases want<;>rfl
    refine this _ ?_
    by_cases bd:s<a.tmps.size
    all_goals simp_all
   ·cases h
theorem se.rel {nl na nt a0 M0 M M' w0 w w' st a dst v u rv}(R:vQ nl na nt a0 M0 w0 st a w)(hh:M.h=st.h)(hs:sj nl M0 M)(ht:∀t,zV M (st.t t) (a.tmps.getD t undef))
  (hd:∀d,dst=some d→na≤d∧d<nt) (hB:se M w u M' w') (hv:zV M' v rv):vQ nl na nt a0 M0 w0 {t:=iJ st.t dst v,h:=qL st.h u} (a.put dst rv) w' where
 ex:=by
  refine⟨M',by rw[hB.h,hh],hB.H,hB.ok,hs.step hB.step,fun t=>?_⟩
  cases dst with
  |none=>exact(ht t).ext hB.step.ext
  |some d=>
   show zV M' (jF st.t d v t) ((a.tmps.setIfInBounds d rv).getD t undef)
   have bd:d<a.tmps.size:=by rw[R.size];simp_all
   unfold jF
   cases e:Nat.beq t d with
   |true=>
    simp_all
   |false=>
    have e:t≠d:=fun e'=>by simp_all
    have:=(ht t).ext hB.step.ext
    simp[Array.getElem?_setIfInBounds_ne (Ne.symm e)] at this⊢
    exact this
 defers:=by cases dst<;>exact R.defers
 size:=by cases dst<;>simp[Act.put,R.size]
 os:=hB.os.trans R.os
 tape:=hB.tape.trans R.tape
 output:=hB.output.trans R.output
 keep t h:=by
  cases dst with
  |none=>exact R.keep t h
  |some d=>
   have bm:d≠t:=by grind
   rw[←R.keep t h]
   simp[Act.put,Array.getElem?_setIfInBounds_ne bm]
theorem vQ.skip {nl na nt a0 M0 w0 w st a dst}(hd:∀d,dst=some d→na≤d)(R:vQ nl na nt a0 M0 w0 st a w):vQ nl na nt a0 M0 w0 {st with t:=iJ st.t dst .skp} (a.put dst undef) w where
 ex:=by
  obtain⟨M,h1,h2,h3,h4,ht⟩:=R.ex
  refine⟨M,h1,h2,h3,h4,fun t=>?_⟩
  cases dst with
  |none=>exact ht t
  |some d=>
   show zV M (jF st.t d .skp t) ((a.tmps.setIfInBounds d undef).getD t undef)
   unfold jF
   cases e:Nat.beq t d with
   |true=>
    have e:t=d:=by simp_all
    subst e
    show(a.tmps.setIfInBounds t undef).getD t undef=undef
    simp
   |false=>
    have e:t≠d:=fun e'=>by simp_all
    have:=ht t
    simp[Array.getElem?_setIfInBounds_ne (Ne.symm e)] at this⊢
    exact this
 defers:=by cases dst<;>exact R.defers
 size:=by cases dst<;>simp[Act.put,R.size]
 os:=R.os
 tape:=R.tape
 output:=R.output
 keep t h:=by
  cases dst with
  |none=>exact R.keep t h
  |some d=>
   have bm:d≠t:=by grind
   rw[←R.keep t h]
   simp[Act.put,Array.getElem?_setIfInBounds_ne bm]
section
variable {E:Env} {A:zW} {nl:Bool} {k pre na nt:Nat} {a0:Nat→Value} {R:Type} {M0:zL} {w0:World} {Q:Exit→Act→World→Prop}
theorem vQ.op (hE:fS E){st a w}{o:Oper}{v u next}(r:vQ nl na nt a0 M0 w0 st a w)(hd:∀d,o.dst=some d→na≤d∧d<nt)(hy:yH (ko E A k pre o st.ev st.h) v u)
  (hn:∀a' w',vQ nl na nt a0 M0 w0 {t:=iJ st.t o.dst v,h:=qL st.h u} a' w'→next a' w'):o.wp E.P a w next Q:=by
 obtain⟨M,h1,h2,h3,h4,ht⟩:=r.ex
 rw[←h1] at hy
 exact vTw hE h3 h2 (yBv ht) hy fun M' w' rv hB hv=>hn _ _ (hB.rel r h1 h4 ht hd hv)
theorem RQ (hE:fS E){dst}(h:tU na nt dst=true):∀d,dst=some d→na≤d∧d<nt:=fun d hd=>by
 simp[tU] at h
 simp_all
theorem yT4 (hE:fS E){o st K}{out:R}(h:Ky E A k pre na nt o st K=some out):
  (∀d,o.dst=some d→na≤d∧d<nt)∧∃v u,yH (ko E A k pre o st.ev st.h) v u∧K v u {t:=iJ st.t o.dst v,h:=qL st.h u}=some out:=by
 unfold Ky at h
 cases hc:tU na nt o.dst with
 |false=>simp_all
 |true=>
  rw[hc] at h
  exact⟨RQ hE hc,yR.elim_some h⟩
theorem yI5 (hE:fS E){ops}:∀l st K (out:R) a w,(∀p∈l,ops[p.1]? =some p.2)→KB E A k pre na nt ops l st K=some out→vQ nl na nt a0 M0 w0 st a w→
  (∀bE a' w',vQ nl na nt a0 M0 w0 bE a' w'→K bE=some out→Q .normal a' w')→wpOps E.P ops Q (l.map (·.1)) a w
 |[],st,K,out,a,w,_,h,r,hK=>hK st a w r h
 |(i,o)::rest,st,K,out,a,w,hl,h,r,hK=>by
  have ho:ops[i]? =some o:=hl (i,o) (by simp)
  have ih:=fun st K out a w=>yI5 hE rest st K out a w fun p hp=>hl p (by grind)
  obtain⟨b,hb,h⟩:=yZ0 h
  have hw:=vAk hb r
  simp[wpOps,ho]
  cases b with
  |true=>
   rw[if_pos rfl] at h
   rw[if_pos hw]
   obtain⟨hd,v,u,hy,h⟩:=yT4 hE h
   exact .inl (vQ.op hE r hd hy (by grind))
  |false=>
   rw[if_neg (by simp[hw])]
   cases hc:tU na nt o.dst with
   |false=>simp_all
   |true=>
    rw[hc] at h
    exact ih _ _ _ _ _ h (r.skip fun d hd=>(RQ hE hc d hd).1) hK
end
def B4 (o:Oper)(acc:Array Nat):Nat:=o.after.foldl (fun s e=>if Region.binds .any e then s|||2^e.on|||acc.getD e.on 0 else s) 0
theorem yRy (acc:Array Nat) i:∀(l:List Edge) s,(l.foldl (fun s e=>if Region.binds .any e then s|||2^e.on|||acc.getD e.on 0 else s) s).testBit i=true→
  s.testBit i=true∨∃e∈l,Region.binds .any e=true∧(e.on=i∨(acc.getD e.on 0).testBit i=true)
 |[],s,h=>.inl h
 |e::l,s,h=>by
  rcases yRy acc i l _ h with h|⟨e',he,h⟩
  all_goals grind
def GV (ops:Array Oper)(acc:Array Nat):Prop:=∀j,j<acc.size→∀i,(acc.getD j 0).testBit i=true→∃o,ops[j]? =some o∧∃e∈o.after.toList,Region.binds .any e=true∧(e.on=i∨(e.on<j∧(acc.getD e.on 0).testBit i=true))
theorem vXn {ops acc o}(h:GV ops acc)(ho:ops[acc.size]? =some o):GV ops (acc.push (B4 o acc)):=by
 have xL:∀j,j<acc.size→(acc.push (B4 o acc)).getD j 0=acc.getD j 0:=fun j hj=>by
  simp[Array.getElem?_push,Nat.ne_of_lt hj]
 intro j hj i hb
 simp  at hj
 by_cases bd:j<acc.size
 ·rw[xL j bd] at hb
  obtain⟨o',h1,e,h2,h3,h4⟩:=h j bd i hb
  grind
 ·have e:j=acc.size:=by omega
  subst e
  rw[show(acc.push (B4 o acc)).getD acc.size 0=B4 o acc by simp] at hb
  unfold B4 at hb
  rw[←Array.foldl_toList] at hb
  rcases yRy acc i _ _ hb with hb|⟨e,h2,h3,h4⟩
  all_goals grind
theorem vNc ops:GV ops (Region.before ops):=by
 have key:∀(l:List Oper) (acc:Array Nat),GV ops acc→(∀m (hm:m<l.length),ops[acc.size+m]? =some l[m])→
   GV ops (l.foldl (fun acc o=>acc.push (B4 o acc)) acc):=by
  intro l
  induction l with
  |nil=>simp
  |cons o l ih=>
   intro acc h ho
   refine ih _ (vXn h (ho 0 (by simp))) fun m hm=>?_
   have:=ho (m+1) (by simp;omega)
   grind
 have:=key ops.toList #[] (nofun) (by simp)
 unfold Region.before
 rw[←Array.foldl_toList]
 exact this
theorem yW5 {ops i j}(h:mv (Region.before ops) i j=true):∃o,ops[j]? =some o∧∃e∈o.after.toList,Region.binds .any e=true∧(e.on=i∨(e.on<j∧mv (Region.before ops) i e.on=true)):=by
 unfold mv at h
 by_cases hj:j<(Region.before ops).size
 ·exact vNc ops j hj i h
 simp_all
def GW (ops:Array Oper)(S:Nat→Bool):Prop:=∀j o,S j=true→ops[j]? =some o→∀e∈o.after.toList,Region.binds .any e=true→S e.on=true
theorem yTp {ops S}(hS:GW ops S){i}:∀n j,j=n→mv (Region.before ops) i j=true→S j=true→S i=true:=by
 intro n
 induction n using Nat.strongRecOn with
 |_ n ih=>
  intro j hj h hs
  obtain⟨o,ho,e,he,hb,h⟩:=yW5 h
  have hse:=hS j o hs ho e he hb
  grind
theorem vKb {ops S}(hS:GW ops S){i j}(h:mv (Region.before ops) i j=true)(hr:∀o,ops[j]? =some o→∀e∈o.after.toList,Region.binds .any e=true→S e.on=true):S i=true:=by
 obtain⟨o,ho,e,he,hb,h⟩:=yW5 h
 have hse:=hr o ho e he hb
 rcases h with h|⟨h,hi⟩
 ·simp_all
 ·exact yTp hS _ _ rfl hi hse
structure It where
 i:Nat
 o:Oper
 v:zX
 u:vC
 r:Option (List Nat)
 wt:Bool
def It.dn (pre:Nat)(it:It):Bw:=⟨it.i,pC pre it.o.dst,jY it.u,it.r⟩
def vY (st:St)(it:It):St:={t:=iJ st.t it.o.dst it.v,h:=qL st.h it.u}
section
variable (E:Env) (A:zW) (k pre na nt:Nat) (ops:Array Oper)
structure Lc (st:St) (it:It):Prop where
 w:B3 ops it.o st=some it.wt
 y:it.wt=true→(∀d,it.o.dst=some d→na≤d∧d<nt)∧yH (ko E A k pre it.o st.ev st.h) it.v it.u∧it.r=pD st.ev it.o
 n:it.wt=false→it.v=.skp∧it.u=[]∧∀d,it.o.dst=some d→na≤d∧d<nt
def RR (b:Array Nat)(x y:It):Prop:=mv b x.i y.i=true∨(rN ops x.i y.i=true∧(x.wt=true→y.wt=true→rM (x.dn pre) (y.dn pre)=false))
end
section
variable {E:Env} {A:zW} {k pre na nt:Nat} {R:Type} {ops:Array Oper} {b:Array Nat}
theorem RT (hE:fS E):∀rest done st K (out:R),Bx E A k pre na nt ops b rest done st K=some out→
  ∃dF:List It,dF.map (fun it=>(it.i,it.o))=rest∧K (dF.foldl vY st)=some out∧(∀bL it post,dF=bL++it::post→Lc E A k pre na nt ops (bL.foldl vY st) it)∧
   (∀d∈done,∀it∈dF,mv b d.i it.i=true∨(rN ops d.i it.i=true∧(it.wt=true→rM d (it.dn pre)=false)))∧dF.Pairwise (RR pre ops b)
 |[],done,st,K,out,h=>⟨[],rfl,h,by simp,by simp,.nil⟩
 |(i,o)::rest,done,st,K,out,h=>by
  unfold Bx at h
  generalize hc:(done.all fun d=>mv b d.i i||rN ops d.i i)=c at h
  cases c with
  |false=>cases h
  |true=>
   have pR:∀d∈done,mv b d.i i=true∨rN ops d.i i=true:=by grind
   rw[cond_true] at h
   obtain⟨bw,hb,h⟩:=yZ0 h
   cases bw with
   |true=>
    rw[if_pos rfl] at h
    obtain⟨hd,v,u,hy,h⟩:=yT4 hE h
    dsimp only at h
    generalize cN:(done.all fun d=>mv b d.i i|| !rM d ⟨i,pC pre o.dst,jY u,pD st.ev o⟩)=c2 at h
    cases c2 with
    |false=>simp_all
    |true=>
     rw[cond_true] at h
     have BQ:∀d∈done,mv b d.i i=true∨rM d ⟨i,pC pre o.dst,jY u,pD st.ev o⟩=false:=by grind
     obtain⟨dF,h1,h2,h3,h4,h5⟩:=RT hE rest _ _ K out h
     let it:It:=⟨i,o,v,u,pD st.ev o,true⟩
     refine⟨it::dF,by grind,h2,fun bL GX post e=>?_,fun d uk GX nu=>?_,?_⟩
     ·cases bL with
      |nil=>
       obtain⟨rfl,rfl⟩:=e
       exact⟨hb,by grind,by simp⟩
      |cons p bL=>
       simp only[List.cons_append,List.cons.injEq] at e
       obtain⟨rfl,e⟩:=e
       exact h3 bL GX post e
     ·rcases List.mem_cons.1 nu with rfl|nu
      ·rcases pR d uk with h|h
       ·grind
       ·rcases BQ d uk with h'|h'
        ·grind
        ·exact .inr ⟨h,fun _=>h'⟩
      simp_all
     ·refine List.pairwise_cons.2 ⟨fun y xQ=>?_,h5⟩
      rcases h4 (it.dn pre) (List.mem_cons_self ..) y xQ with h|⟨h,h'⟩
      ·exact .inl h
      ·exact .inr ⟨h,by grind⟩
   |false=>
    rw[if_neg (by simp)] at h
    have sk:tU na nt o.dst=true:=by
     grind
    rw[sk] at h
    rw[cond_true] at h
    obtain⟨dF,h1,h2,h3,h4,h5⟩:=RT hE rest _ _ K out h
    let it:It:=⟨i,o,.skp,[],some [],false⟩
    refine⟨it::dF,by grind,h2,fun bL GX post e=>?_,fun d uk GX nu=>?_,?_⟩
    ·cases bL with
     |nil=>
      obtain⟨rfl,rfl⟩:=e
      exact⟨hb,by simp,fun _=>⟨rfl,rfl,RQ hE sk⟩⟩
     |cons p bL=>
      simp  at e
      obtain⟨rfl,e⟩:=e
      exact h3 bL GX post e
    ·grind
    ·refine List.pairwise_cons.2 ⟨fun y xQ=>?_,h5⟩
     rcases h4 (it.dn pre) (List.mem_cons_self ..) y xQ with h|⟨h,h'⟩
     ·exact .inl h
     ·exact .inr ⟨h,by simp⟩
end
theorem yCf {t t' d v x}(h:t x=t' x):iJ t d v x=iJ t' d v x:=by
 cases d with
 |none=>exact h
 |some d=>
  show jF t d v x=jF t' d v x
  unfold jF
  simp_all
theorem Ld {t d v x}(h:d≠some x):iJ t d v x=t x:=by
 cases d with
 |none=>rfl
 |some d=>
  show jF t d v x=_
  unfold jF
  cases e:Nat.beq x d with
  |false=>rfl
  |true=>simp_all
theorem RU {t t' v x}:iJ t (some x) v x=iJ t' (some x) v x:=by
 show jF t x v x=jF t' x v x
 unfold jF
 simp
theorem RV {t d e v u}(h:∀x,d=some x→e≠some x):iJ (iJ t d v) e u=iJ (iJ t e u) d v:=by
 funext x
 by_cases hd:d=some x
 ·subst hd
  rw[Ld (h x rfl)]
  exact RU
 ·rw[Ld hd]
  exact yCf (Ld hd)
theorem xR {n}:∀{u h h'},h n=h' n→qL h u n=qL h' u n
 |[],_,_,e=>e
 | (id, o) :: u, h, h', e => xR (u := u) (by
   by_cases hn:n=id
   ·subst hn;rw[yM,yM]
   ·rw[yQ _ _ hn,yQ _ _ hn];exact e)
theorem yHh {n}:∀{u h h'},n∈jY u→qL h u n=qL h' u n
 |(id,o)::u,h,h',hm=>by
  by_cases hu:n∈jY u
  ·exact yHh (u:=u) hu
  ·have e:n=id:=by
    simp[jY] at hm hu
    simp_all
   subst e
   exact xR (u:=u) (by rw[yM,yM])
theorem vKg {u v h}(hd:∀a∈jY u,a∉jY v):qL (qL h u) v=qL (qL h v) u:=by
 funext n
 by_cases hu:n∈jY u
 ·rw[BW (hd n hu)]
  exact yHh hu
 ·rw[BW (u:=u) (h:=qL h v) hu]
  exact xR (BW hu)
theorem vRo {st x y}(hd:∀t,x.o.dst=some t→y.o.dst≠some t)(hu:∀a∈jY x.u,a∉jY y.u):vY (vY st x) y=vY (vY st y) x:=by
 unfold vY
 simp
 exact⟨RV hd,vKg hu⟩
theorem yGy {x}:∀{l:List It} {st},(∀y∈l,(∀t,x.o.dst=some t→y.o.dst≠some t)∧∀a∈jY x.u,a∉jY y.u)→vY (l.foldl vY st) x=l.foldl vY (vY st x)
 |[],_,_=>rfl
 |y::l,st,h=>by
  rw[List.foldl_cons,List.foldl_cons,vRo (by grind) (by grind)]
  exact yGy (by grind)
theorem Le t:∀(l:List It) st bE,st.t t=bE.t t→(l.foldl vY st).t t=((l.filter fun it=>it.o.dst==some t).foldl vY bE).t t
 |[],_,_,h=>h
 |y::l,st,bE,h=>by
  rw[List.foldl_cons,List.filter_cons]
  cases hy:y.o.dst==some t with
  |true=>
   exact Le t l _ _ (yCf h)
  |false=>
   exact Le t l _ _ (by
    show iJ st.t y.o.dst y.v t=_
    rw[Ld (by simp_all)];exact h)
theorem Lf n:∀(l:List It) st bE,st.h n=bE.h n→(l.foldl vY st).h n=((l.filter fun it=>(jY it.u).contains n).foldl vY bE).h n
 |[],_,_,h=>h
 |y::l,st,bE,h=>by
  rw[List.foldl_cons,List.filter_cons]
  cases hy:(jY y.u).contains n with
  |true=>
   exact Lf n l _ _ (xR h)
  |false=>
   exact Lf n l _ _ (by
    show qL st.h y.u n=_
    rw[BW (by simpa[jY] using hy)];exact h)
theorem yOc {S W bL post}{it:It}(nu:S it=false)(h1:∀y∈bL,W y=true→S y=true)(h2:∀y∈post,W y=true→S y=false):((bL++it::post).filter S).filter W=bL.filter W:=by
 have e1:(bL.filter S).filter W=bL.filter W:=by
  rw[List.filter_filter]
  refine List.filter_congr fun y hy=>?_
  simp_all
 simp_all
def B5 (d:Bw)(a:Nat):Prop:=match d.refs with
 |none=>True
 |some l=>a∈l∨mu d.nm a=true
theorem RW {x y}(h:rM x y=false):(∀a∈x.upd,¬B5 y a)∧(∀a∈y.upd,¬B5 x a)∧∀a∈x.upd,a∉y.upd:=by
 unfold rM at h
 have key:∀(d e:Bw),Kx d.upd e.refs=false→d.upd.any (mu e.nm)=false→∀a∈d.upd,¬B5 e a:=by
  intro d e hm ho a ha hl
  unfold Kx at hm
  unfold B5 at hl
  cases hr:e.refs with
  |none=>
   simp_all
  |some l=>
   simp_all
 refine⟨by grind,by grind,fun a ha hb=>?_⟩
 simp_all
section
variable {E:Env} {A:zW} {k pre na nt:Nat} {R:Type} {ops:Array Oper}
theorem RX {i j x y}(hi:ops[i]? =some x)(hj:ops[j]? =some y)(h:rN ops i j=true):
  (∀d,x.dst=some d→d∉y.looksAt ops)∧(∀d,x.dst=some d→y.dst≠some d)∧(∀d,y.dst=some d→d∉x.looksAt ops):=by
 unfold rN at h
 rw[hi,hj] at h
 exact Oper.apart_spec h
theorem vV8 (hE:fS E)(hS:iN E.sums){S}(hC:GW ops S){st bL post it}(gh:∀y∈bL++it::post,ops[y.i]? =some y.o)(hg:Lc E A k pre na nt ops (bL.foldl vY st) it)
  (hu:∀y∈bL++it::post,y.wt=false→y.u=[]) (hp:(bL++it::post).Pairwise (RR pre ops (Region.before ops))) (nu:S it.i=false)
  (hr:∀o,ops[it.i]? =some o→∀e∈o.after.toList,Region.binds .any e=true→S e.on=true):
  Lc E A k pre na nt ops (((bL++it::post).filter fun y=>S y.i).foldl vY st) it∧
   (∀y∈post,S y.i=true→(∀t,it.o.dst=some t→y.o.dst≠some t)∧∀a∈jY it.u,a∉jY y.u):=by
 have um:ops[it.i]? =some it.o:=gh it (by simp)
 obtain⟨K5,GO,hp3⟩:=List.pairwise_append.1 hp
 have before:∀y∈bL,S y.i=false→rN ops y.i it.i=true∧(y.wt=true→it.wt=true→rM (y.dn pre) (it.dn pre)=false):=fun y hy hs=>by
  rcases hp3 y hy it (by simp) with h|h
  ·rw[vKb hC h hr] at hs;cases hs
  ·exact h
 have behind:∀y∈post,S y.i=true→rN ops it.i y.i=true∧(it.wt=true→y.wt=true→rM (it.dn pre) (y.dn pre)=false):=fun y hy hs=>by
  rcases(List.pairwise_cons.1 GO).1 y hy with h|h
  ·rw[yTp hC _ _ rfl h hs] at nu;cases nu
  ·exact h
 have uo:∀t,t∈it.o.looksAt ops→(((bL++it::post).filter fun y=>S y.i).foldl vY st).t t=(bL.foldl vY st).t t:=fun t ht=>by
  rw[Le t _ st st rfl,Le t bL st st rfl,yOc nu (fun y hy hw=>?_) fun y hy hw=>?_]
  ·cases hs:S y.i with
   |true=>rfl
   |false=>
    have:=(RX (gh y (by simp[hy])) um (before y hy hs).1).1 t (by simpa using hw)
    exact absurd ht this
  ·cases hs:S y.i with
   |false=>rfl
   |true=>
    have:=(RX um (gh y (by simp[hy])) (behind y hy hs).1).2.2 t (by simpa using hw)
    simp_all
 have hEq:it.wt=true→∀n,B5 (it.dn pre) n→(((bL++it::post).filter fun y=>S y.i).foldl vY st).h n=(bL.foldl vY st).h n:=fun hw n hn=>by
  rw[Lf n _ st st rfl,Lf n bL st st rfl,yOc nu (fun y hy xQ=>?_) fun y hy xQ=>?_]
  ·cases hs:S y.i with
   |true=>rfl
   |false=>
    have hm:n∈jY y.u:=by simpa using xQ
    have RY:y.wt=true:=by
     cases h:y.wt with
     |true=>rfl
     |false=>rw[hu y (by simp[hy]) h] at hm;simp[jY] at hm
    exact absurd hn ((RW ((before y hy hs).2 RY hw)).1 n hm)
  ·cases hs:S y.i with
   |false=>rfl
   |true=>
    have hm:n∈jY y.u:=by simpa using xQ
    have RY:y.wt=true:=by
     cases h:y.wt with
     |true=>rfl
     |false=>rw[hu y (by simp[hy]) h] at hm;simp[jY] at hm
    exact absurd hn ((RW ((behind y hy hs).2 hw RY)).2.1 n hm)
 generalize hL:((bL++it::post).filter fun y=>S y.i).foldl vY st=Lg at uo hEq⊢
 refine⟨⟨?_,fun hw=>?_,hg.n⟩,fun y hy hs=>?_⟩
 ·rw[←hg.w]
  unfold B3
  cases xS:it.o.guard with
  |none=>rfl
  |some p=>
   obtain⟨j,want⟩:=p
   dsimp only
   cases eI:Kz ops j with
   |none=>rfl
   |some s=>
    have:s∈it.o.looksAt ops:=by
     have eI:(ops[j]?).bind (·.dst)=some s:=eI
     simp only[Oper.looksAt,xS,eI]
     simp
    simp_all
 ·obtain⟨hd,hy,hrf⟩:=hg.y hw
  have aR:∀x∈it.o.op.operands,Lg.ev x=(bL.foldl vY st).ev x:=fun x hx=>by
   cases x with
   |tmp t=>exact uo t (List.mem_append_left _ (List.mem_filterMap.2 ⟨.tmp t,by simpa using hx,rfl⟩))
   |_=>rfl
  have hrefs:pD Lg.ev it.o=pD (bL.foldl vY st).ev it.o:=by
   unfold pD
   have:it.o.op.operands.toList.map Lg.ev=it.o.op.operands.toList.map (bL.foldl vY st).ev:=List.map_congr_left (by grind)
   simp only[this]
  refine⟨hd,?_,by rw[hrf,hrefs]⟩
  rw[vMo aR]
  have hh : ko E A k pre it.o (bL.foldl vY st).ev Lg.h = ko E A k pre it.o (bL.foldl vY st).ev (bL.foldl vY st).h := vVu hS (by
   rw[←hrf]
   have:=hEq hw
   unfold B5 at this
   have hdn:(it.dn pre).refs=it.r:=rfl
   rw[hdn] at this
   cases h:it.r with
   |none=>
    grind
   |some l=>
    rw[h] at this
    exact this)
  rw[hh]
  exact hy
 ·obtain⟨h1,h2⟩:=behind y hy hs
  refine⟨(RX um (gh y (by simp[hy])) h1).2.1,fun a ha hb=>?_⟩
  have hwi:it.wt=true:=by
   cases h:it.wt with
   |true=>rfl
   |false=>rw[hu it (by simp) h] at ha;simp[jY] at ha
  have hwy:y.wt=true:=by
   cases h:y.wt with
   |true=>rfl
   |false=>rw[hu y (by simp[hy]) h] at hb;simp[jY] at hb
  exact(RW (h2 hwi hwy)).2.2 a ha hb
end
theorem vHg {ops}(h:Gk ops=true){j o}(ho:ops[j]? =some o):∀e∈o.after.toList,Region.binds .any e=true→e.on<j:=by
 intro e he hb
 have hm:(o,j)∈ops.toList.zipIdx:=by
  grind
 have:=List.all_eq_true.1 (List.all_eq_true.1 h _ hm) e he
 simp_all
theorem Lh {L:Array Bool}{i}(hi:i<L.size) j:(L.setIfInBounds i true).getD j false=(L.getD j false||i==j):=by
 by_cases h:i=j
 all_goals simp_all
section
variable {E:Env} {A:zW} {nl:Bool} {k pre na nt:Nat} {a0:Nat→Value} {R:Type} {ops:Array Oper} {M0:zL} {w0:World} {Q:Exit→Act→World→Prop}
theorem vR0 (hE:fS E)(hS:iN E.sums)(he:Gk ops=true){dF st}(hi:dF.map (·.i)=List.range ops.size)(gh:∀y∈dF,ops[y.i]? =some y.o)(hg:∀bL it post,dF=bL++it::post→Lc E A k pre na nt ops (bL.foldl vY st) it)
  (hp:dF.Pairwise (RR pre ops (Region.before ops))) (hQ:∀a w,vQ nl na nt a0 M0 w0 (dF.foldl vY st) a w→Q .normal a w):
  ∀fuel L a w,L.size=ops.size→(∃U:List Nat,U.length≤fuel∧∀j,j<ops.size→L.getD j false=false→j∈U)→GW ops (fun j=>L.getD j false)→
   vQ nl na nt a0 M0 w0 ((dF.filter fun y=>L.getD y.i false).foldl vY st) a w→wpAny E.P .any ops Q fuel L a w:=by
 have hu:∀y∈dF,y.wt=false→y.u=[]:=fun y hy hw=>by
  obtain⟨bL,post,e⟩:=List.append_of_mem hy
  exact((hg bL y post e).n hw).2.1
 have RZ:∀y∈dF,y.i<ops.size:=fun y hy=>(Array.getElem?_eq_some_iff.1 (gh y hy)).1
 have dA:(dF.map (·.i)).Nodup:=by rw[hi];exact List.nodup_range
 have full:∀(L:Array Bool) (a:Act) (w:World),(∀j,j<ops.size→L.getD j false=true)→vQ nl na nt a0 M0 w0 ((dF.filter fun y=>L.getD y.i false).foldl vY st) a w→Q .normal a w:=fun L a w hl r=>by
  rw[List.filter_eq_self.2 fun y hy=>hl y.i (RZ y hy)] at r
  exact hQ a w r
 have rdy:∀(L:Array Bool),L.size=ops.size→Region.ready .any ops L=[]→∀j,j<ops.size→L.getD j false=true:=fun L hL hr j=>by
  induction j using Nat.strongRecOn with
  |_ j ih=>
   intro hj
   cases hb:L.getD j false with
   |true=>rfl
   |false=>
    have ho:ops[j]? =some ops[j]:=Array.getElem?_eq_getElem hj
    have:j∈Region.ready .any ops L:=mem_ready.2 ⟨by
     have R0:j<L.size:=by omega
     simpa[Array.getD,R0] using hb,ops[j],ho,fun e he' bz=>by
      have bd:=vHg he ho e (by simpa using he') bz
      exact ih e.on bd (by omega)⟩
    rw[hr] at this;cases this
 intro fuel
 induction fuel with
 |zero=>
  intro L a w hL hU hC r
  obtain⟨U,hUl,hU⟩:=hU
  have hU0:U=[]:=List.eq_nil_of_length_eq_zero (by omega)
  have bg:∀j,j<ops.size→L.getD j false=true:=by grind
  refine⟨?_,full L a w bg r⟩
  cases hr:Region.ready .any ops L with
  |nil=>rfl
  |cons j l=>
   have:j∈Region.ready .any ops L:=by rw[hr];exact List.mem_cons_self ..
   obtain⟨h0,o,ho,_⟩:=mem_ready.1 this
   have hj:=(Array.getElem?_eq_some_iff.1 ho).1
   have:=bg j hj
   have R0:j<L.size:=by omega
   simp[Array.getD,R0] at this h0
   rw[this] at h0;cases h0
 |succ fuel ih=>
  intro L a w hL hU hC r
  refine⟨fun hr=>full L a w (rdy L hL hr) r,fun i hir=>?_⟩
  obtain⟨h0,o,ho,xT⟩:=mem_ready.1 hir
  have GY:=(Array.getElem?_eq_some_iff.1 ho).1
  have GZ:i<L.size:=by omega
  have G0:L.getD i false=false:=by simpa[Array.getD,GZ] using h0
  obtain⟨it,nu,sm⟩:∃it∈dF,it.i=i:=by
   have:i∈dF.map (·.i):=by rw[hi];simpa using GY
   obtain⟨it,h1,h2⟩:=List.mem_map.1 this
   exact⟨it,h1,h2⟩
  obtain⟨bL,post,e⟩:=List.append_of_mem nu
  have um:ops[it.i]? =some it.o:=gh it nu
  have gY:o=it.o:=by rw[sm,ho] at um;exact Option.some.inj um
  subst gY
  have uq:=vV8 hE hS hC (by rw[←e];exact gh) (hg bL it post e) (by rw[←e];exact hu) (by rw[←e];exact hp) (by rw[sm];exact G0) (by grind)
  rw[←e] at uq
  obtain⟨xS,G1⟩:=uq
  have hw:=vAk xS.w r
  have yF:(dF.filter fun y=>(L.setIfInBounds i true).getD y.i false).foldl vY st=vY ((dF.filter fun y=>L.getD y.i false).foldl vY st) it:=by
   have other:∀y∈bL++post,(L.setIfInBounds i true).getD y.i false=L.getD y.i false:=fun y hy=>by
    rw[Lh GZ]
    grind
   have e1:dF.filter (fun y=>L.getD y.i false)=bL.filter (fun y=>L.getD y.i false)++post.filter (fun y=>L.getD y.i false):=by
    conv=>lhs;rw[e]
    rw[List.filter_append,List.filter_cons,if_neg (by rw[sm,G0];simp)]
   have e2:dF.filter (fun y=>(L.setIfInBounds i true).getD y.i false)=bL.filter (fun y=>L.getD y.i false)++it::post.filter (fun y=>L.getD y.i false):=by
    conv=>lhs;rw[e]
    rw[List.filter_append,List.filter_cons,if_pos (by rw[sm,Lh GZ];simp),List.filter_congr fun y hy=>other y (List.mem_append_left _ hy),List.filter_congr fun y hy=>other y (List.mem_append_right _ hy)]
   rw[e1,e2,List.foldl_append,List.foldl_append,List.foldl_cons]
   exact (yGy fun y hy=>by
    obtain⟨R1,R2⟩:=List.mem_filter.1 hy
    exact G1 y R1 R2).symm
  have aD:GW ops fun j=>(L.setIfInBounds i true).getD j false:=fun j o' hj kK ed hed hb=>by
   dsimp only at hj⊢
   rw[Lh GZ] at hj
   refine getD_set_true ?_
   rw[Bool.or_eq_true] at hj
   rcases hj with hj|hj
   ·exact hC j o' hj kK ed hed hb
   ·have:i=j:=by simpa using hj
    subst this
    rw[ho] at kK;cases kK
    exact xT ed (by simpa using hed) hb
  have hU':∃U:List Nat,U.length≤fuel∧∀j,j<ops.size→(L.setIfInBounds i true).getD j false=false→j∈U:=by
   obtain⟨U,hl,hU⟩:=hU
   refine⟨U.erase i,?_,fun j hj hb=>?_⟩
   ·rw[List.length_erase_of_mem (hU i GY G0)];omega
   ·rw[Lh GZ,Bool.or_eq_false_iff] at hb
    exact(List.mem_erase_of_ne (by have:=hb.2;simp at this;exact fun h=>this h.symm)).2 (hU j hj hb.1)
  unfold wpOp
  rw[ho]
  dsimp only
  cases xU:it.wt with
  |true=>
   rw[xU] at hw
   rw[if_pos hw]
   obtain⟨hd,hy,_⟩:=xS.y xU
   refine .inl (vQ.op hE r hd hy fun a' w' r'=>?_)
   exact ih _ _ _ (by simpa using hL) hU' aD (by rw[yF];exact r')
  |false=>
   rw[xU] at hw
   rw[if_neg (by simp[hw])]
   obtain⟨hv,pI,sk⟩:=xS.n xU
   refine ih _ _ _ (by simpa using hL) hU' aD ?_
   rw[yF]
   have:=r.skip (dst:=it.o.dst) fun d hd=>(sk d hd).1
   unfold vY
   rw[hv,pI]
   exact this
theorem vH0 (hE:fS E)(hS:iN E.sums){id st K}{out:R}{a w}(hm:E.P.follows .mixedOrders=true)(he:Gk ops=true)
  (h:Bx E A k pre na nt ops (Region.before ops) (ops.toList.zipIdx.map fun p=>(p.2,p.1)) [] st K=some out) (r:vQ nl na nt a0 M0 w0 st a w)
  (hK:∀bE a' w',vQ nl na nt a0 M0 w0 bE a' w'→K bE=some out→Q .normal a' w'):(Code.region id ops true).wp E.P Q a w:=by
 obtain⟨dF,h1,h2,h3,_,h5⟩:=RT hE _ _ _ _ _ h
 have hi:dF.map (·.i)=List.range ops.size:=by
  have:=congrArg (List.map Prod.fst) h1
  rw[List.map_map,List.map_map] at this
  refine Eq.trans this ?_
  have e:(Prod.fst∘fun p:Oper×Nat=>(p.2,p.1))=Prod.snd:=rfl
  rw[e,List.zipIdx_map_snd,←List.range_eq_range']
  simp
 have gh:∀y∈dF,ops[y.i]? =some y.o:=fun y hy=>by
  have:(y.i,y.o)∈ops.toList.zipIdx.map fun p=>(p.2,p.1):=by grind
  grind
 refine wp_region_any hm (vR0 hE hS he (nt:=nt) (na:=na) (a0:=a0) (M0:=M0) (w0:=w0) hi gh h3 h5 (fun a w r=>hK _ a w r h2) _ _ _ _ (by simp) ⟨List.range ops.size,by simp,by grind⟩ (fun j o hj=>?_) ?_)
 ·by_cases h:j<ops.size<;>simp[h] at hj
 ·rw[List.filter_eq_nil_iff.2 fun y hy=>by
   by_cases h:y.i<ops.size<;>simp[h]]
  exact⟨r.ex,r.defers,r.size,r.os,r.tape,r.output,r.keep⟩
end
def zL.nilObj (M:zL)(nm:Nat)(o:Obj)(sz:Nat):zL:={M with κ:=κset M.κ nm ⟨none,0,sz,0,[]⟩,h:=yF M.h nm o}
def jq (t:Ty)(rows:Bool):Obj:=bif rows then .mat 0 [] else .arr true t []
def kS (t:Ty)(rows:Bool):Nat:=bif rows then 1 else t.size
theorem zL.nilObj_ok {M}(ok:Ok M){nm}(aQ:M.h nm=none) t rows:
  Ok (M.nilObj nm (jq t rows) (kS t rows))∧yL M (M.nilObj nm (jq t rows) (kS t rows))∧(∀b,qP (M.nilObj nm (jq t rows) (kS t rows)) b→qP M b):=by
 have hO:∀M':zL,yV M' (jq t rows) ⟨none,0,kS t rows,0,[]⟩:=fun M'=>by
  cases rows with
  |false=>exact⟨rfl,rfl,by simp,rfl⟩
  |true=>exact⟨rfl,rfl,rfl,rfl,by simp[qC.fp],rfl⟩
 have x:yL M (M.nilObj nm (jq t rows) (kS t rows)):=⟨fun id C h=>by
  have bm:id≠nm:=fun e=>by rw[e,ok.non nm aQ] at h;cases h
  exact⟨C,by show κset M.κ nm _ id=_;rw[κset_ne _ _ bm];exact h,C.le_refl⟩,fun _ h=>h,fun _ h=>h,fun _ _=>rfl,fun _ _=>rfl,fun _ _=>rfl⟩
 refine⟨Ok.build ok x (fun id=>id=nm) (fun id h=>yQ _ _ h) (fun id h=>κset_ne _ _ h) (fun _ _ _ _ _ _ _ _ _=>rfl) (fun id o C h1 h2 h3 h4 b hb=>(ok.own b ⟨id,o,C,h2,h3,h4,hb⟩).1) (Nat.le_refl _)
  (fun id o e h=>?_) (fun id e h=>?_) (fun id o C b e h1 h2 h3 h4=>?_) ok.GF ok.Flt,x,fun b hb=>?_⟩
 ·subst e
  have e1:(M.nilObj id (jq t rows) (kS t rows)).h id=some (jq t rows):=yM _ _ _
  rw[e1] at h
  cases h
  exact⟨_,κset_same _ _ _,hO _⟩
 ·have e1:(M.nilObj id (jq t rows) (kS t rows)).h id=some (jq t rows):=yM _ _ _
  simp_all
 ·subst e
  have e1:(M.nilObj id (jq t rows) (kS t rows)).κ id=some _:=κset_same _ _ _
  rw[e1] at h3
  cases h3
  simp[qC.fp] at h4
 ·obtain⟨id,o,C,h1,h2,h3,h4⟩:=hb
  by_cases e:id=nm
  ·subst e
   have e1:(M.nilObj id (jq t rows) (kS t rows)).κ id=some _:=κset_same _ _ _
   rw[e1] at h3
   cases h3
   simp[qC.fp] at h4
  ·exact⟨id,o,C,by rw[←h1];exact(yQ _ _ e).symm,h2,by rw[←h3];exact(κset_ne _ _ e).symm,h4⟩
theorem iO.same_mem {M M'}(hF:M'.F=M.F)(hG:M'.G=M.G)(hH:M'.H=M.H)(ho:∀b,qP M' b→qP M b):iO M M':=
 ⟨by grind,by grind,by grind,by grind,by grind,by simp_all,by grind,by grind,
  by grind,by grind⟩
theorem iO.refl M:iO M M:=.same_mem rfl rfl rfl (by simp)
section
variable {na nt:Nat} {a0:Nat→Value} {M0:zL} {w0 w:World} {a:Act}
theorem zM.set_left {α β R l}{m:List β}(h:zM R l m){j}{c:α}(hc:∀(h1:j<l.length) h2,R c m[j]):zM R (l.set j c) m:=by
 refine zM.of_get (by rw[List.length_set];exact h.length) fun i hi bP=>?_
 rw[List.length_set] at hi
 by_cases e:j=i
 ·simp_all
 ·rw[List.getElem_set_ne e]
  exact h.get i hi bP
theorem R3 {st}{s j}(r:vQ false na nt a0 M0 w0 st a w):vQ false na nt a0 M0 w0 (Qr st s j) a w:=by
 obtain⟨M,h1,h2,h3,h4,h5⟩:=r.ex
 unfold Qr
 split
 ·split
  ·rename_i c hs
   split
   ·rename_i c' u hf
    have hv:=h5 s
    rw[hs] at hv
    rw[←h1] at hf
    obtain⟨L,k1,k2,k3,k4,k5,_⟩:=Gr h3 (wT.refl _) (show zY M c _ from hv) hf
    refine⟨⟨L,by rw[k2,h1],k1.trans h2,k3,h4.trans k4.grow,fun t=>?_⟩,r.defers,r.size,r.os,r.tape,r.output,r.keep⟩
    show zV _ (jF st.t s _ t) _
    unfold jF
    cases e:Nat.beq t s with
    |false=>exact(h5 t).ext k4.ext
    |true=>
     have e:t=s:=by simpa using e
     subst e
     exact k5
   ·exact r
  ·exact r
 ·rename_i j
  split
  ·rename_i id hs
   split
   ·rename_i cells an
    split
    ·rename_i c yN
     split
     ·rename_i c' u hf
      rw[←h1] at hf an
      obtain⟨C0,pM,hO0⟩:=h3.obj id _ an
      obtain⟨B0,ur,e0,b10,b20,b30,b40,b50⟩:=hO0
      have hj:j<cells.length:=(List.getElem?_eq_some_iff.1 yN).1
      have R4:j<ur.toList.length:=by rw[←b40.length];exact hj
      have kP:=b40.get j hj R4
      have ec:cells[j]=c:=by grind
      rw[ec] at kP
      obtain⟨L,k1,k2,k3,k4,k5,k6,_⟩:=Gr h3 (wT.refl _) kP hf
      have xV:L.h id=some (.box true cells):=by
       rcases k6 id with h|⟨own,t,xs,h,_⟩|⟨ver,xs,h,_⟩
       all_goals simp_all
      obtain⟨C,hC,hO⟩:=k3.obj id _ xV
      obtain⟨B,vals,e,b1,b2,b3,b4,b5⟩:=hO
      obtain⟨C1,gX,le⟩:=k4.ext.κ id C0 pM
      rw[hC] at gX;cases gX
      have eB:B=B0:=by rw[le.blk,b10] at b1;simp_all
      subst eB
      rw[k1,b30] at b3
      cases b3
      have hx:=zL.write_ext (H':=L.H) k3 xV rfl hC C.le_refl (by simp) (by simp) (.box true (cells.set j c'))
      have hw := zL.write_ok (H' := L.H) (o' := .box true (cells.set j c')) k3 xV rfl hC C.le_refl (by simp) rfl (by simp) (by simp) (by
       refine⟨B,ur,e0,b1,b2,by show L.H[B]? =_;simp_all,?_,by simp⟩
       exact(b4.mono fun _ _ h=>h.ext hx).set_left fun _ _=>k5.ext hx)
      refine⟨⟨L.write id (.box true (cells.set j c')) C L.H,?_,k1.trans h2,hw.1,(h4.trans k4.grow).trans hw.2.grow,fun t=>((h5 t).ext k4.ext).ext hx⟩,r.defers,r.size,r.os,r.tape,r.output,r.keep⟩
      show yF L.h id _=yF (qL st.h u) id _
      rw[k2,h1]
     ·exact r
    ·exact r
   ·exact r
  ·rename_i cells hs
   split
   ·rename_i c yN
    split
    ·rename_i c' u hf
     have hv:=h5 s
     rw[hs] at hv
     obtain⟨vs,dz,bg⟩:=hv
     rw[←h1] at hf
     have hj:j<cells.length:=by grind
     have R4:j<vs.toList.length:=by rw[←bg.length];exact hj
     have kP:=bg.get j hj R4
     have ec:cells[j]=c:=by grind
     rw[ec] at kP
     obtain⟨L,k1,k2,k3,k4,k5,k6,_⟩:=Gr h3 (wT.refl _) kP hf
     refine⟨⟨L,by rw[k2,h1],k1.trans h2,k3,h4.trans k4.grow,fun t=>?_⟩,r.defers,r.size,r.os,r.tape,r.output,r.keep⟩
     show zV _ (jF st.t s _ t) _
     unfold jF
     cases e:Nat.beq t s with
     |false=>exact(h5 t).ext k4.ext
     |true=>
      have e:t=s:=by simpa using e
      subst e
      exact⟨vs,dz,(bg.mono fun _ _ h=>h.ext k4.ext).set_left (by grind)⟩
    ·exact r
   ·exact r
  ·exact r
theorem vSw {st nm g}(r:vQ false na nt a0 M0 w0 st a w)(aQ:st.h nm=none):vQ false na nt a0 M0 w0 (Qs st nm g) a w:=by
 obtain⟨M,h1,h2,h3,h4,h5⟩:=r.ex
 have hM:M.h nm=none:=by simp_all
 obtain⟨k1,k2,k3⟩:=M.nilObj_ok h3 hM g.2.2.1 g.2.2.2
 have cI:zY (M.nilObj nm (jq g.2.2.1 g.2.2.2) (kS g.2.2.1 g.2.2.2)) (.osl nm none) (.slice none 0 0):=⟨_,κset_same _ _ _,none,0,rfl,rfl,rfl,rfl⟩
 have gr:sj false M0 (M.nilObj nm (jq g.2.2.1 g.2.2.2) (kS g.2.2.1 g.2.2.2)):=h4.trans (.same_mem rfl rfl rfl k3)
 unfold Qs
 cases abC:g.2.2.2&&yHd g.2.2.1 with
 |true=>exact R3 r
 |false=>
 split
 ·split
  ·rename_i hs
   refine⟨⟨M.nilObj nm (jq g.2.2.1 g.2.2.2) (kS g.2.2.1 g.2.2.2),?_,h2,k1,gr,fun t=>?_⟩,r.defers,r.size,r.os,r.tape,r.output,r.keep⟩
   ·show yF M.h nm _=yF st.h nm _
    rw[h1];rfl
   ·show zV _ (jF st.t g.1 _ t) _
    unfold jF
    cases e:Nat.beq t g.1 with
    |false=>exact(h5 t).ext k2
    |true=>
     have e:t=g.1:=by simpa using e
     subst e
     have hv:=h5 g.1
     rw[hs] at hv
     rw[hv];exact cI
  ·exact r
 ·rename_i j hj
  split
  ·rename_i id hs
   split
   ·rename_i cells an
    split
    ·have bm:id≠nm:=by grind
     let M1:=M.nilObj nm (jq g.2.2.1 g.2.2.2) (kS g.2.2.1 g.2.2.2)
     have nZ:M1.h id=some (.box true cells):=by
      show yF M.h nm _ id=_
      rw[yQ _ _ bm,h1];exact an
     obtain⟨C,hC,hO⟩:=k1.obj id _ nZ
     obtain⟨B,vals,e,b1,b2,b3,b4,b5⟩:=hO
     have hx:=zL.write_ext (H':=M1.H) k1 nZ rfl hC C.le_refl (by grind) (by grind) (.box true (cells.set j (.osl nm none)))
     have hw := zL.write_ok (H' := M1.H) (o' := .box true (cells.set j (.osl nm none))) k1 nZ rfl hC C.le_refl (by simp) rfl (by grind) (by grind) (by
      refine⟨B,vals,e,b1,b2,b3,?_,by simp⟩
      have hl:=b4.length
      refine zM.of_get (by simp_all) fun i hi bP=>?_
      have hb:=b4.get i (by omega) bP
      by_cases eij:j=i
      ·subst eij
       rw[List.getElem_set_self]
       have ec:cells[j]=.nsl:=by
        grind
       rw[ec] at hb
       rw[hb]
       exact cI.ext hx
      ·rw[List.getElem_set_ne eij]
       exact hb.ext hx)
     refine⟨⟨M1.write id (.box true (cells.set j (.osl nm none))) C M1.H,?_,h2,hw.1,gr.trans hw.2.grow,fun t=>((h5 t).ext k2).ext hx⟩,r.defers,r.size,r.os,r.tape,r.output,r.keep⟩
     show yF (yF M.h nm _) id _=yF (yF st.h nm _) id _
     rw[h1];rfl
    ·exact r
   ·exact r
  ·exact r
theorem yTl:∀{l st bE nm},vQ false na nt a0 M0 w0 st a w→KC st nm l=some bE→vQ false na nt a0 M0 w0 bE a w
 |[],st,bE,nm,r,h=>by cases h;exact r
 |g::l,st,bE,nm,r,h=>by
  unfold KC at h
  split at h
  ·rename_i aQ
   exact yTl (vSw r aQ) h
  ·cases h
theorem yUj {id}:∀{l n i},eP id l n=some i→n≤i∧l[i-n]? =some id
 |x::l,n,i,h=>by
  unfold eP at h
  cases e:Nat.beq x id with
  |true=>
   simp_all
  |false=>
   rw[e] at h
   obtain⟨h1,h2⟩:=yUj (l:=l) h
   grind
theorem R5 {h}:∀n {todo seen},seen.Nodup→(By h n todo seen).Nodup
 |0,_,_,hs
 |n+1,[],_,hs=>hs
 |n+1,id::todo,seen,hs=>by
  unfold By
  cases e:seen.any (Nat.beq id) with
  |true=>exact R5 n hs
  |false=>
   refine R5 n (List.nodup_append.2 ⟨hs,by simp,fun x hx y hy exy=>?_⟩)
   have:y=id:=by simp_all
   have:=List.any_eq_false.1 e x hx
   simp_all
def oq (base : Nat) (κ : Nat → Option qC) (ids : List Nat) : Nat → Option qC := fun n => if base ≤ n then (match ids[n-base]? with
 |some id=>(κ id).map fun C=>{C with ver:=0}
 |none=>none) else none
def zL.ren (M:zL)(base:Nat)(ids:List Nat):zL:={M with κ:=oq base M.κ ids,h:=xu base M.h ids}
theorem vJt {base h ids n o}(e:xu base h ids n=some o):∃id o',base≤n∧ids[n-base]? =some id∧h id=some o'∧o=tW h (fun i=>(eP i ids 0).map (base+·)) o':=by
 unfold xu at e
 cases hb:Nat.ble base n with
 |false=>simp_all
 |true=>
  rw[hb] at e
  split at e
  ·obtain⟨o',h1,h2⟩:=Option.map_eq_some_iff.1 e
   simp_all
  ·cases e
theorem vZh {base κ ids id i C}(hi:eP id ids 0=some i)(hC:κ id=some C):oq base κ ids (base+i)=some {C with ver:=0}:=by
 obtain⟨_,h⟩:=yUj hi
 unfold oq
 simp_all
theorem R6 {M}(ok:Ok M){base ids c v}(h:zY M c v):zY (M.ren base ids) (tV M.h (fun i=>(eP i ids 0).map (base+·)) c) v:=by
 have h1:=h.one
 have look:∀id C,M.κ id=some C→∀i,(eP id ids 0).map (base+·)=some i→(M.ren base ids).κ i=some {C with ver:=0}:=fun id C hC i hi=>by
  obtain⟨j,hj,rfl⟩:=Option.map_eq_some_iff.1 hi
  exact vZh hj hC
 unfold tV
 cases c with
 |osl id r=>
  dsimp only
  obtain⟨C,hC,h⟩:=h
  cases e:(eP id ids 0).map (base+·) with
  |none=>exact h1
  |some i=>cases r with
   |none=>exact⟨_,look id C hC i e,h⟩
   |some p=>exact⟨_,look id C hC i e,h⟩
 |bsl id x y=>
  dsimp only
  obtain⟨C,B,hC,h⟩:=h
  cases e:(eP id ids 0).map (base+·) with
  |none=>exact h1
  |some i=>exact⟨_,B,look id C hC i e,h⟩
 |ptr id x=>
  dsimp only
  obtain⟨C,B,hC,h⟩:=h
  cases e:(eP id ids 0).map (base+·) with
  |none=>exact h1
  |some i=>exact⟨_,B,look id C hC i e,h⟩
 |eptr id x y=>
  dsimp only
  obtain⟨C,B,hC,h⟩:=h
  cases e:(eP id ids 0).map (base+·) with
  |none=>exact h1
  |some i=>exact⟨_,B,look id C hC i e,h⟩
 |mrow id x ver=>
  dsimp only
  obtain⟨C,hC,ho,hle,h⟩:=h
  cases e:(eP id ids 0).map (base+·) with
  |none=>exact h1
  |some i=>
   split
   ·rename_i i' v' xs ei an
    cases ei
    cases fl:Nat.beq v' ver with
    |false=>exact h1
    |true=>
     have gV:v'=ver:=by simpa using fl
     obtain⟨C',aD,hO⟩:=ok.obj id _ an
     rw[hC] at aD;cases aD
     exact⟨_,look id C hC i e,h1,Nat.le_refl _,fun _=>h (by rw[hO.1,gV])⟩
   ·exact h1
 |mptr id x=>
  dsimp only
  obtain⟨C,B,hC,h⟩:=h
  cases e:(eP id ids 0).map (base+·) with
  |none=>exact h1
  |some i=>exact⟨_,B,look id C hC i e,h⟩
 |meptr id x y ver=>
  dsimp only
  obtain⟨C,hC,ho,hle,h⟩:=h
  cases e:(eP id ids 0).map (base+·) with
  |none=>exact h1
  |some i=>
   split
   ·rename_i i' v' xs ei an
    cases ei
    cases fl:Nat.beq v' ver with
    |false=>exact h1
    |true=>
     have gV:v'=ver:=by simp_all
     obtain⟨C',aD,hO⟩:=ok.obj id _ an
     rw[hC] at aD;cases aD
     exact⟨_,look id C hC i e,h1,by simp,fun _=>h (by rw[hO.1,gV])⟩
   ·exact h1
 |map id=>
  dsimp only
  obtain⟨C,B,hC,h⟩:=h
  cases e:(eP id ids 0).map (base+·) with
  |none=>exact h1
  |some i=>exact⟨_,B,look id C hC i e,h⟩
 |fn f cap=>
  dsimp only
  obtain⟨cv,rfl,h⟩:=h
  split
  ·rename_i c hc
   refine⟨cv,rfl,?_⟩
   have:=GR _ _ _ hc
   generalize cv.toList=l at h
   clear hc h1
   induction cap generalizing c l with
   |nil=>cases c with
    |nil=>cases l with
     |nil=>trivial
     |cons _ _=>exact h.elim
    |cons _ _=>exact this.elim
   |cons x cap ih=>cases c with
    |nil=>exact this.elim
    |cons y c=>cases l with
     |nil=>exact h.elim
     |cons u l=>
      obtain⟨⟨C,B,hC,hh⟩,h⟩:=h
      exact⟨⟨_,B,look x C hC y this.1,hh⟩,ih c this.2 l h⟩
  rfl
 |fsl sh t xs=>exact h
 |fptr sh t x off=>exact h
 |_=>exact h
theorem G2 {M}(ok:Ok M){base ids}:∀{cs vs},zM (zY M) cs vs→zM (zY (M.ren base ids)) (cs.map (tV M.h fun i=>(eP i ids 0).map (base+·))) vs
 |[],[],_=>trivial
 |_::_,_::_,h=>⟨R6 ok h.1,G2 ok h.2⟩
theorem vG3 {M}(ok:Ok M){base ids x v}(h:zV M x v):zV (M.ren base ids) (yE9 M.h (fun i=>(eP i ids 0).map (base+·)) x) v:=by
 cases x with
 |undef=>trivial
 |skp=>exact h
 |c x=>exact R6 (c:=x) ok h
 |agg cs=>
  obtain⟨vs,h1,h2⟩:=h
  exact⟨vs,h1,G2 ok h2⟩
 |tup xs=>
  obtain⟨vs,h1,h2⟩:=h
  refine⟨vs,h1,zM.map_left (h2.mono fun p u hp=>?_)⟩
  obtain⟨b,cs⟩:=p
  cases b with
  |true=>
   obtain⟨us,q1,q2⟩:=hp
   exact⟨us,q1,G2 ok q2⟩
  |false=>
   cases cs with
   |nil=>exact hp
   |cons c cs=>cases cs with
    |nil=>exact R6 (c:=c) ok hp
    |cons _ _=>exact hp
theorem yG5 {M}(ok:Ok M){base ids o C}(h:yV M o C):yV (M.ren base ids) (tW M.h (fun i=>(eP i ids 0).map (base+·)) o) {C with ver:=0}:=by
 cases o with
 |box own cells=>
  obtain⟨B,vals,e,h1,h2,h3,h4,h5⟩:=h
  exact⟨B,vals,e,h1,h2,h3,G2 ok h4,h5⟩
 |robox cells=>
  obtain⟨B,vals,e,h1,h2,h3,h4,h5⟩:=h
  exact⟨B,vals,e,h1,h2,h3,G2 ok h4,h5⟩
 |arr own t xs=>exact h
 |mat ver xs=>
  obtain⟨h1,h2⟩:=h
  exact⟨rfl,h2⟩
 |pmat ver xs n=>
  obtain⟨h1,h2⟩:=h
  exact⟨rfl,h2⟩
 |imap cX=>exact h
 |gone=>trivial
theorem R7 {h ρ} o:(tW h ρ o).owned=o.owned:=by cases o<;>rfl
theorem zL.ren_ok {M}(ok:Ok M){base ids}(dA:ids.Nodup):Ok (M.ren base ids)∧∀b,qP (M.ren base ids) b→qP M b:=by
 have at':∀n o,(M.ren base ids).h n=some o→∃id o' C,base≤n∧ids[n-base]? =some id∧M.h id=some o'∧M.κ id=some C∧o=tW M.h (fun i=>(eP i ids 0).map (base+·)) o'∧yV M o' C∧(M.ren base ids).κ n=some {C with ver:=0}:=fun n o h=>by
  obtain⟨id,o',h1,h2,h3,h4⟩:=vJt h
  obtain⟨C,hC,hO⟩:=ok.obj id _ h3
  refine⟨id,o',C,h1,h2,h3,hC,h4,hO,?_⟩
  show oq base M.κ ids n=_
  unfold oq
  simp_all
 have mr:∀b,qP (M.ren base ids) b→qP M b:=fun b ⟨n,o,C,h1,h2,h3,h4⟩=>by
  obtain⟨id,o',C',k1,k2,k3,k4,k5,k6,k7⟩:=at' n o h1
  rw[k7] at h3
  cases h3
  exact⟨id,o',C',k3,by rw[←h2,k5,R7],k4,h4⟩
 refine⟨⟨fun n o h=>?_,fun n h=>?_,fun i j oi oj Ci Cj b mw h1 h2 h3 h4 h5 h6 h7 h8=>?_,fun b h=>ok.own b (mr b h),ok.GF,ok.Flt⟩,mr⟩
 ·obtain⟨id,o',C,k1,k2,k3,k4,rfl,k6,k7⟩:=at' n o h
  exact⟨_,k7,yG5 ok k6⟩
 ·show oq base M.κ ids n=none
  unfold oq
  split
  ·rename_i hb
   split
   ·rename_i id an
    have:M.h id=none:=by
     cases e:M.h id with
     |none=>rfl
     |some o=>
      have:(M.ren base ids).h n=some (tW M.h (fun i=>(eP i ids 0).map (base+·)) o):=by
       show xu base M.h ids n=_
       unfold xu
       rw[show Nat.ble base n=true from Nat.ble_eq_true_of_le hb,an]
       simp[e]
      simp_all
    rw[ok.non id this];rfl
   ·rfl
  ·rfl
 ·obtain⟨id,o',C,k1,k2,k3,k4,k5,k6,k7⟩:=at' i oi h1
  obtain⟨jd,p',D,q1,q2,q3,q4,q5,q6,q7⟩:=at' j oj h2
  rw[k7] at h5
  rw[q7] at h6
  cases h5
  cases h6
  refine ok.disj id jd o' p' C D b (fun e=>?_) k3 q3 (by rw[←h3,k5,R7]) (by rw[←h4,q5,R7]) k4 q4 h7 h8
  have hi:=(List.getElem?_eq_some_iff.1 k2)
  have hj:=(List.getElem?_eq_some_iff.1 q2)
  have:=(List.getElem_inj (h₀:=hi.1) (h₁:=hj.1) dA).1 (by omega)
  omega
theorem yWp:∀{a b},Ku a b=true→a=b
 |[],[],_=>rfl
 |x::a,y::b,h=>by
  simp only[Ku,Bool.and_eq_true] at h
  rw[Nat.eq_of_beq_eq_true h.1,yWp h.2]
theorem vEo {c v}(h:Qk c v=true):c=.undef∨c=v:=by
 unfold Qk at h
 split at h
 ·simp
 ·simp
 ·simp
 ·simp
 ·simp
 ·simp_all
 ·simp_all
 ·simp_all
 ·simp only[Bool.and_eq_true] at h
  exact .inr (by rw[Nat.eq_of_beq_eq_true h.1,yWp h.2])
 all_goals simp_all
theorem mF {α:Type}{c x}{y:α}(h:(bif c then x else none)=some y):c=true∧x=some y:=by
 grind
theorem sn {M}(ok:Ok M):∀{l cs d vs},lI l cs=some d→zM (zY M) cs vs→zM (zY M) (nV l d) vs
 |[],[],_,[],_,_=>trivial
 |.int k::l,c::cs,d,v::vs,h,hv=>by
  cases c<;>first|(cases h;done)|skip
  obtain⟨hk,h⟩:=mF h
  split at h
  ·rename_i d' hd
   cases h
   refine⟨?_,sn ok hd hv.2⟩
   rw[←rF hk];exact hv.1
  ·cases h
 |.bool::l,c::cs,d,v::vs,h,hv=>by
  cases c<;>first|(cases h)|skip
  unfold lI at h
  split at h
  ·rename_i d' hd
   cases h
   exact⟨hv.1,sn ok hd hv.2⟩
  ·cases h
 |.dat sh t::l,c::cs,d,v::vs,h,hv=>by
  cases c<;>first|(cases h;done)|skip
  ·rename_i Gj s xs
   obtain⟨hs,h⟩:=mF h
   split at h
   ·rename_i ys d' hx hd
    cases h
    obtain⟨e,hx⟩:=kt hx
    subst e
    subst hx
    refine⟨?_,sn ok hd hv.2⟩
    have h1:qE M.H (bif Gj then M.G else M.F) (.sl s) xs (fun _=>some v):=hv.1
    cases sh with
    |true=>
     have:Gj=true:=by simp_all
     subst this
     exact h1
    |false=>cases Gj with
     |false=>exact h1
     |true=>exact yY ok.GF (by simp) _ _ _ _ (by simp) h1
   ·cases h
  ·unfold lI at h
   split at h
   ·rename_i d' hd
    cases h
    refine⟨?_,sn ok hd hv.2⟩
    rw[show v=.slice none 0 0 from hv.1]
    exact⟨none,0,0,rfl,rfl,by simp,by simp⟩
   ·cases h
 |.lit c::l,x::cs,d,v::vs,h,hv=>by
  obtain⟨he,h⟩:=mF h
  refine⟨?_,sn ok h hv.2⟩
  rcases vEo he with rfl|rfl
  ·exact hv.1.one
  ·exact hv.1
theorem R8 {M}(ok:Ok M){v a d rv}(h:Ql v a=some d)(hv:zV M a rv):zV M (Qm v d) rv:=by
 cases v with
 |c x=>
  cases a with
  |c y=>
   have:=sn ok (vs:=[rv]) (show lI [x] [y]=some d from h) ⟨hv,trivial⟩
   show zV M (match nV [x] d with|c::_=>.c c|[]=>.undef) rv
   match hh:nV [x] d,this with
   |[c],this=>exact this.1
  |_=>cases h
 |agg l=>
  cases a with
  |agg vs=>
   obtain⟨us,rfl,hx⟩:=hv
   exact⟨us,rfl,sn ok (show lI l vs=some d from h) hx⟩
  |_=>cases h
theorem vIr {M}(ok:Ok M){o x d C}(h:Kv o x=some d)(hO:yV M x C)(hv:C.ver=0):yV M (Kw o d) C∧(Kw o d).owned=x.owned:=by
 unfold Kv at h
 split at h
 ·obtain⟨he,h'⟩:=mF h
  have he:=eq_of_beq he
  subst he
  clear h
  obtain⟨B,vals,e,h1,h2,h3,h4,h5⟩:=hO
  exact⟨⟨B,vals,e,h1,h2,h3,sn ok h' h4,h5⟩,rfl⟩
 ·obtain⟨B,vals,e,h1,h2,h3,h4,h5⟩:=hO
  exact⟨⟨B,vals,e,h1,h2,h3,sn ok h h4,h5⟩,rfl⟩
 ·obtain⟨he,h'⟩:=mF h
  have he:=eq_of_beq he
  subst he
  obtain⟨e,hx⟩:=kt h'
  subst e
  subst hx
  exact⟨hO,rfl⟩
 ·cases h
  exact⟨⟨hv,hO.2⟩,rfl⟩
 ·cases h
  exact⟨⟨hv,hO.2⟩,rfl⟩
 ·cases h
  exact⟨hO,rfl⟩
 ·cases h
theorem yRp {f t}:∀{l d n v},KD f t l=some d→(Bv l d).lookup n=some v→∃(s:VS) (x:SL s.cells),Ql s (f (t n))=some x∧v=Qm s x
 |s::l,d,n,v,hr,h=>by
  unfold KD at hr
  split at hr
  ·rename_i x ds h1 h2
   cases hr
   unfold Bv at h
   rw[List.lookup_cons] at h
   cases e:n==s.1 with
   |true=>
    grind
   |false=>
    rw[e] at h
    exact yRp h2 h
  ·cases hr
theorem yKd {f h0}:∀{l ids d},KE f h0 l ids=some d→(rL l d).length=ids.length∧∀(i:Nat) o,(rL l d)[i]? =some o→∃(s:OS) (x:s.den) (id:Nat) (y:Obj),ids[i]? =some id∧h0 id=some y∧Kv s (f y)=some x∧o=Kw s x
 |[],[],d,_=>⟨rfl,nofun⟩
 |s::l,id::ids,d,h=>by
  unfold KE at h
  split at h
  ·rename_i x ds h1 h2
   cases h
   obtain⟨y,h3,h4⟩:=Option.bind_eq_some_iff.1 h1
   obtain⟨k1,k2⟩:=yKd h2
   refine⟨by simp[rL,k1],fun i o hi=>?_⟩
   cases i with
   |zero=>
    simp[rL] at hi
    grind
   |succ i=>
    simp[rL] at hi
    simp_all
  ·cases h
theorem vSv {g0 base n:Nat}{S:zE}{st:St}{d:S.den}(r:vQ false na nt a0 M0 w0 st a w)(h:Qt g0 base n S st=some d):vQ false na nt a0 M0 w0 (zN base S d) a w:=by
 unfold Qt at h
 split at h
 ·cases h
 rename_i st1 hg
 have r:=yTl r hg
 dsimp only at h
 generalize kR:By st1.h n _ []=ids at h
 have dA:ids.Nodup:=by rw[←kR];exact R5 n List.nodup_nil
 split at h
 case h_2=>cases h
 rename_i da db ha hb
 cases h
 obtain⟨M,h1,h2,h3,h4,h5⟩:=r.ex
 rw[←h1] at ha hb
 obtain⟨k1,k2⟩:=M.ren_ok h3 (base:=base) dA
 obtain⟨ol,oa⟩:=yKd hb
 let M':zL:={M.ren base ids with h:=(zN base S (da,db)).h}
 have Li:∀n o',M'.h n=some o'→∃o C,(M.ren base ids).h n=some o∧M'.κ n=some C∧yV (M.ren base ids) o' C∧o'.owned=o.owned:=fun m o' e=>by
  have e:(bif Nat.ble base m then(rL S.objs db)[m-base]? else none)=some o':=e
  obtain⟨hle,e⟩:=mF e
  obtain⟨s,x,id,y,q1,q2,q3,rfl⟩:=oa _ _ e
  obtain⟨C,hC,hO⟩:=h3.obj id y q2
  have hκ:(M.ren base ids).κ m=some {C with ver:=0}:=by
   show oq base M.κ ids m=_
   unfold oq
   simp_all
  have hh:(M.ren base ids).h m=some (tW M.h (fun i=>(eP i ids 0).map (base+·)) y):=by
   show xu base M.h ids m=_
   unfold xu
   grind
  obtain⟨p1,p2⟩:=vIr k1 q3 (yG5 h3 hO) rfl
  grind
 have x:yL (M.ren base ids) M':=⟨fun _ C h=>⟨C,h,C.le_refl⟩,fun _ h=>h,fun _ h=>h,fun _ _=>rfl,by grind,fun _ _=>rfl⟩
 have aK:∀b,qP M' b→qP (M.ren base ids) b:=fun b ⟨id,o',C,q1,q2,q3,q4⟩=>by
  obtain⟨o,D,p1,p2,p3,p4⟩:=Li id o' q1
  exact⟨id,o,C,p1,by rw[←p4];exact q2,q3,q4⟩
 have jl:Ok M':=by
  refine⟨fun id o' q=>?_,fun id q=>?_,fun i j oi oj Ci Cj b mw q1 q2 q3 q4 q5 q6 q7 q8=>?_,fun b hb=>k1.own b (aK b hb),k1.GF,k1.Flt⟩
  ·obtain⟨o,C,p1,p2,p3,p4⟩:=Li id o' q
   exact⟨C,p2,p3.ext x (by grind)⟩
  ·have q:(bif Nat.ble base id then(rL S.objs db)[id-base]? else none)=none:=q
   show oq base M.κ ids id=none
   unfold oq
   cases hle:Nat.ble base id with
   |false=>rw[if_neg fun h=>by rw[Nat.ble_eq_true_of_le h] at hle;cases hle]
   |true=>
    simp_all
  ·obtain⟨o1,C1,p1,p2,p3,p4⟩:=Li i oi q1
   obtain⟨o2,C2,p5,p6,p7,p8⟩:=Li j oj q2
   exact k1.disj i j o1 o2 Ci Cj b mw p1 p5 (by rw[←p4];exact q3) (by rw[←p8];exact q4) q5 q6 q7 q8
 refine⟨⟨M',rfl,h2,jl,h4.trans (.same_mem rfl rfl rfl (by grind)),fun m=>?_⟩,r.defers,r.size,r.os,r.tape,r.output,r.keep⟩
 show zV M' (match(Bv S.slots da).lookup m with|some v=>v|none=>.undef) _
 cases hl:(Bv S.slots da).lookup m with
 |none=>trivial
 |some v=>
  obtain⟨s,y,q1,rfl⟩:=yRp ha hl
  exact(R8 k1 q1 (vG3 h3 (h5 m))).ext x
theorem Lj {pre S st d}(r:vQ false na nt a0 M0 w0 st a w)(h:Gl pre S st=some d):vQ false na nt a0 M0 w0 (zN (pre+gA) S d) a w:=vSv r h
end
end Go.Ab
