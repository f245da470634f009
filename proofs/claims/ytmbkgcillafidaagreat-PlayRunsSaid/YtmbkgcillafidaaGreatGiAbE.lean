/- part 4 -/
import Derived.Test.YtmbkgcillafidaaGreatGiAbD
import Derived.Lib.AppendZerosOnto
import Derived.Lib.Overlaps
import Derived.Laws.CopyRow
import Derived.WalkKit
import Derived.Lib.Walk
import Derived.Lib.SliceRun
import Derived.Lib.JoinLaws
import Derived.Shelf.RegionOpenPlain
set_option linter.unusedVariables false
set_option linter.unusedSimpArgs false
namespace Go.Ab
abbrev KJ (t:Ty):List AX:=[.c (.own t),.c (.p (.int .i64)),.c (.own t)]
def YC (t:Ty)(b:Nat):nZ:=fun k nm args h=>sQ (KJ t) (.c (.own t)) [] 0 (fun d=>ins b d.1 d.2.1 d.2.2.1) (fun x=>(x,())) nm args h
structure YD (w:World) (X B:Nat):Prop where
 ne:X≠B
 x:∃cs e,w.heap[X]? =some (.cells cs e (0,0))
 b:∃cs e,w.heap[B]? =some (.cells cs e (0,0))∧cs.size≠0
structure PW (P:Program) (f t ti sz:Nat):Prop where
 ends:∀(A X:Option Addr) (n c vc:Nat) (w w':World) (rv:Value),(Builtin.append_ #[t,t] t #[.slice A n c,.slice X 1 vc]).run P w=.ok rv w'→
  Calls P f #[.slice A n c,.int .i64 n,.slice X 1 vc] w fun e pq=>e=.returned rv∧pq=w'
 grow:∀(B off n c i X vo vc N G:Nat) (w w1 w2 w3:World),i<n→n≤c→c<n+1→n+1≤140737488355328→n+1≤G→
  (Builtin.append_ #[t,ti] t #[.slice (some ⟨B,off,none⟩) i c,.int .i64 ((n:Int)+1-i)]).run P w=.ok (.slice (some ⟨N,0,none⟩) (n+1) G) w1→
  (∀dc,(Builtin.copy_ #[t,t] ti #[.slice (some ⟨N,i*sz,none⟩) (n+1-i) dc,.slice (some ⟨X,vo,none⟩) 1 vc]).run P w1=.ok (goInt 1) w2)→
  (∀dc sc,(Builtin.copy_ #[t,t] ti #[.slice (some ⟨N,(i+1)*sz,none⟩) (n+1-(i+1)) dc,.slice (some ⟨B,off+i*sz,none⟩) (n-i) sc]).run P w2.drew=.ok (goInt (n-i:Nat)) w3)→
  Calls P f #[.slice (some ⟨B,off,none⟩) n c,.int .i64 i,.slice (some ⟨X,vo,none⟩) 1 vc] w fun e pq=>e=.returned (.slice (some ⟨N,0,none⟩) (n+1) G)∧pq=w3
 shift:∀(B off n c i X vo vc:Nat) (w w1 w2:World),i<n→n+1≤c→n+1≤140737488355328→
  YD w X B→
  (∀dc sc,(Builtin.copy_ #[t,t] ti #[.slice (some ⟨B,off+(i+1)*sz,none⟩) (n-i) dc,.slice (some ⟨B,off+i*sz,none⟩) (n+1-i) sc]).run P w.drew=.ok (goInt (n-i:Nat)) w1)→
  (∀dc,(Builtin.copy_ #[t,t] ti #[.slice (some ⟨B,off+i*sz,none⟩) (n+1-i) dc,.slice (some ⟨X,vo,none⟩) 1 vc]).run P w1=.ok (goInt 1) w2)→
  Calls P f #[.slice (some ⟨B,off,none⟩) n c,.int .i64 i,.slice (some ⟨X,vo,none⟩) 1 vc] w fun e pq=>e=.returned (.slice (some ⟨B,off,none⟩) (n+1) c)∧pq=w2
theorem PY {P} w {dT sT ty elem i g o KK YE sLen sCap n a cur te cs}
  (hu:P.underlying dT=some (.slice elem)) (hi:P.info? elem=some i) (hg:w.heap[g]? =some (.cells cur te (0,0))) (hn:Nat.min sLen KK=n) (hl:cs.length=n*i.size)
  (pX:∀j v,cs[j]? =some v→w.cell? (a.add j)=some v) (aM:o+cs.length≤cur.size) (h1:∀v∈cs,v.one1=true):
  (Builtin.copy_ #[dT,sT] ty #[.slice (some ⟨g,o,none⟩) KK YE,.slice (some a) sLen sCap]).run P w=.ok (goInt n) (w.setRow g (vB cur o cs)):=by
 have hld:=run_firstCells_some (P:=P) w i.size n a sLen sCap cs hl pX;have ka:=run_storeCells_at P g o te cs 0 cur w hg (by omega) (fun v hv=>Be (h1 v hv));simp[Builtin.copy_,run_underlying hu,Builtin.lenOf,sizeOf,typeInfo,hi,hn,hld];rw[ka];rfl
theorem vOe {H F t}{xs:List t.den}{olds:List Value}(hl:olds.length=xs.length*t.size)(h:∀i hi,qH H F t xs[i] (fun j=>olds[i*t.size+j]?)) k (hk:k≤xs.length):
  (∀i hi,qH H F t (xs.take k)[i] (fun j=>(olds.take (k*t.size))[i*t.size+j]?))∧
  (∀i hi,qH H F t (xs.drop k)[i] (fun j=>(olds.drop (k*t.size))[i*t.size+j]?)):=by
 refine⟨fun i hi=>?_,fun i hi=>?_⟩
 ·rw[List.length_take] at hi;rw[List.getElem_take];refine vF (by simp) (by simp) t _ _ _ (fun j hj=>?_) (h i (by omega));have:=Nat.mul_le_mul_right t.size (show i+1≤k by omega);grind
 grind
theorem vQk {H F t}{xs ys:List t.den}{olds news:List Value}(hl:olds.length=xs.length*t.size)(hn:news.length=ys.length*t.size)
  (hx:∀i hi,qH H F t xs[i] (fun j=>olds[i*t.size+j]?)) (hy:∀i hi,qH H F t ys[i] (fun j=>news[i*t.size+j]?)) k (hk:k≤xs.length):
  ∀i hi,qH H F t (xs.take k++(ys++xs.drop k))[i] (fun j=>(olds.take (k*t.size)++(news++olds.drop (k*t.size)))[i*t.size+j]?):=by
 obtain⟨h1,h2⟩:=vOe hl hx k hk;refine VZ ?_ h1 (VZ hn hy h2);simp_all
theorem yVm {P fo fn}{t tb e size:Nat}(hf:P.funcs[fo]? =some fn)(qm:(fn.name== "runtime.NumGoroutine")=false)
  (hb:fn.body.isNone=true) (hn:Extern.findNext fn=none) (he:Extern.find fn=some (Extern.SlicesOverlaps.overlaps #[t,t] #[tb])) (ht:P.underlying t=some (.slice e)) (hz:∀w,(Go.sizeOf e).run P w=.ok size w)
  {w X B} (h:YD w X B) vo off vc lb cb:
  (callFunc fo #[.slice (some ⟨X,vo,none⟩) 1 vc,.slice (some ⟨B,off,none⟩) lb cb]).run P w=.ok (.value (.bool false)) w:=by
 obtain⟨cx,ex,hx⟩:=h.x;obtain⟨cb',eb,hB,bx⟩:=h.b;rw[run_callFunc_extern hf qm hb hn he,
  Lib.run_overlaps_apart w t tb e ht size hz ⟨X,vo,none⟩ ⟨B,off,none⟩ 1 vc lb cb h.ne ex eb cx.size cb'.size (by simp[World.shape?,hx]) (by simp[World.shape?,hB]) bx
   (by simp[World.frozen?,hx]) (by simp[World.frozen?,hx])]
 rfl
theorem getElem?_three {α:Type}{a b c:List α}{j}:(a++(b++c))[j]? =if j<a.length then a[j]? else if j<a.length+b.length then b[j-a.length]? else c[j-a.length-b.length]? :=by
 grind
theorem YF {P}{f t e ti:Nat}{ty:Ty}(W:PW P f t ti ty.size)(hu:P.underlying t=some (.slice e))(uf:P.underlying ti=some (.int .i64))(dK:kD P e=some ty)
  {M:zN} {w:World} {vs} (hH:M.H=w.heap) (ok:Ok M) {xs ys} {iv:Int} {x} {ia ib nm:Nat} (bx:ia≠ib) (ha:M.h ia=some (.arr true ty xs)) (hb:M.h ib=some (.arr true ty ys)) (aV:M.h nm=none)
  (hv:zO (zX M) [.c (.osl ia none),.c (.int .i64 iv),.c (.osl ib none)] vs.toList) (hx:ins (P.bytesOf e) xs iv ys=some x):
  Calls P f vs w fun
   |.returned rv,w'=>JW M w (.c (.osl nm none)) [(ia,.gone),(nm,.arr true ty x)] rv w'
   |_,_=>False:=by
 obtain⟨inf,z,i1,i2,i3,i4,i5,i6,i7⟩:=sr dK;unfold ins at hx;obtain⟨hc,hx⟩:=wQ hx;cases hx;simp only[Bool.and_eq_true,decide_eq_true_eq] at hc;obtain⟨⟨⟨c1,c2⟩,c3⟩,c4⟩:=hc;have c3:=Nat.eq_of_beq_eq_true c3;obtain⟨c4,c5⟩:=JX (by rw[Bool.and_eq_true];exact c4);obtain⟨k,rfl⟩:=Int.eq_ofNat_of_zero_le c1;have hk:k≤xs.length:=by omega
 rw[Int.toNat_natCast]
 match hl:vs.toList,hv with
 |[v1,v2,v3],hv=>
 obtain⟨r1,r2,r3,_⟩:=hv;have r2:v2=.int .i64 k:=r2;subst r2;obtain rfl:vs=#[v1,.int .i64 k,v3]:=by cases vs;simpa using hl
 obtain⟨C,hC,hO⟩:=ok.obj ia _ ha;obtain⟨D,hD,hQ⟩:=ok.obj ib _ hb;have r1:qA M (.osl ia none) v1:=r1;have r3:qA M (.osl ib none) v3:=r3;obtain⟨olds,ro,eo⟩:∃news,jB M.H v1 xs.length ty.size news∧∀i (hi:i<xs.length),qH M.H M.G ty xs[i] (fun j=>news[i*ty.size+j]?):=Bq (r:=none) hC hO r1;obtain⟨news,rn,en⟩:∃news,jB M.H v3 ys.length ty.size news∧∀i (hi:i<ys.length),qH M.H M.G ty ys[i] (fun j=>news[i*ty.size+j]?):=Bq (r:=none) hD hQ r3;have r1':=r1;obtain⟨C',aF,s1⟩:=r1;rw[hC] at aF;cases aF;obtain⟨D',hD',s3⟩:=r3;rw[hD] at hD';cases hD';have lo:olds.length=xs.length*ty.size:=ro.choose_spec.choose_spec.2.1;have ln:news.length=ys.length*ty.size:=rn.choose_spec.choose_spec.2.1;have oo:∀u∈olds,u.one1=true:=ro.choose_spec.choose_spec.2.2.1;have on:∀u∈news,u.one1=true:=rn.choose_spec.choose_spec.2.2.1;rw[c3,Nat.one_mul] at ln;obtain⟨A,c,rfl,s1⟩:=s1;obtain⟨X',vc,rfl,s3⟩:=s3;have hlen:C.len=xs.length:=hO.1;have KL:D.len=1:=by rw[hQ.1,c3]
 rw[hlen] at s1 ro r1'⊢;rw[KL] at s3 rn⊢;by_cases hke:k=xs.length
 ·
  subst hke;have:=V3 (P:=P) (w:=w) (T:=t) (x:=.slice X' 1 vc) ok hH hu dK aV ha r1' trivial rn en ⟨by rw[c3];exact c4,by rw[c3];exact c5⟩;obtain⟨rv,w',M',hr,cf⟩:=this;refine(W.ends A X' xs.length c vc w w' rv hr).mono fun ex pq he=>?_
  obtain⟨rfl,rfl⟩:=he;refine⟨M',?_⟩;rw[List.take_length,List.drop_length,List.append_nil];exact cf
 ·have bK:k<xs.length:=by omega
  cases hB:C.blk with
  |none=>rw[hB] at s1;omega
  |some B=>
  cases hX:D.blk with
  |none=>rw[hX] at s3;omega
  |some X=>
  rw[hB] at s1;rw[hX] at s3;obtain⟨q1,a,rfl,q2,q3⟩:=s1;obtain⟨p1,a',rfl,p2,p3⟩:=s3;obtain rfl:a=0:=by rcases q2 with h|h<;>omega
  obtain rfl:a'=0:=by rcases p2 with h|h<;>omega
  rw[Nat.zero_add] at q3 p3;obtain⟨o1,o2,o3,o4⟩:=hO;rw[hB] at o4;obtain⟨vals,ve,o5,_,o7,o8⟩:=o4;obtain⟨u1,u2,u3,u4⟩:=hQ;rw[hX] at u4;obtain⟨nr,YG,u5,_,u7,u8⟩:=u4;rw[o2] at q3;have cR:yE M.H B=vals.size:=by simp only[yE,o5]
  rw[cR] at q3;have hXB:X≠B:=fun e'=>ok.disj ib ia _ _ D C B (fun h=>bx h.symm) hb ha rfl rfl hD hC (e'▸fS hX) (fS hB)
  have kf:w.heap[B]? =some (.cells vals ve (0,0)):=by rw[←hH];exact o5
  have PZ:w.heap[X]? =some (.cells nr YG (0,0)):=by rw[←hH];exact u5
  have hwD:w.drew.heap[B]? =some (.cells vals ve (0,0)):=kf;have hBl:B<w.heap.size:=(Array.getElem?_eq_some_iff.1 kf).1;have hXl:X<w.heap.size:=(Array.getElem?_eq_some_iff.1 PZ).1;have rB:∀(j:Nat) (v:Value),olds[j]? =some v→vals[j]? =some v:=by
   intro j v hj;obtain⟨A1,c1',e1,_,_,hold⟩:=ro;simp only[Value.slice.injEq] at e1;obtain⟨rfl,_,rfl⟩:=e1;rcases hold with h0|⟨_,hold⟩
   ·omega
   ·have:=hold j v hj
    simpa[yY,o5] using this
  have rX:∀(j:Nat) (v:Value),news[j]? =some v→nr[j]? =some v:=by
   intro j v hj;obtain⟨A1,c1',e1,_,_,hold⟩:=rn;simp only[Value.slice.injEq] at e1;obtain⟨rfl,_,rfl⟩:=e1;rcases hold with h0|⟨_,hold⟩
   ·omega
   ·have:=hold j v hj
    simpa[yY,u5] using this
  have hmul:=Nat.mul_le_mul_right ty.size (show k≤xs.length by omega);have ajy:(k+1)*ty.size=k*ty.size+ty.size:=Nat.succ_mul _ _;have ajz:(xs.length+1)*ty.size=xs.length*ty.size+ty.size:=Nat.succ_mul _ _;have bn:=vQk (H:=M.H) (F:=M.G) lo (by rw[c3,Nat.one_mul];exact ln) eo en k hk;have fV:(xs.take k++(ys++xs.drop k)).length=xs.length+1:=by simp only[List.length_append,List.length_take,List.length_drop,c3];omega
  have EU:(olds.drop (k*ty.size)).length=(xs.length-k)*ty.size:=by rw[List.length_drop,lo,Nat.sub_mul]
  have KM:(olds.take (k*ty.size)).length=k*ty.size:=by rw[List.length_take,lo];omega
  have cP:(xs.length-k)*ty.size=xs.length*ty.size-k*ty.size:=Nat.sub_mul _ _ _;have sD:YD w X B:=⟨hXB,⟨_,_,PZ⟩,_,_,kf,fun h0=>by have:=Nat.mul_pos (show 0<xs.length by omega) ty.size_pos;omega⟩;by_cases aZ:xs.length+1≤c
  ·
   have hcm:=Nat.mul_le_mul_right ty.size aZ;have mB:(k+1)*ty.size+(olds.drop (k*ty.size)).length≤vals.size:=by rw[EU];omega
   let n1:=vB vals ((k+1)*ty.size) (olds.drop (k*ty.size));have pj:n1.size=vals.size:=gU mB;obtain⟨g1,g2,g3,g4⟩:=oW (w:=w.drew) (B:=B) (new:=n1) kf pj;have mC:k*ty.size+news.length≤n1.size:=by rw[pj,ln];omega
   let n2:=vB n1 (k*ty.size) news;have Ec:n2.size=n1.size:=gU mC;obtain⟨f1,f2,f3,f4⟩:=oW (w:=w.drew.setRow B n1) (B:=B) (new:=n2) g2 Ec;refine(W.shift B 0 xs.length c k X 0 vc w (w.drew.setRow B n1) ((w.drew.setRow B n1).setRow B n2) bK aZ c5 sD (fun dc sc=>?_) (fun dc=>?_)).mono fun ex pq he=>?_
   ·rw[Nat.zero_add,Nat.zero_add];exact PY w.drew hu i1 kf (by simp only[Nat.min_def];split<;>omega) (by rw[EU,i3])
     (fun j v hj=>by
      rw[List.getElem?_drop] at hj;rw[Addr.add_lit,tU]
      simpa[yY,hwD] using rB _ _ hj)
     mB (fun v hv=>oo v (List.mem_of_mem_drop hv))
   ·rw[Nat.zero_add];exact PY (w.drew.setRow B n1) hu i1 g2 (by simp only[Nat.min_def];split<;>omega) (by rw[ln,i3,Nat.one_mul])
     (fun j v hj=>by
      rw[Addr.add_lit,tU];have h3:(w.drew.setRow B n1).heap[X]? =some (.cells nr YG (0,0)):=(g3 X hXB).trans PZ
      simpa[yY,h3] using rX _ _ hj)
     mC on
   ·obtain⟨rfl,rfl⟩:=he;have hr:=vL6 (nm:=nm) (zs:=xs.take k++(ys++xs.drop k)) (c:=c) (A:=some ⟨B,0,none⟩) (w:=w) (w':=(w.drew.setRow B n1).setRow B n2) (H':=((w.drew.setRow B n1).setRow B n2).heap) ok hH ha hC aV (by rw[hH];exact f1.trans g1)
     (fun b hb=>by
      have KN:b≠B:=fun e=>hb (e▸fS hB)
      rw[hH];exact(f3 b KN).trans (g3 b KN))
     (fun b => by rw [hH]; exact (f4 b).trans (g4 b)) (fun M' xt _ _=>by
      rw[hB];refine⟨n2,ve,f2,by rw[fV,Ec,pj];omega,fun i hi=>?_⟩;refine vF xt.G xt.sameG ty _ _ _ (fun j hj=>?_) (bn i hi);rw[fV] at hi;have aU:=Nat.mul_le_mul_right ty.size (show i+1≤xs.length+1 by omega);rw[Nat.succ_mul] at aU;rw[dZ mC,dZ mB,getElem?_three,KM,ln];by_cases h1:i*ty.size+j<k*ty.size
      ·rw[if_pos h1,if_pos h1,if_pos (by omega),List.getElem?_take,if_pos h1];have sw:i*ty.size+j<olds.length:=by omega
       rw[List.getElem?_eq_getElem sw];exact rB _ _ (List.getElem?_eq_getElem sw)
      ·rw[if_neg h1,if_neg h1];by_cases h2:i*ty.size+j<k*ty.size+ty.size
       ·rw[if_pos h2,if_pos h2]
       ·rw[if_neg h2,if_neg h2,if_neg (by omega),if_pos (by rw[EU];omega)]
        congr 1;omega)
     (by rw[hB];exact⟨by rw[fV];exact aZ,0,rfl,.inr rfl,by rw[cR];exact q3⟩) ⟨rfl,rfl,rfl,rfl⟩
    rw[fV] at hr;exact hr
  ·
   have Ww:c=xs.length:=by omega
   subst Ww;have htk:xs.length+1-k=(xs.length-k)+1:=by omega
   have hkk:((xs.length:Int)+1-(k:Int))=((xs.length+1-k:Nat):Int):=by omega
   have Vd:k+(xs.length+1-k)=xs.length+1:=by omega
   have hold:(Builtin.firstCells inf.size k (.slice (some ⟨B,0,none⟩) k xs.length)).run P w.drew=.ok (olds.take (k*ty.size)).toArray w.drew:=
    run_firstCells_some w.drew inf.size k ⟨B, 0, none⟩ k xs.length _ (by rw [KM, i3]) (fun j v hj=>by
     rw[List.getElem?_take] at hj;split at hj
     ·rw[Addr.add_lit,tU]
      simpa[yY,hwD] using rB _ _ hj
     ·cases hj)
   have hz:=Lib.run_append_grow_zeros (P:=P) w t ti t e inf z .i64 .i64 hu uf i1 i2 (some ⟨B,0,none⟩) k xs.length _ hold (xs.length+1-k) (by omega) (by rw[i3];exact ty.size_pos) (by omega) (by omega)
    (by
     have:=Nat.mul_le_mul_right inf.bytes (show xs.length+1-k≤xs.length+1 by omega);rw[i6] at c4;omega)
    (by
     rw[Vd];have:=growslice_fits (bytes:=inf.bytes) (show xs.length<xs.length+1 by omega) (by rw[i6] at c4;omega);exact this)
   rw[Vd] at hz;obtain⟨G,hG⟩:∃G,G=grownCap w (xs.length+1) xs.length e:=⟨_,rfl⟩;have YH:xs.length+1≤G:=by rw[hG];exact grownCap_ge w _ _ _
   have hGm:=Nat.mul_le_mul_right ty.size YH;rw[←hG] at hz;obtain⟨sU,BZ⟩:∃sU:Array Value,sU=(olds.take (k*ty.size)).toArray++Builtin.zeroCells z.cells (xs.length+1-k)++Builtin.zeroCells z.cells (G-(xs.length+1)):=⟨_,rfl⟩;have YI:sU.size=G*ty.size:=by
    rw[BZ];simp only[Array.size_append,List.size_toArray,Er,i7,KM,←Nat.add_mul]
    congr 1;omega
   have hRg:∀j,j<k*ty.size→sU[j]? =olds[j]? :=fun j hj=>by
    rw[BZ,Array.append_assoc,Array.getElem?_append_left (by simp only[List.size_toArray,KM];exact hj)];simp[List.getElem?_take,hj]
   rw[←BZ] at hz;let w1:=w.drew.alloc (.cells sU e);have k1:w1.heap=w.heap.push (.cells sU e):=rfl;have k2:w1.heap[w.heap.size]? =some (.cells sU e (0,0)):=by rw[k1];simp
   have k3:∀b,b<w.heap.size→w1.heap[b]? =w.heap[b]? :=fun b hb=>by rw[k1];exact pQ hb
   have mB:k*ty.size+news.length≤sU.size:=by rw[YI,ln];omega
   let n1:=vB sU (k*ty.size) news;have pj:n1.size=sU.size:=gU mB;obtain⟨g1,g2,g3,g4⟩:=oW (w:=w1) (B:=w.heap.size) (new:=n1) k2 pj;have mC:(k+1)*ty.size+(olds.drop (k*ty.size)).length≤n1.size:=by rw[pj,YI,EU];omega
   let n2:=vB n1 ((k+1)*ty.size) (olds.drop (k*ty.size));have Ec:n2.size=n1.size:=gU mC;obtain⟨f1,f2,f3,f4⟩:=oW (w:=(w1.setRow w.heap.size n1).drew) (B:=w.heap.size) (new:=n2) g2 Ec;refine(W.grow B 0 xs.length xs.length k X 0 vc w.heap.size G w w1 (w1.setRow w.heap.size n1) ((w1.setRow w.heap.size n1).drew.setRow w.heap.size n2) bK (Nat.le_refl _) (by omega) c5 YH (by rw[hkk];exact hz) (fun dc=>?_) (fun dc sc=>?_)).mono fun ex pq he=>?_
   ·exact PY w1 hu i1 k2 (by simp only[Nat.min_def];split<;>omega) (by rw[ln,i3,Nat.one_mul])
     (fun j v hj=>by
      rw[Addr.add_lit,tU];have h3:w1.heap[X]? =some (.cells nr YG (0,0)):=(k3 X hXl).trans PZ
      simpa[yY,h3] using rX _ _ hj)
     mB on
   ·rw[Nat.zero_add];exact PY (w1.setRow w.heap.size n1).drew hu i1 g2 (by simp only[Nat.min_def];split<;>omega) (by rw[EU,i3])
     (fun j v hj=>by
      rw[List.getElem?_drop] at hj;rw[Addr.add_lit,tU];have h3:(w1.setRow w.heap.size n1).drew.heap[B]? =some (.cells vals ve (0,0)):=((g3 B (by omega)).trans (k3 B hBl)).trans kf
      simpa[yY,h3] using rB _ _ hj)
     mC (fun v hv=>oo v (List.mem_of_mem_drop hv))
   ·obtain⟨rfl,rfl⟩:=he;have KO:((w1.setRow w.heap.size n1).drew.setRow w.heap.size n2).heap=w.heap.push (.cells n2 e):=by
     apply Array.ext_getElem?;intro b;by_cases hb:b=w.heap.size
     ·subst hb;rw[f2];simp
     ·rw[f3 b hb];show(w1.setRow w.heap.size n1).heap[b]? =_;rw[g3 b hb,k1,Array.getElem?_push,Array.getElem?_push,if_neg hb,if_neg hb]
    have hr:=yUv (M:=M) (w:=w) (nm:=nm) (t:=ty) (zs:=xs.take k++(ys++xs.drop k)) (us:=n2) (e:=e) (c:=G) (u:=[(ia,.gone)]) (w':=(w1.setRow w.heap.size n1).drew.setRow w.heap.size n2) ok hH aV
     (fun p hp=>by
      simp only[List.mem_singleton] at hp;subst hp;exact⟨rfl,_,ha,rfl⟩)
     (by rw [fV]; exact YH) (by rw [Ec, pj, YI]; exact Nat.le_refl _) (fun i hi=>by
      refine vF (fun _ h=>h) (fun _ _=>rfl) ty _ _ _ (fun j hj=>?_) (bn i hi);rw[fV] at hi;have aU:=Nat.mul_le_mul_right ty.size (show i+1≤xs.length+1 by omega);rw[Nat.succ_mul] at aU;rw[dZ mC,dZ mB,getElem?_three,KM,ln];by_cases h1:i*ty.size+j<k*ty.size
      ·rw[if_pos (by omega),if_pos h1,if_pos h1,List.getElem?_take,if_pos h1];exact hRg _ h1
      ·rw[if_neg h1,if_neg h1];by_cases h2:i*ty.size+j<k*ty.size+ty.size
       ·rw[if_pos (by omega),if_pos h2,if_pos h2]
       ·rw[if_neg (by omega),if_pos (by rw[EU];omega),if_neg h2]
        congr 1;omega) ⟨KO,rfl,rfl,rfl⟩
    rw[fV] at hr;exact hr
theorem P0:∀t:Ty,rY t t=true
 |.int k=>by cases k<;>rfl
 |.bool=>rfl
 |.sl t=>P0 t
 |.pair a b=>by show(rY a a&&rY b b)=true;rw[P0 a,P0 b];rfl
theorem YJ t xs:iu t t xs=some xs:=by
 unfold iu;rw[dif_pos (P0 t)]
theorem yRv {P}{f t e ti:Nat}{ty b fn}(W:PW P f t ti ty.size)(hu:P.underlying t=some (.slice e):=by kernel_rfl) (uf:P.underlying ti=some (.int .i64):=by kernel_rfl) (dK:kD P e=some ty:=by kernel_rfl) (hb:P.bytesOf e=b:=by kernel_rfl)
  (hf:P.funcs[f]? =some fn:=by kernel_rfl) (fB:fn.body.isNone=false:=by kernel_rfl) (hn:(fn.name== "runtime.NumGoroutine")=false:=by kernel_rfl):zC P (f,YC ty b):=by
 subst hb;refine⟨fun k nm args h v u hy=>?_,yKx («as»:=KJ ty) (rs:=.c (.own ty)) (os:=[]) (ns:=0) (S:=fun _ d=>ins (P.bytesOf e) d.1 d.2.1 d.2.2.1) (pack:=fun x=>(x,()))⟩;refine yWa (na:=0) («as»:=KJ ty) (rs:=.c (.own ty)) (os:=[]) (ns:=0) (unpack:=fun d=>d.1) (Ko hf fB hn) (fun _=>rfl) rfl (fun d x hx M w vs hh hH ok hv=>?_) hy;refine(YF (ia:=500) (ib:=501) (nm:=600) W hu uf dK hH ok (by decide) (by rw[hh];rfl) (by rw[hh];rfl) (by rw[hh];rfl) hv hx).mono fun ex w' he=>?_
 cases ex with
 |panicked _=>omega
 |outgrown=>omega
 |returned rv=>
  obtain⟨M',a1,a2,a3,a4,a5,a6,a7,a8⟩:=he;refine⟨.c (.osl 600 none),⟨fun _=>.undef,M'.h⟩,?_,M',rfl,a4,a6,a7.grow,nofun,a8,a1,a2,a3,by simp⟩;have h6:M'.h 600=some (.arr true ty x):=by rw[a5];rfl
  have h7:qc M'.h (.own ty) (.osl 600 none)=some x:=by
   show(match M'.h 600 with|some (.arr true s xs)=>iu s ty xs|_=>none)=_;rw[h6];exact YJ ty x
  have h8:kQ M'.h ([RC.own ty]++[]) [.osl 600 none]=some (x,()):=by
   show kQ M'.h [RC.own ty] [qC.osl 600 none]=_;simp[kQ,h7]
  have e:xG ⟨fun _=>.undef,M'.h⟩ (KJ ty) (.c (.own ty)) [] 0 (.c (.osl 600 none))=some (x,()):=by
   have e1:xG ⟨fun _=>.undef,M'.h⟩ (KJ ty) (.c (.own ty)) [] 0 (.c (.osl 600 none))=kQ M'.h ([RC.own ty]++[]) [qC.osl 600 none]:=rfl;grind
  unfold Ky;rw[e]
theorem YK {P} w {o:Oper}{a K Q} d s t t'
  (ho:o.op=.call {callee:=.builtin .copy,args:=#[d,s],argTypes:=#[t,t']}) v u (hd:a.eval d=v) (hs:a.eval s=u) {v' w'}
  (hr:(Builtin.copy_ #[t,t'] o.type #[v,u]).run P w=.ok v' w') (h:K (a.put o.dst v') w'):o.wp P a w K Q:=by
 unfold Oper.wp execOp;simp[ho,resolve,invoke,builtin,hd,hs,hr];exact h
theorem P1 {P} w {ops rest o a Q}(BB:o.guard=none) d s t t'
  (ho:o.op=.call {callee:=.builtin .copy,args:=#[d,s],argTypes:=#[t,t']}) v u (hd:a.eval d=v) (hs:a.eval s=u) {v' w'}
  (hr:(Builtin.copy_ #[t,t'] o.type #[v,u]).run P w=.ok v' w') (h:wpList P ops Q rest (a.put o.dst v') w'):wpList P ops Q (o::rest) a w:=
 wpList_plain BB fun _ hK=>YK w d s t t' ho v u hd hs hr (hK _ _ h)
theorem P2 {P ops o a w K Q E}
  (hg:o.guard=none) d x dT sT (sC:o.op=Op.call {callee:=Callee.builtin Builtin.copy,args:=#[d,x],argTypes:=#[dT,sT]})
  v u (hd:a.eval d=v) (hx:a.eval x=u) {v' w'} (hr:(Builtin.copy_ #[dT,sT] o.type #[v,u]).run P w=.ok v' w') (hK:K (a.put o.dst v') w'):
  if Region.wanted o (yielded ops a.tmps)=true then Oper.wp P o a w K Q else E:=by
 have hw:Region.wanted o (yielded ops a.tmps)=true:=by simp[Region.wanted,hg]
 rw[if_pos hw];unfold Oper.wp;simp[execOp,sC,resolve,invoke,builtin,hd,hx,hr];exact hK
end Go.Ab
