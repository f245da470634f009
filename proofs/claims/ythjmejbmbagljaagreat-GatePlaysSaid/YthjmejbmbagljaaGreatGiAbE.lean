/- part 4 -/
import Derived.Test.YthjmejbmbagljaaGreatGiAbD
import Derived.Lib.AppendZerosOnto
import Derived.Lib.Overlaps
import Derived.Laws.CopyRow
import Derived.WalkKit
import Derived.Lib.Walk
import Derived.Lib.SliceRun
import Derived.Lib.JoinLaws
import Derived.Shelf.RegionOpenPlain
set_option linter.unusedVariables false
set_option linter.unusedSimpArgs false
namespace Go.Ab
abbrev KJ (t:Ty):List AX:=[.c (.own t),.c (.p (.int .i64)),.c (.own t)]
def XV (t:Ty)(b:Nat):nU:=fun k nm args h=>sH (KJ t) (.c (.own t)) [] 0 (fun d=>ins b d.1 d.2.1 d.2.2.1) (fun x=>(x,())) nm args h
structure XW (w:World) (X B:Nat):Prop where
 ne:X≠B
 x:∃cs e,w.heap[X]? =some (.cells cs e (0,0))
 b:∃cs e,w.heap[B]? =some (.cells cs e (0,0))∧cs.size≠0
structure PM (P:Program) (f t ti sz:Nat):Prop where
 ends:∀(A X:Option Addr) (n c vc:Nat) (w w':World) (rv:Value),(Builtin.append_ #[t,t] t #[.slice A n c,.slice X 1 vc]).run P w=.ok rv w'→
  Calls P f #[.slice A n c,.int .i64 n,.slice X 1 vc] w fun e pj=>e=.returned rv∧pj=w'
 grow:∀(B off n c i X vo vc N G:Nat) (w w1 w2 w3:World),i<n→n≤c→c<n+1→n+1≤140737488355328→n+1≤G→
  (Builtin.append_ #[t,ti] t #[.slice (some ⟨B,off,none⟩) i c,.int .i64 ((n:Int)+1-i)]).run P w=.ok (.slice (some ⟨N,0,none⟩) (n+1) G) w1→
  (∀dc,(Builtin.copy_ #[t,t] ti #[.slice (some ⟨N,i*sz,none⟩) (n+1-i) dc,.slice (some ⟨X,vo,none⟩) 1 vc]).run P w1=.ok (goInt 1) w2)→
  (∀dc sc,(Builtin.copy_ #[t,t] ti #[.slice (some ⟨N,(i+1)*sz,none⟩) (n+1-(i+1)) dc,.slice (some ⟨B,off+i*sz,none⟩) (n-i) sc]).run P w2.drew=.ok (goInt (n-i:Nat)) w3)→
  Calls P f #[.slice (some ⟨B,off,none⟩) n c,.int .i64 i,.slice (some ⟨X,vo,none⟩) 1 vc] w fun e pj=>e=.returned (.slice (some ⟨N,0,none⟩) (n+1) G)∧pj=w3
 shift:∀(B off n c i X vo vc:Nat) (w w1 w2:World),i<n→n+1≤c→n+1≤140737488355328→
  XW w X B→
  (∀dc sc,(Builtin.copy_ #[t,t] ti #[.slice (some ⟨B,off+(i+1)*sz,none⟩) (n-i) dc,.slice (some ⟨B,off+i*sz,none⟩) (n+1-i) sc]).run P w.drew=.ok (goInt (n-i:Nat)) w1)→
  (∀dc,(Builtin.copy_ #[t,t] ti #[.slice (some ⟨B,off+i*sz,none⟩) (n+1-i) dc,.slice (some ⟨X,vo,none⟩) 1 vc]).run P w1=.ok (goInt 1) w2)→
  Calls P f #[.slice (some ⟨B,off,none⟩) n c,.int .i64 i,.slice (some ⟨X,vo,none⟩) 1 vc] w fun e pj=>e=.returned (.slice (some ⟨B,off,none⟩) (n+1) c)∧pj=w2
theorem PN {P} w {dT sT ty elem i g o KK XX sLen sCap n a cur te cs}
  (hu:P.underlying dT=some (.slice elem)) (hi:P.info? elem=some i) (hg:w.heap[g]? =some (.cells cur te (0,0))) (hn:Nat.min sLen KK=n) (hl:cs.length=n*i.size)
  (pU:∀j v,cs[j]? =some v→w.cell? (a.add j)=some v) (aM:o+cs.length≤cur.size) (h1:∀v∈cs,v.one1=true):
  (Builtin.copy_ #[dT,sT] ty #[.slice (some ⟨g,o,none⟩) KK XX,.slice (some a) sLen sCap]).run P w=.ok (goInt n) (w.setRow g (yZ cur o cs)):=by
 have hld:=run_firstCells_some (P:=P) w i.size n a sLen sCap cs hl pU;have j7:=run_storeCells_at P g o te cs 0 cur w hg (by omega) (fun v hv=>A3 (h1 v hv));simp[Builtin.copy_,run_underlying hu,Builtin.lenOf,sizeOf,typeInfo,hi,hn,hld];rw[j7];rfl
theorem XY {H F t}{xs:List t.den}{olds:List Value}(hl:olds.length=xs.length*t.size)(h:∀i hi,qF H F t xs[i] (fun j=>olds[i*t.size+j]?)) k (hk:k≤xs.length):
  (∀i hi,qF H F t (xs.take k)[i] (fun j=>(olds.take (k*t.size))[i*t.size+j]?))∧
  (∀i hi,qF H F t (xs.drop k)[i] (fun j=>(olds.drop (k*t.size))[i*t.size+j]?)):=by
 refine⟨fun i hi=>?_,fun i hi=>?_⟩
 ·rw[List.length_take] at hi;rw[List.getElem_take];refine vD (by simp) (by simp) t _ _ _ (fun j hj=>?_) (h i (by omega));have:=Nat.mul_le_mul_right t.size (show i+1≤k by omega);grind
 grind
theorem vNf {H F t}{xs ys:List t.den}{olds news:List Value}(hl:olds.length=xs.length*t.size)(hn:news.length=ys.length*t.size)
  (hx:∀i hi,qF H F t xs[i] (fun j=>olds[i*t.size+j]?)) (hy:∀i hi,qF H F t ys[i] (fun j=>news[i*t.size+j]?)) k (hk:k≤xs.length):
  ∀i hi,qF H F t (xs.take k++(ys++xs.drop k))[i] (fun j=>(olds.take (k*t.size)++(news++olds.drop (k*t.size)))[i*t.size+j]?):=by
 obtain⟨h1,h2⟩:=XY hl hx k hk;refine Vz ?_ h1 (Vz hn hy h2);simp_all
theorem yRc {P fo fn}{t tb e size:Nat}(hf:P.funcs[fo]? =some fn)(qh:(fn.name== "runtime.NumGoroutine")=false)
  (hb:fn.body.isNone=true) (hn:Extern.findNext fn=none) (he:Extern.find fn=some (Extern.SlicesOverlaps.overlaps #[t,t] #[tb])) (ht:P.underlying t=some (.slice e)) (hz:∀w,(Go.sizeOf e).run P w=.ok size w)
  {w X B} (h:XW w X B) vo off vc lb cb:
  (callFunc fo #[.slice (some ⟨X,vo,none⟩) 1 vc,.slice (some ⟨B,off,none⟩) lb cb]).run P w=.ok (.value (.bool false)) w:=by
 obtain⟨cx,ex,hx⟩:=h.x;obtain⟨cb',eb,hB,bx⟩:=h.b;rw[run_callFunc_extern hf qh hb hn he,
  Lib.run_overlaps_apart w t tb e ht size hz ⟨X,vo,none⟩ ⟨B,off,none⟩ 1 vc lb cb h.ne ex eb cx.size cb'.size (by simp[World.shape?,hx]) (by simp[World.shape?,hB]) bx
   (by simp[World.frozen?,hx]) (by simp[World.frozen?,hx])]
 rfl
theorem getElem?_three {α:Type}{a b c:List α}{j}:(a++(b++c))[j]? =if j<a.length then a[j]? else if j<a.length+b.length then b[j-a.length]? else c[j-a.length-b.length]? :=by
 grind
theorem XZ {P}{f t e ti:Nat}{ty:Ty}(W:PM P f t ti ty.size)(hu:P.underlying t=some (.slice e))(uc:P.underlying ti=some (.int .i64))(dK:kB P e=some ty)
  {M:zL} {w:World} {vs} (hH:M.H=w.heap) (ok:Ok M) {xs ys} {iv:Int} {x} {ia ib nm:Nat} (bx:ia≠ib) (ha:M.h ia=some (.arr true ty xs)) (hb:M.h ib=some (.arr true ty ys)) (aU:M.h nm=none)
  (hv:zP (zX M) [.c (.osl ia none),.c (.int .i64 iv),.c (.osl ib none)] vs.toList) (hx:ins (P.bytesOf e) xs iv ys=some x):
  Calls P f vs w fun
   |.returned rv,w'=>JX M w (.c (.osl nm none)) [(ia,.gone),(nm,.arr true ty x)] rv w'
   |_,_=>False:=by
 obtain⟨inf,z,i1,i2,i3,i4,i5,i6,i7⟩:=si dK;unfold ins at hx;obtain⟨hc,hx⟩:=wP hx;cases hx;simp only[Bool.and_eq_true,decide_eq_true_eq] at hc;obtain⟨⟨⟨c1,c2⟩,c3⟩,c4⟩:=hc;have c3:=Nat.eq_of_beq_eq_true c3;obtain⟨c4,c5⟩:=JY (by rw[Bool.and_eq_true];exact c4);obtain⟨k,rfl⟩:=Int.eq_ofNat_of_zero_le c1;have hk:k≤xs.length:=by omega
 rw[Int.toNat_natCast]
 match hl:vs.toList,hv with
 |[v1,v2,v3],hv=>
 obtain⟨r1,r2,r3,_⟩:=hv;have r2:v2=.int .i64 k:=r2;subst r2;obtain rfl:vs=#[v1,.int .i64 k,v3]:=by cases vs;simpa using hl
 obtain⟨C,hC,hO⟩:=ok.obj ia _ ha;obtain⟨D,hD,hQ⟩:=ok.obj ib _ hb;have r1:zZ M (.osl ia none) v1:=r1;have r3:zZ M (.osl ib none) v3:=r3;obtain⟨olds,ro,eo⟩:∃news,wZ M.H v1 xs.length ty.size news∧∀i (hi:i<xs.length),qF M.H M.G ty xs[i] (fun j=>news[i*ty.size+j]?):=Bf (r:=none) hC hO r1;obtain⟨news,rn,en⟩:∃news,wZ M.H v3 ys.length ty.size news∧∀i (hi:i<ys.length),qF M.H M.G ty ys[i] (fun j=>news[i*ty.size+j]?):=Bf (r:=none) hD hQ r3;have r1':=r1;obtain⟨C',aF,s1⟩:=r1;rw[hC] at aF;cases aF;obtain⟨D',hD',s3⟩:=r3;rw[hD] at hD';cases hD';have lo:olds.length=xs.length*ty.size:=ro.choose_spec.choose_spec.2.1;have ln:news.length=ys.length*ty.size:=rn.choose_spec.choose_spec.2.1;have oo:∀u∈olds,u.one1=true:=ro.choose_spec.choose_spec.2.2.1;have on:∀u∈news,u.one1=true:=rn.choose_spec.choose_spec.2.2.1;rw[c3,Nat.one_mul] at ln;obtain⟨A,c,rfl,s1⟩:=s1;obtain⟨X',vc,rfl,s3⟩:=s3;have hlen:C.len=xs.length:=hO.1;have KL:D.len=1:=by rw[hQ.1,c3]
 rw[hlen] at s1 ro r1'⊢;rw[KL] at s3 rn⊢;by_cases hke:k=xs.length
 ·
  subst hke;have:=VD (P:=P) (w:=w) (T:=t) (x:=.slice X' 1 vc) ok hH hu dK aU ha r1' trivial rn en ⟨by rw[c3];exact c4,by rw[c3];exact c5⟩;obtain⟨rv,w',M',hr,cc⟩:=this;refine(W.ends A X' xs.length c vc w w' rv hr).mono fun ex pj he=>?_
  obtain⟨rfl,rfl⟩:=he;refine⟨M',?_⟩;rw[List.take_length,List.drop_length,List.append_nil];exact cc
 ·have bK:k<xs.length:=by omega
  cases hB:C.blk with
  |none=>rw[hB] at s1;omega
  |some B=>
  cases hX:D.blk with
  |none=>rw[hX] at s3;omega
  |some X=>
  rw[hB] at s1;rw[hX] at s3;obtain⟨q1,a,rfl,q2,q3⟩:=s1;obtain⟨p1,a',rfl,p2,p3⟩:=s3;obtain rfl:a=0:=by rcases q2 with h|h<;>omega
  obtain rfl:a'=0:=by rcases p2 with h|h<;>omega
  rw[Nat.zero_add] at q3 p3;obtain⟨o1,o2,o3,o4⟩:=hO;rw[hB] at o4;obtain⟨vals,ve,o5,_,o7,o8⟩:=o4;obtain⟨u1,u2,u3,u4⟩:=hQ;rw[hX] at u4;obtain⟨nh,X0,u5,_,u7,u8⟩:=u4;rw[o2] at q3;have cR:qX M.H B=vals.size:=by simp only[qX,o5]
  rw[cR] at q3;have hXB:X≠B:=fun e'=>ok.disj ib ia _ _ D C B (fun h=>bx h.symm) hb ha rfl rfl hD hC (e'▸fQ hX) (fQ hB)
  have ka:w.heap[B]? =some (.cells vals ve (0,0)):=by rw[←hH];exact o5
  have PO:w.heap[X]? =some (.cells nh X0 (0,0)):=by rw[←hH];exact u5
  have hwD:w.drew.heap[B]? =some (.cells vals ve (0,0)):=ka;have hBl:B<w.heap.size:=(Array.getElem?_eq_some_iff.1 ka).1;have hXl:X<w.heap.size:=(Array.getElem?_eq_some_iff.1 PO).1;have rB:∀(j:Nat) (v:Value),olds[j]? =some v→vals[j]? =some v:=by
   intro j v hj;obtain⟨A1,c1',e1,_,_,hold⟩:=ro;simp only[Value.slice.injEq] at e1;obtain⟨rfl,_,rfl⟩:=e1;rcases hold with h0|⟨_,hold⟩
   ·omega
   ·have:=hold j v hj
    simpa[yX,o5] using this
  have rX:∀(j:Nat) (v:Value),news[j]? =some v→nh[j]? =some v:=by
   intro j v hj;obtain⟨A1,c1',e1,_,_,hold⟩:=rn;simp only[Value.slice.injEq] at e1;obtain⟨rfl,_,rfl⟩:=e1;rcases hold with h0|⟨_,hold⟩
   ·omega
   ·have:=hold j v hj
    simpa[yX,u5] using this
  have hmul:=Nat.mul_le_mul_right ty.size (show k≤xs.length by omega);have ahr:(k+1)*ty.size=k*ty.size+ty.size:=Nat.succ_mul _ _;have ahs:(xs.length+1)*ty.size=xs.length*ty.size+ty.size:=Nat.succ_mul _ _;have bn:=vNf (H:=M.H) (F:=M.G) lo (by rw[c3,Nat.one_mul];exact ln) eo en k hk;have fT:(xs.take k++(ys++xs.drop k)).length=xs.length+1:=by simp only[List.length_append,List.length_take,List.length_drop,c3];omega
  have ES:(olds.drop (k*ty.size)).length=(xs.length-k)*ty.size:=by rw[List.length_drop,lo,Nat.sub_mul]
  have KM:(olds.take (k*ty.size)).length=k*ty.size:=by rw[List.length_take,lo];omega
  have cP:(xs.length-k)*ty.size=xs.length*ty.size-k*ty.size:=Nat.sub_mul _ _ _;have su:XW w X B:=⟨hXB,⟨_,_,PO⟩,_,_,ka,fun h0=>by have:=Nat.mul_pos (show 0<xs.length by omega) ty.size_pos;omega⟩;by_cases aY:xs.length+1≤c
  ·
   have hcm:=Nat.mul_le_mul_right ty.size aY;have my:(k+1)*ty.size+(olds.drop (k*ty.size)).length≤vals.size:=by rw[ES];omega
   let n1:=yZ vals ((k+1)*ty.size) (olds.drop (k*ty.size));have pf:n1.size=vals.size:=gQ my;obtain⟨g1,g2,g3,g4⟩:=oT (w:=w.drew) (B:=B) (new:=n1) ka pf;have mz:k*ty.size+news.length≤n1.size:=by rw[pf,ln];omega
   let n2:=yZ n1 (k*ty.size) news;have Ea:n2.size=n1.size:=gQ mz;obtain⟨f1,f2,f3,f4⟩:=oT (w:=w.drew.setRow B n1) (B:=B) (new:=n2) g2 Ea;refine(W.shift B 0 xs.length c k X 0 vc w (w.drew.setRow B n1) ((w.drew.setRow B n1).setRow B n2) bK aY c5 su (fun dc sc=>?_) (fun dc=>?_)).mono fun ex pj he=>?_
   ·rw[Nat.zero_add,Nat.zero_add];exact PN w.drew hu i1 ka (by simp only[Nat.min_def];split<;>omega) (by rw[ES,i3])
     (fun j v hj=>by
      rw[List.getElem?_drop] at hj;rw[Addr.add_lit,tR]
      simpa[yX,hwD] using rB _ _ hj)
     my (fun v hv=>oo v (List.mem_of_mem_drop hv))
   ·rw[Nat.zero_add];exact PN (w.drew.setRow B n1) hu i1 g2 (by simp only[Nat.min_def];split<;>omega) (by rw[ln,i3,Nat.one_mul])
     (fun j v hj=>by
      rw[Addr.add_lit,tR];have h3:(w.drew.setRow B n1).heap[X]? =some (.cells nh X0 (0,0)):=(g3 X hXB).trans PO
      simpa[yX,h3] using rX _ _ hj)
     mz on
   ·obtain⟨rfl,rfl⟩:=he;have hr:=vCz (nm:=nm) (zs:=xs.take k++(ys++xs.drop k)) (c:=c) (A:=some ⟨B,0,none⟩) (w:=w) (w':=(w.drew.setRow B n1).setRow B n2) (H':=((w.drew.setRow B n1).setRow B n2).heap) ok hH ha hC aU (by rw[hH];exact f1.trans g1)
     (fun b hb=>by
      have KN:b≠B:=fun e=>hb (e▸fQ hB)
      rw[hH];exact(f3 b KN).trans (g3 b KN))
     (fun b => by rw [hH]; exact (f4 b).trans (g4 b)) (fun M' xt _ _=>by
      rw[hB];refine⟨n2,ve,f2,by rw[fT,Ea,pf];omega,fun i hi=>?_⟩;refine vD xt.G xt.sameG ty _ _ _ (fun j hj=>?_) (bn i hi);rw[fT] at hi;have aT:=Nat.mul_le_mul_right ty.size (show i+1≤xs.length+1 by omega);rw[Nat.succ_mul] at aT;rw[jY mz,jY my,getElem?_three,KM,ln];by_cases h1:i*ty.size+j<k*ty.size
      ·rw[if_pos h1,if_pos h1,if_pos (by omega),List.getElem?_take,if_pos h1];have sn:i*ty.size+j<olds.length:=by omega
       rw[List.getElem?_eq_getElem sn];exact rB _ _ (List.getElem?_eq_getElem sn)
      ·rw[if_neg h1,if_neg h1];by_cases h2:i*ty.size+j<k*ty.size+ty.size
       ·rw[if_pos h2,if_pos h2]
       ·rw[if_neg h2,if_neg h2,if_neg (by omega),if_pos (by rw[ES];omega)]
        congr 1;omega)
     (by rw[hB];exact⟨by rw[fT];exact aY,0,rfl,.inr rfl,by rw[cR];exact q3⟩) ⟨rfl,rfl,rfl,rfl⟩
    rw[fT] at hr;exact hr
  ·
   have VX:c=xs.length:=by omega
   subst VX;have htk:xs.length+1-k=(xs.length-k)+1:=by omega
   have hkk:((xs.length:Int)+1-(k:Int))=((xs.length+1-k:Nat):Int):=by omega
   have UR:k+(xs.length+1-k)=xs.length+1:=by omega
   have hold:(Builtin.firstCells inf.size k (.slice (some ⟨B,0,none⟩) k xs.length)).run P w.drew=.ok (olds.take (k*ty.size)).toArray w.drew:=
    run_firstCells_some w.drew inf.size k ⟨B, 0, none⟩ k xs.length _ (by rw [KM, i3]) (fun j v hj=>by
     rw[List.getElem?_take] at hj;split at hj
     ·rw[Addr.add_lit,tR]
      simpa[yX,hwD] using rB _ _ hj
     ·cases hj)
   have hz:=Lib.run_append_grow_zeros (P:=P) w t ti t e inf z .i64 .i64 hu uc i1 i2 (some ⟨B,0,none⟩) k xs.length _ hold (xs.length+1-k) (by omega) (by rw[i3];exact ty.size_pos) (by omega) (by omega)
    (by
     have:=Nat.mul_le_mul_right inf.bytes (show xs.length+1-k≤xs.length+1 by omega);rw[i6] at c4;omega)
    (by
     rw[UR];have:=growslice_fits (bytes:=inf.bytes) (show xs.length<xs.length+1 by omega) (by rw[i6] at c4;omega);exact this)
   rw[UR] at hz;obtain⟨G,hG⟩:∃G,G=grownCap w (xs.length+1) xs.length e:=⟨_,rfl⟩;have X1:xs.length+1≤G:=by rw[hG];exact grownCap_ge w _ _ _
   have hGm:=Nat.mul_le_mul_right ty.size X1;rw[←hG] at hz;obtain⟨sL,BM⟩:∃sL:Array Value,sL=(olds.take (k*ty.size)).toArray++Builtin.zeroCells z.cells (xs.length+1-k)++Builtin.zeroCells z.cells (G-(xs.length+1)):=⟨_,rfl⟩;have X2:sL.size=G*ty.size:=by
    rw[BM];simp only[Array.size_append,List.size_toArray,Eo,i7,KM,←Nat.add_mul]
    congr 1;omega
   have hRg:∀j,j<k*ty.size→sL[j]? =olds[j]? :=fun j hj=>by
    rw[BM,Array.append_assoc,Array.getElem?_append_left (by simp only[List.size_toArray,KM];exact hj)];simp[List.getElem?_take,hj]
   rw[←BM] at hz;let w1:=w.drew.alloc (.cells sL e);have k1:w1.heap=w.heap.push (.cells sL e):=rfl;have k2:w1.heap[w.heap.size]? =some (.cells sL e (0,0)):=by rw[k1];simp
   have k3:∀b,b<w.heap.size→w1.heap[b]? =w.heap[b]? :=fun b hb=>by rw[k1];exact pN hb
   have my:k*ty.size+news.length≤sL.size:=by rw[X2,ln];omega
   let n1:=yZ sL (k*ty.size) news;have pf:n1.size=sL.size:=gQ my;obtain⟨g1,g2,g3,g4⟩:=oT (w:=w1) (B:=w.heap.size) (new:=n1) k2 pf;have mz:(k+1)*ty.size+(olds.drop (k*ty.size)).length≤n1.size:=by rw[pf,X2,ES];omega
   let n2:=yZ n1 ((k+1)*ty.size) (olds.drop (k*ty.size));have Ea:n2.size=n1.size:=gQ mz;obtain⟨f1,f2,f3,f4⟩:=oT (w:=(w1.setRow w.heap.size n1).drew) (B:=w.heap.size) (new:=n2) g2 Ea;refine(W.grow B 0 xs.length xs.length k X 0 vc w.heap.size G w w1 (w1.setRow w.heap.size n1) ((w1.setRow w.heap.size n1).drew.setRow w.heap.size n2) bK (Nat.le_refl _) (by omega) c5 X1 (by rw[hkk];exact hz) (fun dc=>?_) (fun dc sc=>?_)).mono fun ex pj he=>?_
   ·exact PN w1 hu i1 k2 (by simp only[Nat.min_def];split<;>omega) (by rw[ln,i3,Nat.one_mul])
     (fun j v hj=>by
      rw[Addr.add_lit,tR];have h3:w1.heap[X]? =some (.cells nh X0 (0,0)):=(k3 X hXl).trans PO
      simpa[yX,h3] using rX _ _ hj)
     my on
   ·rw[Nat.zero_add];exact PN (w1.setRow w.heap.size n1).drew hu i1 g2 (by simp only[Nat.min_def];split<;>omega) (by rw[ES,i3])
     (fun j v hj=>by
      rw[List.getElem?_drop] at hj;rw[Addr.add_lit,tR];have h3:(w1.setRow w.heap.size n1).drew.heap[B]? =some (.cells vals ve (0,0)):=((g3 B (by omega)).trans (k3 B hBl)).trans ka
      simpa[yX,h3] using rB _ _ hj)
     mz (fun v hv=>oo v (List.mem_of_mem_drop hv))
   ·obtain⟨rfl,rfl⟩:=he;have KO:((w1.setRow w.heap.size n1).drew.setRow w.heap.size n2).heap=w.heap.push (.cells n2 e):=by
     apply Array.ext_getElem?;intro b;by_cases hb:b=w.heap.size
     ·subst hb;rw[f2];simp
     ·rw[f3 b hb];show(w1.setRow w.heap.size n1).heap[b]? =_;rw[g3 b hb,k1,Array.getElem?_push,Array.getElem?_push,if_neg hb,if_neg hb]
    have hr:=ySq (M:=M) (w:=w) (nm:=nm) (t:=ty) (zs:=xs.take k++(ys++xs.drop k)) (us:=n2) (e:=e) (c:=G) (u:=[(ia,.gone)]) (w':=(w1.setRow w.heap.size n1).drew.setRow w.heap.size n2) ok hH aU
     (fun p hp=>by
      simp only[List.mem_singleton] at hp;subst hp;exact⟨rfl,_,ha,rfl⟩)
     (by rw [fT]; exact X1) (by rw [Ea, pf, X2]; exact Nat.le_refl _) (fun i hi=>by
      refine vD (fun _ h=>h) (fun _ _=>rfl) ty _ _ _ (fun j hj=>?_) (bn i hi);rw[fT] at hi;have aT:=Nat.mul_le_mul_right ty.size (show i+1≤xs.length+1 by omega);rw[Nat.succ_mul] at aT;rw[jY mz,jY my,getElem?_three,KM,ln];by_cases h1:i*ty.size+j<k*ty.size
      ·rw[if_pos (by omega),if_pos h1,if_pos h1,List.getElem?_take,if_pos h1];exact hRg _ h1
      ·rw[if_neg h1,if_neg h1];by_cases h2:i*ty.size+j<k*ty.size+ty.size
       ·rw[if_pos (by omega),if_pos h2,if_pos h2]
       ·rw[if_neg (by omega),if_pos (by rw[ES];omega),if_neg h2]
        congr 1;omega) ⟨KO,rfl,rfl,rfl⟩
    rw[fT] at hr;exact hr
theorem PQ:∀t:Ty,rQ t t=true
 |.int k=>by cases k<;>rfl
 |.bool=>rfl
 |.sl t=>PQ t
 |.pair a b=>by show(rQ a a&&rQ b b)=true;rw[PQ a,PQ b];rfl
theorem vP2 t xs:im t t xs=some xs:=by
 unfold im;rw[dif_pos (PQ t)]
theorem vGi {P}{f t e ti:Nat}{ty b fn}(W:PM P f t ti ty.size)(hu:P.underlying t=some (.slice e):=by kernel_rfl) (uc:P.underlying ti=some (.int .i64):=by kernel_rfl) (dK:kB P e=some ty:=by kernel_rfl) (hb:P.bytesOf e=b:=by kernel_rfl)
  (hf:P.funcs[f]? =some fn:=by kernel_rfl) (ET:fn.body.isNone=false:=by kernel_rfl) (hn:(fn.name== "runtime.NumGoroutine")=false:=by kernel_rfl):zC P (f,XV ty b):=by
 subst hb;refine⟨fun k nm args h v u hy=>?_,yTd («as»:=KJ ty) (rs:=.c (.own ty)) (os:=[]) (ns:=0) (S:=fun _ d=>ins (P.bytesOf e) d.1 d.2.1 d.2.2.1) (pack:=fun x=>(x,()))⟩;refine yO3 (na:=0) («as»:=KJ ty) (rs:=.c (.own ty)) (os:=[]) (ns:=0) (unpack:=fun d=>d.1) (Kp hf ET hn) (fun _=>rfl) rfl (fun d x hx M w vs hh hH ok hv=>?_) hy;refine(XZ (ia:=500) (ib:=501) (nm:=600) W hu uc dK hH ok (by decide) (by rw[hh];rfl) (by rw[hh];rfl) (by rw[hh];rfl) hv hx).mono fun ex w' he=>?_
 cases ex with
 |panicked _=>omega
 |outgrown=>omega
 |returned rv=>
  obtain⟨M',a1,a2,a3,a4,a5,a6,a7,a8⟩:=he;refine⟨.c (.osl 600 none),⟨fun _=>.undef,M'.h⟩,?_,M',rfl,a4,a6,a7.grow,nofun,a8,a1,a2,a3,by simp⟩;have h6:M'.h 600=some (.arr true ty x):=by rw[a5];rfl
  have h7:pZ M'.h (.own ty) (.osl 600 none)=some x:=by
   show(match M'.h 600 with|some (.arr true s xs)=>im s ty xs|_=>none)=_;rw[h6];exact vP2 ty x
  have h8:kO M'.h ([RC.own ty]++[]) [.osl 600 none]=some (x,()):=by
   show kO M'.h [RC.own ty] [qC.osl 600 none]=_;simp[kO,h7]
  have e:xA ⟨fun _=>.undef,M'.h⟩ (KJ ty) (.c (.own ty)) [] 0 (.c (.osl 600 none))=some (x,()):=by
   have e1:xA ⟨fun _=>.undef,M'.h⟩ (KJ ty) (.c (.own ty)) [] 0 (.c (.osl 600 none))=kO M'.h ([RC.own ty]++[]) [qC.osl 600 none]:=rfl;grind
  unfold Ky;rw[e]
theorem X3 {P} w {o:Oper}{a K Q} d s t t'
  (ho:o.op=.call {callee:=.builtin .copy,args:=#[d,s],argTypes:=#[t,t']}) v u (hd:a.eval d=v) (hs:a.eval s=u) {v' w'}
  (hr:(Builtin.copy_ #[t,t'] o.type #[v,u]).run P w=.ok v' w') (h:K (a.put o.dst v') w'):o.wp P a w K Q:=by
 unfold Oper.wp execOp;simp[ho,resolve,invoke,builtin,hd,hs,hr];exact h
theorem PR {P} w {ops rest o a Q}(Bp:o.guard=none) d s t t'
  (ho:o.op=.call {callee:=.builtin .copy,args:=#[d,s],argTypes:=#[t,t']}) v u (hd:a.eval d=v) (hs:a.eval s=u) {v' w'}
  (hr:(Builtin.copy_ #[t,t'] o.type #[v,u]).run P w=.ok v' w') (h:wpList P ops Q rest (a.put o.dst v') w'):wpList P ops Q (o::rest) a w:=
 wpList_plain Bp fun _ hK=>X3 w d s t t' ho v u hd hs hr (hK _ _ h)
theorem PS {P ops o a w K Q E}
  (hg:o.guard=none) d x dT sT (ss:o.op=Op.call {callee:=Callee.builtin Builtin.copy,args:=#[d,x],argTypes:=#[dT,sT]})
  v u (hd:a.eval d=v) (hx:a.eval x=u) {v' w'} (hr:(Builtin.copy_ #[dT,sT] o.type #[v,u]).run P w=.ok v' w') (hK:K (a.put o.dst v') w'):
  if Region.wanted o (yielded ops a.tmps)=true then Oper.wp P o a w K Q else E:=by
 have hw:Region.wanted o (yielded ops a.tmps)=true:=by simp[Region.wanted,hg]
 rw[if_pos hw];unfold Oper.wp;simp[execOp,ss,resolve,invoke,builtin,hd,hx,hr];exact hK
end Go.Ab
