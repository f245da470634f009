/- Plain proofs, part 2. -/
import Derived.Test.YtmbkgcillafidaaGreatGiQB
import Derived.Test.YtmbkgcillafidaaGreatGiQA
import Derived.Test.YtmbkgcillafidaaGreatGiXS
set_option linter.unusedVariables false
set_option linter.unusedSimpArgs false
set_option maxRecDepth 100000
namespace Go.Ab.Gi
open Go.Ab
theorem abW {c:Nat}{l:EQ}(h:∀x∈l,x.length≤c):(yK l).length≤8*(c+1)*l.length:=by
 induction l with
 |nil=>simp[yK]
 |cons x l ih=>
  have h1:=ih fun y hy=>h y (List.mem_cons_of_mem _ hy)
  have h2:=h x (List.mem_cons_self ..);have h3:8*(c+1)*(l.length+1)=8*(c+1)*l.length+8*(c+1):=Nat.mul_succ _ _;simp only[yK,List.flatMap_cons,ay,sX,List.length_cons] at h1⊢;rw[h3];omega
theorem qY5 {l:EQ}{n:Nat}(h:∀i,i<l.length→(l.getD i []).length=n){x:AC}(hx:x∈l):x.length=n:=by
 obtain⟨i,hi,e⟩:=List.mem_iff_getElem.1 hx;have:=h i hi;rw[bT,List.getElem?_eq_getElem hi] at this;rw[←e];exact this
theorem abX {r:qQ}(hr:jC r){s:qI}(h:yJ r s):∃l,jb s.st=l++[s.ids]∧l.length≤67∧∀x∈l,x.length≤9:=by
 have n6:=h.bk.n6;have n1:=h.bk.n1;have hm:=h.waits.len;have h3:=hr.n3;have hb:jA s.B.1 s.B.2.1 s.B.2.2.1 s.B.2.2.2:=h.bk;have hL:=h.laid 0 (by omega);have hol:=h.hol;refine⟨_,rfl,?_,fun x hx=>?_⟩
 ·simp only[ay,List.length_cons,List.length_nil,List.length_map];show 0+1+s.B.1.length+s.B.2.1.length+(0+1)+s.B.2.2.2.length+(0+1)+s.ho.length+s.m.length≤67;have:=hb.bl;have:=hb.pl;omega
 ·simp only[List.mem_append,List.mem_singleton,List.mem_map] at hx;rcases hx with(((((((rfl|⟨a,_,rfl⟩)|hx)|rfl)|hx)|rfl)|hx)|⟨a,_,rfl⟩)
  ·simp
  ·simp[lK]
  ·have:=qY5 (l:=s.B.2.1) (fun i hi=>hb.br i (by have:=hb.bl;omega)) hx;omega
  ·show s.B.2.2.1.length≤9;have:=hb.ml;omega
  ·have:=qY5 (l:=s.B.2.2.2) (fun i hi=>hb.pr i (by have:=hb.pl;omega)) hx;omega
  ·show s.pr.length≤9;rw[hL.pl];omega
  ·have:=qY5 (l:=s.ho) (fun i hi=>(h.laid i (by omega)).hl) hx;omega
  ·simp[lL]
theorem abY {k:Nat}(hk:9999≤k){r:qQ}(hr:jC r){s:qI}(h:yJ r s):∃b,kl k s.st=some b∧b=yK (jb s.st)∧b.length≤7000:=by
 obtain⟨l,e,h1,h2⟩:=abX hr h;have hi:=h.waits.idl;have hf:jG (jb s.st):=by
  rw[e];refine⟨by rw[ay];simp;omega,fun x hx=>?_⟩;rcases List.mem_append.1 hx with hx|hx
  ·have:=h2 x hx;omega
  ·rw[List.mem_singleton.1 hx];omega
 refine⟨_,yLv hk hf,rfl,?_⟩;rw[e];have:=abW h2;have e2:yK (l++[s.ids])=yK l++fY s.ids:=by simp[yK]
 rw[e2,ay,sX];omega
def gtW (r:qQ)(s:qI)(ev:Int):kk:=(r.1,r.2.1,r.2.2.1,r.2.2.2.1,r.2.2.2.2,s.t,s.B.1,s.B.2.1,s.B.2.2.1,s.B.2.2.2,s.pr,s.ho,s.m,s.ids,s.to,s.ov,ev,false)
structure yE1 (r:qQ) (ev:Int) (N:Nat) (s:qI) (G:kk) (L:wA) (D:vS):Prop where
 g:G=gtW r s ev
 inv:yJ r s
 calm:YZ D
 room:D.1=200000
 x:(kX D 0).length≤20000+100*N
 y:(kX D 1).length≤20000+100*N
 tk:Tk L N
theorem yE1.more {r:qQ}{ev:Int}{N M:Nat}{s:qI}{G:kk}{L:wA}{D:vS}(h:yE1 r ev N s G L D)(hM:N≤M):yE1 r ev M s G L D:=
 ⟨h.g,h.inv,h.calm,h.room,by have:=h.x;omega,by have:=h.y;omega,h.tk.more hM⟩
end Go.Ab.Gi
namespace Go.Ab.Gi
open Go.Ab Go.RowKit
theorem qQw x:IntKind.wrap .u64 x=x%18446744073709551616:=by
 rfl
theorem yVn {X:Type}{L:Nat→Int→Int→Option X}(P:X→Prop)(aI:∀n q t,(∃z,L (n+1) q t=some z∧P z)∨((t+2621440000)%18446744073709551616<4294967296∧∃q',L (n+1) q t=L n q' ((t+2621440000)%18446744073709551616))) n q t:
  ∃z,L (n+3) q t=some z∧P z:=by
 rcases aI (n+2) q t with h|⟨h1,q1,e1⟩
 ·exact h
 rw[e1];generalize ht:(t+2621440000)%18446744073709551616=t1 at h1;rcases aI (n+1) q1 t1 with h|⟨h2,q2,e2⟩
 ·exact h
 rw[e2];rcases aI n q2 ((t1+2621440000)%18446744073709551616) with h|⟨h3,_⟩
 ·exact h
 ·omega
theorem vYm s2 s8 av aP bm bh aQ bE:∃z,zv 9999 9999 s2 s8 2621440000 av aP bm bh aQ bE=some z∧(z.2.1=s8∧z.2.2.1=2621440000):=by
 refine yVn (L:=fun n q t=>zv 9999 n s2 s8 2621440000 av aP bm bh q t) (fun z=>z.2.1=s8∧z.2.2.1=2621440000) (fun n q t=>?_) 9996 aQ bE;show(∃z,Nd 9999 (zv 9999 n) s2 s8 2621440000 av aP bm bh q t=some z∧_)∨(_∧∃q',Nd 9999 (zv 9999 n) s2 s8 2621440000 av aP bm bh q t=_);unfold Nd;rw[qQw (t+2621440000)];by_cases h:(t+2621440000)%18446744073709551616≥4294967296
 ·rw[aa h];cases decide (q≥4294967296) with
  |true=>simp
  |false=>
   cases decide (IntKind.wrap .u64 (q*av)>IntKind.wrap .u64 (IntKind.wrap .u64 (4294967296*t)+bm))<;>exact by simp
 ·rw[ab h];cases decide (q≥4294967296) with
  |true=>grind
  |false=>
   cases decide (IntKind.wrap .u64 (q*av)>IntKind.wrap .u64 (IntKind.wrap .u64 (4294967296*t)+bm)) with
   |true=>grind
   |false=>simp
theorem vWv s2 s8 av bh aQ bE bc gf:∃z,zw 9999 9999 s2 s8 2621440000 av bh aQ bE bc gf=some z∧z.2.1=s8:=by
 refine yVn (L:=fun n q t=>zw 9999 n s2 s8 2621440000 av bh aQ t bc q) (fun z=>z.2.1=s8) (fun n q t=>?_) 9996 gf bE;show(∃z,Nf 9999 (zw 9999 n) s2 s8 2621440000 av bh aQ t bc q=some z∧_)∨(_∧∃q',Nf 9999 (zw 9999 n) s2 s8 2621440000 av bh aQ t bc q=_);unfold Nf;rw[qQw (t+2621440000)];by_cases h:(t+2621440000)%18446744073709551616≥4294967296
 ·rw[aa h];cases decide (q≥4294967296) with
  |true=>simp
  |false=>
   cases decide (IntKind.wrap .u64 (q*av)>IntKind.wrap .u64 (IntKind.wrap .u64 (4294967296*t)+bh))<;>exact by simp
 ·rw[ab h];cases decide (q≥4294967296) with
  |true=>grind
  |false=>
   cases decide (IntKind.wrap .u64 (q*av)>IntKind.wrap .u64 (IntKind.wrap .u64 (4294967296*t)+bh)) with
   |true=>grind
   |false=>simp
theorem abZ {Y:Type}{F:zW→Option Y}{s2 s8 av aP bm bh aQ bE}(hF:∀z:zW,z.2.1=s8→z.2.2.1=2621440000→∃y,F z=some y):
  ∃y,(zv 9999 9999 s2 s8 2621440000 av aP bm bh aQ bE).bind F=some y:=by
 obtain⟨z,h,h1,h2⟩:=vYm s2 s8 av aP bm bh aQ bE;grind
theorem ab0 {Y:Type}{F:Ow→Option Y}{s2 s8 av bh aQ bE bc gf}(hF:∀z:Ow,z.2.1=s8→∃y,F z=some y):
  ∃y,(zw 9999 9999 s2 s8 2621440000 av bh aQ bE bc gf).bind F=some y:=by
 obtain⟨z,h,h1⟩:=vWv s2 s8 av bh aQ bE bc gf;grind
theorem vNr {hi lo}(h:0≤hi∧hi<10000):∃x,Gz 9999 hi lo 10000=some x:=by
 unfold Gz;rw[ab (by simp),ab (by grind)];by_cases h0:hi=0
 ·simp_all
 ·rw[ab h0,show qYr 9999 10000=some 50 from by rfl];simp only[ae];have w1:IntKind.wrap .u64 50=50:=by rfl
  have w2:IntKind.wrap .u64 (64-50)=14:=by rfl
  have w3:shr .u64 (shl .u64 10000 50) 32=2621440000:=by rfl
  rw[w1,w2,w3,ab (by simp),ab (by simp),ab (by simp)];refine abZ fun z z1 z2=>?_
  rw[z2,ab (by simp)];refine ab0 fun y y1=>?_
  simp_all
theorem vXg x:0≤IntKind.wrap .u64 x:=by
 rw[qQw];omega
theorem vHs k x y:∃hi lo,Gy k x y=some (hi,lo)∧0≤hi:=by
 exact⟨_,_,rfl,vXg _⟩
theorem ab1 c:∃b,L6 9999 c=some b:=by
 unfold L6;cases decide (c≥0)<;>exact by simp
theorem vSh p m c:∃n ok,GA 9999 p m c=some (n,ok)∧(m<0→ok=false)∧(-9223372036854775808≤n∧n<9223372036854775808):=by
 unfold GA;by_cases h1:p<0
 ·simp_all
 rw[ab h1];by_cases h2:m<0
 ·simp_all
 rw[ab h2];obtain⟨b,hb⟩:=ab1 c;rw[hb];cases b with
 |false=>simp
 |true=>
 rw[ae,aA,ak];obtain⟨hi,lo,e1,e2⟩:=vHs 9999 (IntKind.wrap .u64 p) (IntKind.wrap .u64 m);rw[e1];rw[ae];obtain ⟨⟨q, t⟩, e3⟩ := vNr (hi := Int.tmod hi 10000) (lo := lo) (by
  grind)
 rw[e3];rw[ae];obtain⟨a,b,e4,_⟩:=vHs 9999 q (IntKind.wrap .u64 (zA (10000-c)));rw[e4];rw[ae];obtain⟨⟨d,e⟩,e5⟩:∃x,BY 9999 b (IntKind.wrap .u64 (Int.tdiv (IntKind.wrap .u64 (t*IntKind.wrap .u64 (zA (10000-c)))) 10000)) 0=some x:=⟨_,rfl⟩;rw[e5];rw[ae];have hw:-9223372036854775808≤zA d∧zA d<9223372036854775808:=⟨YL d,YM d⟩;cases decide (IntKind.wrap .u64 (Int.tdiv hi 10000)>0)<;>cases decide (IntKind.wrap .u64 (zA (10000-c))>0)<;>cases decide (IntKind.wrap .u64 (a+e)>0)<;>cases decide (d>9223372036854775807)<;>first|simp_all|simp
theorem ab2 {sa:List oz}{pr h}(hn:sa.length≤3)(hp:pr.length=sa.length)(hl:h.length=sa.length):∃n ok,nv 9999 sa pr h=some (n,ok)∧((∃j,j<h.length∧h.getD j 0<0)→ok=false):=by
 have key:∀(c i n:Nat) (r:AC),i+c=sa.length→c<n→r.length=i→(∀j,j<r.length→-9223372036854775808≤r.getD j 0∧r.getD j 0<9223372036854775808)→(∀j,j<i→¬h.getD j 0<0)→
   (∃l,rf 9999 n pr h sa (sa.length:Int) (i:Int) r=some (.inl l)∧l.length=sa.length∧(∀j,j<l.length→-9223372036854775808≤l.getD j 0∧l.getD j 0<9223372036854775808)∧∀j,j<sa.length→¬h.getD j 0<0)∨rf 9999 n pr h sa (sa.length:Int) (i:Int) r=some (.inr (0,false)):=by
  intro c
  induction c with
  |zero=>
   intro i n r h1 h2 h3 h4 h5;obtain⟨n,rfl⟩:=aoa n;refine .inl ⟨r,?_,by omega,h4,fun j hj=>h5 j (by omega)⟩;show td 9999 _ pr h sa (sa.length:Int) (i:Int) r=_;unfold td;rw[ab];rfl
  |succ c ih=>
   intro i n r h1 h2 h3 h4 h5;obtain⟨n,rfl⟩:=aoa n;obtain⟨v,ok,w1,w2,w3⟩:=vSh (pr.getD i 0) (h.getD i 0) (sa.getD i (0,0)).2;have st:rf 9999 (n+1) pr h sa (sa.length:Int) (i:Int) r=bif !ok then some (.inr (0,false)) else rf 9999 n pr h sa (sa.length:Int) ((i+1:Nat):Int) (r++[v]):=by
    show td 9999 (rf 9999 n) pr h sa (sa.length:Int) (i:Int) r=_;unfold td;rw[aa,wT,wT,wT,ao,w1,qF,qD (N:=sa.length) (by omega) (by omega)];rfl
   cases ok with
   |false=>exact .inr (by rw[st];rfl)
   |true=>
    rw[st];refine ih (i+1) n (r++[v]) (by omega) (by omega) (by rw[ay,h3];rfl) (fun j hj=>?_) fun j hj=>?_
    ·rw[ay,List.length_singleton] at hj;by_cases q:j<r.length
     ·rw[bT,List.getElem?_append_left q,←bT];exact h4 j q
     ·have:j=r.length:=by omega
      subst this;rw[bT,List.getElem?_append_right (Nat.le_refl _),Nat.sub_self];exact w3
    ·by_cases q:j<i
     ·exact h5 j q
     ·have:j=i:=by omega
      subst this;intro ab3;have:=w2 ab3;cases this
 unfold nv;rw[aa (show(pr.length:Int)=(sa.length:Int) by omega),aa (show(h.length:Int)=(sa.length:Int) by omega)];simp only[aA,ak];have k0:=key sa.length 0 9999 [] (by omega) (by omega) rfl (fun j hj=>absurd hj (Nat.not_lt_zero j)) (fun j hj=>absurd hj (Nat.not_lt_zero j));rw[show((0:Nat):Int)=0 from rfl] at k0;rcases k0 with⟨l,e,l1,l2,l3⟩|e
 ·rw[e];simp only[ae];rw[yD7 (by omega) (by omega) l2];simp only[ae];refine by grind
 ·rw[e];exact⟨0,false,rfl,fun _=>rfl⟩
theorem ab4 (k:Nat){h l n:Int}(hh:-4503599627370496≤h∧h≤4503599627370496)(hl:0≤l∧l<4294967296)(hn:-9223372036854775808≤n∧n<9223372036854775808):
  Sk k h l n=some ((h*4294967296+l+n)/4294967296,(h*4294967296+l+n)%4294967296):=by
 unfold Sk;rw[yLo n,yWi n,zP (x:=h+n/4294967296),zP (x:=l+n%4294967296),yWi,yLo,zP]
 congr 2
 ·omega
 ·omega
def Ib (S:Int):Int×Bool:=if S/4294967296< -2147483648∨S/4294967296≥2147483648 then(0,false) else(S,true)
theorem vQ8 {k:Nat}{l:AC}(hk:l.length<k)(hl:l.length≤1000000)(hr:∀x∈l,-9223372036854775808≤x∧x<9223372036854775808):Ni k l=some (Ib (zQ (fun x=>x) l)):=by
 obtain ⟨s, h1, h2⟩ := vA (L := fun c i (s : Int × Int) => Nj k c l i s.1 s.2) (N := l.length) (fun s => s) (fun i s => s = (zQ (fun x => x) (l.take i) / 4294967296, zQ (fun x => x) (l.take i) % 4294967296)) (fun c s hs=>by
   show Ic k _ l l.length s.1 s.2=_;unfold Ic;simp only [qZ, ab (Nat.lt_irrefl _), ak]) (fun c i s hi hs=>by
   refine⟨(zQ (fun x=>x) (l.take (i+1))/4294967296,zQ (fun x=>x) (l.take (i+1))%4294967296),?_,rfl⟩;show Ic k _ l i s.1 s.2=_;have hb:=B1 (g:=fun x:Int=>x) (A:=9223372036854775808) (l:=l.take i) fun x hx=>by have:=hr x (List.mem_of_mem_take hx);omega
   have hlen:((l.take i).length:Int)≤1000000:=by rw[bZ];omega
   have hb2:((l.take i).length:Int)*9223372036854775808≤1000000*9223372036854775808:=by omega
   have e:zQ (fun x=>x) (l.take (i+1))=zQ (fun x=>x) (l.take i)+l.getD i 0:=by
    rw[←fE l i 0 hi,kU];show _+(l.getD i 0+0)=_;omega
   unfold Ic;simp only[qB,qD hi (show l.length<9223372036854775808 by omega),qZ,ao,aa hi,ag];rw[hs];dsimp only;rw[ab4 k (by omega) (by omega) (hr _ (fD hi))];rw[e];have e2:zQ (fun x=>x) (l.take i)/4294967296*4294967296+zQ (fun x=>x) (l.take i)%4294967296=zQ (fun x=>x) (l.take i):=by omega
   rw[e2];rfl) (s:=(0,0)) hk rfl
 rw[List.take_of_length_le (Nat.le_refl _)] at h2;unfold Ni;rw[h1,h2];simp only[ae];unfold Ib;generalize zQ (fun x=>x) l=S;by_cases c1:S/4294967296< -2147483648
 ·rw[aa c1,if_pos (.inl c1)];rfl
 ·rw[ab c1];by_cases c2:S/4294967296≥2147483648
  ·rw[aa c2,if_pos (.inr c2)];rfl
  ·rw[ab c2,if_neg (by omega),aaR,zP (x:=S/4294967296*4294967296),zP];simp only[ak]
   congr 2
   omega
def rA (m:List zJ)(i:Nat):Bool:=decide (i=0)||wE (m.getD (i-1) pd) (m.getD i pd)
def tx (m:List zJ):Bool:=zY (fun i=>decide (fi m (m.getD i pd).1=(i:Int))&&rA m i) m.length 0&&decide ((m.length:Int)≤40)
theorem ab5 {m:List zJ}(hm:m.length≤2400):Nk 9999 m=some (tx m):=by
 have l0 : zx 9999 9999 m 0 = _ := eQ (L := fun n i => zx 9999 n m i) (N := m.length) (fun i => decide (fi m (m.getD i pd).1 = (i : Int)) && rA m i) (.inl m) (.inr false) (fun n=>by
  show Ie 9999 (zx 9999 n) m (m.length:Int)=_;unfold Ie;rw[ab (Int.lt_irrefl _)];rfl) (fun n i hi=>by
  show Ie 9999 (zx 9999 n) m (i:Int)=_;unfold Ie;have e:m.getD i (0,0,0,0,0,0,0)=m.getD i pd:=rfl;rw[aa (show(i:Int)<m.length by omega),qB,aa hi,ao,e,LP (by omega) (by omega),qD hi (by omega)];simp only[ae];cases decide (fi m (m.getD i pd).1=(i:Int)) with
  |false=>rfl
  |true=>
   cases i with
   |zero=>rfl
   |succ i=>
    have w:zA (((i+1:Nat):Int)-1)=(i:Int):=by rw[zP];omega
    rw[aa (show((i+1:Nat):Int)>0 by omega),w,qB,aa (show i<m.length by omega),ao];refine(congrArg (fun z=>Option.bind z _) (qWg 9999 (m.getD i pd) (m.getD (i+1) pd))).trans ?_;have ea:rA m (i+1)=wE (m.getD i pd) (m.getD (i+1) pd):=by rfl
    rw[ea];cases wE (m.getD i pd) (m.getD (i+1) pd)<;>rfl) (n:=9999) (by omega)
 unfold Nk;rw[l0];unfold tx;cases zY (fun i=>decide (fi m (m.getD i pd).1=(i:Int))&&rA m i) m.length 0<;>rfl
theorem vUg {m}(h:tx m=true):qP m∧nA m∧m.length≤40:=by
 unfold tx at h;rw[aR,wJ] at h;have h1:∀i,i<m.length→fi m (m.getD i pd).1=(i:Int)∧rA m i=true:=by grind
 have h2:=uH h.2;refine⟨?_,?_,by omega⟩
 ·unfold qP;rw[List.pairwise_iff_getElem];grind
 ·unfold nA;rw[List.pairwise_iff_getElem];intro i j hi hj mZ;have key:∀c,i+c+1<m.length→wE (m.getD i pd) (m.getD (i+c+1) pd)=true:=by
   intro c
   induction c with
   |zero=>
    intro hl;have:=(h1 (i+0+1) hl).2;unfold rA at this;simp_all
   |succ c ih=>
    intro hl;have:=(h1 (i+(c+1)+1) hl).2;exact yYg (by grind) this
  have:=key (j-i-1) (by omega);rw[show i+(j-i-1)+1=j by omega,CF (d:=pd) m hi,CF (d:=pd) m hj] at this;omega
def zy (ids:AC)(i:Nat):Bool:= !decide (ids.getD i 0<1)&&(decide (i=0)|| !decide (ids.getD i 0≤ids.getD (i-1) 0))
def wa (ids:AC):Bool:=zY (zy ids) ids.length 0&&decide ((ids.length:Int)≤200)
theorem ab6 {ids}(hm:ids.length≤2400):Nl 9999 ids=some (wa ids):=by
 have l0 : CY 9999 9999 ids 0 = _ := eQ (L := fun n i => CY 9999 n ids i) (N := ids.length) (zy ids) (.inl ids) (.inr false) (fun n=>by
  show Ig 9999 (CY 9999 n) ids (ids.length:Int)=_;unfold Ig;rw[ab (Int.lt_irrefl _)];rfl) (fun n i hi=>by
  show Ig 9999 (CY 9999 n) ids (i:Int)=_;unfold Ig zy;rw[aa (show(i:Int)<ids.length by omega),qB,aa hi,ao,qD hi (by omega)];simp only[ag];cases decide (ids.getD i 0<1) with
  |true=>rfl
  |false=>
   cases i with
   |zero=>rfl
   |succ i=>
    have w:zA (((i+1:Nat):Int)-1)=(i:Int):=by rw[zP];omega
    rw[aa (show((i+1:Nat):Int)>0 by omega),w,qB,aa (show i<ids.length by omega),ao,ab (show¬i+1=0 by omega)];simp only[ag,Nat.add_sub_cancel,Bool.false_or];cases decide (ids.getD (i+1) 0≤ids.getD i 0)<;>rfl) (n:=9999) (by omega)
 unfold Nl;rw[l0];unfold wa;cases zY (zy ids) ids.length 0<;>rfl
theorem yRn {ids}(h:wa ids=true):qy ids∧(∀x∈ids,1≤x)∧ids.length≤200:=by
 unfold wa at h;rw[aR,wJ] at h;have h1:∀i,i<ids.length→1≤ids.getD i 0∧(i=0∨ids.getD (i-1) 0<ids.getD i 0):=fun i hi=>by
  have:=h.1 i hi;unfold zy at this;simp_all
 have h2:=uH h.2;refine⟨?_,fun x hx=>?_,by omega⟩
 ·unfold qy;rw[List.pairwise_iff_getElem];intro i j hi hj mZ;have key:∀c,i+c+1<ids.length→ids.getD i 0<ids.getD (i+c+1) 0:=by
   intro c
   induction c with
   |zero=>
    grind
   |succ c ih=>
    grind
  have:=key (j-i-1) (by omega);rw[show i+(j-i-1)+1=j by omega,CF (d:=0) ids hi,CF (d:=0) ids hj] at this;omega
 ·obtain⟨i,hi,rfl⟩:=List.mem_iff_getElem.1 hx;simp_all
theorem ab7 {ids}(hl:ids.length≤2400) id:CI 9999 ids id=some (decide (id∈ids)):=by
 have l0 : tu 9999 9999 ids id 0 = _ := eQ (L := fun n i => tu 9999 n ids id i) (N := ids.length) (fun i => !decide (ids.getD i 0 = id)) (.inl ()) (.inr true) (fun n=>by
  show tv 9999 (tu 9999 n) ids id (ids.length:Int)=_;unfold tv;simp) (fun n i hi=>by
  show tv 9999 (tu 9999 n) ids id (i:Int)=_;unfold tv;rw[aa (by grind),qB,aa hi,ao,qD hi (by omega)];simp) (n:=9999) (by omega)
 unfold CI;by_cases h:id∈ids
 ·obtain⟨i,hi,e⟩:=List.mem_iff_getElem.1 h;have:zY (fun i=> !decide (ids.getD i 0=id)) ids.length 0=false:=by
   cases q:zY (fun i=> !decide (ids.getD i 0=id)) ids.length 0 with
   |false=>rfl
   |true=>
    have:=wJ.1 q i hi;simp_all
  simp_all
 ·have:zY (fun i=> !decide (ids.getD i 0=id)) ids.length 0=true:=wJ.2 (by grind);simp_all
def nE (s:qI)(p:zJ):Bool:=px s.B.1.length p&&(!decide (p.2.2.2.2.2.1<0)&&(!decide (p.2.2.2.2.2.2<p.2.2.2.2.2.1)&&(!decide (p.2.2.2.2.2.2>1048576)&&decide (p.1∈s.ids))))
def wb (s:qI):Bool:=tx s.m&&(wa s.ids&&zY (fun i=>nE s (s.m.getD i pd)) s.m.length 0)
theorem ab8 {s:qI}(hm:s.m.length≤2400)(hi:s.ids.length≤2400):Nm 9999 s.st=some (wb s):=by
  have em:s.st.2.2.2.2.2.2.2.1=s.m:=rfl;have ei:s.st.2.2.2.2.2.2.2.2.1=s.ids:=rfl;have ea:s.st.2.1=s.B.1:=rfl;have l0 : zz 9999 9999 0 s.st = _ := eQ (L := fun n i => zz 9999 n i s.st) (N := s.m.length) (fun i => nE s (s.m.getD i pd)) (.inl ()) (.inr false) (fun n=>by
    show Ih 9999 (zz 9999 n) (s.m.length:Int) s.st=_;unfold Ih;rw[em,ab (Int.lt_irrefl _)];rfl) (fun n i bI=>by
    show Ih 9999 (zz 9999 n) (i:Int) s.st=_;unfold Ih nE;have e:s.m.getD i (0,0,0,0,0,0,0)=s.m.getD i pd:=rfl;rw[em,ei,ea,aa (show(i:Int)<s.m.length by omega),qB,aa bI,ao,e,vDa,ab7 hi,qD bI (by omega)];simp only[ag,ae];have e':((s.m.getD i pd).1,(s.m.getD i pd).2.1,(s.m.getD i pd).2.2.1,(s.m.getD i pd).2.2.2.1,(s.m.getD i pd).2.2.2.2.1,(s.m.getD i pd).2.2.2.2.2.1,(s.m.getD i pd).2.2.2.2.2.2)=s.m.getD i pd:=rfl;rw[e'];cases px s.B.1.length (s.m.getD i pd)<;>cases decide ((s.m.getD i pd).2.2.2.2.2.1<0)<;>cases decide ((s.m.getD i pd).2.2.2.2.2.2<(s.m.getD i pd).2.2.2.2.2.1)<;>cases decide ((s.m.getD i pd).2.2.2.2.2.2>1048576)<;>cases decide ((s.m.getD i pd).1∈s.ids)<;>rfl) (n:=9999) (by omega)
  have e0:Nm 9999 s.st=(Nk 9999 s.m).bind fun x0=>
     bif !x0 then some false
     else(Nl 9999 s.ids).bind fun x1=>
     bif !x1 then some false
     else(zz 9999 9999 0 s.st).bind fun z=>
     match z with
     |.inl z1=>some true
     |.inr z2=>some z2:=rfl
  rw[e0,ab5 hm,ab6 hi,l0];unfold wb;cases tx s.m<;>cases wa s.ids<;>cases zY (fun i=>nE s (s.m.getD i pd)) s.m.length 0<;>rfl
theorem vV7 {s:qI}(h:wb s=true):lg s.B.1.length s.m s.ids:=by
 unfold wb at h;rw[aR,aR,wJ] at h;obtain⟨h1,h2,h3⟩:=h;obtain⟨a1,a2,a3⟩:=vUg h1;obtain⟨b1,b2,b3⟩:=yRn h2;have h4:∀p∈s.m,nE s p=true:=fun p hp=>by
  obtain⟨i,hi,rfl⟩:=List.mem_iff_getElem.1 hp;have:=h3 i hi;rw[CF (d:=pd) s.m hi] at this;exact this
 have h5:∀p∈s.m,yR s.B.1.length p∧(0≤p.2.2.2.2.2.1∧p.2.2.2.2.2.1≤p.2.2.2.2.2.2∧p.2.2.2.2.2.2≤1048576)∧p.1∈s.ids:=fun p hp=>by
  have:=h4 p hp;unfold nE at this;simp only[aR,Bool.not_eq_true',ba,decide_eq_false_iff_not] at this;obtain⟨c1,c2,c3,c4,c5⟩:=this;exact⟨Zm.1 c1,by omega,c5⟩
 exact⟨a1,a3,a2,fun p hp=>(h5 p hp).1,fun p hp=>(h5 p hp).2.1,fun p hp=>(h5 p hp).2.2,b1,b2,b3⟩
def pH (s:qI)(i:Nat):Bool:= !decide (s.pr.getD i 0<0)&& !decide (s.pr.getD i 0>1048576)
def tz (h:AC)(j:Nat):Bool:= !decide (h.getD j 0<0)&& !decide (h.getD j 0>1099511627776)
def z9 (r:qQ)(s:qI)(i:Nat):Bool:=decide (((s.ho.getD i []).length:Int)=(r.2.1.length:Int))&&(zY (tz (s.ho.getD i [])) (s.ho.getD i []).length 0&&(!decide (gH r.2.1 s.pr (s.ho.getD i [])>1152921504606846976)&&decide ((s.B.1.getD i ad).2.1=gH r.2.1 s.pr (s.ho.getD i []))))
def Au (r:qQ)(s:qI):Bool:=decide ((s.pr.length:Int)=(r.2.1.length:Int))&&(decide ((s.ho.length:Int)=r.1)&&(zY (pH s) s.pr.length 0&&zY (z9 r s) s.B.1.length 0))
theorem qN0 {r:qQ}(hr:jC r){s:qI}(hp:(s.pr.length:Int)=(r.2.1.length:Int))(h1:zY (pH s) s.pr.length 0=true){h:AC}(hl:(h.length:Int)=(r.2.1.length:Int))(h2:zY (tz h) h.length 0=true):kq r.2.1 s.pr h:=by
 rw[wJ] at h1 h2;refine⟨hr.n3,by omega,by omega,hr.cut,fun i hi=>?_,fun i hi=>?_⟩
 ·have:=h1 i (by omega);unfold pH at this;simp only[aR,Bool.not_eq_true',decide_eq_false_iff_not] at this;omega
 ·have:=h2 i (by omega);unfold tz at this;simp only[aR,Bool.not_eq_true',decide_eq_false_iff_not] at this;omega
theorem ab9 {r:qQ}(hr:jC r){s:qI}(hn:(s.B.1.length:Int)=r.1):Nn 9999 r s.st=some (Au r s):=by
  have ep:s.st.2.2.2.2.2.1=s.pr:=rfl;have eh:s.st.2.2.2.2.2.2.1=s.ho:=rfl;have ea:s.st.2.1=s.B.1:=rfl;have h3:=hr.n3;have hpa:=hr.pa;have e0:Nn 9999 r s.st=bif !(decide ((s.pr.length:Int)=(r.2.1.length:Int))) then some false
    else bif !(decide ((s.ho.length:Int)=r.1)) then some false
    else(Av 9999 9999 0 r s.st).bind fun z=>
    match z with
    |.inl z1=>(Aw 9999 9999 0 z1.1 z1.2).bind fun z5=>
     match z5 with
     |.inl z6=>some true
     |.inr z7=>some z7
    |.inr z8=>some z8:=rfl
  rw[e0];unfold Au;by_cases hp:(s.pr.length:Int)=(r.2.1.length:Int)
  case neg=>rw[ab hp];rfl
  by_cases ho:(s.ho.length:Int)=r.1
  case neg=>rw[aa hp,ab ho];rfl
  rw[aa hp,aa ho];simp only[aA,ak,Bool.true_and];have l0 : Av 9999 9999 0 r s.st = _ := eQ (L := fun n i => Av 9999 n i r s.st) (N := s.pr.length) (pH s) (.inl (r, s.st)) (.inr false) (fun n=>by
    show Ii 9999 (Av 9999 n) (s.pr.length:Int) r s.st=_;unfold Ii;rw[ep,ab (Int.lt_irrefl _)];rfl) (fun n i hi=>by
    show Ii 9999 (Av 9999 n) (i:Int) r s.st=_;unfold Ii pH;rw[ep,aa (show(i:Int)<s.pr.length by omega),qB,aa hi,ao,qD hi (by omega)];cases decide (s.pr.getD i 0<0)<;>cases decide (s.pr.getD i 0>1048576)<;>rfl) (n:=9999) (by omega)
  rw[l0];cases hpb:zY (pH s) s.pr.length 0 with
  |false=>rfl
  |true=>
  simp only[ag,ae,Bool.true_and];have l2:∀i,i<s.ho.length→(s.ho.getD i []).length=r.2.1.length→CZ 9999 9999 (i:Int) 0 r s.st=some (bif zY (tz (s.ho.getD i [])) (s.ho.getD i []).length 0 then .inl ((i:Int),r,s.st) else .inr false):=fun i mi hl=>
    eQ (L := fun n j => CZ 9999 n (i : Int) j r s.st) (N := (s.ho.getD i []).length) (tz (s.ho.getD i [])) (.inl ((i : Int), r, s.st)) (.inr false) (fun n=>by
      show Ij 9999 (CZ 9999 n) (i:Int) ((s.ho.getD i []).length:Int) r s.st=_;unfold Ij;rw[eh,qB,aa mi,ao,ab (Int.lt_irrefl _)];rfl) (fun n j hj=>by
      show Ij 9999 (CZ 9999 n) (i:Int) (j:Int) r s.st=_;unfold Ij tz;rw[eh,qB,aa mi,ao,ao,aa (show(j:Int)<(s.ho.getD i []).length by omega),qB,aa hj,qD hj (by omega)];cases decide ((s.ho.getD i []).getD j 0<0)<;>cases decide ((s.ho.getD i []).getD j 0>1099511627776)<;>rfl) (n:=9999) (by omega)
  have l1 : Aw 9999 9999 0 r s.st = _ := eQ (L := fun n i => Aw 9999 n i r s.st) (N := s.B.1.length) (z9 r s) (.inl ()) (.inr false) (fun n=>by
    show Ik 9999 (Aw 9999 n) (s.B.1.length:Int) r s.st=_;unfold Ik;rw[ab (show¬(s.B.1.length:Int)<r.1 by omega)];rfl) (fun n i hi=>by
    show Ik 9999 (Aw 9999 n) (i:Int) r s.st=_;unfold Ik z9;have mi:i<s.ho.length:=by omega
    have ed:s.B.1.getD i (0,0,0)=s.B.1.getD i ad:=rfl;rw[eh,aa (show(i:Int)<r.1 by omega),qB,aa mi,ao];by_cases hl:((s.ho.getD i []).length:Int)=(r.2.1.length:Int)
    case neg=>rw[ab hl];rfl
    rw[aa hl,l2 i mi (by omega)];simp only[ag,ae,aA,ak,Bool.true_and];cases hh:zY (tz (s.ho.getD i [])) (s.ho.getD i []).length 0 with
    |false=>rfl
    |true=>
      have L:=qN0 hr hp hpb hl hh;simp only[ag,Bool.true_and];rw[eh,ep,ea,qB,aa mi,ao,qPl L,qB,aa hi,ed,qD hi (by omega)];simp only[ag,ae,aA,ak];cases decide (gH r.2.1 s.pr (s.ho.getD i [])>1152921504606846976)<;>cases decide ((s.B.1.getD i ad).2.1=gH r.2.1 s.pr (s.ho.getD i []))<;>rfl) (n:=9999) (by omega)
  rw[l1];cases zY (z9 r s) s.B.1.length 0<;>rfl
def jO (s:qI):Int:=qJ (fun i=>(s.B.1.getD i ad).1) s.B.1.length
def Sl (r:qQ)(s:qI):Bool:=decide (jO s=s.to)&&(decide (jO s≥0)&&(decide (jO s≤1152921504606846976)&&(iR s.ov (decide (s.t=r.2.2.2.1))&&(!s.ov||decide ((s.m.length:Int)=0)))))
def Il (r:qQ)(s:qI):Bool:= !decide (s.t<0)&&(!decide (s.t>r.2.2.2.1)&&(kY s.B.1 s.B.2.1 s.B.2.2.1 s.B.2.2.2&&(decide ((s.B.1.length:Int)=r.1)&&(Au r s&&(wb s&&Sl r s)))))
theorem vPk {r:qQ}(hr:jC r){s:qI}(hm:s.m.length≤2400)(hi:s.ids.length≤2400):Im 9999 r s.st=some (Il r s):=by
  have ea:s.st.2.1=s.B.1:=rfl;have eU:Im 9999 r s.st=bif decide (s.t<0) then some false
     else bif decide (s.t>r.2.2.2.1) then some false
     else(Ff 9999 s.B.1 s.B.2.1 s.B.2.2.1 s.B.2.2.2).bind fun x0=>
     bif !x0 then some false
     else bif !(decide ((s.B.1.length:Int)=r.1)) then some false
     else(Nn 9999 r s.st).bind fun x1=>
     bif !x1 then some false
     else(Nm 9999 s.st).bind fun x2=>
     bif !x2 then some false
     else(C3 9999 9999 0 r s.st []).bind fun z=>
     (Ni 9999 z.2.2).bind fun x3=>
     bif x3.2 then (bif decide (x3.1 = z.2.1.2.2.2.2.2.2.2.2.2.1) then (bif decide (x3.1 ≥ 0) then (bif decide (x3.1 ≤ 1152921504606846976) then (bif iR z.2.1.2.2.2.2.2.2.2.2.2.2 (decide (z.2.1.1 = z.1.2.2.2.1)) then (bif !z.2.1.2.2.2.2.2.2.2.2.2.2 then some true
          else some (decide ((z.2.1.2.2.2.2.2.2.2.1.length:Int)=0)))
         else some false)
        else some false)
       else some false)
      else some false)
     else some false:=rfl
  rw[eU,yS8 (by decide)];unfold Il;cases decide (s.t<0) with
  |true=>rfl
  |false=>
  cases decide (s.t>r.2.2.2.1) with
  |true=>rfl
  |false=>
  simp only[ak,bO,Bool.true_and,ae];cases hb:kY s.B.1 s.B.2.1 s.B.2.2.1 s.B.2.2.2 with
  |false=>rfl
  |true=>
  have vx:=Ft.1 hb;have hZ:=vx.n6;by_cases hn:(s.B.1.length:Int)=r.1
  case neg=>rw[ab hn];rfl
  rw[aa hn,ab9 hr hn];simp only[aA,ak,ae,Bool.true_and];cases Au r s with
  |false=>rfl
  |true=>
  rw[ab8 hm hi];simp only[aA,ak,ae,Bool.true_and];cases wb s with
  |false=>rfl
  |true=>
  obtain ⟨x, h1, h2⟩ := vA (L := fun n j (x : AC) => C3 9999 n j r s.st x) (N := s.B.1.length) (fun x => (r, s.st, x)) (fun j x => x = (List.range j).map fun j => (s.B.1.getD j ad).1) (fun n x _=>by
    show Io 9999 (C3 9999 n) (s.B.1.length:Int) r s.st x=_;unfold Io;rw[ab (show¬(s.B.1.length:Int)<r.1 by omega)];rfl) (fun n j x hj hx=>by
    refine⟨x++[(s.B.1.getD j ad).1],?_,?_⟩
    · show Io 9999 (C3 9999 n) (j:Int) r s.st x=_;unfold Io;have hl:x.length=j:=by rw[hx];simp
      rw[ea,aa (show(j:Int)<r.1 by omega),qB,aa hj,qF,ao,qD hj (by omega)];rfl
    · rw[hx,List.range_succ,List.map_append];rfl) (n:=9999) (s:=[]) (by omega) rfl
  have qw:∀j,j<s.B.1.length→-4611686018427387904<(s.B.1.getD j ad).1∧(s.B.1.getD j ad).1<4611686018427387904:=fun j hj=>(tw.1 (vx.acct j hj)).1
  have hbx:∀y∈x,-9223372036854775808≤y∧y<9223372036854775808:=by
    intro y hm;rw[h2] at hm;obtain⟨j,hj,e⟩:=List.mem_map.1 hm;have:=qw j (List.mem_range.1 hj);rw[←e];omega
  have hlen:x.length=s.B.1.length:=by rw[h2];simp
  have dP:∀(g:Nat→Int) (n:Nat),zQ (fun x=>x) ((List.range n).map g)=qJ g n:=fun g n=>by
    induction n with
    |zero=>rfl
    |succ n ih=>
      rw[List.range_succ,List.map_append,kU,ih];show qJ g n+(g n+0)=qJ g n+g n;omega
  have C4:zQ (fun x=>x) x=jO s:=by rw[h2,dP];rfl
  rw[h1];simp only[aA,ak,ae,Bool.true_and];rw[vQ8 (by omega) (by omega) hbx,C4];have eo:s.st.2.2.2.2.2.2.2.2.2.2=s.ov:=rfl;have em:s.st.2.2.2.2.2.2.2.1=s.m:=rfl;have et:s.st.2.2.2.2.2.2.2.2.2.1=s.to:=rfl;have e1:s.st.1=s.t:=rfl;have hsw:(Ib (jO s)).2=true∧(Ib (jO s)).1=jO s∨(Ib (jO s)).2=false∧(jO s<0∨jO s>1152921504606846976):=by
    unfold Ib;split
    · exact .inr ⟨rfl,by omega⟩
    · exact .inl ⟨rfl,rfl⟩
  simp only[ae];rw[et,e1,eo,em];unfold Sl;rcases hsw with⟨q1,q2⟩|⟨q1,q2⟩
  · rw[q1,q2];cases decide (jO s=s.to)<;>cases decide (jO s≥0)<;>cases decide (jO s≤1152921504606846976)<;>cases iR s.ov (decide (s.t=r.2.2.2.1))<;>cases s.ov<;>rfl
  · rw[q1];have:decide (jO s≥0)=false∨decide (jO s≤1152921504606846976)=false:=by
      rcases q2 with q|q
      · exact .inl ab
      · exact .inr ab
    rcases this with q|q
    · rw[q];cases decide (jO s=s.to)<;>rfl
    · rw[q];cases decide (jO s=s.to)<;>cases decide (jO s≥0)<;>rfl
theorem vQ5 {r:qQ}(hr:jC r){s:qI}(h:Il r s=true):yJ r s:=by
 unfold Il at h;simp only[aR,Bool.not_eq_true',ba,decide_eq_false_iff_not] at h;obtain⟨h1,h2,h3,h4,h5,h6,h7⟩:=h;have vx:=Ft.1 h3;unfold Au at h5;simp only[aR,ba] at h5;obtain⟨a1,a2,a3,a4⟩:=h5;have row:∀i,i<s.B.1.length→kq r.2.1 s.pr (s.ho.getD i [])∧gH r.2.1 s.pr (s.ho.getD i [])≤1152921504606846976∧(s.B.1.getD i ad).2.1=gH r.2.1 s.pr (s.ho.getD i []):=fun i hi=>by
  have:=wJ.1 a4 i hi;unfold z9 at this;simp only[aR,Bool.not_eq_true',ba,decide_eq_false_iff_not] at this;obtain⟨b1,b2,b3,b4⟩:=this;exact⟨qN0 hr a1 a3 b1 b2,by omega,b4⟩
 unfold Sl at h7;simp only[aR,ba] at h7;obtain⟨c1,c2,c3,c4,c5⟩:=h7;have vy:s.ov=decide (s.t=r.2.2.2.1):=by
  cases hx:s.ov<;>cases hy:decide (s.t=r.2.2.2.1)<;>rw[hx,hy] at c4<;>first|rfl|cases c4
 refine⟨by omega,vx,h4,by omega,fun i hi=>(row i hi).1,fun i hi=>(row i hi).2.2,fun i hi=>by rw[(row i hi).2.2];exact(row i hi).2.1,vV7 h6,c1,by rw[←c1];omega,vy,fun e=>?_⟩;rw[e] at c5;have:((s.m.length:Int)=0):=by simpa using c5
 exact List.eq_nil_of_length_eq_zero (by omega)
theorem yU9 {a b}(h:a=true↔b=true):a=b:=by
 simp_all
theorem vQj {m:List zJ}(hm:m.length≤2400):No 9999 m=some (tx m):=by
 have l0 : C5 9999 9999 m m (m.length : Int) 0 = _ := eQ (L := fun n i => C5 9999 n m m (m.length : Int) i) (N := m.length) (fun i => decide (fi m (m.getD i pd).1 = (i : Int))) (.inl m) (.inr false) (fun n=>by
  show Ip 9999 _ m m (m.length:Int) (m.length:Int)=_;unfold Ip;rw[ab (Int.lt_irrefl _)];rfl) (fun n i hi=>by
  show Ip 9999 (C5 9999 n) m m (m.length:Int) (i:Int)=_;unfold Ip;have e:m.getD i (0,0,0,0,0,0,0)=m.getD i pd:=rfl;rw[aa (show(i:Int)<m.length by omega),qB,aa hi,ao,e,Gg (by omega) (by omega),qD hi (by omega)];simp only[ag,ae];cases decide (fi m (m.getD i pd).1=(i:Int))<;>rfl) (n:=9999) (by omega)
 have sorted:∃b,Sm 9999 m=some b∧(b=true↔∀i,i<m.length→rA m i=true):=by
  have qXo:∀a b:zJ,jc b a= !wE a b:=fun a b=>by
   have h1:=MV (q:=a) (p:=b);have h2:=yFg (q:=b) (p:=a);cases h3:wE a b<;>cases h4:jc b a<;>rw[h3] at h1<;>rw[h4] at h2<;>simp at h1 h2<;>first|rfl|omega
  have down:∀(i n:Nat),i<n→i<m.length∨i=0→∃b:Bool,C6 9999 n m (i:Int)=some (bif b then .inl () else .inr false)∧(b=true↔∀j,j≤i→rA m j=true):=by
   intro i
   induction i with
   |zero=>
    intro n hn _;obtain⟨n,rfl⟩:∃x,n=x+1:=⟨n-1,by omega⟩;refine⟨true,rfl,fun _ j hj=>?_,fun _=>rfl⟩;have:j=0:=by omega
    subst this;unfold rA;rw[aa rfl];rfl
   |succ i ih=>
    intro n hn hi;obtain⟨n,rfl⟩:∃x,n=x+1:=⟨n-1,by omega⟩;have bI:i+1<m.length:=by omega
    obtain⟨b,b1,b2⟩:=ih n (by omega) (.inl (by omega));obtain⟨x,x1,x2,x3⟩:=qSh (k:=9999) (by omega) (m.getD (i+1) pd) (m.getD i pd);have ea:rA m (i+1)=wE (m.getD i pd) (m.getD (i+1) pd):=by unfold rA;rw[ab];rfl
    have st:C6 9999 (n+1) m ((i+1:Nat):Int)=bif decide (x<0) then some (.inr false) else C6 9999 n m (i:Int):=by
     show Sn 9999 (C6 9999 n) m ((i+1:Nat):Int)=_;unfold Sn;have w:zA (((i+1:Nat):Int)-1)=(i:Int):=by rw[zP];omega
     rw[aa (by simp),w,qB,qB,aa bI,aa (show i<m.length by omega),ao,ao];simp only[ag];refine(congrArg (fun z=>Option.bind z _) x1).trans ?_;rfl
    rw[st,x3,qXo (m.getD i pd) (m.getD (i+1) pd)];cases hl:wE (m.getD i pd) (m.getD (i+1) pd) with
    |false=>
     refine⟨false,rfl,fun h=>(by cases h),fun h=>?_⟩;have:=h (i+1) (Nat.le_refl _);rw[ea,hl] at this;cases this
    |true=>
     refine⟨b,b1,fun h j hj=>?_,by grind⟩;by_cases q:j=i+1
     ·subst q;rw[ea];exact hl
     ·exact b2.1 h j (by omega)
  unfold Sm;by_cases hz:m.length=0
  ·have:m=[]:=List.eq_nil_of_length_eq_zero hz;subst this;have w:zA (((([]:List zJ).length:Nat):Int)-1)= -1:=by rw[zP (by decide) (by decide)];rfl
   rw[w];exact⟨true,rfl,by simp,fun _=>rfl⟩
  ·have w:zA ((m.length:Int)-1)=((m.length-1:Nat):Int):=by rw[zP];omega
   obtain⟨b,b1,b2⟩:=down (m.length-1) 9999 (by omega) (.inl (by omega));rw[w,b1];refine⟨b,by cases b<;>rfl,by grind⟩
 obtain⟨b,s1,s2⟩:=sorted;unfold No;rw[l0];have pick:tx m=(zY (fun i=>decide (fi m (m.getD i pd).1=(i:Int))) m.length 0&&(decide ((m.length:Int)≤40)&&b)):=by
  apply yU9;unfold tx;rw[aR,aR,aR,s2,wJ,wJ];grind
 grind
theorem vWi {ids}(hl:ids.length≤2400):Np 9999 ids=some (wa ids):=by
 have l0 := Lt (L := fun n i (p : Int) => C7 9999 n ids p ids (ids.length : Int) i) (N := ids.length) (fun i => !decide (ids.getD i 0 ≤ if i = 0 then 0 else ids.getD (i - 1) 0)) (fun _ => (.inl ids : AC ⊕ Bool)) (.inr false) (fun i p => p = if i = 0 then 0 else ids.getD (i - 1) 0) (fun n p _=>by
  show Iq 9999 _ ids p ids (ids.length:Int) (ids.length:Int)=_;unfold Iq;simp) (fun n i p hi hp=>by
  have st:C7 9999 (n+1) ids (if i=0 then 0 else ids.getD (i-1) 0) ids (ids.length:Int) (i:Int)=bif decide (ids.getD i 0≤if i=0 then 0 else ids.getD (i-1) 0) then some (.inr false) else C7 9999 n ids (ids.getD i 0) ids (ids.length:Int) ((i+1:Nat):Int):=by
   show Iq 9999 (C7 9999 n) ids _ ids (ids.length:Int) (i:Int)=_;unfold Iq;rw[aa (by grind),qB,aa hi,ao,qD hi (by omega)];rfl
  grind) ids.length 0 9999 0 (by omega) (by omega) rfl
 have same:zY (fun i=> !decide (ids.getD i 0≤if i=0 then 0 else ids.getD (i-1) 0)) ids.length 0=zY (zy ids) ids.length 0:=by
  apply yU9;rw[wJ,wJ];constructor
  ·intro h;have pos:∀i,i<ids.length→1≤ids.getD i 0:=by
    intro i
    induction i with
    |zero=>
     grind
    |succ i ih=>
     grind
   unfold zy;grind
  ·intro h i hi;have h1:=h i hi;unfold zy at h1;grind
 unfold Np wa;grind
theorem aca {s:qI}(hm:s.m.length≤2400)(hi:s.ids.length≤2400):Nq 9999 s.st=some (wb s):=by
 have e1:Nq 9999 s.st=(No 9999 s.m).bind fun x0=>bif x0 then((Np 9999 s.ids).bind fun x1=>bif x1 then((Nr 9999 s.m s.t s.B.1 s.B.2.1 s.B.2.2.1 s.B.2.2.2 s.pr s.ho s.m s.ids s.to s.ov).bind fun x2=>some (!x2)) else some false) else some false:=rfl
 rw[e1,vQj hm,vWi hi];unfold wb;cases tx s.m with
 |false=>rfl
 |true=>
 simp only[ae,ag,Bool.true_and];cases Lc:wa s.ids with
 |false=>rfl
 |true=>
 simp only[ae,ag,Bool.true_and];have acb:=(yRn Lc).1;obtain ⟨x, x1, x2⟩ := pt (L := fun n i => C8 9999 n s.m (s.m.length : Int) i s.t s.B.1 s.B.2.1 s.B.2.2.1 s.B.2.2.2 s.pr s.ho s.m s.ids s.to s.ov) (N := s.m.length) (fun i => !nE s (s.m.getD i pd)) (fun n=>by
  show Ir 9999 _ s.m (s.m.length:Int) (s.m.length:Int) s.t s.B.1 s.B.2.1 s.B.2.2.1 s.B.2.2.2 s.pr s.ho s.m s.ids s.to s.ov=_;unfold Ir;rw[ab (Int.lt_irrefl _)];rfl) (fun n i bI=>by
  show Ir 9999 (C8 9999 n) s.m (s.m.length:Int) (i:Int) s.t s.B.1 s.B.2.1 s.B.2.2.1 s.B.2.2.2 s.pr s.ho s.m s.ids s.to s.ov=_;unfold Ir;have f1:So 9999 (s.m.getD i pd) (s.t,s.B.1,s.B.2.1,s.B.2.2.1,s.B.2.2.2,s.pr,s.ho,s.m,s.ids,s.to,s.ov)=some (!nE s (s.m.getD i pd)):=by
   unfold So nE;rw[Qt,nB,vQv (by omega) (by omega) acb];have e':((s.m.getD i pd).1,(s.m.getD i pd).2.1,(s.m.getD i pd).2.2.1,(s.m.getD i pd).2.2.2.1,(s.m.getD i pd).2.2.2.2.1,(s.m.getD i pd).2.2.2.2.2.1,(s.m.getD i pd).2.2.2.2.2.2)=s.m.getD i pd:=rfl;rw[e'];have d1:decide ((s.m.getD i pd).2.2.2.2.2.2≥(s.m.getD i pd).2.2.2.2.2.1)= !decide ((s.m.getD i pd).2.2.2.2.2.2<(s.m.getD i pd).2.2.2.2.2.1):=by
    by_cases q:(s.m.getD i pd).2.2.2.2.2.2<(s.m.getD i pd).2.2.2.2.2.1
    ·rw[aa q,ab];rfl
    ·rw[ab q,aa];rfl
   have d2:decide ((s.m.getD i pd).2.2.2.2.2.2≤1048576)= !decide ((s.m.getD i pd).2.2.2.2.2.2>1048576):=by
    by_cases q:(s.m.getD i pd).2.2.2.2.2.2>1048576
    ·rw[aa q,ab];rfl
    ·rw[ab q,aa];rfl
   rw[d1,d2];cases px s.B.1.length (s.m.getD i pd)<;>cases decide ((s.m.getD i pd).2.2.2.2.2.1<0)<;>cases decide ((s.m.getD i pd).2.2.2.2.2.2<(s.m.getD i pd).2.2.2.2.2.1)<;>cases decide ((s.m.getD i pd).2.2.2.2.2.2>1048576)<;>cases decide ((s.m.getD i pd).1∈s.ids)<;>rfl
  have e:s.m.getD i (0,0,0,0,0,0,0)=s.m.getD i pd:=rfl;rw[aa (show(i:Int)<s.m.length by omega),qB,aa bI,ao,e,f1,qD bI (by omega)];cases nE s (s.m.getD i pd)<;>rfl) (n:=9999) (by omega)
 have nn:(fun j=> !!nE s (s.m.getD j pd))=fun i=>nE s (s.m.getD i pd):=by funext j;rw[Bool.not_not]
 rw[nn] at x2;have eC:Nr 9999 s.m s.t s.B.1 s.B.2.1 s.B.2.2.1 s.B.2.2.2 s.pr s.ho s.m s.ids s.to s.ov=some (!zY (fun i=>nE s (s.m.getD i pd)) s.m.length 0):=by
  unfold Nr qPj;have x1:C8 9999 9999 s.m (s.m.length:Int) 0 s.t s.B.1 s.B.2.1 s.B.2.2.1 s.B.2.2.2 s.pr s.ho s.m s.ids s.to s.ov=some x:=x1;rw[x1,←x2];cases x<;>rfl
 rw[eC];cases zY (fun i=>nE s (s.m.getD i pd)) s.m.length 0<;>rfl
theorem acd {s:qI}(hp:s.pr.length≤2400):Ns 9999 s.pr=some (!zY (pH s) s.pr.length 0):=by
 obtain ⟨x, x1, x2⟩ := pt (L := fun n i => C9 9999 n s.pr (s.pr.length : Int) i) (N := s.pr.length) (fun i => !pH s i) (fun n=>by
  show Is 9999 _ s.pr (s.pr.length:Int) (s.pr.length:Int)=_;unfold Is;rw[ab (Int.lt_irrefl _)];rfl) (fun n i hi=>by
  show Is 9999 (C9 9999 n) s.pr (s.pr.length:Int) (i:Int)=_;unfold Is qMv pH;rw[aa (show(i:Int)<s.pr.length by omega),qB,aa hi,ao,nB,qD hi (by omega)];have d1:decide (s.pr.getD i 0≥0)= !decide (s.pr.getD i 0<0):=by
   by_cases q:s.pr.getD i 0<0
   ·rw[aa q,ab];rfl
   ·rw[ab q,aa];rfl
  have d2:decide (s.pr.getD i 0≤1048576)= !decide (s.pr.getD i 0>1048576):=by
   by_cases q:s.pr.getD i 0>1048576
   ·rw[aa q,ab];rfl
   ·rw[ab q,aa];rfl
  rw[d1,d2];cases decide (s.pr.getD i 0<0)<;>cases decide (s.pr.getD i 0>1048576)<;>rfl) (n:=9999) (by omega)
 unfold Ns qX1;have x1:C9 9999 9999 s.pr (s.pr.length:Int) 0=some x:=x1;rw[x1];have nn:(fun j=> !!pH s j)=pH s:=by funext j;rw[Bool.not_not]
 rw[nn] at x2;rw[←x2];cases x<;>rfl
theorem ace {h:AC}(hp:h.length≤2400):Sp 9999 h=some (!zY (fun j=> !decide (h.getD j 0>1099511627776)) h.length 0):=by
 obtain ⟨x, x1, x2⟩ := pt (L := fun n i => Da 9999 n h (h.length : Int) i) (N := h.length) (fun i => decide (h.getD i 0 > 1099511627776)) (fun n=>by
  show Iu 9999 _ h (h.length:Int) (h.length:Int)=_;unfold Iu;rw[ab (Int.lt_irrefl _)];rfl) (fun n i hi=>by
  show Iu 9999 (Da 9999 n) h (h.length:Int) (i:Int)=_;unfold Iu qQo;rw[aa (show(i:Int)<h.length by omega),qB,aa hi,ao,qD hi (by omega)];rfl) (n:=9999) (by omega)
 unfold Sp qOp;have x1:Da 9999 9999 h (h.length:Int) 0=some x:=x1;rw[x1,←x2];cases x<;>rfl
theorem vZb {r:qQ}(hr:jC r){s:qI}(hn:(s.B.1.length:Int)=r.1):Nt 9999 r s.st=some (Au r s):=by
 have h3:=hr.n3;have hpa:=hr.pa;have e0:Nt 9999 r s.st=bif !(decide ((s.pr.length:Int)=(r.2.1.length:Int))) then some false
  else bif !(decide ((s.ho.length:Int)=r.1)) then some false
  else(Ns 9999 s.pr).bind fun x0=>
  bif x0 then some false
  else(Ax 9999 9999 s.ho (s.ho.length:Int) 0 r s.st).bind fun z=>
  match z with
  |.inl z1=>some true
  |.inr z2=>some z2:=rfl
 rw[e0];unfold Au;by_cases hp:(s.pr.length:Int)=(r.2.1.length:Int)
 case neg=>rw[ab hp];rfl
 by_cases ho:(s.ho.length:Int)=r.1
 case neg=>rw[aa hp,ab ho];rfl
 rw[aa hp,aa ho,acd (by omega)];simp only[aA,ak,Bool.true_and,ae];cases hpb:zY (pH s) s.pr.length 0 with
 |false=>rfl
 |true=>
 simp only[aA,ak,Bool.true_and];have l0 : Ax 9999 9999 s.ho (s.ho.length : Int) 0 r s.st = _ := eQ (L := fun n i => Ax 9999 n s.ho (s.ho.length : Int) i r s.st) (N := s.ho.length) (z9 r s) (.inl ()) (.inr false) (fun n=>by
  show Iv 9999 (Ax 9999 n) s.ho (s.ho.length:Int) (s.ho.length:Int) r s.st=_;unfold Iv;rw[ab (Int.lt_irrefl _)];rfl) (fun n i hi=>by
  show Iv 9999 (Ax 9999 n) s.ho (s.ho.length:Int) (i:Int) r s.st=_;unfold Iv z9;have bI:i<s.B.1.length:=by omega
  have ep:s.st.2.2.2.2.2.1=s.pr:=rfl;have ea:s.st.2.1=s.B.1:=rfl;have ed:s.B.1.getD i (0,0,0)=s.B.1.getD i ad:=rfl;rw[aa (show(i:Int)<s.ho.length by omega),qB,aa hi,ao,ep,ea,qB,aa bI,ed,qD hi (by omega)];simp only[ag];by_cases hl:((s.ho.getD i []).length:Int)=(r.2.1.length:Int)
  case neg=>
   have:nv 9999 r.2.1 s.pr (s.ho.getD i [])=some (0,false):=by
    unfold nv;rw[aa hp,ab hl];rfl
   rw[this,ab hl];rfl
  rw[aa hl,ace (by omega)];simp only[Bool.true_and];cases hh:zY (tz (s.ho.getD i [])) (s.ho.getD i []).length 0 with
  |true=>
   have L:=qN0 hr hp hpb hl hh;have hm:zY (fun j=> !decide ((s.ho.getD i []).getD j 0>1099511627776)) (s.ho.getD i []).length 0=true:=wJ.2 fun j hj=>by
    have:=L.hold j (by omega);rw[ab];rfl
   rw[yDz L (by omega),hm];simp only[ae,aA,ak,Bool.true_and];by_cases hc:(s.B.1.getD i ad).2.1=gH r.2.1 s.pr (s.ho.getD i [])
   ·rw[aa hc,aa hc.symm];cases decide (gH r.2.1 s.pr (s.ho.getD i [])>1152921504606846976)<;>rfl
   ·rw[ab hc,ab (show¬gH r.2.1 s.pr (s.ho.getD i [])=(s.B.1.getD i ad).2.1 from fun e=>hc e.symm)];cases decide (gH r.2.1 s.pr (s.ho.getD i [])>1152921504606846976)<;>rfl
  |false=>
   obtain⟨v,ok,v1,v2⟩:=ab2 (sa:=r.2.1) (pr:=s.pr) (h:=s.ho.getD i []) (by omega) (by omega) (by omega);rw[v1];simp only[ae,Bool.false_and,ak];cases ok with
   |false=>rfl
   |true=>
    have hm:zY (fun j=> !decide ((s.ho.getD i []).getD j 0>1099511627776)) (s.ho.getD i []).length 0=false:=by
     cases q:zY (fun j=> !decide ((s.ho.getD i []).getD j 0>1099511627776)) (s.ho.getD i []).length 0 with
     |false=>rfl
     |true=>
      have:zY (tz (s.ho.getD i [])) (s.ho.getD i []).length 0=true:=wJ.2 fun j hj=>by
       have h1:=wJ.1 q j hj;unfold tz;rw[ab (fun e=>by have:=v2 ⟨j,hj,e⟩;cases this)];exact h1
      rw[hh] at this;cases this
    rw[hm];simp only[aA,ak,bO,ag];cases decide (v>1152921504606846976)<;>cases decide (v=(s.B.1.getD i ad).2.1)<;>rfl) (n:=9999) (by omega)
 have el:s.ho.length=s.B.1.length:=by omega
 rw[l0,el];cases zY (z9 r s) s.B.1.length 0<;>rfl
theorem vRn {r:qQ}(hr:jC r){s:qI}(hm:s.m.length≤2400)(hi:s.ids.length≤2400):Db 9999 r s.st=some (Il r s):=by
  have eU:Db 9999 r s.st=(vK 9999 s.t 0 r.2.2.2.1).bind fun x0=>
     bif !x0 then some false
     else(Fp 9999 s.B.1 s.B.2.1 s.B.2.2.1 s.B.2.2.2).bind fun x1=>
     bif !x1 then some false
     else bif !(decide ((s.B.1.length:Int)=r.1)) then some false
     else(Nt 9999 r s.st).bind fun x2=>
     bif !x2 then some false
     else(Nq 9999 s.st).bind fun x3=>
     bif !x3 then some false
     else(Iw 9999 9999 s.B.1 (s.B.1.length:Int) 0 r s.st []).bind fun z=>
     (Gv 9999 z.2.2).bind fun x4=>
     bif !x4.2 then some false
     else bif !(decide (x4.1=z.2.1.2.2.2.2.2.2.2.2.2.1)) then some false
     else(vK 9999 x4.1 0 1152921504606846976).bind fun x5=>
     bif !x5 then some false
     else(Cy 9999 z.1.1 z.1.2.1 z.1.2.2.1 z.1.2.2.2.1 z.1.2.2.2.2 z.2.1.1).bind fun x6=>
     bif iR z.2.1.2.2.2.2.2.2.2.2.2.2 x6 then (bif !z.2.1.2.2.2.2.2.2.2.2.2.2 then some true
      else some (decide ((z.2.1.2.2.2.2.2.2.2.1.length:Int)=0)))
     else some false:=rfl
  have d1:decide (s.t≥0)= !decide (s.t<0):=by
    by_cases q:s.t<0
    · rw[aa q,ab];rfl
    · rw[ab q,aa];rfl
  have d2:decide (s.t≤r.2.2.2.1)= !decide (s.t>r.2.2.2.1):=by
    by_cases q:s.t>r.2.2.2.1
    · rw[aa q,ab];rfl
    · rw[ab q,aa];rfl
  rw[eU,nB,d1,d2,vIp (by omega)];unfold Il;cases decide (s.t<0) with
  |true=>rfl
  |false=>
  cases decide (s.t>r.2.2.2.1) with
  |true=>rfl
  |false=>
  simp only[bO,Bool.true_and,ae,aA,ak];cases hb:kY s.B.1 s.B.2.1 s.B.2.2.1 s.B.2.2.2 with
  |false=>rfl
  |true=>
  have vx:=Ft.1 hb;have hZ:=vx.n6;by_cases hn:(s.B.1.length:Int)=r.1
  case neg=>rw[ab hn];rfl
  rw[aa hn,vZb hr hn];simp only[aA,ak,ae,Bool.true_and];cases Au r s with
  |false=>rfl
  |true=>
  rw[aca hm hi];simp only[aA,ak,ae,Bool.true_and];cases wb s with
  |false=>rfl
  |true=>
  obtain ⟨x, h1, h2⟩ := vA (L := fun n j (x : AC) => Iw 9999 n s.B.1 (s.B.1.length : Int) j r s.st x) (N := s.B.1.length) (fun x => (r, s.st, x)) (fun j x => x = (List.range j).map fun j => (s.B.1.getD j ad).1) (fun n x _=>by
    show Ix 9999 _ s.B.1 (s.B.1.length:Int) (s.B.1.length:Int) r s.st x=_;unfold Ix;rw[ab (Int.lt_irrefl _)];rfl) (fun n j x hj hx=>by
    refine⟨x++[(s.B.1.getD j ad).1],?_,?_⟩
    · show Ix 9999 (Iw 9999 n) s.B.1 (s.B.1.length:Int) (j:Int) r s.st x=_;unfold Ix;have hl:x.length=j:=by rw[hx];simp
      rw[aa (show(j:Int)<s.B.1.length by omega),qB,aa hj,qF,ao,qD hj (by omega)];rfl
    · rw[hx,List.range_succ,List.map_append];rfl) (n:=9999) (s:=[]) (by omega) rfl
  have hbx:∀i,i<x.length→-9223372036854775808≤x.getD i 0∧x.getD i 0<9223372036854775808:=by
    intro i hi;have hm:x.getD i 0∈x:=fD hi;rw[h2] at hm;obtain⟨j,hj,e⟩:=List.mem_map.1 hm;have:=tw.1 (vx.acct j (List.mem_range.1 hj));have this:-4611686018427387904<(s.B.1.getD j ad).1∧(s.B.1.getD j ad).1<4611686018427387904:=this.1;rw[h2,←e];omega
  have hlen:x.length=s.B.1.length:=by rw[h2];simp
  have C4:la x=jO s:=by rw[h2,qQb];rfl
  rw[h1];simp only[aA,ak,ae,Bool.true_and];rw[yD7 (by omega) (by omega) hbx,C4];have eo:s.st.2.2.2.2.2.2.2.2.2.2=s.ov:=rfl;have em:s.st.2.2.2.2.2.2.2.1=s.m:=rfl;have et:s.st.2.2.2.2.2.2.2.2.2.1=s.to:=rfl;have e1:s.st.1=s.t:=rfl;have ecl:Cy 9999 r.1 r.2.1 r.2.2.1 r.2.2.2.1 r.2.2.2.2 s.t=some (decide (s.t=r.2.2.2.1)):=rfl;unfold Sl;cases bU:yi (jO s) with
  |true=>
    simp only[ag,ae,aA,ak];rw[et,nB,eo,em,e1,ecl];simp only[ae];cases decide (jO s=s.to)<;>cases decide (jO s≥0)<;>cases decide (jO s≤1152921504606846976)<;>cases iR s.ov (decide (s.t=r.2.2.2.1))<;>cases s.ov<;>rfl
  |false=>
    simp only[ak,ae,bO,ag];have:decide (jO s≥0)=false∨decide (jO s≤1152921504606846976)=false:=by
      by_cases q:jO s≥0
      · right;refine ab fun q2=>?_
        unfold yi at bU;simp at bU;omega
      · exact .inl (ab q)
    rcases this with q|q
    · rw[q];cases decide (jO s=s.to)<;>rfl
    · rw[q];cases decide (jO s=s.to)<;>cases decide (jO s≥0)<;>rfl
def gM (b:AC):Prop:=∀x∈b,0≤x∧x<256
def Sd (B:Nat)(b:AC):Prop:=b.length≤B∧gM b
theorem Sd.take {B b}(h:Sd B b) n:Sd B (b.take n):=⟨by rw[bZ];have:=h.1;omega,fun x hx=>h.2 x (by grind)⟩
theorem Sd.nil B:Sd B []:=⟨by simp,nofun⟩
theorem Sd.mono {B C b}(h:Sd B b)(hc:B≤C):Sd C b:=⟨Nat.le_trans h.1 hc,h.2⟩
theorem gM.app {a b}(ha:gM a)(hb:gM b):gM (a++b):=fun x hx=>(List.mem_append.1 hx).elim (ha x) (hb x)
structure wN (B:Nat) (D:vS):Prop where
 x:0≤D.2.2.1∧D.2.2.1≤(D.2.1.length:Int)
 y:0≤D.2.2.2.2.1∧D.2.2.2.2.1≤(D.2.2.2.1.length:Int)
 room:0≤D.1∧D.1≤200000
 lx:(D.2.1.length:Int)≤D.1
 ly:(D.2.2.2.1.length:Int)≤D.1
 ck:D.2.2.2.2.2.2.1<9223372036854775808
 sx:Sd B D.2.1
 sy:Sd B D.2.2.2.1
theorem wN.mono {B C D}(h:wN B D)(hc:B≤C):wN C D:=⟨h.x,h.y,h.room,h.lx,h.ly,h.ck,h.sx.mono hc,h.sy.mono hc⟩
theorem wN.side {B D}(h:wN B D){i}(hi:i=0∨i=1):Sd B (kX D i):=by
 rcases hi with rfl|rfl
 · exact h.sx
 · exact h.sy
theorem Nu {B D}(h:wN B D):D.2.1.length≤1000000∧D.2.2.2.1.length≤1000000:=by
 have h1:=h.lx;have h2:=h.ly;have h3:=h.room;omega
theorem qUl {k B D}(h:wN B D)(hu:wY D=false):∃c D',fJ k D=some (c,D')∧wN B D'∧D'.1=D.1∧(c=false→wY D'=false∧D'.2.1=D.2.1∧D'.2.2.2.1=D.2.2.2.1):=by
 have hl:=Nu h;obtain⟨ro,x,sx,y,sy,cA,cK,ar,dn,op⟩:=D;obtain⟨h1,h2,h3,h4,h5,h6,h7,h8⟩:=h;subst hu;have h1:0≤sx∧sx≤(x.length:Int):=h1;have h2:0≤sy∧sy≤(y.length:Int):=h2;have h4:(x.length:Int)≤ro:=h4;have h5:(y.length:Int)≤ro:=h5;rcases aaU (k:=k) (ar:=ar) (op:=op) (cA:=cA) (ro:=ro) h1 h2 hl.1 hl.2 h6 with q|⟨_,a,c,q1,q2,q3,q4,q⟩
 · exact⟨false,_,q,⟨h1,h2,h3,h4,h5,h6,h7,h8⟩,rfl,fun _=>⟨rfl,rfl,rfl⟩⟩
 · have e1:(x.take a).length=a:=by rw[bZ];omega
   have e2:(y.take c).length=c:=by rw[bZ];omega
   exact⟨true,_,q,⟨by grind,by grind,h3,by show((x.take a).length:Int)≤ro;omega,by show((y.take c).length:Int)≤ro;omega,h6,h7.take a,h8.take c⟩,rfl,by simp⟩
def Op (B:Nat)(r:Option (Int×vS)):Prop:=∃e D',r=some (e,D')∧wN B D'∧(e≠11→wY D'=false)
theorem vLr {k B D}(h:wN B D)(hu:wY D=false):Op B (tp k D):=by
 obtain⟨c,D',f1,f2,f3,f4⟩:=qUl (k:=k) h hu;unfold tp;rw[show rC k D=some false from congrArg some hu,ae,ak,f1];cases c with
 |true=>exact⟨11,D',rfl,f2,by simp⟩
 |false=>exact⟨0,_,rfl,⟨by simp,by simp,f2.room,f2.lx,f2.ly,f2.ck,f2.sx,f2.sy⟩,fun _=>(f4 rfl).1⟩
theorem vWo {k B D}(h:wN B D)(hu:wY D=false){i}(hi:i=0∨i=1):∃e D',Hm k D i=some (e,D')∧wN B D'∧(e≠11→wY D'=false)∧(e=0→kX D' i=[]):=by
 obtain⟨c,D',f1,f2,f3,f4⟩:=qUl (k:=k) h hu;have hr:=f2.room;rcases hi with rfl|rfl
 all_goals
  show∃e D',(rC k D).bind _=some (e,D')∧_;rw[show rC k D=some false from congrArg some hu];rw[f1];cases c with
  |true=>exact⟨11,D',rfl,f2,by simp,by simp⟩
  |false=>first
    |exact⟨0,_,rfl,⟨by simp,f2.y,f2.room,hr.1,f2.ly,f2.ck,.nil _,f2.sy⟩,fun _=>(f4 rfl).1,fun _=>rfl⟩
    |exact⟨0,_,rfl,⟨f2.x,by simp,f2.room,f2.lx,hr.1,f2.ck,f2.sx,.nil _⟩,fun _=>(f4 rfl).1,fun _=>rfl⟩
theorem yVp {k B C D}(h:wN B D)(hu:wY D=false){i}(hi:i=0∨i=1){b}(hb:b.length≤1000000)(h8:gM b)(hc:B≤C)(hl:(kX D i).length+b.length≤C):Op C (vk k D i b):=by
 obtain⟨c,D',f1,f2,f3,f4⟩:=qUl (k:=k) h hu;have dL:=Nu f2;have hx:=f2.x;have hy:=f2.y;have hr:=h.room;have hlx:=h.lx;have hly:=h.ly;have g:=f2.mono hc;rcases hi with rfl|rfl
 · have hl:D.2.1.length+b.length≤C:=hl;show Op C ((rC k D).bind _);rw[show rC k D=some false from congrArg some hu];rw[zP,f1];by_cases q:(b.length:Int)>D.1-(D.2.1.length:Int)
   · rw[aa q];exact⟨3,D,rfl,h.mono hc,fun _=>hu⟩
   rw[ab q];cases c with
   |true=>exact⟨11,D',rfl,g,by simp⟩
   |false=>
    have f5:=(f4 rfl).2.1;have e5:(D'.2.1++b).length=D.2.1.length+b.length:=by rw[ay,f5]
    show Op C (bif zL (D'.2.1.length+b.length) 1 then _ else none);rw[qF];exact⟨0,_,rfl,⟨by grind,hy,f2.room,by grind,f2.ly,f2.ck,⟨by show(D'.2.1++b).length≤C;omega,f2.sx.2.app h8⟩,g.sy⟩,fun _=>(f4 rfl).1⟩
 · have hl:D.2.2.2.1.length+b.length≤C:=hl;show Op C ((rC k D).bind _);rw[show rC k D=some false from congrArg some hu];show Op C (bif decide ((b.length:Int)>zA (D.1-(D.2.2.2.1.length:Int))) then _ else(fJ k D).bind _);rw[zP,f1];by_cases q:(b.length:Int)>D.1-(D.2.2.2.1.length:Int)
   · rw[aa q];exact⟨3,D,rfl,h.mono hc,fun _=>hu⟩
   rw[ab q];cases c with
   |true=>exact⟨11,D',rfl,g,by simp⟩
   |false=>
    have f5:=(f4 rfl).2.2;have e5:(D'.2.2.2.1++b).length=D.2.2.2.1.length+b.length:=by rw[ay,f5]
    show Op C (bif zL (D'.2.2.2.1.length+b.length) 1 then _ else none);rw[qF];exact⟨0,_,rfl,⟨hx,by grind,f2.room,f2.lx,by grind,f2.ck,g.sx,⟨by show(D'.2.2.2.1++b).length≤C;omega,f2.sy.2.app h8⟩⟩,fun _=>(f4 rfl).1⟩
def nF (b:AC):AC×AC×Bool:=
 if b.length<8∨iD (b.take 8)<0∨iD (b.take 8)>((b.length-8)/8:Nat) then([],[],false)
 else(fe (iD (b.take 8)).toNat (b.drop 8),b.drop (8+8*(iD (b.take 8)).toNat),true)
theorem yNl:∀m b,fe m (b.take (8*m))=fe m b
 |0,_=>rfl
 |m+1,b=>by
  show iD _::_=iD _::_;rw[List.take_take,List.drop_take,Nat.min_eq_left (by omega),show 8*(m+1)-8=8*m by omega,yNl m]
theorem vDz b:-9223372036854775808≤iD b∧iD b<9223372036854775808:=⟨YL _,YM _⟩
theorem acf {k}(hk:9≤k){b}(h:b.length=8):qn k b=some ([iD b],0):=by
 rw[YQ hk (by omega) (by omega)];unfold fG;rw[h];show some (([iD (b.take 8)]:AC),(0:Int))=_;grind
theorem yFq {k}(hk:9≤k){b m}(h:b.length=8*m)(hm:m<k)(my:m≤1000000):qn k b=some (fe m b,0)∧xR k b=some (fe m b,0):=by
 rw[YQ hk (by omega) (by omega),yJ1 hk (by omega) (by omega)];unfold fG;simp_all
theorem acg {k}(hk:9≤k){b}(hb:b.length≤8*k)(bg:b.length≤1000000):Sq k b=some (nF b)∧Sr k b=some (nF b):=by
 have hd:(List.drop 8 b).length=b.length-8:=List.length_drop;unfold Sq Sr nF;by_cases h0:b.length<8
 · rw[aa,if_pos (.inl h0)];exact⟨rfl,rfl⟩
 have ht:(b.take 8).length=8:=by rw[bZ];omega
 rw[ab,aa,acf hk ht,vLq hk _ ht];have hn:=vDz (b.take 8);generalize iD (b.take 8)=n at hn;simp only[ak,ag,ae];simp only[ag,List.getD_cons_zero];by_cases h1:n<0
 · rw[aa h1,if_pos (.inr (.inl h1))];exact⟨rfl,rfl⟩
 have w1:zA (Int.tdiv ((List.drop 8 b).length:Int) 8)=((b.length-8)/8:Nat):=by
  rw[hd];show zA (((b.length-8)/8:Nat):Int)=_;rw[zP]
 have w2:zA (Int.tdiv (zA ((b.length:Int)-8)) 8)=((b.length-8)/8:Nat):=by
  rw[zP (x:=(b.length:Int)-8) (by omega) (by omega),show(b.length:Int)-8=((b.length-8:Nat):Int) by omega];show zA (((b.length-8)/8:Nat):Int)=_;rw[zP]
 rw[ab h1,w1,w2];simp only[ak];by_cases h2:n>((b.length-8)/8:Nat)
 · rw[aa h2,if_pos (.inr (.inr h2))];exact⟨rfl,rfl⟩
 obtain⟨m,rfl⟩:∃m:Nat,n=m:=⟨n.toNat,by omega⟩;have e1:zA (8*(m:Int))=((8*m:Nat):Int):=by rw[zP];omega
 have e2:zA (8+((8*m:Nat):Int))=((8+8*m:Nat):Int):=by rw[zP];omega
 rw[ab h2,if_neg (by omega),e1,e2];simp only[ak,ao];have s1:qS b 8 (8+8*m-8)=(b.drop 8).take (8*m):=by unfold qS;rw[show 8+8*m-8=8*m by omega]
 have hl:((b.drop 8).take (8*m)).length=8*m:=by rw[bZ,hd];omega
 have hg:=yFq hk hl (by omega) (by omega);rw[s1,hg.1,hg.2,yNl,aa,aa,aa,aa,aa,List.drop_drop];exact⟨rfl,rfl⟩
theorem vDc {b}(hb:b.length≤1000000):(nF b).2.1.length≤b.length∧((nF b).2.2=true→8*((nF b).1.length+1)+(nF b).2.1.length=b.length):=by
 unfold nF;split
 · simp
 · rw[P5,List.length_drop];omega
def kx (st:jB):AC×jB:=((nF st.1).1,(nF st.1).2.1,st.2&&(nF st.1).2.2)
def gg (n:Nat)(st:jB):AC×jB:=if(kx st).1.length=n then kx st else(List.replicate n 0,(kx st).2.1,false)
def Iy (st:jB):(Int×Int×Int)×jB:=(((gg 3 st).1.getD 0 0,(gg 3 st).1.getD 1 0,(gg 3 st).1.getD 2 0),(gg 3 st).2)
def Iz (st:jB):(Int×Int×Int×Int×Int×Int×Int)×jB:=
 (((gg 7 st).1.getD 0 0,(gg 7 st).1.getD 1 0,(gg 7 st).1.getD 2 0,(gg 7 st).1.getD 3 0,(gg 7 st).1.getD 4 0,(gg 7 st).1.getD 5 0,(gg 7 st).1.getD 6 0),(gg 7 st).2)
def wD (st:jB):jB:=(st.1,!st.2)
theorem Dc n st:(gg n st).1.length=n:=by
 unfold gg;grind
theorem IA {k}(hk:9≤k){st:jB}(hb:st.1.length≤8*k)(bg:st.1.length≤1000000):Ay k (wD st)=some ((kx st).1,wD (kx st).2)∧Az k st=some (kx st):=by
 obtain⟨b,ok⟩:=st;have h:=acg hk hb bg;unfold Ay Az;rw[show(wD (b,ok)).1=b from rfl,h.1,h.2];cases ok<;>exact⟨rfl,rfl⟩
theorem Nv {k}(hk:9≤k){st:jB}(hb:st.1.length≤8*k)(bg:st.1.length≤1000000){n:Nat}(hn:pg (n:Int) (n:Int) 8=true):wc k (wD st) (n:Int)=some ((gg n st).1,wD (gg n st).2)∧we k st (n:Int)=some (gg n st):=by
 have h:=IA hk hb bg;unfold wc we gg;rw[h.1,h.2];simp only[ae];by_cases e:(kx st).1.length=n
 · rw[aa,if_pos e];exact⟨rfl,rfl⟩
 · rw[ab,if_neg e,hn];exact⟨rfl,rfl⟩
structure yT {α:Type} (f:α→AC) (s:jB→α×jB):Prop where
 le:∀st:jB,st.1.length≤1000000→(s st).2.1.length≤st.1.length
 ok:∀st:jB,st.1.length≤1000000→(s st).2.2=true→st.2=true∧8*((f (s st).1).length+1)+(s st).2.1.length=st.1.length
theorem nG:yT (fun x=>x) kx:=⟨fun st h=>(vDc h).1,fun st h e=>by
 have e:(st.2&&(nF st.1).2.2)=true:=e;rw[aR] at e;exact⟨e.1,(vDc h).2 e.2⟩⟩
theorem IB n:yT (fun x=>x) (gg n):=by
 refine⟨fun st h=>?_,fun st h=>?_⟩<;>unfold gg<;>split
 · exact nG.le st h
 · exact nG.le st h
 · exact nG.ok st h
 · exact fun e=>nomatch e
theorem qN7:yT lK Iy:=⟨fun st h=>(IB 3).le st h,fun st h e=>by
 have:=(IB 3).ok st h e;rw[Dc] at this;exact this⟩
theorem qMs:yT lL Iz:=⟨fun st h=>(IB 7).le st h,fun st h e=>by
 have:=(IB 7).ok st h e;rw[Dc] at this;exact this⟩
def eW {α:Type}(step:jB→α×jB):Nat→Int→jB→List α→jB×List α
 |0,_,st,r=>(st,r)
 |m+1,n,st,r=>if 0<n∧st.2=true then eW step m (n-1) (step st).2 (r++[(step st).1]) else(st,r)
def tA (st:jB):Nat:=if st.2 then st.1.length/8+1 else 0
theorem Dd {α β:Type}{f:α→AC}{step:jB→α×jB}(hw:yT f step){L:Nat→Int→jB→List α→Option β}{e:jB→List α→β}{ix:Int→Int}{N:Int}{B:Nat}(hB:B≤1000000)
  (hs:∀m n st r,0<n→n≤N→st.2=true→st.1.length≤B→r.length≤1000000→L (m+1) (ix n) st r=L m (ix (n-1)) (step st).2 (r++[(step st).1]))
  (he:∀m n st r,¬(0<n∧st.2=true)→L (m+1) (ix n) st r=some (e st r)):
  ∀m n st r,n≤N→tA st<m→st.1.length≤B→r.length+tA st≤1000001→L m (ix n) st r=some (e (eW step m n st r).1 (eW step m n st r).2)
 |0,n,st,r,h1,h2,h3,h4=>absurd h2 (Nat.not_lt_zero _)
 |m+1,n,st,r,h1,h2,h3,h4=>by
  unfold eW;by_cases h:0<n∧st.2=true
  · have hm:tA st=st.1.length/8+1:=by unfold tA;rw[h.2];rfl
    have hle:=hw.le st (by omega);have aS:tA (step st).2<tA st:=by
     rw[hm];unfold tA;cases hq:(step st).2.2 with
     |false=>exact Nat.succ_pos _
     |true=>
      have:=(hw.ok st (by omega) hq).2;show(step st).2.1.length/8+1<_;omega
    rw[if_pos h,hs m n st r h.1 h1 h.2 h3 (by omega)];exact Dd hw hB hs he m (n-1) _ _ (by omega) (by omega) (by omega) (by rw[ay];show r.length+1+_≤_;omega)
  · rw[if_neg h];exact he m n st r h
theorem IC {α:Type}{f:α→AC}{step:jB→α×jB}(hw:yT f step):∀m n st r,st.1.length≤1000000→
  (eW step m n st r).1.1.length≤st.1.length∧((eW step m n st r).1.2=true→st.2=true∧(yK ((eW step m n st r).2.map f)).length+(eW step m n st r).1.1.length=(yK (r.map f)).length+st.1.length)
 |0,n,st,r,_=>⟨Nat.le_refl _,fun h=>⟨h,rfl⟩⟩
 |m+1,n,st,r,hl=>by
  unfold eW;split
  · have h1:=hw.le st hl;have h2:=hw.ok st hl;have h3:=IC hw m (n-1) (step st).2 (r++[(step st).1]) (by omega);refine⟨by omega,fun h=>?_⟩;have h4:=h3.2 h;have h5:=h2 h4.1;have e:(yK ((r++[(step st).1]).map f)).length=(yK (r.map f)).length+8*((f (step st).1).length+1):=by
     rw[List.map_append,yGj,ay,←sX];simp[yK]
    exact⟨h5.1,by omega⟩
  · exact⟨Nat.le_refl _,fun h=>⟨h,rfl⟩⟩
theorem vA1 {l}(h:(yK l).length≤19200):jG l:=by
 have key:∀l,8*l.length≤(yK l).length∧∀x∈l,8*x.length≤(yK l).length:=fun l=>by
  induction l with
  |nil=>exact⟨Nat.zero_le _,fun x hx=>absurd hx List.not_mem_nil⟩
  |cons a l ih=>
   have e:(yK (a::l)).length=8*(a.length+1)+(yK l).length:=by
    rw[←sX];simp[yK]
   rw[e];refine⟨by rw[List.length_cons];omega,fun x hx=>?_⟩;rcases List.mem_cons.1 hx with rfl|hx
   · omega
   · have:=ih.2 x hx;omega
 have hk:=key l;exact⟨by omega,fun x hx=>by have:=hk.2 x hx;omega⟩
theorem Ss x:0≤IntKind.wrap .u8 x∧IntKind.wrap .u8 x<256:=by
 rw[KU];omega
theorem Su n:gM (fg n):=fun x hx=>by
 simp[fg] at hx;rcases hx with rfl|rfl|rfl|rfl|rfl|rfl|rfl|rfl<;>exact Ss _
theorem yM3 l:gM (jQ l):=fun x hx=>by
 obtain⟨n,_,h⟩:=List.mem_flatMap.1 hx;exact Su n x h
theorem yYu {b}(h:gM b):gM (kW b):=fun x hx=>by
 simp[kW] at hx;rcases hx with rfl|rfl|hx
 · exact Ss _
 · exact Ss _
 · exact h x hx
theorem ach {x y}(hx:0≤x∧x<256)(hy:0≤y∧y<256):wV .i64 (shl .i64 (zA x) 8) (zA y)=x*256+y∧zA (zA (zA x*256)+zA y)=x*256+y:=by
 rw[zP (x:=x),zP (x:=y)];refine⟨?_,by rw[zP (x:=x*256),zP]⟩;have e:shl .i64 x 8=x*2^8:=by
  show zA (x*2^8)=_;exact zP
 rw[e,RF 8 (by decide) hx.1 (by omega) (by omega)];omega
theorem vLu {k B}:∀n b r,b.length<2*n→gM b→b.length≤B→B≤1000000→r.length+b.length≤2000000→(∀x∈r,x.length≤B)→
  ∃t l,Nw k n b r=some (t,l)∧Nx k n b r=some (t,l)∧(∀x∈l,x.length≤B)∧2*l.length≤2*r.length+b.length
 |n+1,b,r,h,h8,hB,fx,hr,hx=>by
  show∃t l,Sv k (Nw k n) b r=_∧Sw k (Nx k n) b r=_∧_;unfold Sv Sw;by_cases h2:b.length<2
  · rw[ab];exact by grind
  have l2:=ach (h8 (b.getD 0 0) (by grind)) (h8 (b.getD 1 0) (by grind));have b0:=h8 (b.getD 0 0) (by grind);have b1:=h8 (b.getD 1 0) (by grind);rw[aa,wT,wT,l2.1,l2.2];obtain⟨m,hm⟩:∃m:Nat,b.getD 0 0*256+b.getD 1 0=m:=⟨(b.getD 0 0*256+b.getD 1 0).toNat,by omega⟩;rw[hm];simp only[ag];by_cases h3:(m:Int)>60000
  · rw[aa h3];exact by grind
  rw[ab h3,zP (x:=(b.length:Int)-2) (by omega) (by omega)];by_cases h4:(m:Int)>(b.length:Int)-2
  · rw[aa h4];exact by grind
  have e:zA (2+(m:Int))=((2+m:Nat):Int):=by rw[zP];omega
  rw[ab h4,e,aa,aa,aa,ao];have hs:(qS b 2 (2+m-2)).length≤B:=by
   unfold qS;grind
  rw[qF,qF (n:=r.length+1)];simp only[ag];have hd:(b.drop (2+m)).length=b.length-(2+m):=List.length_drop;obtain⟨t,l,a1,a2,a3,a4⟩:=vLu (k:=k) (B:=B) n (b.drop (2+m)) (r++[qS b 2 (2+m-2)]) (by omega) (fun x hx=>h8 x (by grind)) (by omega) fx (by grind) (by grind);grind
structure qN2 (B:Nat) (g:Int) (S:AC) (rows:EQ):Prop where
 g:(g=0∧S=[]∧rows=[])∨(1≤g∧g≤4611686018427387904)
 s:S.length≤B
 r:∀x∈rows,x.length≤B
 n:2*rows.length≤B
theorem Sx B:qN2 B 0 [] []:=⟨by simp,by simp,by simp,by simp⟩
theorem vGz {k B}(hk:9≤k)(hB:B<2*k)(fx:B≤1000000){D i}(hi:i=0∨i=1)(hl:(kX D i).length≤B)(h8:gM (kX D i)):
  ∃g S rows,ID k D i=some (g,S,rows)∧Ny k (qV D) i=some (g,S,rows,decide (g>0))∧qN2 B g S rows:=by
 have r1:qXx k D i=some (kX D i):=by
  rcases hi with rfl|rfl
  · have hl:D.2.1.length≤B:=hl;show(De k D.2.1).bind (fun x1=>some x1)=some D.2.1;unfold De;rw[qF];rfl
  · have hl:D.2.2.2.1.length≤B:=hl;show(De k D.2.2.2.1).bind (fun x1=>some x1)=some D.2.2.2.1;unfold De;rw[qF];rfl
 have r2:qU2 k (qV D) i=some (kX D i):=by
  rcases hi with rfl|rfl
  · have hl:D.2.1.length≤B:=hl;show(bif zL (0+D.2.1.length) 1 then some D.2.1 else none)=some D.2.1;rw[qF];rfl
  · have hl:D.2.2.2.1.length≤B:=hl;show(bif zL (0+D.2.2.2.1.length) 1 then some D.2.2.2.1 else none)=some D.2.2.2.1;rw[qF];rfl
 obtain⟨t,l,s1,s2,s3,s4⟩:=vLu (k:=k) (B:=B) k (kX D i) [] (by omega) h8 hl fx (by show 0+_≤_;omega) (by simp);unfold ID Ny Sy yGw;rw[r1,r2];simp only[ae];rw[s1,s2];simp only[ae];cases l with
 |nil=>exact⟨0,[],[],rfl,rfl,Sx B⟩
 |cons a l=>
  have hb:zB 0 (a::l).length=true:=wT (by omega) (by simp);rw[ab (by rw[List.length_cons];omega),hb];simp only[ag,ak,List.getD_cons_zero];by_cases h:a.length<8
  · rw[aa];exact⟨0,[],[],rfl,rfl,Sx B⟩
  have ht:(List.take 8 a).length=8*1:=by rw[bZ];omega
  have hg:=yFq hk ht (by omega) (by decide);rw[ab,aa,hg.1,hg.2,aa (by rw[List.length_cons];omega)];have hw:fe 1 (List.take 8 a)=[iD ((List.take 8 a).take 8)]:=rfl;rw[hw];generalize iD ((List.take 8 a).take 8)=g;simp only[ag,ak,ae,List.getD_cons_zero];rw[show zB 0 ([g]:AC).length=true from rfl];simp only[ag];by_cases h1:g<1
  · rw[aa h1];exact⟨0,[],[],rfl,rfl,Sx B⟩
  by_cases h2:g>4611686018427387904
  · rw[ab h1,aa h2];exact⟨0,[],[],rfl,rfl,Sx B⟩
  rw[ab h1,ab h2];have hs:qS (a::l) 1 ((a::l).length-1)=l:=by
   unfold qS;simp
  rw[hs];refine⟨g,a.drop 8,l,rfl,by rw[aa (by grind)];rfl,.inr (by omega),?_,by grind,?_⟩;all_goals grind
theorem aci {k B}(hk:9≤k)(hB:B<2*k)(fx:B≤1000000){D}(h0:(kX D 0).length≤B∧gM (kX D 0))(h1:(kX D 1).length≤B∧gM (kX D 1)):
  ∃g m S rows ok,Nz k D=some (g,m,S,rows,ok)∧NA k (qV D)=some (g,m,S,rows,ok)∧(m=0∨m=1)∧qN2 B g S rows∧(ok=true→1≤g):=by
 obtain⟨g,S,rows,a1,a2,a3⟩:=vGz hk hB fx (.inl rfl) h0.1 h0.2;obtain⟨g',S',JU,b1,b2,b3⟩:=vGz hk hB fx (.inr rfl) h1.1 h1.2;unfold Nz NA;by_cases h:g>0
 · grind
 · by_cases h':g'>0
   · grind
   · obtain⟨rfl,rfl,rfl⟩:g=0∧S=[]∧rows=[]:=by
      rcases a3.g with q|q
      all_goals omega
     grind
structure nH (B:Nat) (L:wA) (D:vS):Prop where
 half:wN B D
 up:wY D=false
 side:L.1=0∨L.1=1
 gen:1≤L.2.1∧L.2.1≤4611686018427387904
 stale:L.2.2.2=false
theorem yUt {k B L D}(h:nH B L D){b}(hb:b.length≤57)(h8:gM b):
  ∃e L' D',zc k L D b=some (e,L',D')∧zb k (iI L) (qV D) b=some (e,iI L',qV D')∧(e≠11→nH (B+59) L' D')∧wN (B+59) D':=by
 have hl:=Nu h.half;have key:∃e L' D',zc k L D b=some (e,L',D')∧(e≠11→nH (B+59) L' D')∧wN (B+59) D':=by
  have hlen:=Qh b;unfold zc;rw[Qe,if_pos (by omega),ae,h.stale];obtain⟨e,D1,a1,a2,a4⟩:=yVp (k:=k) (C:=B+59) h.half h.up h.side (b:=kW b) (by omega) (yYu h8) (by omega) (by have:=(h.half.side h.side).1;omega);rw[a1];simp only[ae];by_cases h3:e=3
  · rw[aa h3];exact⟨10,L,D1,rfl,fun _=>⟨a2,by grind,h.side,h.gen,h.stale⟩,a2⟩
  by_cases h0:e=0
  · rw[ab h3,aa h0];obtain⟨f,D2,b1,b2,b4⟩:=vLr (k:=k) a2 (by grind);rw[b1];simp only[ae];cases decide (f=0) with
    |true=>exact⟨f,_,D2,rfl,fun q=>⟨b2,b4 q,h.side,h.gen,rfl⟩,b2⟩
    |false=>exact⟨f,L,D2,rfl,fun q=>⟨b2,b4 q,h.side,h.gen,h.stale⟩,b2⟩
  · rw[ab h3,ab h0];exact⟨e,L,D1,rfl,fun q=>⟨a2,a4 q,h.side,h.gen,h.stale⟩,a2⟩
 obtain⟨e,L',D',h1,h2,h3⟩:=key;exact⟨e,L',D',h1,by rw[vXv h.side hl.1 hl.2 (by omega),h1];rfl,h2,h3⟩
theorem yN8 {k B}(hk:9≤k){D}(h:wN B D)(hu:wY D=false){i}(hi:i=0∨i=1) g {b}(hb:b.length≤7000)(h8:gM b)(hB:7010≤B):
  ∃e D',za k D i g b=some (e,D')∧(e=0→g≤4611686018427387904)∧(e≠11→wY D'=false)∧wN B D':=by
 have hlen:(kW (fg g++b)).length=b.length+10:=by rw[Qh,ay];show 8+b.length+2=_;omega
 unfold za;rw[E3 hk [g] (by simp) (by simp;omega),ae,show jQ [g]=fg g by simp[jQ]];rw[qF (by show(8+b.length)*1≤_;omega) (by show 8+b.length≤_;omega),ag,Qe,if_pos (by rw[ay];show 8+b.length≤_;omega),ae];simp only[aA,ak];by_cases hg:g>4611686018427387904
 · rw[aa hg];exact by grind
 rw[ab hg,show RE k D=some D.1 from rfl];simp only[ae,ak];cases decide (((kW (fg g++b)).length:Int)>D.1) with
 |true=>exact by grind
 |false=>
  obtain⟨e,D1,a1,a2,a4,a5⟩:=vWo (k:=k) h hu hi;rw[a1];simp only[ae];by_cases h0:e=0
  · obtain⟨f,D2,b1,b2,b4⟩:=yVp (k:=k) (C:=B) a2 (by grind) hi (b:=kW (fg g++b)) (by omega) (yYu ((Su g).app h8)) (by omega) (by rw[a5 h0];show 0+_≤_;omega);rw[b1];simp only[ae];by_cases h1:f=0
    · obtain⟨f',D3,c1,c2,c4⟩:=vLr (k:=k) b2 (by grind);grind
    grind
  · exact by grind
theorem yU4 {k B}(hk:9≤k){L:wA}{D}(hc:wN B D)(hu:wY D=false)(hs:L.1=0∨L.1=1)(hg:1≤L.2.1∧L.2.1≤4611686018427387904){b}(hb:b.length≤7000)(h8:gM b)(hB:7010≤B):
  ∃e L' D',oE k L D b=some (e,L',D')∧pG k (iI L) (qV D) b=some (e,iI L',qV D')∧(e=0→nH B L' D')∧(e≠0→L'=L)∧(e≠11→wY D'=false)∧wN B D':=by
 have hl:=Nu hc;have e1:zA (1-L.1)=1-L.1:=zP;have e2:zA (L.2.1+1)=L.2.1+1:=zP;have key:∃e L' D',oE k L D b=some (e,L',D')∧(e=0→nH B L' D')∧(e≠0→L'=L)∧(e≠11→wY D'=false)∧wN B D':=by
  obtain⟨e,D',h1,h2,h3,h4⟩:=yN8 hk hc hu (i:=1-L.1) (by omega) (L.2.1+1) hb h8 hB;unfold oE;rw[e1,e2,h1];simp only[ae];by_cases h0:e=0
  · rw[aa h0];exact⟨e,_,D',rfl,fun _=>⟨h4,by grind,by omega,by show 1≤L.2.1+1∧L.2.1+1≤_;omega,rfl⟩,by grind,h3,h4⟩
  · rw[ab h0];grind
 obtain⟨e,L',D',h1,h2⟩:=key;exact⟨e,L',D',h1,by rw[vXm hk hs hl.1 hl.2 (by omega),h1];rfl,h2⟩
theorem yOc {k B}(hk:9≤k){L D}(h:nH B L D){b}(hb:b.length≤7000)(h8:gM b)(hB:7010≤B):
  ∃e L' D',oE k L D b=some (e,L',D')∧pG k (iI L) (qV D) b=some (e,iI L',qV D')∧(e≠11→nH B L' D')∧wN B D':=by
 obtain⟨e,L',D',h1,h2,h3,h4,h5,h6⟩:=yU4 hk h.half h.up h.side h.gen hb h8 hB;refine⟨e,L',D',h1,h2,fun q=>?_,h6⟩;by_cases h0:e=0
 · exact h3 h0
 · rw[h4 h0];exact⟨h6,h5 q,h.side,h.gen,h.stale⟩
theorem yL5:∀m b,∀x∈fe m b,x≤9223372036854775807
 |0,b=>nofun
 |m+1,b=>fun x hx=>by
  rcases List.mem_cons.1 hx with rfl|hx
  · have:=vDz (b.take 8);omega
  · exact yL5 m _ x hx
theorem vN4 n st i:(gg n st).1.getD i 0≤9223372036854775807:=by
 have key:∀l:AC,(∀x∈l,x≤9223372036854775807)→l.getD i 0≤9223372036854775807:=fun l h=>by
  by_cases hi:i<l.length
  all_goals simp_all
 refine key _ fun x hx=>?_
 unfold gg at hx;split at hx
 · have hx:x∈(nF st.1).1:=hx;unfold nF at hx;split at hx
   · simp_all
   · exact yL5 _ _ x hx
 simp_all
theorem qRh {k st}(hb:st.1.length/8+2≤k)(bg:st.1.length≤1000000):tA st<k∧0+tA st≤1000001:=by
 unfold tA;grind
theorem qUw {st:jB}{n:Int}(h:¬(0<n∧st.2=true)):decide (0<n)=false∨(decide (0<n)=true∧st.2=false):=by
 grind
theorem yBp {k}(hk:9≤k){st}(hb:st.1.length/8+2≤k)(bg:st.1.length≤1000000){n}(hn:n≤9223372036854775807):
  IE k (wD st) n=some ((eW kx k n st []).2,wD (eW kx k n st []).1)∧IF k st n=some ((eW kx k n st []).2,(eW kx k n st []).1):=by
 have hm:=qRh hb bg;have h1 := Dd nG (L := fun m i st r => IG k m i (wD st) r) (e := fun st r => (wD st, r)) (ix := fun i => i) (N := n) bg (fun m i s r h0 hN ok hB hr=>by
   show IH k (IG k m) i (wD s) r=_;unfold IH;rw[aa (by grind),show(wD s).2=false by unfold wD;simp_all,(IA hk (by omega) (by omega)).1];rw[qF,zP];rfl) (fun m i s r h=>by
   show IH k (IG k m) i (wD s) r=_;unfold IH;rcases qUw h with h|⟨h,h'⟩
   · grind
   · rw[show decide (i>0)=true from h,show(wD s).2=true by unfold wD;simp_all];rfl) k n st [] (by simp) hm.1 (by simp) hm.2
 have h2 := Dd nG (L := fun m i st r => II k m n i st r) (e := fun st r => (st, r)) (ix := fun i => n - i) (N := n) bg (fun m i s r h0 hN ok hB hr=>by
   show IJ k (II k m) n (n-i) s r=_;unfold IJ;rw[aa (by grind),ok,(IA hk (by omega) (by omega)).2];rw[qF,zP,show n-i+1=n-(i-1) by omega];rfl) (fun m i s r h=>by
   show IJ k (II k m) n (n-i) s r=_;unfold IJ;grind) k n st [] (by simp) hm.1 (by simp) hm.2
 unfold IE IF;simp_all
theorem acj {k}(hk:9≤k){st}(hb:st.1.length/8+2≤k)(bg:st.1.length≤1000000){s0 h}(h9:h.length=9){b0 b3:Int×Int×Bool}(hn:h.getD 3 0≤9223372036854775807):
  Df k k s0 (h.getD 3 0) b0 (wD st) h b3 []=some (s0,b0,wD (eW Iy k (h.getD 3 0) st []).1,h,b3,(eW Iy k (h.getD 3 0) st []).2)∧Dg k k s0 0 b0 st h b3 []=some (s0,b0,(eW Iy k (h.getD 3 0) st []).1,h,b3,(eW Iy k (h.getD 3 0) st []).2):=by
 have hm:=qRh hb bg;obtain⟨n,en⟩:∃n,h.getD 3 0=n:=by simp
 have ho:zB 3 h.length=true:=by rw[h9];rfl
 have h1 := Dd qN7 (L := fun m i st r => Df k m s0 i b0 (wD st) h b3 r) (e := fun st r => (s0, b0, wD st, h, b3, r)) (ix := fun i => i) (N := n) bg (fun m i s r h0 hN ok hB hr=>by
   show IK k (Df k m) s0 i b0 (wD s) h b3 r=_;unfold IK;rw[aa (by grind),show(wD s).2=false by unfold wD;simp_all,show wc k (wD s) 3=_ from(Nv hk (n:=3) (by omega) (by omega) rfl).1];simp;rw[Dc,qF,zP];rfl) (fun m i s r g=>by
   show IK k (Df k m) s0 i b0 (wD s) h b3 r=_;unfold IK;rcases qUw g with g|⟨g,g'⟩
   · grind
   · rw[show decide (i>0)=true from g,show(wD s).2=true by unfold wD;simp_all];rfl) k n st [] (by simp) hm.1 (by simp) hm.2
 have h2 := Dd qN7 (L := fun m i st r => Dg k m s0 i b0 st h b3 r) (e := fun st r => (s0, b0, st, h, b3, r)) (ix := fun i => n - i) (N := n) bg (fun m i s r h0 hN ok hB hr=>by
   show IL k (Dg k m) s0 (n-i) b0 s h b3 r=_;unfold IL;rw[ho,en,aa (by grind),ok,show we k s 3=_ from(Nv hk (n:=3) (by omega) (by omega) rfl).2];simp;rw[Dc,qF,zP,show n-i+1=n-(i-1) by omega];rfl) (fun m i s r g=>by
   show IL k (Dg k m) s0 (n-i) b0 s h b3 r=_;unfold IL;grind) k n st [] (by simp) hm.1 (by simp) hm.2
 simp_all
theorem vWs {k}(hk:9≤k){st}(hb:st.1.length/8+2≤k)(bg:st.1.length≤1000000){s0 h}(h9:h.length=9){b0 b3:Int×Int×Bool}{r3:List (Int×Int×Int)}{r4 r6 r8 r5 r7}(hn:h.getD 8 0≤9223372036854775807):
  Dh k k s0 (h.getD 8 0) b0 (wD st) b3 r3 r4 r5 r6 r7 r8 []=some (s0,b0,wD (eW Iz k (h.getD 8 0) st []).1,b3,r3,r4,r5,r6,r7,r8,(eW Iz k (h.getD 8 0) st []).2)∧
  Dl k k s0 0 b0 st h b3 r3 r4 r5 r6 r7 r8 []=some (s0,b0,(eW Iz k (h.getD 8 0) st []).1,b3,r3,r4,r5,r6,r7,r8,(eW Iz k (h.getD 8 0) st []).2):=by
 have hm:=qRh hb bg;obtain⟨n,en⟩:∃n,h.getD 8 0=n:=by simp
 have ho:zB 8 h.length=true:=by rw[h9];rfl
 have h1 := Dd qMs (L := fun m i st r => Dh k m s0 i b0 (wD st) b3 r3 r4 r5 r6 r7 r8 r) (e := fun st r => (s0, b0, wD st, b3, r3, r4, r5, r6, r7, r8, r)) (ix := fun i => i) (N := n) bg (fun m i s r h0 hN ok hB hr=>by
   show IM k (Dh k m) s0 i b0 (wD s) b3 r3 r4 r5 r6 r7 r8 r=_;unfold IM;rw[aa (by grind),show(wD s).2=false by unfold wD;simp_all,show wc k (wD s) 7=_ from(Nv hk (n:=7) (by omega) (by omega) rfl).1];simp;rw[Dc,qF,zP];rfl) (fun m i s r g=>by
   show IM k (Dh k m) s0 i b0 (wD s) b3 r3 r4 r5 r6 r7 r8 r=_;unfold IM;rcases qUw g with g|⟨g,g'⟩
   · grind
   · rw[show decide (i>0)=true from g,show(wD s).2=true by unfold wD;simp_all];rfl) k n st [] (by simp) hm.1 (by simp) hm.2
 have h2 := Dd qMs (L := fun m i st r => Dl k m s0 i b0 st h b3 r3 r4 r5 r6 r7 r8 r) (e := fun st r => (s0, b0, st, b3, r3, r4, r5, r6, r7, r8, r)) (ix := fun i => n - i) (N := n) bg (fun m i s r h0 hN ok hB hr=>by
   show IN k (Dl k m) s0 (n-i) b0 s h b3 r3 r4 r5 r6 r7 r8 r=_;unfold IN;rw[ho,en,aa (by grind),ok,show we k s 7=_ from(Nv hk (n:=7) (by omega) (by omega) rfl).2];simp;rw[Dc,qF,zP,show n-i+1=n-(i-1) by omega];rfl) (fun m i s r g=>by
   show IN k (Dl k m) s0 (n-i) b0 s h b3 r3 r4 r5 r6 r7 r8 r=_;unfold IN;grind) k n st [] (by simp) hm.1 (by simp) hm.2
 simp_all
theorem vYq {a b}(h:a.length≠b.length):oR a b=false:=by
 refine Bool.eq_false_iff.2 fun e=>h ?_
 have:=congrArg List.length (eq_of_beq e);unfold nM at this;simp_all
theorem vUz {k}(hk:9999≤k){b}(hb:b.length/8+2≤k)(bg:b.length≤19200):
  ∃(s:xS) (ok:Bool),Dm k b=some (s,ok)∧IP k b=some (s,ok)∧s.2.2.2.2.2.2.2.1.length≤2400∧s.2.2.2.2.2.2.2.2.1.length≤2400:=by
 have wg:9≤k:=by omega
 unfold Dm IP;have a0:=Nv wg (st:=(b,true)) (n:=9) (by show b.length≤8*k;omega) (by show b.length≤_;omega) rfl;have l0:=(IB 9).le (b,true) (by show b.length≤_;omega);have o0:=(IB 9).ok (b,true) (by show b.length≤_;omega);have e9:=Dc 9 (b,true);have lt:=vN4 9 (b,true);rw[show wc k (b,false) 9=_ from a0.1,show we k (b,true) 9=_ from a0.2];clear a0;generalize gg 9 (b,true)=x at*
 obtain⟨h,st0⟩:=x;dsimp only at*
 rw[e9] at o0;simp only[ae];have bo:∀i:Int,0≤i→i<9→zB i h.length=true:=fun i h1 h2=>wT h1 (by omega)
 rw[bo 0 (by decide) (by decide),bo 1 (by decide) (by decide),bo 2 (by decide) (by decide),bo 3 (by decide) (by decide)];simp only[ag];have a1:=acj wg (st:=st0) (by omega) (by omega) (s0:=b) e9 (b0:=(0,0,false)) (b3:=(h.getD 0 0,h.getD 1 0,decide (h.getD 2 0=1))) (lt 3);have w1:=IC qN7 k (h.getD 3 0) st0 [] (by omega);rw[a1.1,a1.2];clear a1;generalize eW Iy k (h.getD 3 0) st0 []=z at*
 obtain⟨Kh,ac⟩:=z;simp only[ae] at*
 rw[bo 4 (by decide) (by decide)];simp only[ag];have a2:=yBp wg (st:=Kh) (by omega) (by omega) (lt 4);have w2:=IC nG k (h.getD 4 0) Kh [] (by omega);rw[a2.1,a2.2];clear a2;generalize eW kx k (h.getD 4 0) Kh []=z at*
 obtain⟨xD,bi⟩:=z;simp only[ae] at*
 have a3:=IA wg (st:=xD) (by omega) (by omega);have l3:=nG.le xD (by omega);have o3:=nG.ok xD (by omega);rw[a3.1,a3.2];clear a3;generalize kx xD=z at*
 obtain⟨mu,st3⟩:=z;simp only[ae] at*
 rw[bo 6 (by decide) (by decide)];simp only[ag];have a4:=yBp wg (st:=st3) (by omega) (by omega) (lt 6);have w4:=IC nG k (h.getD 6 0) st3 [] (by omega);rw[a4.1,a4.2];clear a4;generalize eW kx k (h.getD 6 0) st3 []=z at*
 obtain⟨Sz,po⟩:=z;simp only[ae] at*
 have a5:=IA wg (st:=Sz) (by omega) (by omega);have l5:=nG.le Sz (by omega);have o5:=nG.ok Sz (by omega);rw[a5.1,a5.2];clear a5;generalize kx Sz=z at*
 obtain⟨pr,st5⟩:=z;simp only[ae] at*
 rw[bo 7 (by decide) (by decide)];simp only[ag];have a6:=yBp wg (st:=st5) (by omega) (by omega) (lt 7);have w6:=IC nG k (h.getD 7 0) st5 [] (by omega);rw[a6.1,a6.2];clear a6;generalize eW kx k (h.getD 7 0) st5 []=z at*
 obtain⟨st6,ho⟩:=z;simp only[ae] at*
 rw[bo 8 (by decide) (by decide)];simp only[ag];have a7:=vWs wg (st:=st6) (by omega) (by omega) (s0:=b) e9 (b0:=(0,0,false)) (b3:=(h.getD 0 0,h.getD 1 0,decide (h.getD 2 0=1))) (r3:=ac) (r4:=bi) (r5:=mu) (r6:=po) (r7:=pr) (r8:=ho) (lt 8);have w7:=IC qMs k (h.getD 8 0) st6 [] (by omega);rw[a7.1,a7.2];clear a7;generalize eW Iz k (h.getD 8 0) st6 []=z at*
 obtain⟨SA,pa⟩:=z;simp only[ae] at*
 have a8:=IA wg (st:=SA) (by omega) (by omega);have l8:=nG.le SA (by omega);have o8:=nG.ok SA (by omega);rw[a8.1,a8.2];clear a8;generalize kx SA=z at*
 obtain⟨ids,c,ok⟩:=z;simp only[ae] at*
 cases ok with
 |false=>exact⟨_,_,rfl,rfl,Nat.zero_le _,Nat.zero_le _⟩
 |true=>
  have o8:=o8 rfl;have w7:=w7.2 o8.1;have w6:=w6.2 w7.1;have o5:=o5 w6.1;have w4:=w4.2 o5.1;have o3:=o3 w4.1;have w2:=w2.2 o3.1;have w1:=w1.2 w2.1;have o0:=o0 w1.1;obtain⟨s,es⟩:∃s:xS,s=(h.getD 0 0,ac,bi,mu,po,pr,ho,pa,ids,h.getD 1 0,decide (h.getD 2 0=1)):=⟨_,rfl⟩;have r0:(yK []).length=0:=rfl;have tot:(yK (jb s)).length+c.length=b.length:=by
   rw[yYk,es];simp only[ay,sX,List.map_id',List.map_nil,List.length_nil] at*
   have r9:∀a b c d e f g h i:Int,[a,b,c,d,e,f,g,h,i].length=9:=fun _ _ _ _ _ _ _ _ _=>rfl
   rw[r9];omega
  have few:jG (jb s):=vA1 (by omega);have fn:=few.n;have fr:=few.r s.2.2.2.2.2.2.2.2.1 (by unfold jb;simp);have fp:s.2.2.2.2.2.2.2.1.length≤2400:=by
   unfold jb at fn;simp only[ay,List.length_map] at fn;omega
  have hs:=yLv hk few;have hr:=yIp hk few;subst es;generalize yK (jb _)=R at*
  cases hq:oR R b with
  |false=>
   refine⟨(0,[],[],[],[],[],[],[],[],0,false),false,(congrArg (fun z=>Option.bind z _) hs).trans ?_,?_,Nat.zero_le _,Nat.zero_le _⟩
   · show(bif !(oR R b) then _ else _)=_;rw[hq];rfl
   · show(bif decide ((c.length:Int)>0) then _ else _)=_;cases decide ((c.length:Int)>0) with
     |true=>rfl
     |false=>
      refine(congrArg (fun z=>Option.bind z _) hr).trans ?_;show(bif !(oR R b) then _ else _)=_;rw[hq];rfl
  |true=>
   have hc:c.length=0:=by
    refine Classical.byContradiction fun hc=>?_
    rw[vYq (by omega)] at hq;exact nomatch hq
   refine⟨_,true,(congrArg (fun z=>Option.bind z _) hs).trans ?_,?_,fp,fr⟩
   · show(bif !(oR R b) then _ else _)=_;rw[hq];rfl
   · show(bif decide ((c.length:Int)>0) then _ else _)=_;rw[hc];refine(congrArg (fun z=>Option.bind z _) hr).trans ?_;show(bif !(oR R b) then _ else _)=_;rw[hq];rfl
def ic (r:qQ)(s:qI)(ev:Int)(d:Bool):kk:=(r.1,r.2.1,r.2.2.1,r.2.2.2.1,r.2.2.2.2,s.t,s.B.1,s.B.2.1,s.B.2.2.1,s.B.2.2.2,s.pr,s.ho,s.m,s.ids,s.to,s.ov,ev,d)
theorem vSq l:gM (yK l):=fun x hx=>by
 obtain⟨n,_,h⟩:=List.mem_flatMap.1 hx;exact((Su _).app (yM3 n)) x h
theorem NB {r}(hr:jC r){s}(h:yJ r s):∃b,kl 9999 s.st=some b∧oD 9999 s.st=some b∧b.length≤7000∧gM b:=by
 obtain⟨b,h1,h2,h3⟩:=abY (Nat.le_refl 9999) hr h;exact⟨b,h1,by rw[h2] at h3⊢;exact yIp (by simp) (vA1 (by omega)),h3,by rw[h2];exact vSq _⟩
theorem vXb {w:Int}{f:jN}(hi:lN 9999 f=some true):∃b,SB 9999 (w,f)=some b∧NC 9999 (w,f)=some (.inr b)∧b.length≤57∧gM b:=by
 obtain⟨h0,hz⟩:=vKb hi;have hm:=E1 f.1;obtain⟨n,hn⟩:∃n:Nat,yO f.1=n:=⟨(yO f.1).toNat,by omega⟩;have dP:qS [f.2.1,f.2.2.1,f.2.2.2.1,f.2.2.2.2.1,f.2.2.2.2.2.1,f.2.2.2.2.2.2] 0 (n-0)=(jV f).take n:=by
  unfold qS;show List.take (n-0) ((jV f).drop 0)=_;rw[List.drop_zero,Nat.sub_zero]
 have hll:((jV f).take n).length=n:=by rw[bZ];show min n 6=n;omega
 have hbl:=qp ((jV f).take n);have bS:jQ [w]=fg w:=by simp[jQ]
 have sm:(fg w).length=8:=rfl;refine⟨fg w++([IntKind.wrap .u8 f.1]++jQ ((jV f).take n)),?_,?_,?_,(Su w).app (.app (fun x hx=>by rw[List.mem_singleton.1 hx];exact Ss _) (yM3 _))⟩
 ·unfold SB yA0;dsimp only;rw[hi];simp only[ae,aA,ak];rw[KR,hn];simp only[ae];rw[aa (show(0:Int)≤(n:Int) by omega),aa (show(n:Int)≤6 by omega),ao,dP];simp only[Bool.and_self,ag];rw[E3 (by omega) _ (by omega) (by omega)];simp only[ae];rw[qF];simp only[ag,ae];rw[ab (by rw[ay];simp;omega)];simp only[ak];rw[E3 (by omega) [w] (by simp) (by simp)];simp only[ae];rw[bS,qF (by rw[ay,List.length_singleton];omega) (by rw[ay,List.length_singleton];omega)];rfl
 ·unfold NC qWd;dsimp only;rw[vPv,hi];simp only[ae,aA,ak];rw[P8,hn];simp only[ae];rw[aa (show(0:Int)≤(n:Int) by omega),aa (show(n:Int)≤6 by omega),ao,dP];simp only[Bool.and_self,ag];rw[MB (by omega) (by omega) (by omega)];simp only[ae];rw[qF];simp only[ag,ae];rw[show Nat.blt 0 ([IntKind.wrap .u8 f.1]++jQ ((jV f).take n)).length=true by rw[Nat.blt_eq];simp,MB (by omega) (by simp) (by simp)];simp only[ag,ae];rw[bS,qF (by rw[ay,List.length_singleton];omega) (by rw[ay,List.length_singleton];omega)];rfl
 ·rw[ay,ay,hbl,hll,sm];show 8+(1+8*n)≤57;omega
theorem vSa {b:AC}(hb:b.length≤19000):∃c e,ND 9999 b=some (c,e)∧SC 9999 b=some (c,e):=by
 unfold ND SC;by_cases h:b.length<8
 · rw[aa];exact⟨_,_,rfl,rfl⟩
 have ht:(List.take 8 b).length=8*1:=by rw[bZ];omega
 have hd:(List.drop 8 b).length=b.length-8:=List.length_drop;have hg:=yFq (k:=9999) (by decide) ht (by decide) (by decide);rw[ab,aa,hg.1,hg.2,Qa (by decide) (by omega) (by omega),YR (by decide) (by omega) (by omega)];simp only[ag,ak,ae];rw[show zB 0 (fe 1 (List.take 8 b)).length=true from rfl];cases decide ((kV (List.drop 8 b)).2=0) with
 |false=>exact⟨_,_,rfl,rfl⟩
 |true=>exact⟨_,_,rfl,rfl⟩
theorem ack {r:qQ}(hr:jC r){s:qI}(hs:yJ r s){ev:Int}{L:wA}{D:vS}{B:Nat}(hB:7010≤B)(h:nH B L D){c:vg}{b:AC}(hb:b.length≤57∧gM b)(hc:NC 9999 c=some (.inr b)):
  ∃e L' D',SD 9999 (ic r s ev false) L D b=some (e,ic r s ev false,L',D')∧SE 9999 (ic r s ev false) (iI L) (qV D) c=some (e,ic r s ev false,iI L',qV D')∧(e≠11→nH (B+118) L' D')∧wN (B+118) D':=by
 obtain⟨e1,L1,D1,a1,a2,a3,a4⟩:=yUt (k:=9999) h hb.1 hb.2;obtain⟨S,s1,s2,s3,s4⟩:=NB hr hs;have mo:∀{L D},nH (B+59) L D→nH (B+118) L D:=fun h=>⟨h.half.mono (by omega),h.up,h.side,h.gen,h.stale⟩
 unfold SD SE;rw[a1,hc];simp only[ae];rw[a2];simp only[ae];by_cases h1:e1=10
 · rw[aa h1,show iJ (ic r s ev false)=s.st from rfl,s1,s2];simp only[aA,ag,ak,ae];obtain⟨e2,L2,D2,b1,b2,b3,b4⟩:=yOc (k:=9999) (by decide) (a3 (by omega)) s3 s4 (by omega);rw[b1,b2];simp only[ae];by_cases h2:e2=0
   · obtain⟨e3,L3,D3,c1,c2,c3⟩:=yUt (k:=9999) (b3 (by omega)) hb.1 hb.2;rw[aa h2];simp only[aA,ag,ak];rw[c1,c2];exact⟨e3,L3,D3,rfl,rfl,c3⟩
   · rw[ab h2];exact⟨e2,L2,D2,rfl,rfl,fun q=>mo (b3 q),b4.mono (by omega)⟩
 · rw[ab h1];exact⟨e1,L1,D1,rfl,rfl,fun q=>mo (a3 q),a4.mono (by omega)⟩
inductive lu (r:qQ) (ev:Int) (B:Nat):kk→wA→vS→Prop
 |up {s:qI} {L:wA} {D:vS} (i:yJ r s) (h:nH B L D):lu r ev B (ic r s ev false) L D
 |dn {s:qI} {L:wA} {D:vS} (i:yJ r s) (h:wN B D):lu r ev B (ic r s ev true) L D
theorem acm {r:qQ}(hr:jC r){ev:Int}{G:kk}{L:wA}{D:vS}{B:Nat}(hB:7010≤B)(h:lu r ev B G L D)(a:Int){b:AC}(hb:b.length≤8000):
  ∃o G' L' D',xT 9999 G L D a b=some (o,G',L',D')∧NF 9999 G (iI L) (qV D) a b=some (o,G',iI L',qV D')∧o.length≤300∧lu r ev (B+118) G' L' D':=by
 have ml:∀{L D},nH B L D→nH (B+118) L D:=fun h=>⟨h.half.mono (by omega),h.up,h.side,h.gen,h.stale⟩
 cases h with
 |@dn s _ _ i h=>exact⟨[],ic r s ev true,L,D,rfl,rfl,by decide,.dn i (h.mono (by omega))⟩
 |@up s _ _ i h=>
  have hm:qo 9999 b=some (kV b):=Qa (by omega) (by omega) (by omega);have my:uK 9999 b=some (kV b):=YR (by omega) (by omega) (by omega);have AA:=fun h=>aaQ (k:=9999) (by omega) (b:=b) h
  generalize kV b=m at hm my AA;unfold xT NF NG;rw[show xU 9999 (ic r s ev false) L D=some (false,ic r s ev false,L,D) from rfl,my];simp only[ae,ak];rw[hm,show(ic r s ev false).2.2.2.2.2.2.2.2.2.2.2.2.2.2.2.2.2=false from rfl];simp only[ae,ak];by_cases h0:m.2=0
  case neg=>
    rw[ab h0,CT];exact⟨_,_,L,D,rfl,rfl,by simp,.up i (ml h)⟩
  obtain⟨f1,f2⟩:=AA h0;rw[aa h0];simp only[aA,ak];obtain⟨t,o,e,h1,h2,h3⟩:=yG9 hr i (a,m.1);have ajS:=h3.few;have ajT:=h3.bad;have hinv:=h3.inv;rw[show yC (ic r s ev false)=r from rfl,show iJ (ic r s ev false)=s.st from rfl,h1,h2];simp only[ae];by_cases he:e=0
  case neg=>
    rw[ab he,CT];exact⟨_,_,L,D,rfl,rfl,by simp,.up i (ml h)⟩
  subst he;rw[show decide ((0:Int)=0)=true from rfl];simp only[aA,ak];cases decide (m.1.1=9) with
  |true=>exact⟨o,_,L,D,rfl,rfl,by omega,.up i (ml h)⟩
  |false=>
  simp only[ak];obtain⟨c,oe,dq,dM⟩:=vXb (w:=a) f1;obtain⟨e',L1,D1,k1,k2,k3,k4⟩:=ack hr i (ev:=ev) hB h dM dq;rw[oe,k2];simp only[ae];rw[k1];simp only[ae];by_cases um:e'=0
  · have q:=k3 (by omega);obtain⟨S,s1,s2,s3,s4⟩:=NB hr hinv;rw[aa um,show qUf 9999 L1 D1=some (L1.2.2.1,L1,D1) from rfl,s2];simp only[ae,ag];rw[s1];show∃o' G' L' D',(bif decide (L1.2.2.1≥ev) then _ else _)=some (o',G',L',D')∧(bif decide (L1.2.2.1≥ev) then _ else _)=some (o',G',iI L',qV D')∧_;cases decide (L1.2.2.1≥ev) with
    |false=>exact⟨o,ic r t ev false,L1,D1,rfl,rfl,by omega,.up hinv q⟩
    |true=>
      obtain⟨e3,L2,D2,b1,b2,b3,b4⟩:=yOc (k:=9999) (by decide) q s3 s4 (by omega);simp only[ag,ae];rw[b1,b2];simp only[ae];by_cases h3:e3=11
      · rw[aa h3];exact⟨o,ic r t ev true,L2,D2,rfl,rfl,by omega,.dn hinv b4⟩
      · rw[ab h3];exact⟨o,ic r t ev false,L2,D2,rfl,rfl,by omega,.up hinv (b3 h3)⟩
  by_cases fa:e'=10
  · rw[ab um,aa fa,CT];exact⟨_,_,L1,D1,rfl,rfl,by simp,.up i (k3 (by omega))⟩
  · rw[ab um,ab fa];exact⟨[],ic r s ev true,L1,D1,rfl,rfl,by decide,.dn i k4⟩
theorem yJ4 {r}(hr:jC r){rows}(hl:∀x∈rows,x.length≤19000)(hn:rows.length≤1000000):∀(m n i:Nat) s,i+m=rows.length→m<n→yJ r s→
  ∃t,yJ r t∧(∀ev was b0 r1 r2 L,tB 9999 n ev was rows (rows.length:Int) (i:Int) b0 r1 r2 r L s.st=some (ev,was,b0,r1,r2,r,L,t.st))∧
   (∀ev was b0 r1 r2 L,tC 9999 n ev was rows (i:Int) b0 r1 r2 r L s.st=some (ev,was,b0,r1,r2,r,L,t.st))
 |0,n,i,s,hi,hn',hs=>by
  obtain⟨n,rfl⟩:=aoa n;refine⟨s,hs,fun ev was b0 r1 r2 L=>?_,fun ev was b0 r1 r2 L=>?_⟩
  · show IQ 9999 (tB 9999 n) ev was rows (rows.length:Int) (i:Int) b0 r1 r2 r L s.st=_;unfold IQ;rw[ab];rfl
  · show IS 9999 (tC 9999 n) ev was rows (i:Int) b0 r1 r2 r L s.st=_;unfold IS;rw[ab];rfl
 |m+1,n,i,s,hi,hn',hs=>by
  obtain⟨n,rfl⟩:=aoa n;have aS:i<rows.length:=by omega
  obtain⟨c,e,q1,q2⟩:=vSa (hl (rows.getD i []) (by grind));obtain⟨u,o,f,d1,d2,d3⟩:=yG9 hr hs c;have hu:=d3.inv;obtain⟨s',pZ,e'⟩:∃s',yJ r s'∧s'=if e=0 then u else s:=by grind
  obtain⟨t,t1,t2,t3⟩:=yJ4 hr hl hn m n (i+1) s' (by omega) (by omega) pZ;refine⟨t,t1,fun ev was b0 r1 r2 L=>?_,fun ev was b0 r1 r2 L=>?_⟩
  · show IQ 9999 (tB 9999 n) ev was rows (rows.length:Int) (i:Int) b0 r1 r2 r L s.st=_;unfold IQ;rw[aa,wT,ao,q1,qD aS (by omega),←t2 ev was b0 r1 r2 L];grind
  · show IS 9999 (tC 9999 n) ev was rows (i:Int) b0 r1 r2 r L s.st=_;unfold IS;rw[aa,wT,ao,q2,qD aS (by omega),←t3 ev was b0 r1 r2 L];grind
def cv:((Int×vS×kk×wA)⊕(Int×vS))→((Int×wZ×kk×wA)⊕(Int×wZ))
 |.inl x=>.inl (x.1,qV x.2.1,x.2.2.1,iI x.2.2.2)
 |.inr x=>.inr (x.1,qV x.2)
inductive NH (r:qQ) (ev:Int) (B:Nat):((Int×vS×kk×wA)⊕(Int×vS))→Prop
 |up {G:kk} {L:wA} {D:vS} (h:lu r ev B G L D):NH r ev B (.inl (0,D,G,L))
 |no {e:Int} {D:vS} (h:wN B D):NH r ev B (.inr (e,D))
theorem yX3 {r}(hr:jC r){ev was rows}(hl:∀x∈rows,x.length≤19000)(hn:rows.length<9999){D B}(hB:7010≤B)(hc:wN B D)(hu:wY D=false){L:wA}(hs:L.1=0∨L.1=1)(hg:1≤L.2.1∧L.2.1≤4611686018427387904)(hw:was=true∨L.2.2.2=false){s}(h:yJ r s):
  ∃ x, ((tB 9999 9999 ev was rows (rows.length:Int) 0 (D.1,D.2.2.1,D.2.2.2.2) D.2.1 D.2.2.2.1 r L s.st).bind fun z2=>
  bif z2.2.1 then ((kl 9999 z2.2.2.2.2.2.2.2).bind fun iK=>
   (oE 9999 z2.2.2.2.2.2.2.1 (z2.2.2.1.1,z2.2.2.2.1,z2.2.2.1.2.1,z2.2.2.2.2.1,z2.2.2.1.2.2) iK).bind fun cc=>
   bif !(decide (cc.1=0)) then some (.inr (cc.1,cc.2.2))
   else some (.inl (0,cc.2.2,(vI z2.2.2.2.2.2.1 (lO z2 (z2.1,false))),cc.2.1)))
  else some (.inl (0,(z2.2.2.1.1,z2.2.2.2.1,z2.2.2.1.2.1,z2.2.2.2.2.1,z2.2.2.1.2.2),(vI z2.2.2.2.2.2.1 (lO z2 (z2.1,false))),z2.2.2.2.2.2.2.1)))=some x∧
  ((tC 9999 9999 ev was rows 0 (qV D).2.2 (qV D).1 (qV D).2.1 r (iI L) s.st).bind fun z2=>
  bif z2.2.1 then ((oD 9999 z2.2.2.2.2.2.2.2).bind fun iK=>
   (pG 9999 z2.2.2.2.2.2.2.1 (z2.2.2.2.1,z2.2.2.2.2.1,z2.2.2.1) iK).bind fun cc=>
   bif !(decide (cc.1=0)) then some (.inr (cc.1,cc.2.2))
   else some (.inl (0,cc.2.2,(vI z2.2.2.2.2.2.1 (lO z2 (z2.1,false))),cc.2.1)))
  else some (.inl (0,(z2.2.2.2.1,z2.2.2.2.2.1,z2.2.2.1),(vI z2.2.2.2.2.2.1 (lO z2 (z2.1,false))),z2.2.2.2.2.2.2.1)))=some (cv x)∧NH r ev B x:=by
 obtain⟨t,t1,t2,t3⟩:=yJ4 hr hl (by omega) rows.length 9999 0 s (by omega) (by omega) h;have t2:∀ev was b0 r1 r2 L,tB 9999 9999 ev was rows (rows.length:Int) 0 b0 r1 r2 r L s.st=some (ev,was,b0,r1,r2,r,L,t.st):=t2;have t3:∀ev was b0 r1 r2 L,tC 9999 9999 ev was rows 0 b0 r1 r2 r L s.st=some (ev,was,b0,r1,r2,r,L,t.st):=t3;rw[t2,t3];simp;cases was with
 |false=>
  have hw:L.2.2.2=false:=by
   simp_all
  exact⟨.inl (0,D,ic r t ev false,L),rfl,rfl,.up (.up t1 ⟨hc,hu,hs,hg,hw⟩)⟩
 |true=>
  obtain⟨S,s1,s2,s3,s4⟩:=NB hr t1;rw[s1,s2];simp;obtain⟨e,L',D',b1,b2,b3,b4,b5,b6⟩:=yU4 (k:=9999) (by decide) hc hu hs hg s3 s4 hB;rw[show((qV D).1,(qV D).2.1,(qV D).2.2)=qV D from rfl,b2];rw[show(D.1,D.2.1,D.2.2.1,D.2.2.2.1,D.2.2.2.2)=D from rfl,b1];simp;by_cases h0:e=0
  · rw[aa h0];exact⟨.inl (0,D',ic r t ev false,L'),rfl,rfl,.up (.up t1 (b3 h0))⟩
  · rw[ab h0];exact⟨.inr (e,D'),rfl,rfl,.no b6⟩
theorem acn {r}(w:Ia r)(hn:wh 9999 r=some (oI r).st)(h7:NI 9999 r=some true)(NJ:IT 9999 r=some true){ev}(aW:1≤ev∧ev≤1000){B}(hB:7010≤B∧B≤19000){D}(hc:wN B D)(hu:wY D=false):
  ∃x,wi 9999 r D ev=some x∧rD 9999 r (qV D) ev=some (cv x)∧NH r ev B x:=by
 obtain⟨F,f1,f2,f3,f4⟩:=NB w.ok w.inv;obtain⟨g,m,S,rows,ok,a1,a2,a3,a4,a5⟩:=aci (k:=9999) (B:=B) (by decide) (by omega) (by omega) (hc.side (.inl rfl)) (hc.side (.inr rfl));have read:∀S:AC,S.length≤19000→∃(s:tn) (ok:Bool),Dm 9999 S=some (s,ok)∧IP 9999 S=some (s,ok)∧∃y,Db 9999 r s=some y∧Im 9999 r s=some y∧(y=true→∃t:qI,s=t.st∧yJ r t):=fun S hS=>by
  obtain⟨s,ok,b1,b2,b3,b4⟩:=vUz (k:=9999) (Nat.le_refl _) (b:=S) (by omega) (by omega);obtain⟨t,et⟩:∃t:qI,s=t.st:=⟨⟨s.1,(s.2.1,s.2.2.1,s.2.2.2.1,s.2.2.2.2.1),s.2.2.2.2.2.1,s.2.2.2.2.2.2.1,s.2.2.2.2.2.2.2.1,s.2.2.2.2.2.2.2.2.1,s.2.2.2.2.2.2.2.2.2.1,s.2.2.2.2.2.2.2.2.2.2⟩,rfl⟩;subst et;exact⟨t.st,ok,b1,b2,_,vRn w.ok b3 b4,vPk w.ok b3 b4,fun h=>⟨t,rfl,vQ5 w.ok h⟩⟩
 unfold wi rD;rw[NJ,h7];simp only[ae,aA,ak];rw[ab (show¬ev<1 by omega),ab (by grind),a1,a2,w.new,hn];simp only[ae,ak];rw[f1,f2];simp only[ae];unfold qW9 yBd;rw[a1,a2];simp only[ae];cases ok with
 |true=>
  have a5:=a5 rfl;have tb:=fun{s:qI} (h:yJ r s)=>yX3 w.ok (ev:=ev) (was:=true) (rows:=rows) (fun x hx=>by have:=a4.r x hx;omega) (by have:=a4.n;omega) hB.1 hc hu (L:=(m,g,(rows.length:Int),true)) a3 (by rcases a4.g with q|q;exact absurd q.1 (by omega);exact q) (.inl rfl) h
  obtain⟨s,gV,b1,b2,y,b3,b4,b5⟩:=read S (by have:=a4.s;omega);simp only[ag,ae,decide_true,aA,ak];rw[b1,b2];simp only[ae];cases gV with
  |false=>exact tb w.inv
  |true=>
   simp only[aA,ak];rw[b3,b4];cases y with
   |false=>exact tb w.inv
   |true=>
    obtain⟨t,rfl,ht⟩:=b5 rfl;exact tb ht
 |false=>
  have hl:=Nu hc;simp only[ak];rw[yHn (by decide) (.inl rfl) hl.1 hl.2 (by omega)];obtain⟨e,D',c1,_,c3,c4⟩:=yN8 (k:=9999) (by decide) hc hu (.inl rfl) 1 f3 f4 hB.1;rw[c1];simp only[ae,Option.map_some];rw[show(mp (e,D')).1=e from rfl];by_cases h0:e=0
  case neg=>
   rw[ab h0];show∃x,(bif !(decide (e=0)) then _ else _)=some x∧(bif !(decide (e=0)) then _ else _)=some (cv x)∧_;rw[ab h0];exact⟨.inr (e,D'),rfl,rfl,.no c4⟩
  subst h0;have tb:=fun{s:qI} (h:yJ r s)=>yX3 w.ok (ev:=ev) (was:=false) (rows:=[]) (by simp) (by decide) hB.1 c4 (c3 (by decide)) (L:=(0,1,0,false)) (.inl rfl) (by show(1:Int)≤1∧(1:Int)≤_;decide) (.inr rfl) h
  obtain⟨s,gV,b1,b2,y,b3,b4,b5⟩:=read F (by omega);rw[qF];simp only[ag,ae,decide_true,aA,ak];rw[b1,b2];simp only[ae];cases gV with
  |false=>exact tb w.inv
  |true=>
   simp only[aA,ak];rw[b3,b4];cases y with
   |false=>exact tb w.inv
   |true=>
    obtain⟨t,rfl,ht⟩:=b5 rfl;exact tb ht
theorem yNk {k B D}(h:wN B D):∃D',Dn k D=some D'∧AB k (qV D)=some (qV D')∧wN B D'∧wY D'=false:=by
 obtain⟨ro,x,sx,y,sy,cA,cK,ar,dn,op⟩:=D;obtain⟨h1,h2,h3,h4,h5,h6,h7,h8⟩:=h;refine⟨(ro,x.take sx.toNat,sx,y.take sy.toNat,sy,cA,cK,false,false,0),?_,?_,⟨by grind,by grind,h3,by grind,by grind,h6,h7.take _,h8.take _⟩,rfl⟩
 · unfold Dn;simp_all
 · unfold AB qV;simp_all
theorem vHm {k B D}(h:wN B D){c:Int×Int}(hc:c.2<9223372036854775808):∃D',IU k D c=some D'∧Dp k (qV D) c=some (qV D')∧wN B D'∧wY D'=wY D:=
 ⟨(D.1,D.2.1,D.2.2.1,D.2.2.2.1,D.2.2.2.2.1,c.1,c.2,true,D.2.2.2.2.2.2.2.2),rfl,rfl,⟨h.x,h.y,h.room,h.lx,h.ly,hc,h.sx,h.sy⟩,rfl⟩
theorem aco {r}(h7:NI 9999 r=some true)(NJ:IT 9999 r=some true){ev}(aW:ev<1∨ev>1000) D:wi 9999 r D ev=some (.inr (1,D))∧rD 9999 r (qV D) ev=some (.inr (1,qV D)):=by
 unfold wi rD;grind
structure tD (r:qQ):Prop where
 w:Ia r
 new:wh 9999 r=some (oI r).st
 is7:NI 9999 r=some true
 day:IT 9999 r=some true
theorem acp:tD r0:=⟨abT,by rfl,by rfl,by rfl⟩
theorem vOw:tD r1:=⟨abU,by rfl,by rfl,by rfl⟩
theorem vS9:tD r2:=⟨abV,by rfl,by rfl,by rfl⟩
theorem vTw:tD r3:=⟨vP6,by rfl,by rfl,by rfl⟩
theorem qZe {r}(w:tD r) ev {B}(hB:7010≤B∧B≤19000){D}(hc:wN B D)(hu:wY D=false):
  ∃x,wi 9999 r D ev=some x∧rD 9999 r (qV D) ev=some (cv x)∧NH r ev B x:=by
 by_cases h:1≤ev∧ev≤1000
 · exact acn w.w w.new w.is7 w.day h hB hc hu
 · obtain⟨a,b⟩:=aco w.is7 w.day (ev:=ev) (by omega) D;exact⟨_,a,b,.no hc⟩
end Go.Ab.Gi
namespace Go.Ab.Gi
open Go.Ab Go.RowKit
theorem vWy (o:List yD)(h:o.length≤300):Ms 9999 o o=some true:=by
 rw[vQx (by omega) (by omega),aa rfl]
theorem lu.deck {r ev B G L D}(h:lu r ev B G L D):wN B D:=by
 cases h with
 |up i h=>exact h.half
 |dn i h=>exact h
theorem lu.mono {r ev B C G L D}(h:lu r ev B G L D)(hc:B≤C):lu r ev C G L D:=by
 cases h with
 |up i h=>exact .up i ⟨h.half.mono hc,h.up,h.side,h.gen,h.stale⟩
 |dn i h=>exact .dn i (h.mono hc)
theorem lu.arm {r ev B G L D D'}(h:lu r ev B G L D)(h1:wN B D')(h2:wY D'=wY D):lu r ev B G L D':=by
 cases h with
 |up i h=>exact .up i ⟨h1,h2.trans h.up,h.side,h.gen,h.stale⟩
 |dn i h=>exact .dn i h1
theorem vTb {α:Type} b (x:α):(bif b then x else x)=x:=by simp
theorem vX2 {room}(h:¬room<0)(h':¬room>200000):wN 7010 ((room,[],0,[],0,0,0,false,false,0):vS):=
 ⟨by simp,by simp,by grind,by simp_all,by simp_all,by simp,.nil _,.nil _⟩
end Go.Ab.Gi
namespace Go.Ab.Gi
open Go.Ab Go.RowKit
def AE (o:List yD):Bool:= !zY (fun j=> !decide ((o.getD j (0,0,0,0,0,0,0,0)).2.1=16)) o.length 0
theorem yX5 {o:List yD}(h:o.length≤300):NK 9999 o=some (AE o):=by
 obtain ⟨x, h1, h2⟩ := pt (L := fun n i => NL 9999 n o (o.length : Int) i) (N := o.length) (fun j => decide ((o.getD j (0, 0, 0, 0, 0, 0, 0, 0)).2.1 = 16)) (fun n=>by
  show IV 9999 _ o _ _=_;unfold IV;rw[ab (Int.lt_irrefl _)];rfl) (fun n i hi=>by
  show IV 9999 _ o _ _=_;unfold IV qT2;rw[aa,wT,ao,qD hi (by omega)];rfl) (n:=9999) (by omega)
 unfold NK qRe qWz;have h1:NL 9999 9999 o (o.length:Int) 0=some x:=h1;rw[h1];cases x<;>exact congrArg some h2
theorem acq {o:List yD}(h:o.length≤300):SF 9999 o=some (AE o):=by
 have h1 := eQ (L := fun n i => NM 9999 n o i) (N := o.length) (fun j => !decide ((o.getD j (0, 0, 0, 0, 0, 0, 0, 0)).2.1 = 16)) (.inl ()) (.inr true) (fun n=>by
  show IW 9999 _ o _=_;unfold IW;rw[ab (Int.lt_irrefl _)];rfl) (fun n i hi=>by
  show IW 9999 _ o _=_;unfold IW;rw[aa,wT,ao,qD hi (by omega)];cases decide ((o.getD i (0,0,0,0,0,0,0,0)).2.1=16)<;>rfl) (n:=9999) (by omega)
 unfold SF AE;have h1:NM 9999 9999 o 0=_:=h1;rw[h1];cases zY (fun j=> !decide ((o.getD j (0,0,0,0,0,0,0,0)).2.1=16)) o.length 0<;>rfl
def wj (G:kk):Bool:=G.2.2.2.2.2.2.2.2.2.2.2.2.2.2.2.2.2
theorem vV1 {r ev B G L D}(h:lu r ev B G L D)(a:Int){b:AC}(hb:b.length≤8000)(he:(kV b).2≠0){o G' L' D'}(hd:xT 9999 G L D a b=some (o,G',L',D')):
  AE o=true∨(o=[]∧wj G'=true):=by
 cases h with
 |@dn s _ _ i h=>
  have e:some (([]:List yD),ic r s ev true,L,D)=some (o,G',L',D'):=hd;simp only[Option.some.injEq,Prod.mk.injEq] at e;obtain⟨rfl,rfl,_⟩:=e;exact .inr ⟨rfl,rfl⟩
 |@up s _ _ i h=>
  have e:=(YT (G:=ic r s ev false) rfl (Qa (k:=9999) (by omega) (by omega) (by omega)) he).symm.trans hd;simp only[Option.some.injEq,Prod.mk.injEq] at e;obtain⟨rfl,_⟩:=e;exact .inl rfl
abbrev c0:fO:=(0,0,false,false)
def pN (ev:Int)(l:List mQ)(n i:Int)(r:qQ)(D:vS)(outs:List (List yD))(q:List yD):=(ev,l,n,i,r,c0,((D.1,D.2.2.1,D.2.2.2.2):Int×Int×Int×Int×Int×Bool×Bool×Int),D.2.1,D.2.2.2.1,c0,outs,q)
def qN (ev:Int)(l:List mQ)(i:Int)(r:qQ)(D:vS)(outs:List (List yD))(q:List yD):=(ev,l,i,r,c0,c0,outs,q,(qV D).2.2,(qV D).1,(qV D).2.1)
def qG (ev:Int)(l:List mQ)(i:Int)(r:qQ)(D:vS)(G:kk)(L:wA)(outs:List (List yD))(q:List yD):=(ev,l,i,r,c0,c0,outs,q,(qV D).2.2,(qV D).1,(qV D).2.1,G,iI L)
structure rE (i:Nat) (outs:List (List yD)) (q:List yD):Prop where
 n:outs.length=i
 q:q.length≤i
 o:∀o∈outs,o.length≤300
theorem rE.snoc {i outs q}(h:rE i outs q){o:List yD}(ho:o.length≤300){q':List yD}(hq:q'.length≤q.length+1):rE (i+1) (outs++[o]) q':=by
 have:=h.n;have:=h.q;refine⟨by rw[ay];show outs.length+1=_;omega,by omega,fun x hx=>?_⟩;rcases List.mem_append.1 hx with hx|hx
 · exact h.o x hx
 · rw[List.mem_singleton.1 hx];exact ho
abbrev PN:Type:=Int×List mQ×Int×Int×KS×fO×(Int×Int×Int×Int×Int×Bool×Bool×Int)×AC×AC×fO×List (List zW)×List zW
abbrev PG:Type:=Int×List mQ×Int×Int×KS×fO×(Int×Int×Int×Int×Int×Bool×Bool×Int)×AC×AC×kk×wA×fO×List (List zW)×List zW
abbrev QN:Type:=Int×List mQ×Int×KS×fO×fO×List (List zW)×List zW×A0×AC×AC
abbrev QG:Type:=Int×List mQ×Int×KS×fO×fO×List (List zW)×List zW×A0×AC×AC×kk×wA
inductive NN (r:qQ) (ev:Int) (l:List mQ) (B i:Nat):PG⊕PN→QG⊕QN→Prop
 |up {G L D outs q} (h:lu r ev B G L D) (t:rE i outs q):NN r ev l B i (.inl (zI ev l l.length i r c0 D G L c0 outs q)) (.inl (qG ev l i r D G L outs q))
 |no {D outs q} (h:wN B D) (t:rE i outs q):NN r ev l B i (.inr (pN ev l l.length i r D outs q)) (.inr (qN ev l i r D outs q))
theorem acr {r:qQ}(w:tD r){ev:Int}{l:List mQ}(hl:l.length≤100)(hb:∀a∈l,a.2.2.1.length≤8000∧a.2.2.2.2<9223372036854775808){B:Nat}(hB:7010≤B∧B≤18900){i:Nat}(hi:i<l.length){z y}(h:NN r ev l B i z y):
  ∃z' y',NN r ev l (B+118) (i+1) z' y'∧(∀rec,mJ 9999 rec z=rec z')∧∀rec,mK 9999 rec y=rec y':=by
 have fB:zB (i:Int) l.length=true:=wT;have ha:=hb _ (fD (d:=d0) hi);have aS:decide ((i:Int)<(l.length:Int))=true:=aa;have hw:=qD hi (by omega);obtain⟨a,ea⟩:∃a,l.getD i (0,0,[],0,0)=a:=⟨_,rfl⟩;have ha:a.2.2.1.length≤8000∧a.2.2.2.2<9223372036854775808:=by rw[←ea];exact ha
 have hm:qo 9999 a.2.2.1=some (kV a.2.2.1):=Qa (by omega) (by omega) (by omega);have my:uK 9999 a.2.2.1=some (kV a.2.2.1):=YR (by omega) (by omega) (by omega);have room:∀{outs q},rE i outs q→zL (outs.length+1) 24=true∧zL (q.length+1) 64=true:=fun t=>by
  have:=t.n;have:=t.q;exact⟨qF,qF⟩
 cases h with
 |@up G L D outs q h t=>
  obtain⟨ro,rq⟩:=room t;by_cases h1:a.1=1
  · obtain⟨o,G',L',D',d1,d2,d3,d4⟩:=acm w.w.ok hB.1 h a.2.1 ha.1;have ask:=fun he=>vV1 h a.2.1 ha.1 he d1
    generalize kV a.2.2.1=m at hm my ask;refine⟨_,_,.up d4 (t.snoc d3 (q':=bif decide (m.2=0)&& !AE o&&(decide ((o.length:Int)>0)|| !wj G') then q++[(a.2.1,m.1)] else q) ?_),fun rec=>?_,fun rec=>?_⟩
    · cases(decide (m.2=0)&& !AE o&&(decide ((o.length:Int)>0)|| !wj G')) with
      |true=>rw[ag,ay];exact Nat.le_refl _
      |false=>exact Nat.le_succ _
    · unfold mJ;dsimp only[zI];rw[aS,fB,ao,hw,ea,aa h1];simp only[ag];have d1:xT 9999 G L (D.1,D.2.1,D.2.2.1,D.2.2.2.1,D.2.2.2.2) a.2.1 a.2.2.1=some (o,G',L',D'):=d1;rw[d1];simp only[ae];rw[hm];simp only[ae];rw[yX5 d3,ro,rq,show xU 9999 G' L' D'=some (wj G',G',L',D') from rfl];simp only[ae,ag];cases decide (m.2=0)<;>cases AE o<;>cases decide ((o.length:Int)>0)<;>cases wj G'<;>rfl
    · unfold mK;dsimp only[qG];rw[aS,fB,ao,hw,ea,aa h1];simp only[ag];have d2:NF 9999 G (iI L) ((qV D).1,(qV D).2.1,(qV D).2.2) a.2.1 a.2.2.1=some (o,G',iI L',qV D'):=d2;rw[d2];simp only[ae];rw[acq d3,ro,rq,my,show G'.2.2.2.2.2.2.2.2.2.2.2.2.2.2.2.2.2=wj G' from rfl];simp only[ae,ag];by_cases he:m.2=0
      · rw[aa he];cases AE o<;>cases decide ((o.length:Int)>0)<;>cases wj G'<;>rfl
      · rw[ab he];rcases ask he with e|⟨rfl,e⟩
        · rw[e];rfl
        · rw[e];rfl
  · have e1:decide (a.1=1)=false:=ab h1;have t':=t.snoc (o:=[]) (Nat.zero_le _) (q':=q) (Nat.le_succ _);cases h2:decide (a.1=2) with
    |true=>
     obtain⟨D',d1,d2,d3,d4⟩:=vHm (k:=9999) h.deck ha.2;have d1:IU 9999 (D.1,D.2.1,D.2.2.1,D.2.2.2.1,D.2.2.2.2) a.2.2.2=some D':=d1;have d2:Dp 9999 ((qV D).1,(qV D).2.1,(qV D).2.2) a.2.2.2=some (qV D'):=d2;refine⟨_,_,.up ((h.arm d3 d4).mono (by omega)) t',fun rec=>?_,fun rec=>?_⟩
     · unfold mJ;dsimp only[zI];rw[aS,fB,ao,hw,ea,e1,h2,d1,ro];rfl
     · unfold mK;dsimp only[qG];rw[aS,fB,ao,hw,ea,e1,h2,d2,ro];rfl
    |false=>
    cases h3:decide (a.1=3) with
    |true=>
     obtain⟨D',d1,d2,d3,d4⟩:=yNk (k:=9999) h.deck;obtain⟨x,x1,x2,x3⟩:=qZe w ev (B:=B) (by omega) d3 d4;have d1:Dn 9999 (D.1,D.2.1,D.2.2.1,D.2.2.2.1,D.2.2.2.2)=some D':=d1;have d2:AB 9999 ((qV D).1,(qV D).2.1,(qV D).2.2)=some (qV D'):=d2;cases x3 with
     |@up G L D h=>
      refine⟨_,_,.up (h.mono (by omega)) t',fun rec=>?_,fun rec=>?_⟩
      · unfold mJ;dsimp only[zI];rw[aS,fB,ao,hw,ea,e1,h2,h3,d1,ro];simp only[ag,ak,ae];rw[x1];rfl
      · unfold mK;dsimp only[qG];rw[aS,fB,ao,hw,ea,e1,h2,h3,d2,ro];simp only[ag,ak,ae];rw[x2];rfl
     |@no e D h=>
      refine⟨_,_,.no (h.mono (by omega)) t',fun rec=>?_,fun rec=>?_⟩
      · unfold mJ;dsimp only[zI];rw[aS,fB,ao,hw,ea,e1,h2,h3,d1,ro];simp only[ag,ak,ae];rw[x1];rfl
      · unfold mK;dsimp only[qG];rw[aS,fB,ao,hw,ea,e1,h2,h3,d2,ro];simp only[ag,ak,ae];rw[x2];rfl
    |false=>
     refine⟨_,_,.up (h.mono (by omega)) t',fun rec=>?_,fun rec=>?_⟩
     · unfold mJ;dsimp only[zI];rw[aS,fB,ao,hw,ea,e1,h2,h3,ro];rfl
     · unfold mK;dsimp only[qG];rw[aS,fB,ao,hw,ea,e1,h2,h3,ro];rfl
 |@no D outs q h t=>
  obtain⟨ro,rq⟩:=room t;have t':=t.snoc (o:=[]) (Nat.zero_le _) (q':=q) (Nat.le_succ _);by_cases h1:a.1=1
  · have e2:decide (a.1=2)=false:=ab;have e3:decide (a.1=3)=false:=ab;refine⟨_,_,.no (h.mono (by omega)) t',fun rec=>?_,fun rec=>?_⟩
    · unfold mJ;dsimp only[pN];rw[aS,fB,ao,hw,ea,aa h1];simp only[ag];rw[show qYn 9999 a.2.1 a.2.2.1=some [] from rfl,hm];simp only[ae];rw[yX5 (Nat.zero_le _),show IX 9999=some true from rfl,ro];cases decide ((kV a.2.2.1).2=0)<;>rfl
    · unfold mK;dsimp only[qN];rw[aS,fB,ao,hw,ea,e2,e3,ro,vTb];rfl
  · have e1:decide (a.1=1)=false:=ab h1;cases h2:decide (a.1=2) with
    |true=>
     obtain⟨D',d1,d2,d3,d4⟩:=vHm (k:=9999) h ha.2;have d1:IU 9999 (D.1,D.2.1,D.2.2.1,D.2.2.2.1,D.2.2.2.2) a.2.2.2=some D':=d1;have d2:Dp 9999 ((qV D).1,(qV D).2.1,(qV D).2.2) a.2.2.2=some (qV D'):=d2;refine⟨_,_,.no (d3.mono (by omega)) t',fun rec=>?_,fun rec=>?_⟩
     · unfold mJ;dsimp only[pN];rw[aS,fB,ao,hw,ea,e1,h2,d1,ro];rfl
     · unfold mK;dsimp only[qN];rw[aS,fB,ao,hw,ea,e1,h2,d2,ro];rfl
    |false=>
    cases h3:decide (a.1=3) with
    |true=>
     obtain⟨D',d1,d2,d3,d4⟩:=yNk (k:=9999) h;obtain⟨x,x1,x2,x3⟩:=qZe w ev (B:=B) (by omega) d3 d4;have d1:Dn 9999 (D.1,D.2.1,D.2.2.1,D.2.2.2.1,D.2.2.2.2)=some D':=d1;have d2:AB 9999 ((qV D).1,(qV D).2.1,(qV D).2.2)=some (qV D'):=d2;cases x3 with
     |@up G L D h=>
      refine⟨_,_,.up (h.mono (by omega)) t',fun rec=>?_,fun rec=>?_⟩
      · unfold mJ;dsimp only[pN];rw[aS,fB,ao,hw,ea,e1,h2,h3,d1,ro];simp only[ag,ak,ae];rw[x1];rfl
      · unfold mK;dsimp only[qN];rw[aS,fB,ao,hw,ea,e1,h2,h3,d2,ro];simp only[ag,ak,ae];rw[x2];rfl
     |@no e D h=>
      refine⟨_,_,.no (h.mono (by omega)) t',fun rec=>?_,fun rec=>?_⟩
      · unfold mJ;dsimp only[pN];rw[aS,fB,ao,hw,ea,e1,h2,h3,d1,ro];simp only[ag,ak,ae];rw[x1];rfl
      · unfold mK;dsimp only[qN];rw[aS,fB,ao,hw,ea,e1,h2,h3,d2,ro];simp only[ag,ak,ae];rw[x2];rfl
    |false=>
     refine⟨_,_,.no (h.mono (by omega)) t',fun rec=>?_,fun rec=>?_⟩
     · unfold mJ;dsimp only[pN];rw[aS,fB,ao,hw,ea,e1,h2,h3,ro];rfl
     · unfold mK;dsimp only[qN];rw[aS,fB,ao,hw,ea,e1,h2,h3,ro];rfl
abbrev PX:Type:=(fO×fO×List (List zW)×List zW)⊕(fO×kk×wA×(Int×Int×Int×Int×Int×Bool×Bool×Int)×AC×AC×fO×List (List zW)×List zW)
abbrev QX:Type:=(fO×fO×List (List zW)×List zW)⊕(fO×fO×List (List zW)×List zW×kk×wA×A0×AC×AC)
def vM9 (r:qQ)(ev:Int)(i:Nat)(x:Option PX)(y:Option QX):Prop:=∃outs q,rE i outs q∧((∃B G L D,lu r ev B G L D∧x=some (.inr (c0,G,L,((D.1,D.2.2.1,D.2.2.2.2):Int×Int×Int×Int×Int×Bool×Bool×Int),D.2.1,D.2.2.2.1,c0,outs,q))∧y=some (.inr (c0,c0,outs,q,G,iI L,(qV D).2.2,(qV D).1,(qV D).2.1)))∨(x=some (.inl (c0,c0,outs,q))∧y=some (.inl (c0,c0,outs,q))))
theorem yC8 {r:qQ}(w:tD r){ev:Int}{l:List mQ}(hl:l.length≤100)(hb:∀a∈l,a.2.2.1.length≤8000∧a.2.2.2.2<9223372036854775808):∀(m n i:Nat) z y,i+m=l.length→m<n→NN r ev l (7010+118*i) i z y→
   vM9 r ev l.length (rF 9999 n z) (rG 9999 n y)
 |_,0,_,_,_,_,hn,_=>by omega
 |0,n+1,i,z,y,hi,_,h=>by
  have e:i=l.length:=by omega
  subst e;have lt:decide ((l.length:Int)<(l.length:Int))=false:=ab (Int.lt_irrefl _);show vM9 r ev _ (mJ 9999 (rF 9999 n) z) (mK 9999 (rG 9999 n) y);unfold mJ mK;cases h with
  |up h t=>
   refine⟨_,_,t,.inl ⟨_,_,_,_,h,?_,?_⟩⟩
   · dsimp only[zI];rw[lt];rfl
   · dsimp only[qG];rw[lt];rfl
  |no h t=>
   refine⟨_,_,t,.inr ⟨?_,?_⟩⟩
   · dsimp only[pN];rw[lt];rfl
   · dsimp only[qN];rw[lt];rfl
 |m+1,n+1,i,z,y,hi,hn,h=>by
  obtain⟨z',y',h',e1,e2⟩:=acr w hl hb ⟨by omega,by omega⟩ (by omega) h;have g:=yC8 w hl hb m n (i+1) z' y' (by omega) (by omega) h';rw[←e1 (rF 9999 n),←e2 (rG 9999 n)] at g;exact g
theorem acs {r}(w:tD r) ev:∃e,NO 9999 r ev=some e∧e≠0:=by
 obtain⟨b,h1,_⟩:=NB w.w.ok w.w.inv;unfold NO;rw[w.day,w.w.new,show qOi 9999=some (0,0,[],[],false) by kernel_rfl];simp only[ae];rw[h1];cases decide (ev<1) with
 |true=>exact⟨1,rfl,by decide⟩
 |false=>
 cases decide (ev>1000) with
 |true=>exact⟨1,rfl,by decide⟩
 |false=>exact⟨11,rfl,by decide⟩
theorem acu {r:qQ}(w:tD r){ev:Int}{l:List mQ}(hl:l.length≤100)(hb:∀a∈l,a.2.2.1.length≤8000∧a.2.2.2.2<9223372036854775808) room:
  ∃outs q t,rE outs.length outs q∧outs.length≤100∧IY 9999 r room ev l=some (outs,q,t)∧SG 9999 r room ev l=some (outs,q,t)∧v9 9999 (qO t) (qO t)=some true:=by
 have zero:v9 9999 (0,[],[],[],[],[],[],[],[],0,false) (0,[],[],[],[],[],[],[],[],0,false)=some true:=by kernel_rfl
 have none:rE 0 [] []:=⟨rfl,Nat.le_refl _,fun o ho=>nomatch ho⟩;have nil:∃e,NO 9999 r ev=some e∧e≠0:=acs w ev;unfold IY SG qZb qVy;by_cases n0:room<0
 · obtain⟨e,e1,e2⟩:=nil;rw[aa n0,e1];refine⟨[],[],(0,[],[],[],[],[],[],[],[],0,false,false),none,by decide,?_,rfl,zero⟩;show(bif !(decide (e=0)) then _ else _)=_;rw[ab e2];rfl
 by_cases n1:room>200000
 · obtain⟨e,e1,e2⟩:=nil;rw[ab n0,aa n1,e1];refine⟨[],[],(0,[],[],[],[],[],[],[],[],0,false,false),none,by decide,?_,rfl,zero⟩;show(bif !(decide (e=0)) then _ else _)=_;rw[ab e2];rfl
 rw[ab n0,ab n1];simp only[ak,ae];obtain⟨x,x1,x2,x3⟩:=qZe w ev (B:=7010) (by decide) (vX2 n0 n1) rfl;have x2:rD 9999 r ([],[],0,0,room,0,0,0,false,false) ev=some (cv x):=x2;rw[x1,x2];simp only[ae];have tl:∀{outs q},rE l.length outs q→rE outs.length outs q∧outs.length≤100:=fun t=>by
  have h1:=t.n;have h2:=t.q;exact⟨⟨rfl,by omega,t.o⟩,by omega⟩
 have fin:∀{B G L D},lu r ev B G L D→v9 9999 (iJ G) (iJ G)=some true:=fun h=>by
  cases h with
  |up i _=>exact yZ5 w.w.ok i
  |dn i _=>exact yZ5 w.w.ok i
 cases x3 with
 |@up G L D h=>
  obtain⟨outs,q,t,g⟩:=yC8 w hl hb l.length 9999 0 _ _ (by omega) (by omega) (.up h none);rcases g with⟨B,G',L',D',h',p,p'⟩|⟨p,p'⟩
  · refine⟨outs,q,vD (iJ G') (!wj G'),(tl t).1,(tl t).2,?_,?_,fin h'⟩
    · show(rF 9999 9999 (.inl (zI ev l l.length ((0:Nat):Int) r c0 D G L c0 [] []))).bind _=_;rw[p];rfl
    · show(rG 9999 9999 (.inl (qG ev l ((0:Nat):Int) r D G L [] []))).bind _=_;rw[p'];rfl
  · refine⟨outs,q,(0,[],[],[],[],[],[],[],[],0,false,false),(tl t).1,(tl t).2,?_,?_,zero⟩
    · show(rF 9999 9999 (.inl (zI ev l l.length ((0:Nat):Int) r c0 D G L c0 [] []))).bind _=_;rw[p];rfl
    · show(rG 9999 9999 (.inl (qG ev l ((0:Nat):Int) r D G L [] []))).bind _=_;rw[p'];rfl
 |@no e D h=>
  by_cases he:e=0
  case neg=>
   refine⟨[],[],(0,[],[],[],[],[],[],[],[],0,false,false),none,by decide,?_,?_,zero⟩
   · show(bif !(decide (e=0)) then _ else _)=_;rw[ab he];rfl
   · show(bif !(decide (e=0)) then _ else _)=_;rw[ab he];rfl
  subst he;obtain⟨outs,q,t,g⟩:=yC8 w hl hb l.length 9999 0 _ _ (by omega) (by omega) (.no h none);rcases g with⟨B,G',L',D',h',p,p'⟩|⟨p,p'⟩
  · refine⟨outs,q,vD (iJ G') (!wj G'),(tl t).1,(tl t).2,?_,?_,fin h'⟩
    · show(rF 9999 9999 (.inr (pN ev l l.length ((0:Nat):Int) r D [] []))).bind _=_;rw[p];rfl
    · show(rG 9999 9999 (.inr (qN ev l ((0:Nat):Int) r D [] []))).bind _=_;rw[p'];rfl
  · refine⟨outs,q,(0,[],[],[],[],[],[],[],[],0,false,false),(tl t).1,(tl t).2,?_,?_,zero⟩
    · show(rF 9999 9999 (.inr (pN ev l l.length ((0:Nat):Int) r D [] []))).bind _=_;rw[p];rfl
    · show(rG 9999 9999 (.inr (qN ev l ((0:Nat):Int) r D [] []))).bind _=_;rw[p'];rfl
theorem yGd (a:Int):decide (a=a)=true:=aa rfl
theorem acv {q:List yD}(h:q.length≤300):SH 9999 q q=some true:=by
 obtain ⟨_, h1, _⟩ := vA (L := fun n i (_ : Unit) => NP 9999 n q q i) (N := q.length) (fun _ => .inl ()) (fun _ _ => True) (fun n _ _=>by
  show IZ 9999 _ q q _=_;unfold IZ;rw[ab (Int.lt_irrefl _)];rfl) (fun n i _ hi _=>⟨(),by
  show IZ 9999 _ q q _=_;unfold IZ;rw[aa,wT,ao,qD hi (by omega)];simp only[yGd];rfl,trivial⟩) (n:=9999) (s:=()) (by omega) trivial
 unfold SH;have h1:NP 9999 9999 q q 0=_:=h1;rw[yGd,h1];rfl
theorem vPw (a:Int):∃r,Dq 9999 a=some r∧tD r:=by
 unfold Dq;cases decide (yM .i64 a 3=1) with
 |true=>exact⟨r1,rfl,vOw⟩
 |false=>
  cases decide (yM .i64 a 3=2) with
  |true=>exact⟨r2,rfl,vS9⟩
  |false=>
   cases decide (yM .i64 a 3=3) with
   |true=>exact⟨r3,rfl,vTw⟩
   |false=>exact⟨r0,rfl,acp⟩
theorem acw {l:List mQ}(hb:∀a∈l,a.2.2.1.length≤140737488355328):∃b,SI 9999 l=some b∧(b=false→l.length≤100∧∀a∈l,a.2.2.1.length≤8000):=by
 have key:∀(c n i:Nat) (s:Nat),i+c=min l.length 200→c<n→s≤140737488355328*i→(∀j,j<i→(l.getD j d0).2.2.1.length≤s)→
   ∃t:Nat,I1 9999 n l (s:Int) (i:Int)=some (l,(t:Int))∧∀j,j<min l.length 200→(l.getD j d0).2.2.1.length≤t:=by
  intro c
  induction c with
  |zero=>
   intro n i s h1 h2 h3 h4;obtain⟨n,rfl⟩:=aoa n;refine⟨s,?_,fun j hj=>h4 j (by omega)⟩;show I2 9999 _ l (s:Int) (i:Int)=_;unfold I2;by_cases h:i<l.length
   ·rw[aa (show(i:Int)<l.length by omega),ab];rfl
   ·rw[ab];rfl
  |succ c ih=>
   intro n i s h1 h2 h3 h4;obtain⟨n,rfl⟩:=aoa n;have hi:i<l.length:=by omega
   have hl:=hb _ (fD (d:=d0) hi);obtain ⟨t, g1, g2⟩ := ih n (i + 1) (s + (l.getD i d0).2.2.1.length) (by omega) (by omega) (by omega) (fun j hj=>by
    by_cases e:j=i
    ·subst e;omega
    ·have:=h4 j (by omega);omega)
   refine⟨t,?_,g2⟩;show I2 9999 (I1 9999 n) l (s:Int) (i:Int)=_;unfold I2;rw[aa (show(i:Int)<l.length by omega),aa (show(i:Int)<200 by omega),wT,ao];simp only[ag];have e:(s:Int)+((l.getD i (0,0,[],0,0)).2.2.1.length:Int)=((s+(l.getD i d0).2.2.1.length:Nat):Int):=by rw[Int.natCast_add];rfl
   rw[e,zP,qD (N:=200) (by omega) (by omega)];exact g1
 obtain⟨t,g1,g2⟩:=key (min l.length 200) 9999 0 0 (by omega) (by omega) (by omega) (fun j hj=>absurd hj (Nat.not_lt_zero j));unfold SI;have g1:I1 9999 9999 l 0 0=some (l,(t:Int)):=g1;rw[g1];simp only[ae];by_cases h:(l.length:Int)>100
 ·rw[aa h];exact⟨true,rfl,fun e=>by cases e⟩
 ·rw[ab h];refine⟨_,rfl,fun e=>⟨by omega,fun a ha=>?_⟩⟩;have e:=fW e;obtain⟨j,hj,rfl⟩:=List.mem_iff_getElem.1 ha;have:=g2 j (by omega);rw[bT,List.getElem?_eq_getElem hj] at this;have:(l[j]).2.2.1.length≤t:=this;omega
theorem acx way room ev {l:List mQ}(h0:∀a∈l,a.2.2.1.length≤140737488355328)(h1:∀a∈l,a.2.2.2.2<9223372036854775808):SJ 9999 way room ev l=some true:=by
 obtain⟨b,e,hl⟩:=acw h0;unfold SJ;rw[e];simp only[ae];cases b with
 |true=>rfl
 |false=>
 obtain⟨hl,hb⟩:=hl rfl;have hb:∀a∈l,a.2.2.1.length≤8000∧a.2.2.2.2<9223372036854775808:=fun a ha=>⟨hb a ha,h1 a ha⟩
 obtain⟨r,er,w⟩:=vPw way;have kn:qPo 9999=some true:=by kernel_rfl
 obtain⟨outs,q,t,s1,s2,s3,s4,s5⟩:=acu w (ev:=ev) hl hb room;rw[er];simp only[ak,ae];rw[s3,ae,s4,ae,yGd,acv (q:=q) (by have:=s1.q;omega)];obtain ⟨_, lp, _⟩ := vA (L := fun n i (_ : Unit) => NQ 9999 n i t outs q t outs q) (N := outs.length) (fun _ => .inl ()) (fun _ _ => True) (fun n _ _=>by
  show I3 9999 _ _ t outs q t outs q=_;unfold I3;rw[ab (Int.lt_irrefl _)];rfl) (fun n i _ hi _=>⟨(),by
  show I3 9999 _ _ t outs q t outs q=_;unfold I3;rw[aa,wT,ao,qD hi (by omega),vWy _ (s1.o _ (fD hi))];rfl,trivial⟩) (n:=9999) (s:=()) (by omega) trivial
 have lp:NQ 9999 9999 0 t outs q t outs q=some (.inl ()):=lp;have eqb:∀b,iR b b=true:=fun b=>by cases b<;>rfl
 simp only[aA,ak,ae];rw[eqb,show v9 9999 (NR (outs,q,t)) (NR (outs,q,t))=some true from s5];simp only[aA,ak,ae];rw[lp];simp only[ae,kn]
end Go.Ab.Gi
