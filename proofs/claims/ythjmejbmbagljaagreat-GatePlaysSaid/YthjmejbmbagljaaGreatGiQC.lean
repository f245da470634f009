/- Plain proofs, part 2. -/
import Derived.Test.YthjmejbmbagljaaGreatGiQB
import Derived.Test.YthjmejbmbagljaaGreatGiQA
import Derived.Test.YthjmejbmbagljaaGreatGiXS
set_option linter.unusedVariables false
set_option linter.unusedSimpArgs false
set_option maxRecDepth 100000
namespace Go.Ab.Gi
open Go.Ab
theorem abh {c:Nat}{l:EQ}(h:∀x∈l,x.length≤c):(yH l).length≤8*(c+1)*l.length:=by
 induction l with
 |nil=>simp[yH]
 |cons x l ih=>
  have h1:=ih fun y hy=>h y (List.mem_cons_of_mem _ hy)
  have h2:=h x (List.mem_cons_self ..);have h3:8*(c+1)*(l.length+1)=8*(c+1)*l.length+8*(c+1):=Nat.mul_succ _ _;simp only[yH,List.flatMap_cons,aA,sR,List.length_cons] at h1⊢;rw[h3];omega
theorem qMi {l:EQ}{n:Nat}(h:∀i,i<l.length→(l.getD i []).length=n){x:AC}(hx:x∈l):x.length=n:=by
 obtain⟨i,hi,e⟩:=List.mem_iff_getElem.1 hx;have:=h i hi;rw[bX,List.getElem?_eq_getElem hi] at this;rw[←e];exact this
theorem vNy {r:qQ}(hr:wT r){s:qH}(h:yF r s):∃l,iW s.st=l++[s.ids]∧l.length≤67∧∀x∈l,x.length≤9:=by
 have n6:=h.bk.n6;have n1:=h.bk.n1;have hm:=h.waits.len;have h3:=hr.n3;have hb:wW s.B.1 s.B.2.1 s.B.2.2.1 s.B.2.2.2:=h.bk;have hL:=h.laid 0 (by omega);have hol:=h.hol;refine⟨_,rfl,?_,fun x hx=>?_⟩
 ·simp only[aA,List.length_cons,List.length_nil,List.length_map];show 0+1+s.B.1.length+s.B.2.1.length+(0+1)+s.B.2.2.2.length+(0+1)+s.ho.length+s.m.length≤67;have:=hb.bl;have:=hb.pl;omega
 ·simp only[List.mem_append,List.mem_singleton,List.mem_map] at hx;rcases hx with(((((((rfl|⟨a,_,rfl⟩)|hx)|rfl)|hx)|rfl)|hx)|⟨a,_,rfl⟩)
  ·simp
  ·simp[lG]
  ·have:=qMi (l:=s.B.2.1) (fun i hi=>hb.br i (by have:=hb.bl;omega)) hx;omega
  ·show s.B.2.2.1.length≤9;have:=hb.ml;omega
  ·have:=qMi (l:=s.B.2.2.2) (fun i hi=>hb.pr i (by have:=hb.pl;omega)) hx;omega
  ·show s.pr.length≤9;rw[hL.pl];omega
  ·have:=qMi (l:=s.ho) (fun i hi=>(h.laid i (by omega)).hl) hx;omega
  ·simp[lH]
theorem vKs {k:Nat}(hk:9999≤k){r:qQ}(hr:wT r){s:qH}(h:yF r s):∃b,ni k s.st=some b∧b=yH (iW s.st)∧b.length≤7000:=by
 obtain⟨l,e,h1,h2⟩:=vNy hr h;have hi:=h.waits.idl;have hf:jC (iW s.st):=by
  rw[e];refine⟨by rw[aA];simp;omega,fun x hx=>?_⟩;rcases List.mem_append.1 hx with hx|hx
  ·have:=h2 x hx;omega
  ·rw[List.mem_singleton.1 hx];omega
 refine⟨_,vCw hk hf,rfl,?_⟩;rw[e];have:=abh h2;have e2:yH (l++[s.ids])=yH l++fV s.ids:=by simp[yH]
 rw[e2,aA,sR];omega
def gtW (r:qQ)(s:qH)(ev:Int):lF:=(r.1,r.2.1,r.2.2.1,r.2.2.2.1,r.2.2.2.2,s.t,s.B.1,s.B.2.1,s.B.2.2.1,s.B.2.2.2,s.pr,s.ho,s.m,s.ids,s.to,s.ov,ev,false)
structure yA5 (r:qQ) (ev:Int) (N:Nat) (s:qH) (G:lF) (L:wK) (D:vR):Prop where
 g:G=gtW r s ev
 inv:yF r s
 calm:Yi D
 room:D.1=200000
 x:(kU D 0).length≤20000+100*N
 y:(kU D 1).length≤20000+100*N
 tk:Tk L N
theorem yA5.more {r:qQ}{ev:Int}{N M:Nat}{s:qH}{G:lF}{L:wK}{D:vR}(h:yA5 r ev N s G L D)(hM:N≤M):yA5 r ev M s G L D:=
 ⟨h.g,h.inv,h.calm,h.room,by have:=h.x;omega,by have:=h.y;omega,h.tk.more hM⟩
end Go.Ab.Gi
namespace Go.Ab.Gi
open Go.Ab Go.RowKit
theorem qPu x:IntKind.wrap .u64 x=x%18446744073709551616:=by
 rfl
theorem yHs {X:Type}{L:Nat→Int→Int→Option X}(P:X→Prop)(aI:∀n q t,(∃z,L (n+1) q t=some z∧P z)∨((t+2621440000)%18446744073709551616<4294967296∧∃q',L (n+1) q t=L n q' ((t+2621440000)%18446744073709551616))) n q t:
  ∃z,L (n+3) q t=some z∧P z:=by
 rcases aI (n+2) q t with h|⟨h1,q1,e1⟩
 ·exact h
 rw[e1];generalize ht:(t+2621440000)%18446744073709551616=t1 at h1;rcases aI (n+1) q1 t1 with h|⟨h2,q2,e2⟩
 ·exact h
 rw[e2];rcases aI n q2 ((t1+2621440000)%18446744073709551616) with h|⟨h3,_⟩
 ·exact h
 ·omega
theorem vYh s2 s8 av aP bm bh aQ bE:∃z,zl 9999 9999 s2 s8 2621440000 av aP bm bh aQ bE=some z∧(z.2.1=s8∧z.2.2.1=2621440000):=by
 refine yHs (L:=fun n q t=>zl 9999 n s2 s8 2621440000 av aP bm bh q t) (fun z=>z.2.1=s8∧z.2.2.1=2621440000) (fun n q t=>?_) 9996 aQ bE;show(∃z,Na 9999 (zl 9999 n) s2 s8 2621440000 av aP bm bh q t=some z∧_)∨(_∧∃q',Na 9999 (zl 9999 n) s2 s8 2621440000 av aP bm bh q t=_);unfold Na;rw[qPu (t+2621440000)];by_cases h:(t+2621440000)%18446744073709551616≥4294967296
 ·rw[aa h];cases decide (q≥4294967296) with
  |true=>simp
  |false=>
   cases decide (IntKind.wrap .u64 (q*av)>IntKind.wrap .u64 (IntKind.wrap .u64 (4294967296*t)+bm))<;>exact by simp
 ·rw[ab h];cases decide (q≥4294967296) with
  |true=>grind
  |false=>
   cases decide (IntKind.wrap .u64 (q*av)>IntKind.wrap .u64 (IntKind.wrap .u64 (4294967296*t)+bm)) with
   |true=>grind
   |false=>simp
theorem abi s2 s8 av bh aQ bE bb gb:∃z,zm 9999 9999 s2 s8 2621440000 av bh aQ bE bb gb=some z∧z.2.1=s8:=by
 refine yHs (L:=fun n q t=>zm 9999 n s2 s8 2621440000 av bh aQ t bb q) (fun z=>z.2.1=s8) (fun n q t=>?_) 9996 gb bE;show(∃z,Nb 9999 (zm 9999 n) s2 s8 2621440000 av bh aQ t bb q=some z∧_)∨(_∧∃q',Nb 9999 (zm 9999 n) s2 s8 2621440000 av bh aQ t bb q=_);unfold Nb;rw[qPu (t+2621440000)];by_cases h:(t+2621440000)%18446744073709551616≥4294967296
 ·rw[aa h];cases decide (q≥4294967296) with
  |true=>simp
  |false=>
   cases decide (IntKind.wrap .u64 (q*av)>IntKind.wrap .u64 (IntKind.wrap .u64 (4294967296*t)+bh))<;>exact by simp
 ·rw[ab h];cases decide (q≥4294967296) with
  |true=>grind
  |false=>
   cases decide (IntKind.wrap .u64 (q*av)>IntKind.wrap .u64 (IntKind.wrap .u64 (4294967296*t)+bh)) with
   |true=>grind
   |false=>simp
theorem abj {Y:Type}{F:qU→Option Y}{s2 s8 av aP bm bh aQ bE}(hF:∀z:qU,z.2.1=s8→z.2.2.1=2621440000→∃y,F z=some y):
  ∃y,(zl 9999 9999 s2 s8 2621440000 av aP bm bh aQ bE).bind F=some y:=by
 obtain⟨z,h,h1,h2⟩:=vYh s2 s8 av aP bm bh aQ bE;grind
theorem vN8 {Y:Type}{F:Oi→Option Y}{s2 s8 av bh aQ bE bb gb}(hF:∀z:Oi,z.2.1=s8→∃y,F z=some y):
  ∃y,(zm 9999 9999 s2 s8 2621440000 av bh aQ bE bb gb).bind F=some y:=by
 obtain⟨z,h,h1⟩:=abi s2 s8 av bh aQ bE bb gb;grind
theorem abk {hi lo}(h:0≤hi∧hi<10000):∃x,Gz 9999 hi lo 10000=some x:=by
 unfold Gz;rw[ab (by simp),ab (by grind)];by_cases h0:hi=0
 ·simp_all
 ·rw[ab h0,show qRy 9999 10000=some 50 from by rfl];simp only[ae];have w1:IntKind.wrap .u64 50=50:=by rfl
  have w2:IntKind.wrap .u64 (64-50)=14:=by rfl
  have w3:shr .u64 (shl .u64 10000 50) 32=2621440000:=by rfl
  rw[w1,w2,w3,ab (by simp),ab (by simp),ab (by simp)];refine abj fun z z1 z2=>?_
  rw[z2,ab (by simp)];refine vN8 fun y y1=>?_
  simp_all
theorem vUk x:0≤IntKind.wrap .u64 x:=by
 rw[qPu];omega
theorem yFs k x y:∃hi lo,Gy k x y=some (hi,lo)∧0≤hi:=by
 exact⟨_,_,rfl,vUk _⟩
theorem vXz c:∃b,L4 9999 c=some b:=by
 unfold L4;cases decide (c≥0)<;>exact by simp
theorem abl p m c:∃n ok,GA 9999 p m c=some (n,ok)∧(m<0→ok=false)∧(-9223372036854775808≤n∧n<9223372036854775808):=by
 unfold GA;by_cases h1:p<0
 ·simp_all
 rw[ab h1];by_cases h2:m<0
 ·simp_all
 rw[ab h2];obtain⟨b,hb⟩:=vXz c;rw[hb];cases b with
 |false=>simp
 |true=>
 rw[ae,aB,ak];obtain⟨hi,lo,e1,e2⟩:=yFs 9999 (IntKind.wrap .u64 p) (IntKind.wrap .u64 m);rw[e1];rw[ae];obtain ⟨⟨q, t⟩, e3⟩ := abk (hi := Int.tmod hi 10000) (lo := lo) (by
  grind)
 rw[e3];rw[ae];obtain⟨a,b,e4,_⟩:=yFs 9999 q (IntKind.wrap .u64 (zA (10000-c)));rw[e4];rw[ae];obtain⟨⟨d,e⟩,e5⟩:∃x,BL 9999 b (IntKind.wrap .u64 (Int.tdiv (IntKind.wrap .u64 (t*IntKind.wrap .u64 (zA (10000-c)))) 10000)) 0=some x:=⟨_,rfl⟩;rw[e5];rw[ae];have hw:-9223372036854775808≤zA d∧zA d<9223372036854775808:=⟨X4 d,X5 d⟩;cases decide (IntKind.wrap .u64 (Int.tdiv hi 10000)>0)<;>cases decide (IntKind.wrap .u64 (zA (10000-c))>0)<;>cases decide (IntKind.wrap .u64 (a+e)>0)<;>cases decide (d>9223372036854775807)<;>first|simp_all|simp
theorem abm {sa:List om}{pr h}(hn:sa.length≤3)(hp:pr.length=sa.length)(hl:h.length=sa.length):∃n ok,nk 9999 sa pr h=some (n,ok)∧((∃j,j<h.length∧h.getD j 0<0)→ok=false):=by
 have key:∀(c i n:Nat) (r:AC),i+c=sa.length→c<n→r.length=i→(∀j,j<r.length→-9223372036854775808≤r.getD j 0∧r.getD j 0<9223372036854775808)→(∀j,j<i→¬h.getD j 0<0)→
   (∃l,qx 9999 n pr h sa (sa.length:Int) (i:Int) r=some (.inl l)∧l.length=sa.length∧(∀j,j<l.length→-9223372036854775808≤l.getD j 0∧l.getD j 0<9223372036854775808)∧∀j,j<sa.length→¬h.getD j 0<0)∨qx 9999 n pr h sa (sa.length:Int) (i:Int) r=some (.inr (0,false)):=by
  intro c
  induction c with
  |zero=>
   intro i n r h1 h2 h3 h4 h5;obtain⟨n,rfl⟩:=ara n;refine .inl ⟨r,?_,by omega,h4,fun j hj=>h5 j (by omega)⟩;show sX 9999 _ pr h sa (sa.length:Int) (i:Int) r=_;unfold sX;rw[ab];rfl
  |succ c ih=>
   intro i n r h1 h2 h3 h4 h5;obtain⟨n,rfl⟩:=ara n;obtain⟨v,ok,w1,w2,w3⟩:=abl (pr.getD i 0) (h.getD i 0) (sa.getD i (0,0)).2;have st:qx 9999 (n+1) pr h sa (sa.length:Int) (i:Int) r=bif !ok then some (.inr (0,false)) else qx 9999 n pr h sa (sa.length:Int) ((i+1:Nat):Int) (r++[v]):=by
    show sX 9999 (qx 9999 n) pr h sa (sa.length:Int) (i:Int) r=_;unfold sX;rw[aa,jB,jB,jB,ao,w1,qG,qD (N:=sa.length) (by omega) (by omega)];rfl
   cases ok with
   |false=>exact .inr (by rw[st];rfl)
   |true=>
    rw[st];refine ih (i+1) n (r++[v]) (by omega) (by omega) (by rw[aA,h3];rfl) (fun j hj=>?_) fun j hj=>?_
    ·rw[aA,List.length_singleton] at hj;by_cases q:j<r.length
     ·rw[bX,List.getElem?_append_left q,←bX];exact h4 j q
     ·have:j=r.length:=by omega
      subst this;rw[bX,List.getElem?_append_right (Nat.le_refl _),Nat.sub_self];exact w3
    ·by_cases q:j<i
     ·exact h5 j q
     ·have:j=i:=by omega
      subst this;intro abn;have:=w2 abn;cases this
 unfold nk;rw[aa (show(pr.length:Int)=(sa.length:Int) by omega),aa (show(h.length:Int)=(sa.length:Int) by omega)];simp only[aB,ak];have k0:=key sa.length 0 9999 [] (by omega) (by omega) rfl (fun j hj=>absurd hj (Nat.not_lt_zero j)) (fun j hj=>absurd hj (Nat.not_lt_zero j));rw[show((0:Nat):Int)=0 from rfl] at k0;rcases k0 with⟨l,e,l1,l2,l3⟩|e
 ·rw[e];simp only[ae];rw[ZM (by omega) (by omega) l2];simp only[ae];refine by grind
 ·rw[e];exact⟨0,false,rfl,fun _=>rfl⟩
theorem abo (k:Nat){h l n:Int}(hh:-4503599627370496≤h∧h≤4503599627370496)(hl:0≤l∧l<4294967296)(hn:-9223372036854775808≤n∧n<9223372036854775808):
  R4 k h l n=some ((h*4294967296+l+n)/4294967296,(h*4294967296+l+n)%4294967296):=by
 unfold R4;rw[yOo n,vDg n,zQ (x:=h+n/4294967296),zQ (x:=l+n%4294967296),vDg,yOo,zQ]
 congr 2
 ·omega
 ·omega
def Ic (S:Int):Int×Bool:=if S/4294967296< -2147483648∨S/4294967296≥2147483648 then(0,false) else(S,true)
theorem vK7 {k:Nat}{l:AC}(hk:l.length<k)(hl:l.length≤1000000)(hr:∀x∈l,-9223372036854775808≤x∧x<9223372036854775808):Nf k l=some (Ic (zR (fun x=>x) l)):=by
 obtain ⟨s, h1, h2⟩ := vB (L := fun c i (s : Int × Int) => Ng k c l i s.1 s.2) (N := l.length) (fun s => s) (fun i s => s = (zR (fun x => x) (l.take i) / 4294967296, zR (fun x => x) (l.take i) % 4294967296)) (fun c s hs=>by
   show Ie k _ l l.length s.1 s.2=_;unfold Ie;simp only [qV, ab (Nat.lt_irrefl _), ak]) (fun c i s hi hs=>by
   refine⟨(zR (fun x=>x) (l.take (i+1))/4294967296,zR (fun x=>x) (l.take (i+1))%4294967296),?_,rfl⟩;show Ie k _ l i s.1 s.2=_;have hb:=BN (g:=fun x:Int=>x) (A:=9223372036854775808) (l:=l.take i) fun x hx=>by have:=hr x (List.mem_of_mem_take hx);omega
   have hlen:((l.take i).length:Int)≤1000000:=by rw[bY];omega
   have hb2:((l.take i).length:Int)*9223372036854775808≤1000000*9223372036854775808:=by omega
   have e:zR (fun x=>x) (l.take (i+1))=zR (fun x=>x) (l.take i)+l.getD i 0:=by
    rw[←fF l i 0 hi,kS];show _+(l.getD i 0+0)=_;omega
   unfold Ie;simp only[qA,qD hi (show l.length<9223372036854775808 by omega),qV,ao,aa hi,ai];rw[hs];dsimp only;rw[abo k (by omega) (by omega) (hr _ (fU hi))];rw[e];have e2:zR (fun x=>x) (l.take i)/4294967296*4294967296+zR (fun x=>x) (l.take i)%4294967296=zR (fun x=>x) (l.take i):=by omega
   rw[e2];rfl) (s:=(0,0)) hk rfl
 rw[List.take_of_length_le (Nat.le_refl _)] at h2;unfold Nf;rw[h1,h2];simp only[ae];unfold Ic;generalize zR (fun x=>x) l=S;by_cases c1:S/4294967296< -2147483648
 ·rw[aa c1,if_pos (.inl c1)];rfl
 ·rw[ab c1];by_cases c2:S/4294967296≥2147483648
  ·rw[aa c2,if_pos (.inr c2)];rfl
  ·rw[ab c2,if_neg (by omega),vRd,zQ (x:=S/4294967296*4294967296),zQ];simp only[ak]
   congr 2
   omega
def rp (m:List zI)(i:Nat):Bool:=decide (i=0)||wA (m.getD (i-1) pd) (m.getD i pd)
def tp (m:List zI):Bool:=qB (fun i=>decide (fk m (m.getD i pd).1=(i:Int))&&rp m i) m.length 0&&decide ((m.length:Int)≤40)
theorem abp {m:List zI}(hm:m.length≤2400):Nh 9999 m=some (tp m):=by
 have l0 : zn 9999 9999 m 0 = _ := fg (L := fun n i => zn 9999 n m i) (N := m.length) (fun i => decide (fk m (m.getD i pd).1 = (i : Int)) && rp m i) (.inl m) (.inr false) (fun n=>by
  show Ig 9999 (zn 9999 n) m (m.length:Int)=_;unfold Ig;rw[ab (Int.lt_irrefl _)];rfl) (fun n i hi=>by
  show Ig 9999 (zn 9999 n) m (i:Int)=_;unfold Ig;have e:m.getD i (0,0,0,0,0,0,0)=m.getD i pd:=rfl;rw[aa (show(i:Int)<m.length by omega),qA,aa hi,ao,e,LN (by omega) (by omega),qD hi (by omega)];simp only[ae];cases decide (fk m (m.getD i pd).1=(i:Int)) with
  |false=>rfl
  |true=>
   cases i with
   |zero=>rfl
   |succ i=>
    have w:zA (((i+1:Nat):Int)-1)=(i:Int):=by rw[zQ];omega
    rw[aa (show((i+1:Nat):Int)>0 by omega),w,qA,aa (show i<m.length by omega),ao];refine(congrArg (fun z=>Option.bind z _) (yBi 9999 (m.getD i pd) (m.getD (i+1) pd))).trans ?_;have ea:rp m (i+1)=wA (m.getD i pd) (m.getD (i+1) pd):=by rfl
    rw[ea];cases wA (m.getD i pd) (m.getD (i+1) pd)<;>rfl) (n:=9999) (by omega)
 unfold Nh;rw[l0];unfold tp;cases qB (fun i=>decide (fk m (m.getD i pd).1=(i:Int))&&rp m i) m.length 0<;>rfl
theorem abq {m}(h:tp m=true):qL m∧nu m∧m.length≤40:=by
 unfold tp at h;rw[aR,wI] at h;have h1:∀i,i<m.length→fk m (m.getD i pd).1=(i:Int)∧rp m i=true:=by grind
 have h2:=uE h.2;refine⟨?_,?_,by omega⟩
 ·unfold qL;rw[List.pairwise_iff_getElem];grind
 ·unfold nu;rw[List.pairwise_iff_getElem];intro i j hi hj mT;have key:∀c,i+c+1<m.length→wA (m.getD i pd) (m.getD (i+c+1) pd)=true:=by
   intro c
   induction c with
   |zero=>
    intro hl;have:=(h1 (i+0+1) hl).2;unfold rp at this;simp_all
   |succ c ih=>
    intro hl;have:=(h1 (i+(c+1)+1) hl).2;exact ySx (by grind) this
  have:=key (j-i-1) (by omega);rw[show i+(j-i-1)+1=j by omega,Cu (d:=pd) m hi,Cu (d:=pd) m hj] at this;omega
def zo (ids:AC)(i:Nat):Bool:= !decide (ids.getD i 0<1)&&(decide (i=0)|| !decide (ids.getD i 0≤ids.getD (i-1) 0))
def vx (ids:AC):Bool:=qB (zo ids) ids.length 0&&decide ((ids.length:Int)≤200)
theorem abr {ids}(hm:ids.length≤2400):Ni 9999 ids=some (vx ids):=by
 have l0 : CM 9999 9999 ids 0 = _ := fg (L := fun n i => CM 9999 n ids i) (N := ids.length) (zo ids) (.inl ids) (.inr false) (fun n=>by
  show Ih 9999 (CM 9999 n) ids (ids.length:Int)=_;unfold Ih;rw[ab (Int.lt_irrefl _)];rfl) (fun n i hi=>by
  show Ih 9999 (CM 9999 n) ids (i:Int)=_;unfold Ih zo;rw[aa (show(i:Int)<ids.length by omega),qA,aa hi,ao,qD hi (by omega)];simp only[ai];cases decide (ids.getD i 0<1) with
  |true=>rfl
  |false=>
   cases i with
   |zero=>rfl
   |succ i=>
    have w:zA (((i+1:Nat):Int)-1)=(i:Int):=by rw[zQ];omega
    rw[aa (show((i+1:Nat):Int)>0 by omega),w,qA,aa (show i<ids.length by omega),ao,ab (show¬i+1=0 by omega)];simp only[ai,Nat.add_sub_cancel,Bool.false_or];cases decide (ids.getD (i+1) 0≤ids.getD i 0)<;>rfl) (n:=9999) (by omega)
 unfold Ni;rw[l0];unfold vx;cases qB (zo ids) ids.length 0<;>rfl
theorem yMn {ids}(h:vx ids=true):qt ids∧(∀x∈ids,1≤x)∧ids.length≤200:=by
 unfold vx at h;rw[aR,wI] at h;have h1:∀i,i<ids.length→1≤ids.getD i 0∧(i=0∨ids.getD (i-1) 0<ids.getD i 0):=fun i hi=>by
  have:=h.1 i hi;unfold zo at this;simp_all
 have h2:=uE h.2;refine⟨?_,fun x hx=>?_,by omega⟩
 ·unfold qt;rw[List.pairwise_iff_getElem];intro i j hi hj mT;have key:∀c,i+c+1<ids.length→ids.getD i 0<ids.getD (i+c+1) 0:=by
   intro c
   induction c with
   |zero=>
    grind
   |succ c ih=>
    grind
  have:=key (j-i-1) (by omega);rw[show i+(j-i-1)+1=j by omega,Cu (d:=0) ids hi,Cu (d:=0) ids hj] at this;omega
 ·obtain⟨i,hi,rfl⟩:=List.mem_iff_getElem.1 hx;simp_all
theorem vR8 {ids}(hl:ids.length≤2400) id:Cx 9999 ids id=some (decide (id∈ids)):=by
 have l0 : tl 9999 9999 ids id 0 = _ := fg (L := fun n i => tl 9999 n ids id i) (N := ids.length) (fun i => !decide (ids.getD i 0 = id)) (.inl ()) (.inr true) (fun n=>by
  show tm 9999 (tl 9999 n) ids id (ids.length:Int)=_;unfold tm;simp) (fun n i hi=>by
  show tm 9999 (tl 9999 n) ids id (i:Int)=_;unfold tm;rw[aa (by grind),qA,aa hi,ao,qD hi (by omega)];simp) (n:=9999) (by omega)
 unfold Cx;by_cases h:id∈ids
 ·obtain⟨i,hi,e⟩:=List.mem_iff_getElem.1 h;have:qB (fun i=> !decide (ids.getD i 0=id)) ids.length 0=false:=by
   cases q:qB (fun i=> !decide (ids.getD i 0=id)) ids.length 0 with
   |false=>rfl
   |true=>
    have:=wI.1 q i hi;simp_all
  simp_all
 ·have:qB (fun i=> !decide (ids.getD i 0=id)) ids.length 0=true:=wI.2 (by grind);simp_all
def nz (s:qH)(p:zI):Bool:=pv s.B.1.length p&&(!decide (p.2.2.2.2.2.1<0)&&(!decide (p.2.2.2.2.2.2<p.2.2.2.2.2.1)&&(!decide (p.2.2.2.2.2.2>1048576)&&decide (p.1∈s.ids))))
def vy (s:qH):Bool:=tp s.m&&(vx s.ids&&qB (fun i=>nz s (s.m.getD i pd)) s.m.length 0)
theorem vVm {s:qH}(hm:s.m.length≤2400)(hi:s.ids.length≤2400):Nj 9999 s.st=some (vy s):=by
  have em:s.st.2.2.2.2.2.2.2.1=s.m:=rfl;have ei:s.st.2.2.2.2.2.2.2.2.1=s.ids:=rfl;have ea:s.st.2.1=s.B.1:=rfl;have l0 : zp 9999 9999 0 s.st = _ := fg (L := fun n i => zp 9999 n i s.st) (N := s.m.length) (fun i => nz s (s.m.getD i pd)) (.inl ()) (.inr false) (fun n=>by
    show Ii 9999 (zp 9999 n) (s.m.length:Int) s.st=_;unfold Ii;rw[em,ab (Int.lt_irrefl _)];rfl) (fun n i bI=>by
    show Ii 9999 (zp 9999 n) (i:Int) s.st=_;unfold Ii nz;have e:s.m.getD i (0,0,0,0,0,0,0)=s.m.getD i pd:=rfl;rw[em,ei,ea,aa (show(i:Int)<s.m.length by omega),qA,aa bI,ao,e,vHr,vR8 hi,qD bI (by omega)];simp only[ai,ae];have e':((s.m.getD i pd).1,(s.m.getD i pd).2.1,(s.m.getD i pd).2.2.1,(s.m.getD i pd).2.2.2.1,(s.m.getD i pd).2.2.2.2.1,(s.m.getD i pd).2.2.2.2.2.1,(s.m.getD i pd).2.2.2.2.2.2)=s.m.getD i pd:=rfl;rw[e'];cases pv s.B.1.length (s.m.getD i pd)<;>cases decide ((s.m.getD i pd).2.2.2.2.2.1<0)<;>cases decide ((s.m.getD i pd).2.2.2.2.2.2<(s.m.getD i pd).2.2.2.2.2.1)<;>cases decide ((s.m.getD i pd).2.2.2.2.2.2>1048576)<;>cases decide ((s.m.getD i pd).1∈s.ids)<;>rfl) (n:=9999) (by omega)
  have e0:Nj 9999 s.st=(Nh 9999 s.m).bind fun x0=>
     bif !x0 then some false
     else(Ni 9999 s.ids).bind fun x1=>
     bif !x1 then some false
     else(zp 9999 9999 0 s.st).bind fun z=>
     match z with
     |.inl z1=>some true
     |.inr z2=>some z2:=rfl
  rw[e0,abp hm,abr hi,l0];unfold vy;cases tp s.m<;>cases vx s.ids<;>cases qB (fun i=>nz s (s.m.getD i pd)) s.m.length 0<;>rfl
theorem vQt {s:qH}(h:vy s=true):la s.B.1.length s.m s.ids:=by
 unfold vy at h;rw[aR,aR,wI] at h;obtain⟨h1,h2,h3⟩:=h;obtain⟨a1,a2,a3⟩:=abq h1;obtain⟨b1,b2,b3⟩:=yMn h2;have h4:∀p∈s.m,nz s p=true:=fun p hp=>by
  obtain⟨i,hi,rfl⟩:=List.mem_iff_getElem.1 hp;have:=h3 i hi;rw[Cu (d:=pd) s.m hi] at this;exact this
 have h5:∀p∈s.m,yN s.B.1.length p∧(0≤p.2.2.2.2.2.1∧p.2.2.2.2.2.1≤p.2.2.2.2.2.2∧p.2.2.2.2.2.2≤1048576)∧p.1∈s.ids:=fun p hp=>by
  have:=h4 p hp;unfold nz at this;simp only[aR,Bool.not_eq_true',aZ,decide_eq_false_iff_not] at this;obtain⟨c1,c2,c3,c4,c5⟩:=this;exact⟨YD.1 c1,by omega,c5⟩
 exact⟨a1,a3,a2,fun p hp=>(h5 p hp).1,fun p hp=>(h5 p hp).2.1,fun p hp=>(h5 p hp).2.2,b1,b2,b3⟩
def pF (s:qH)(i:Nat):Bool:= !decide (s.pr.getD i 0<0)&& !decide (s.pr.getD i 0>1048576)
def tq (h:AC)(j:Nat):Bool:= !decide (h.getD j 0<0)&& !decide (h.getD j 0>1099511627776)
def zq (r:qQ)(s:qH)(i:Nat):Bool:=decide (((s.ho.getD i []).length:Int)=(r.2.1.length:Int))&&(qB (tq (s.ho.getD i [])) (s.ho.getD i []).length 0&&(!decide (gD r.2.1 s.pr (s.ho.getD i [])>1152921504606846976)&&decide ((s.B.1.getD i ad).2.1=gD r.2.1 s.pr (s.ho.getD i []))))
def zr (r:qQ)(s:qH):Bool:=decide ((s.pr.length:Int)=(r.2.1.length:Int))&&(decide ((s.ho.length:Int)=r.1)&&(qB (pF s) s.pr.length 0&&qB (zq r s) s.B.1.length 0))
theorem qVf {r:qQ}(hr:wT r){s:qH}(hp:(s.pr.length:Int)=(r.2.1.length:Int))(h1:qB (pF s) s.pr.length 0=true){h:AC}(hl:(h.length:Int)=(r.2.1.length:Int))(h2:qB (tq h) h.length 0=true):ki r.2.1 s.pr h:=by
 rw[wI] at h1 h2;refine⟨hr.n3,by omega,by omega,hr.cut,fun i hi=>?_,fun i hi=>?_⟩
 ·have:=h1 i (by omega);unfold pF at this;simp only[aR,Bool.not_eq_true',decide_eq_false_iff_not] at this;omega
 ·have:=h2 i (by omega);unfold tq at this;simp only[aR,Bool.not_eq_true',decide_eq_false_iff_not] at this;omega
theorem abt {r:qQ}(hr:wT r){s:qH}(hn:(s.B.1.length:Int)=r.1):Nk 9999 r s.st=some (zr r s):=by
  have ep:s.st.2.2.2.2.2.1=s.pr:=rfl;have eh:s.st.2.2.2.2.2.2.1=s.ho:=rfl;have ea:s.st.2.1=s.B.1:=rfl;have h3:=hr.n3;have hpa:=hr.pa;have e0:Nk 9999 r s.st=bif !(decide ((s.pr.length:Int)=(r.2.1.length:Int))) then some false
    else bif !(decide ((s.ho.length:Int)=r.1)) then some false
    else(zt 9999 9999 0 r s.st).bind fun z=>
    match z with
    |.inl z1=>(zu 9999 9999 0 z1.1 z1.2).bind fun z5=>
     match z5 with
     |.inl z6=>some true
     |.inr z7=>some z7
    |.inr z8=>some z8:=rfl
  rw[e0];unfold zr;by_cases hp:(s.pr.length:Int)=(r.2.1.length:Int)
  case neg=>rw[ab hp];rfl
  by_cases ho:(s.ho.length:Int)=r.1
  case neg=>rw[aa hp,ab ho];rfl
  rw[aa hp,aa ho];simp only[aB,ak,Bool.true_and];have l0 : zt 9999 9999 0 r s.st = _ := fg (L := fun n i => zt 9999 n i r s.st) (N := s.pr.length) (pF s) (.inl (r, s.st)) (.inr false) (fun n=>by
    show Ij 9999 (zt 9999 n) (s.pr.length:Int) r s.st=_;unfold Ij;rw[ep,ab (Int.lt_irrefl _)];rfl) (fun n i hi=>by
    show Ij 9999 (zt 9999 n) (i:Int) r s.st=_;unfold Ij pF;rw[ep,aa (show(i:Int)<s.pr.length by omega),qA,aa hi,ao,qD hi (by omega)];cases decide (s.pr.getD i 0<0)<;>cases decide (s.pr.getD i 0>1048576)<;>rfl) (n:=9999) (by omega)
  rw[l0];cases hpb:qB (pF s) s.pr.length 0 with
  |false=>rfl
  |true=>
  simp only[ai,ae,Bool.true_and];have l2:∀i,i<s.ho.length→(s.ho.getD i []).length=r.2.1.length→CN 9999 9999 (i:Int) 0 r s.st=some (bif qB (tq (s.ho.getD i [])) (s.ho.getD i []).length 0 then .inl ((i:Int),r,s.st) else .inr false):=fun i mg hl=>
    fg (L := fun n j => CN 9999 n (i : Int) j r s.st) (N := (s.ho.getD i []).length) (tq (s.ho.getD i [])) (.inl ((i : Int), r, s.st)) (.inr false) (fun n=>by
      show Ik 9999 (CN 9999 n) (i:Int) ((s.ho.getD i []).length:Int) r s.st=_;unfold Ik;rw[eh,qA,aa mg,ao,ab (Int.lt_irrefl _)];rfl) (fun n j hj=>by
      show Ik 9999 (CN 9999 n) (i:Int) (j:Int) r s.st=_;unfold Ik tq;rw[eh,qA,aa mg,ao,ao,aa (show(j:Int)<(s.ho.getD i []).length by omega),qA,aa hj,qD hj (by omega)];cases decide ((s.ho.getD i []).getD j 0<0)<;>cases decide ((s.ho.getD i []).getD j 0>1099511627776)<;>rfl) (n:=9999) (by omega)
  have l1 : zu 9999 9999 0 r s.st = _ := fg (L := fun n i => zu 9999 n i r s.st) (N := s.B.1.length) (zq r s) (.inl ()) (.inr false) (fun n=>by
    show Il 9999 (zu 9999 n) (s.B.1.length:Int) r s.st=_;unfold Il;rw[ab (show¬(s.B.1.length:Int)<r.1 by omega)];rfl) (fun n i hi=>by
    show Il 9999 (zu 9999 n) (i:Int) r s.st=_;unfold Il zq;have mg:i<s.ho.length:=by omega
    have ed:s.B.1.getD i (0,0,0)=s.B.1.getD i ad:=rfl;rw[eh,aa (show(i:Int)<r.1 by omega),qA,aa mg,ao];by_cases hl:((s.ho.getD i []).length:Int)=(r.2.1.length:Int)
    case neg=>rw[ab hl];rfl
    rw[aa hl,l2 i mg (by omega)];simp only[ai,ae,aB,ak,Bool.true_and];cases hh:qB (tq (s.ho.getD i [])) (s.ho.getD i []).length 0 with
    |false=>rfl
    |true=>
      have L:=qVf hr hp hpb hl hh;simp only[ai,Bool.true_and];rw[eh,ep,ea,qA,aa mg,ao,yC2 L,qA,aa hi,ed,qD hi (by omega)];simp only[ai,ae,aB,ak];cases decide (gD r.2.1 s.pr (s.ho.getD i [])>1152921504606846976)<;>cases decide ((s.B.1.getD i ad).2.1=gD r.2.1 s.pr (s.ho.getD i []))<;>rfl) (n:=9999) (by omega)
  rw[l1];cases qB (zq r s) s.B.1.length 0<;>rfl
def jK (s:qH):Int:=qI (fun i=>(s.B.1.getD i ad).1) s.B.1.length
def R5 (r:qQ)(s:qH):Bool:=decide (jK s=s.to)&&(decide (jK s≥0)&&(decide (jK s≤1152921504606846976)&&(eL s.ov (decide (s.t=r.2.2.2.1))&&(!s.ov||decide ((s.m.length:Int)=0)))))
def Im (r:qQ)(s:qH):Bool:= !decide (s.t<0)&&(!decide (s.t>r.2.2.2.1)&&(kV s.B.1 s.B.2.1 s.B.2.2.1 s.B.2.2.2&&(decide ((s.B.1.length:Int)=r.1)&&(zr r s&&(vy s&&R5 r s)))))
theorem abu {r:qQ}(hr:wT r){s:qH}(hm:s.m.length≤2400)(hi:s.ids.length≤2400):Io 9999 r s.st=some (Im r s):=by
  have ea:s.st.2.1=s.B.1:=rfl;have eU:Io 9999 r s.st=bif decide (s.t<0) then some false
     else bif decide (s.t>r.2.2.2.1) then some false
     else(Ff 9999 s.B.1 s.B.2.1 s.B.2.2.1 s.B.2.2.2).bind fun x0=>
     bif !x0 then some false
     else bif !(decide ((s.B.1.length:Int)=r.1)) then some false
     else(Nk 9999 r s.st).bind fun x1=>
     bif !x1 then some false
     else(Nj 9999 s.st).bind fun x2=>
     bif !x2 then some false
     else(CO 9999 9999 0 r s.st []).bind fun z=>
     (Nf 9999 z.2.2).bind fun x3=>
     bif x3.2 then (bif decide (x3.1 = z.2.1.2.2.2.2.2.2.2.2.2.1) then (bif decide (x3.1 ≥ 0) then (bif decide (x3.1 ≤ 1152921504606846976) then (bif eL z.2.1.2.2.2.2.2.2.2.2.2.2 (decide (z.2.1.1 = z.1.2.2.2.1)) then (bif !z.2.1.2.2.2.2.2.2.2.2.2.2 then some true
          else some (decide ((z.2.1.2.2.2.2.2.2.2.1.length:Int)=0)))
         else some false)
        else some false)
       else some false)
      else some false)
     else some false:=rfl
  rw[eU,yY5 (by decide)];unfold Im;cases decide (s.t<0) with
  |true=>rfl
  |false=>
  cases decide (s.t>r.2.2.2.1) with
  |true=>rfl
  |false=>
  simp only[ak,bN,Bool.true_and,ae];cases hb:kV s.B.1 s.B.2.1 s.B.2.2.1 s.B.2.2.2 with
  |false=>rfl
  |true=>
  have vu:=Ft.1 hb;have hY:=vu.n6;by_cases hn:(s.B.1.length:Int)=r.1
  case neg=>rw[ab hn];rfl
  rw[aa hn,abt hr hn];simp only[aB,ak,ae,Bool.true_and];cases zr r s with
  |false=>rfl
  |true=>
  rw[vVm hm hi];simp only[aB,ak,ae,Bool.true_and];cases vy s with
  |false=>rfl
  |true=>
  obtain ⟨x, h1, h2⟩ := vB (L := fun n j (x : AC) => CO 9999 n j r s.st x) (N := s.B.1.length) (fun x => (r, s.st, x)) (fun j x => x = (List.range j).map fun j => (s.B.1.getD j ad).1) (fun n x _=>by
    show Ip 9999 (CO 9999 n) (s.B.1.length:Int) r s.st x=_;unfold Ip;rw[ab (show¬(s.B.1.length:Int)<r.1 by omega)];rfl) (fun n j x hj hx=>by
    refine⟨x++[(s.B.1.getD j ad).1],?_,?_⟩
    · show Ip 9999 (CO 9999 n) (j:Int) r s.st x=_;unfold Ip;have hl:x.length=j:=by rw[hx];simp
      rw[ea,aa (show(j:Int)<r.1 by omega),qA,aa hj,qG,ao,qD hj (by omega)];rfl
    · rw[hx,List.range_succ,List.map_append];rfl) (n:=9999) (s:=[]) (by omega) rfl
  have qq:∀j,j<s.B.1.length→-4611686018427387904<(s.B.1.getD j ad).1∧(s.B.1.getD j ad).1<4611686018427387904:=fun j hj=>(tn.1 (vu.acct j hj)).1
  have hbx:∀y∈x,-9223372036854775808≤y∧y<9223372036854775808:=by
    intro y hm;rw[h2] at hm;obtain⟨j,hj,e⟩:=List.mem_map.1 hm;have:=qq j (List.mem_range.1 hj);rw[←e];omega
  have hlen:x.length=s.B.1.length:=by rw[h2];simp
  have dP:∀(g:Nat→Int) (n:Nat),zR (fun x=>x) ((List.range n).map g)=qI g n:=fun g n=>by
    induction n with
    |zero=>rfl
    |succ n ih=>
      rw[List.range_succ,List.map_append,kS,ih];show qI g n+(g n+0)=qI g n+g n;omega
  have CP:zR (fun x=>x) x=jK s:=by rw[h2,dP];rfl
  rw[h1];simp only[aB,ak,ae,Bool.true_and];rw[vK7 (by omega) (by omega) hbx,CP];have eo:s.st.2.2.2.2.2.2.2.2.2.2=s.ov:=rfl;have em:s.st.2.2.2.2.2.2.2.1=s.m:=rfl;have et:s.st.2.2.2.2.2.2.2.2.2.1=s.to:=rfl;have e1:s.st.1=s.t:=rfl;have hsw:(Ic (jK s)).2=true∧(Ic (jK s)).1=jK s∨(Ic (jK s)).2=false∧(jK s<0∨jK s>1152921504606846976):=by
    unfold Ic;split
    · exact .inr ⟨rfl,by omega⟩
    · exact .inl ⟨rfl,rfl⟩
  simp only[ae];rw[et,e1,eo,em];unfold R5;rcases hsw with⟨q1,q2⟩|⟨q1,q2⟩
  · rw[q1,q2];cases decide (jK s=s.to)<;>cases decide (jK s≥0)<;>cases decide (jK s≤1152921504606846976)<;>cases eL s.ov (decide (s.t=r.2.2.2.1))<;>cases s.ov<;>rfl
  · rw[q1];have:decide (jK s≥0)=false∨decide (jK s≤1152921504606846976)=false:=by
      rcases q2 with q|q
      · exact .inl ab
      · exact .inr ab
    rcases this with q|q
    · rw[q];cases decide (jK s=s.to)<;>rfl
    · rw[q];cases decide (jK s=s.to)<;>cases decide (jK s≥0)<;>rfl
theorem abv {r:qQ}(hr:wT r){s:qH}(h:Im r s=true):yF r s:=by
 unfold Im at h;simp only[aR,Bool.not_eq_true',aZ,decide_eq_false_iff_not] at h;obtain⟨h1,h2,h3,h4,h5,h6,h7⟩:=h;have vu:=Ft.1 h3;unfold zr at h5;simp only[aR,aZ] at h5;obtain⟨a1,a2,a3,a4⟩:=h5;have row:∀i,i<s.B.1.length→ki r.2.1 s.pr (s.ho.getD i [])∧gD r.2.1 s.pr (s.ho.getD i [])≤1152921504606846976∧(s.B.1.getD i ad).2.1=gD r.2.1 s.pr (s.ho.getD i []):=fun i hi=>by
  have:=wI.1 a4 i hi;unfold zq at this;simp only[aR,Bool.not_eq_true',aZ,decide_eq_false_iff_not] at this;obtain⟨b1,b2,b3,b4⟩:=this;exact⟨qVf hr a1 a3 b1 b2,by omega,b4⟩
 unfold R5 at h7;simp only[aR,aZ] at h7;obtain⟨c1,c2,c3,c4,c5⟩:=h7;have vv:s.ov=decide (s.t=r.2.2.2.1):=by
  cases hx:s.ov<;>cases hy:decide (s.t=r.2.2.2.1)<;>rw[hx,hy] at c4<;>first|rfl|cases c4
 refine⟨by omega,vu,h4,by omega,fun i hi=>(row i hi).1,fun i hi=>(row i hi).2.2,fun i hi=>by rw[(row i hi).2.2];exact(row i hi).2.1,vQt h6,c1,by rw[←c1];omega,vv,fun e=>?_⟩;rw[e] at c5;have:((s.m.length:Int)=0):=by simpa using c5
 exact List.eq_nil_of_length_eq_zero (by omega)
theorem yTi {a b}(h:a=true↔b=true):a=b:=by
 simp_all
theorem vTz {m:List zI}(hm:m.length≤2400):Nl 9999 m=some (tp m):=by
 have l0 : CQ 9999 9999 m m (m.length : Int) 0 = _ := fg (L := fun n i => CQ 9999 n m m (m.length : Int) i) (N := m.length) (fun i => decide (fk m (m.getD i pd).1 = (i : Int))) (.inl m) (.inr false) (fun n=>by
  show Iq 9999 _ m m (m.length:Int) (m.length:Int)=_;unfold Iq;rw[ab (Int.lt_irrefl _)];rfl) (fun n i hi=>by
  show Iq 9999 (CQ 9999 n) m m (m.length:Int) (i:Int)=_;unfold Iq;have e:m.getD i (0,0,0,0,0,0,0)=m.getD i pd:=rfl;rw[aa (show(i:Int)<m.length by omega),qA,aa hi,ao,e,Gg (by omega) (by omega),qD hi (by omega)];simp only[ai,ae];cases decide (fk m (m.getD i pd).1=(i:Int))<;>rfl) (n:=9999) (by omega)
 have sorted:∃b,R6 9999 m=some b∧(b=true↔∀i,i<m.length→rp m i=true):=by
  have yBy:∀a b:zI,iX b a= !wA a b:=fun a b=>by
   have h1:=MQ (q:=a) (p:=b);have h2:=yEt (q:=b) (p:=a);cases h3:wA a b<;>cases h4:iX b a<;>rw[h3] at h1<;>rw[h4] at h2<;>simp at h1 h2<;>first|rfl|omega
  have down:∀(i n:Nat),i<n→i<m.length∨i=0→∃b:Bool,CR 9999 n m (i:Int)=some (bif b then .inl () else .inr false)∧(b=true↔∀j,j≤i→rp m j=true):=by
   intro i
   induction i with
   |zero=>
    intro n hn _;obtain⟨n,rfl⟩:∃x,n=x+1:=⟨n-1,by omega⟩;refine⟨true,rfl,fun _ j hj=>?_,fun _=>rfl⟩;have:j=0:=by omega
    subst this;unfold rp;rw[aa rfl];rfl
   |succ i ih=>
    intro n hn hi;obtain⟨n,rfl⟩:∃x,n=x+1:=⟨n-1,by omega⟩;have bI:i+1<m.length:=by omega
    obtain⟨b,b1,b2⟩:=ih n (by omega) (.inl (by omega));obtain⟨x,x1,x2,x3⟩:=Zw (k:=9999) (by omega) (m.getD (i+1) pd) (m.getD i pd);have ea:rp m (i+1)=wA (m.getD i pd) (m.getD (i+1) pd):=by unfold rp;rw[ab];rfl
    have st:CR 9999 (n+1) m ((i+1:Nat):Int)=bif decide (x<0) then some (.inr false) else CR 9999 n m (i:Int):=by
     show R7 9999 (CR 9999 n) m ((i+1:Nat):Int)=_;unfold R7;have w:zA (((i+1:Nat):Int)-1)=(i:Int):=by rw[zQ];omega
     rw[aa (by simp),w,qA,qA,aa bI,aa (show i<m.length by omega),ao,ao];simp only[ai];refine(congrArg (fun z=>Option.bind z _) x1).trans ?_;rfl
    rw[st,x3,yBy (m.getD i pd) (m.getD (i+1) pd)];cases hl:wA (m.getD i pd) (m.getD (i+1) pd) with
    |false=>
     refine⟨false,rfl,fun h=>(by cases h),fun h=>?_⟩;have:=h (i+1) (Nat.le_refl _);rw[ea,hl] at this;cases this
    |true=>
     refine⟨b,b1,fun h j hj=>?_,by grind⟩;by_cases q:j=i+1
     ·subst q;rw[ea];exact hl
     ·exact b2.1 h j (by omega)
  unfold R6;by_cases hz:m.length=0
  ·have:m=[]:=List.eq_nil_of_length_eq_zero hz;subst this;have w:zA (((([]:List zI).length:Nat):Int)-1)= -1:=by rw[zQ (by decide) (by decide)];rfl
   rw[w];exact⟨true,rfl,by simp,fun _=>rfl⟩
  ·have w:zA ((m.length:Int)-1)=((m.length-1:Nat):Int):=by rw[zQ];omega
   obtain⟨b,b1,b2⟩:=down (m.length-1) 9999 (by omega) (.inl (by omega));rw[w,b1];refine⟨b,by cases b<;>rfl,by grind⟩
 obtain⟨b,s1,s2⟩:=sorted;unfold Nl;rw[l0];have pick:tp m=(qB (fun i=>decide (fk m (m.getD i pd).1=(i:Int))) m.length 0&&(decide ((m.length:Int)≤40)&&b)):=by
  apply yTi;unfold tp;rw[aR,aR,aR,s2,wI,wI];grind
 grind
theorem abw {ids}(hl:ids.length≤2400):Nm 9999 ids=some (vx ids):=by
 have l0 := Lr (L := fun n i (p : Int) => CT 9999 n ids p ids (ids.length : Int) i) (N := ids.length) (fun i => !decide (ids.getD i 0 ≤ if i = 0 then 0 else ids.getD (i - 1) 0)) (fun _ => (.inl ids : AC ⊕ Bool)) (.inr false) (fun i p => p = if i = 0 then 0 else ids.getD (i - 1) 0) (fun n p _=>by
  show Ir 9999 _ ids p ids (ids.length:Int) (ids.length:Int)=_;unfold Ir;simp) (fun n i p hi hp=>by
  have st:CT 9999 (n+1) ids (if i=0 then 0 else ids.getD (i-1) 0) ids (ids.length:Int) (i:Int)=bif decide (ids.getD i 0≤if i=0 then 0 else ids.getD (i-1) 0) then some (.inr false) else CT 9999 n ids (ids.getD i 0) ids (ids.length:Int) ((i+1:Nat):Int):=by
   show Ir 9999 (CT 9999 n) ids _ ids (ids.length:Int) (i:Int)=_;unfold Ir;rw[aa (by grind),qA,aa hi,ao,qD hi (by omega)];rfl
  grind) ids.length 0 9999 0 (by omega) (by omega) rfl
 have same:qB (fun i=> !decide (ids.getD i 0≤if i=0 then 0 else ids.getD (i-1) 0)) ids.length 0=qB (zo ids) ids.length 0:=by
  apply yTi;rw[wI,wI];constructor
  ·intro h;have pos:∀i,i<ids.length→1≤ids.getD i 0:=by
    intro i
    induction i with
    |zero=>
     grind
    |succ i ih=>
     grind
   unfold zo;grind
  ·intro h i hi;have h1:=h i hi;unfold zo at h1;grind
 unfold Nm vx;grind
theorem vNq {s:qH}(hm:s.m.length≤2400)(hi:s.ids.length≤2400):Nn 9999 s.st=some (vy s):=by
 have e1:Nn 9999 s.st=(Nl 9999 s.m).bind fun x0=>bif x0 then((Nm 9999 s.ids).bind fun x1=>bif x1 then((No 9999 s.m s.t s.B.1 s.B.2.1 s.B.2.2.1 s.B.2.2.2 s.pr s.ho s.m s.ids s.to s.ov).bind fun x2=>some (!x2)) else some false) else some false:=rfl
 rw[e1,vTz hm,abw hi];unfold vy;cases tp s.m with
 |false=>rfl
 |true=>
 simp only[ae,ai,Bool.true_and];cases YA:vx s.ids with
 |false=>rfl
 |true=>
 simp only[ae,ai,Bool.true_and];have abx:=(yMn YA).1;obtain ⟨x, x1, x2⟩ := qi (L := fun n i => CU 9999 n s.m (s.m.length : Int) i s.t s.B.1 s.B.2.1 s.B.2.2.1 s.B.2.2.2 s.pr s.ho s.m s.ids s.to s.ov) (N := s.m.length) (fun i => !nz s (s.m.getD i pd)) (fun n=>by
  show Is 9999 _ s.m (s.m.length:Int) (s.m.length:Int) s.t s.B.1 s.B.2.1 s.B.2.2.1 s.B.2.2.2 s.pr s.ho s.m s.ids s.to s.ov=_;unfold Is;rw[ab (Int.lt_irrefl _)];rfl) (fun n i bI=>by
  show Is 9999 (CU 9999 n) s.m (s.m.length:Int) (i:Int) s.t s.B.1 s.B.2.1 s.B.2.2.1 s.B.2.2.2 s.pr s.ho s.m s.ids s.to s.ov=_;unfold Is;have f1:R8 9999 (s.m.getD i pd) (s.t,s.B.1,s.B.2.1,s.B.2.2.1,s.B.2.2.2,s.pr,s.ho,s.m,s.ids,s.to,s.ov)=some (!nz s (s.m.getD i pd)):=by
   unfold R8 nz;rw[Qh,nv,ZJ (by omega) (by omega) abx];have e':((s.m.getD i pd).1,(s.m.getD i pd).2.1,(s.m.getD i pd).2.2.1,(s.m.getD i pd).2.2.2.1,(s.m.getD i pd).2.2.2.2.1,(s.m.getD i pd).2.2.2.2.2.1,(s.m.getD i pd).2.2.2.2.2.2)=s.m.getD i pd:=rfl;rw[e'];have d1:decide ((s.m.getD i pd).2.2.2.2.2.2≥(s.m.getD i pd).2.2.2.2.2.1)= !decide ((s.m.getD i pd).2.2.2.2.2.2<(s.m.getD i pd).2.2.2.2.2.1):=by
    by_cases q:(s.m.getD i pd).2.2.2.2.2.2<(s.m.getD i pd).2.2.2.2.2.1
    ·rw[aa q,ab];rfl
    ·rw[ab q,aa];rfl
   have d2:decide ((s.m.getD i pd).2.2.2.2.2.2≤1048576)= !decide ((s.m.getD i pd).2.2.2.2.2.2>1048576):=by
    by_cases q:(s.m.getD i pd).2.2.2.2.2.2>1048576
    ·rw[aa q,ab];rfl
    ·rw[ab q,aa];rfl
   rw[d1,d2];cases pv s.B.1.length (s.m.getD i pd)<;>cases decide ((s.m.getD i pd).2.2.2.2.2.1<0)<;>cases decide ((s.m.getD i pd).2.2.2.2.2.2<(s.m.getD i pd).2.2.2.2.2.1)<;>cases decide ((s.m.getD i pd).2.2.2.2.2.2>1048576)<;>cases decide ((s.m.getD i pd).1∈s.ids)<;>rfl
  have e:s.m.getD i (0,0,0,0,0,0,0)=s.m.getD i pd:=rfl;rw[aa (show(i:Int)<s.m.length by omega),qA,aa bI,ao,e,f1,qD bI (by omega)];cases nz s (s.m.getD i pd)<;>rfl) (n:=9999) (by omega)
 have nn:(fun j=> !!nz s (s.m.getD j pd))=fun i=>nz s (s.m.getD i pd):=by funext j;rw[Bool.not_not]
 rw[nn] at x2;have eC:No 9999 s.m s.t s.B.1 s.B.2.1 s.B.2.2.1 s.B.2.2.2 s.pr s.ho s.m s.ids s.to s.ov=some (!qB (fun i=>nz s (s.m.getD i pd)) s.m.length 0):=by
  unfold No qSo;have x1:CU 9999 9999 s.m (s.m.length:Int) 0 s.t s.B.1 s.B.2.1 s.B.2.2.1 s.B.2.2.2 s.pr s.ho s.m s.ids s.to s.ov=some x:=x1;rw[x1,←x2];cases x<;>rfl
 rw[eC];cases qB (fun i=>nz s (s.m.getD i pd)) s.m.length 0<;>rfl
theorem vM9 {s:qH}(hp:s.pr.length≤2400):Np 9999 s.pr=some (!qB (pF s) s.pr.length 0):=by
 obtain ⟨x, x1, x2⟩ := qi (L := fun n i => CV 9999 n s.pr (s.pr.length : Int) i) (N := s.pr.length) (fun i => !pF s i) (fun n=>by
  show Iu 9999 _ s.pr (s.pr.length:Int) (s.pr.length:Int)=_;unfold Iu;rw[ab (Int.lt_irrefl _)];rfl) (fun n i hi=>by
  show Iu 9999 (CV 9999 n) s.pr (s.pr.length:Int) (i:Int)=_;unfold Iu qOo pF;rw[aa (show(i:Int)<s.pr.length by omega),qA,aa hi,ao,nv,qD hi (by omega)];have d1:decide (s.pr.getD i 0≥0)= !decide (s.pr.getD i 0<0):=by
   by_cases q:s.pr.getD i 0<0
   ·rw[aa q,ab];rfl
   ·rw[ab q,aa];rfl
  have d2:decide (s.pr.getD i 0≤1048576)= !decide (s.pr.getD i 0>1048576):=by
   by_cases q:s.pr.getD i 0>1048576
   ·rw[aa q,ab];rfl
   ·rw[ab q,aa];rfl
  rw[d1,d2];cases decide (s.pr.getD i 0<0)<;>cases decide (s.pr.getD i 0>1048576)<;>rfl) (n:=9999) (by omega)
 unfold Np qRw;have x1:CV 9999 9999 s.pr (s.pr.length:Int) 0=some x:=x1;rw[x1];have nn:(fun j=> !!pF s j)=pF s:=by funext j;rw[Bool.not_not]
 rw[nn] at x2;rw[←x2];cases x<;>rfl
theorem aby {h:AC}(hp:h.length≤2400):R9 9999 h=some (!qB (fun j=> !decide (h.getD j 0>1099511627776)) h.length 0):=by
 obtain ⟨x, x1, x2⟩ := qi (L := fun n i => CW 9999 n h (h.length : Int) i) (N := h.length) (fun i => decide (h.getD i 0 > 1099511627776)) (fun n=>by
  show Iv 9999 _ h (h.length:Int) (h.length:Int)=_;unfold Iv;rw[ab (Int.lt_irrefl _)];rfl) (fun n i hi=>by
  show Iv 9999 (CW 9999 n) h (h.length:Int) (i:Int)=_;unfold Iv yEj;rw[aa (show(i:Int)<h.length by omega),qA,aa hi,ao,qD hi (by omega)];rfl) (n:=9999) (by omega)
 unfold R9 yEo;have x1:CW 9999 9999 h (h.length:Int) 0=some x:=x1;rw[x1,←x2];cases x<;>rfl
theorem vQc {r:qQ}(hr:wT r){s:qH}(hn:(s.B.1.length:Int)=r.1):Nq 9999 r s.st=some (zr r s):=by
 have h3:=hr.n3;have hpa:=hr.pa;have e0:Nq 9999 r s.st=bif !(decide ((s.pr.length:Int)=(r.2.1.length:Int))) then some false
  else bif !(decide ((s.ho.length:Int)=r.1)) then some false
  else(Np 9999 s.pr).bind fun x0=>
  bif x0 then some false
  else(zv 9999 9999 s.ho (s.ho.length:Int) 0 r s.st).bind fun z=>
  match z with
  |.inl z1=>some true
  |.inr z2=>some z2:=rfl
 rw[e0];unfold zr;by_cases hp:(s.pr.length:Int)=(r.2.1.length:Int)
 case neg=>rw[ab hp];rfl
 by_cases ho:(s.ho.length:Int)=r.1
 case neg=>rw[aa hp,ab ho];rfl
 rw[aa hp,aa ho,vM9 (by omega)];simp only[aB,ak,Bool.true_and,ae];cases hpb:qB (pF s) s.pr.length 0 with
 |false=>rfl
 |true=>
 simp only[aB,ak,Bool.true_and];have l0 : zv 9999 9999 s.ho (s.ho.length : Int) 0 r s.st = _ := fg (L := fun n i => zv 9999 n s.ho (s.ho.length : Int) i r s.st) (N := s.ho.length) (zq r s) (.inl ()) (.inr false) (fun n=>by
  show Iw 9999 (zv 9999 n) s.ho (s.ho.length:Int) (s.ho.length:Int) r s.st=_;unfold Iw;rw[ab (Int.lt_irrefl _)];rfl) (fun n i hi=>by
  show Iw 9999 (zv 9999 n) s.ho (s.ho.length:Int) (i:Int) r s.st=_;unfold Iw zq;have bI:i<s.B.1.length:=by omega
  have ep:s.st.2.2.2.2.2.1=s.pr:=rfl;have ea:s.st.2.1=s.B.1:=rfl;have ed:s.B.1.getD i (0,0,0)=s.B.1.getD i ad:=rfl;rw[aa (show(i:Int)<s.ho.length by omega),qA,aa hi,ao,ep,ea,qA,aa bI,ed,qD hi (by omega)];simp only[ai];by_cases hl:((s.ho.getD i []).length:Int)=(r.2.1.length:Int)
  case neg=>
   have:nk 9999 r.2.1 s.pr (s.ho.getD i [])=some (0,false):=by
    unfold nk;rw[aa hp,ab hl];rfl
   rw[this,ab hl];rfl
  rw[aa hl,aby (by omega)];simp only[Bool.true_and];cases hh:qB (tq (s.ho.getD i [])) (s.ho.getD i []).length 0 with
  |true=>
   have L:=qVf hr hp hpb hl hh;have hm:qB (fun j=> !decide ((s.ho.getD i []).getD j 0>1099511627776)) (s.ho.getD i []).length 0=true:=wI.2 fun j hj=>by
    have:=L.hold j (by omega);rw[ab];rfl
   rw[ZS L (by omega),hm];simp only[ae,aB,ak,Bool.true_and];by_cases hc:(s.B.1.getD i ad).2.1=gD r.2.1 s.pr (s.ho.getD i [])
   ·rw[aa hc,aa hc.symm];cases decide (gD r.2.1 s.pr (s.ho.getD i [])>1152921504606846976)<;>rfl
   ·rw[ab hc,ab (show¬gD r.2.1 s.pr (s.ho.getD i [])=(s.B.1.getD i ad).2.1 from fun e=>hc e.symm)];cases decide (gD r.2.1 s.pr (s.ho.getD i [])>1152921504606846976)<;>rfl
  |false=>
   obtain⟨v,ok,v1,v2⟩:=abm (sa:=r.2.1) (pr:=s.pr) (h:=s.ho.getD i []) (by omega) (by omega) (by omega);rw[v1];simp only[ae,Bool.false_and,ak];cases ok with
   |false=>rfl
   |true=>
    have hm:qB (fun j=> !decide ((s.ho.getD i []).getD j 0>1099511627776)) (s.ho.getD i []).length 0=false:=by
     cases q:qB (fun j=> !decide ((s.ho.getD i []).getD j 0>1099511627776)) (s.ho.getD i []).length 0 with
     |false=>rfl
     |true=>
      have:qB (tq (s.ho.getD i [])) (s.ho.getD i []).length 0=true:=wI.2 fun j hj=>by
       have h1:=wI.1 q j hj;unfold tq;rw[ab (fun e=>by have:=v2 ⟨j,hj,e⟩;cases this)];exact h1
      rw[hh] at this;cases this
    rw[hm];simp only[aB,ak,bN,ai];cases decide (v>1152921504606846976)<;>cases decide (v=(s.B.1.getD i ad).2.1)<;>rfl) (n:=9999) (by omega)
 have el:s.ho.length=s.B.1.length:=by omega
 rw[l0,el];cases qB (zq r s) s.B.1.length 0<;>rfl
theorem vOz {r:qQ}(hr:wT r){s:qH}(hm:s.m.length≤2400)(hi:s.ids.length≤2400):Ix 9999 r s.st=some (Im r s):=by
  have eU:Ix 9999 r s.st=(vF 9999 s.t 0 r.2.2.2.1).bind fun x0=>
     bif !x0 then some false
     else(Fp 9999 s.B.1 s.B.2.1 s.B.2.2.1 s.B.2.2.2).bind fun x1=>
     bif !x1 then some false
     else bif !(decide ((s.B.1.length:Int)=r.1)) then some false
     else(Nq 9999 r s.st).bind fun x2=>
     bif !x2 then some false
     else(Nn 9999 s.st).bind fun x3=>
     bif !x3 then some false
     else(Iy 9999 9999 s.B.1 (s.B.1.length:Int) 0 r s.st []).bind fun z=>
     (Gv 9999 z.2.2).bind fun x4=>
     bif !x4.2 then some false
     else bif !(decide (x4.1=z.2.1.2.2.2.2.2.2.2.2.2.1)) then some false
     else(vF 9999 x4.1 0 1152921504606846976).bind fun x5=>
     bif !x5 then some false
     else(Cm 9999 z.1.1 z.1.2.1 z.1.2.2.1 z.1.2.2.2.1 z.1.2.2.2.2 z.2.1.1).bind fun x6=>
     bif eL z.2.1.2.2.2.2.2.2.2.2.2.2 x6 then (bif !z.2.1.2.2.2.2.2.2.2.2.2.2 then some true
      else some (decide ((z.2.1.2.2.2.2.2.2.2.1.length:Int)=0)))
     else some false:=rfl
  have d1:decide (s.t≥0)= !decide (s.t<0):=by
    by_cases q:s.t<0
    · rw[aa q,ab];rfl
    · rw[ab q,aa];rfl
  have d2:decide (s.t≤r.2.2.2.1)= !decide (s.t>r.2.2.2.1):=by
    by_cases q:s.t>r.2.2.2.1
    · rw[aa q,ab];rfl
    · rw[ab q,aa];rfl
  rw[eU,nv,d1,d2,yP6 (by omega)];unfold Im;cases decide (s.t<0) with
  |true=>rfl
  |false=>
  cases decide (s.t>r.2.2.2.1) with
  |true=>rfl
  |false=>
  simp only[bN,Bool.true_and,ae,aB,ak];cases hb:kV s.B.1 s.B.2.1 s.B.2.2.1 s.B.2.2.2 with
  |false=>rfl
  |true=>
  have vu:=Ft.1 hb;have hY:=vu.n6;by_cases hn:(s.B.1.length:Int)=r.1
  case neg=>rw[ab hn];rfl
  rw[aa hn,vQc hr hn];simp only[aB,ak,ae,Bool.true_and];cases zr r s with
  |false=>rfl
  |true=>
  rw[vNq hm hi];simp only[aB,ak,ae,Bool.true_and];cases vy s with
  |false=>rfl
  |true=>
  obtain ⟨x, h1, h2⟩ := vB (L := fun n j (x : AC) => Iy 9999 n s.B.1 (s.B.1.length : Int) j r s.st x) (N := s.B.1.length) (fun x => (r, s.st, x)) (fun j x => x = (List.range j).map fun j => (s.B.1.getD j ad).1) (fun n x _=>by
    show Iz 9999 _ s.B.1 (s.B.1.length:Int) (s.B.1.length:Int) r s.st x=_;unfold Iz;rw[ab (Int.lt_irrefl _)];rfl) (fun n j x hj hx=>by
    refine⟨x++[(s.B.1.getD j ad).1],?_,?_⟩
    · show Iz 9999 (Iy 9999 n) s.B.1 (s.B.1.length:Int) (j:Int) r s.st x=_;unfold Iz;have hl:x.length=j:=by rw[hx];simp
      rw[aa (show(j:Int)<s.B.1.length by omega),qA,aa hj,qG,ao,qD hj (by omega)];rfl
    · rw[hx,List.range_succ,List.map_append];rfl) (n:=9999) (s:=[]) (by omega) rfl
  have hbx:∀i,i<x.length→-9223372036854775808≤x.getD i 0∧x.getD i 0<9223372036854775808:=by
    intro i hi;have hm:x.getD i 0∈x:=fU hi;rw[h2] at hm;obtain⟨j,hj,e⟩:=List.mem_map.1 hm;have:=tn.1 (vu.acct j (List.mem_range.1 hj));have this:-4611686018427387904<(s.B.1.getD j ad).1∧(s.B.1.getD j ad).1<4611686018427387904:=this.1;rw[h2,←e];omega
  have hlen:x.length=s.B.1.length:=by rw[h2];simp
  have CP:kX x=jK s:=by rw[h2,ZQ];rfl
  rw[h1];simp only[aB,ak,ae,Bool.true_and];rw[ZM (by omega) (by omega) hbx,CP];have eo:s.st.2.2.2.2.2.2.2.2.2.2=s.ov:=rfl;have em:s.st.2.2.2.2.2.2.2.1=s.m:=rfl;have et:s.st.2.2.2.2.2.2.2.2.2.1=s.to:=rfl;have e1:s.st.1=s.t:=rfl;have ecl:Cm 9999 r.1 r.2.1 r.2.2.1 r.2.2.2.1 r.2.2.2.2 s.t=some (decide (s.t=r.2.2.2.1)):=rfl;unfold R5;cases bS:xZ (jK s) with
  |true=>
    simp only[ai,ae,aB,ak];rw[et,nv,eo,em,e1,ecl];simp only[ae];cases decide (jK s=s.to)<;>cases decide (jK s≥0)<;>cases decide (jK s≤1152921504606846976)<;>cases eL s.ov (decide (s.t=r.2.2.2.1))<;>cases s.ov<;>rfl
  |false=>
    simp only[ak,ae,bN,ai];have:decide (jK s≥0)=false∨decide (jK s≤1152921504606846976)=false:=by
      by_cases q:jK s≥0
      · right;refine ab fun q2=>?_
        unfold xZ at bS;simp at bS;omega
      · exact .inl (ab q)
    rcases this with q|q
    · rw[q];cases decide (jK s=s.to)<;>rfl
    · rw[q];cases decide (jK s=s.to)<;>cases decide (jK s≥0)<;>rfl
def gI (b:AC):Prop:=∀x∈b,0≤x∧x<256
def Sd (B:Nat)(b:AC):Prop:=b.length≤B∧gI b
theorem Sd.take {B b}(h:Sd B b) n:Sd B (b.take n):=⟨by rw[bY];have:=h.1;omega,fun x hx=>h.2 x (by grind)⟩
theorem Sd.nil B:Sd B []:=⟨by simp,nofun⟩
theorem Sd.mono {B C b}(h:Sd B b)(hc:B≤C):Sd C b:=⟨Nat.le_trans h.1 hc,h.2⟩
theorem gI.app {a b}(ha:gI a)(hb:gI b):gI (a++b):=fun x hx=>(List.mem_append.1 hx).elim (ha x) (hb x)
structure wJ (B:Nat) (D:vR):Prop where
 x:0≤D.2.2.1∧D.2.2.1≤(D.2.1.length:Int)
 y:0≤D.2.2.2.2.1∧D.2.2.2.2.1≤(D.2.2.2.1.length:Int)
 room:0≤D.1∧D.1≤200000
 lx:(D.2.1.length:Int)≤D.1
 ly:(D.2.2.2.1.length:Int)≤D.1
 ck:D.2.2.2.2.2.2.1<9223372036854775808
 sx:Sd B D.2.1
 sy:Sd B D.2.2.2.1
theorem wJ.mono {B C D}(h:wJ B D)(hc:B≤C):wJ C D:=⟨h.x,h.y,h.room,h.lx,h.ly,h.ck,h.sx.mono hc,h.sy.mono hc⟩
theorem wJ.side {B D}(h:wJ B D){i}(hi:i=0∨i=1):Sd B (kU D i):=by
 rcases hi with rfl|rfl
 · exact h.sx
 · exact h.sy
theorem Nr {B D}(h:wJ B D):D.2.1.length≤1000000∧D.2.2.2.1.length≤1000000:=by
 have h1:=h.lx;have h2:=h.ly;have h3:=h.room;omega
theorem qQz {k B D}(h:wJ B D)(hu:wV D=false):∃c D',fK k D=some (c,D')∧wJ B D'∧D'.1=D.1∧(c=false→wV D'=false∧D'.2.1=D.2.1∧D'.2.2.2.1=D.2.2.2.1):=by
 have hl:=Nr h;obtain⟨ro,x,sx,y,sy,cA,cK,ar,dn,op⟩:=D;obtain⟨h1,h2,h3,h4,h5,h6,h7,h8⟩:=h;subst hu;have h1:0≤sx∧sx≤(x.length:Int):=h1;have h2:0≤sy∧sy≤(y.length:Int):=h2;have h4:(x.length:Int)≤ro:=h4;have h5:(y.length:Int)≤ro:=h5;rcases aaq (k:=k) (ar:=ar) (op:=op) (cA:=cA) (ro:=ro) h1 h2 hl.1 hl.2 h6 with q|⟨_,a,c,q1,q2,q3,q4,q⟩
 · exact⟨false,_,q,⟨h1,h2,h3,h4,h5,h6,h7,h8⟩,rfl,fun _=>⟨rfl,rfl,rfl⟩⟩
 · have e1:(x.take a).length=a:=by rw[bY];omega
   have e2:(y.take c).length=c:=by rw[bY];omega
   exact⟨true,_,q,⟨by grind,by grind,h3,by show((x.take a).length:Int)≤ro;omega,by show((y.take c).length:Int)≤ro;omega,h6,h7.take a,h8.take c⟩,rfl,by simp⟩
def Op (B:Nat)(r:Option (Int×vR)):Prop:=∃e D',r=some (e,D')∧wJ B D'∧(e≠11→wV D'=false)
theorem yP8 {k B D}(h:wJ B D)(hu:wV D=false):Op B (tg k D):=by
 obtain⟨c,D',f1,f2,f3,f4⟩:=qQz (k:=k) h hu;unfold tg;rw[show rq k D=some false from congrArg some hu,ae,ak,f1];cases c with
 |true=>exact⟨11,D',rfl,f2,by simp⟩
 |false=>exact⟨0,_,rfl,⟨by simp,by simp,f2.room,f2.lx,f2.ly,f2.ck,f2.sx,f2.sy⟩,fun _=>(f4 rfl).1⟩
theorem vQ1 {k B D}(h:wJ B D)(hu:wV D=false){i}(hi:i=0∨i=1):∃e D',Ho k D i=some (e,D')∧wJ B D'∧(e≠11→wV D'=false)∧(e=0→kU D' i=[]):=by
 obtain⟨c,D',f1,f2,f3,f4⟩:=qQz (k:=k) h hu;have hr:=f2.room;rcases hi with rfl|rfl
 all_goals
  show∃e D',(rq k D).bind _=some (e,D')∧_;rw[show rq k D=some false from congrArg some hu];rw[f1];cases c with
  |true=>exact⟨11,D',rfl,f2,by simp,by simp⟩
  |false=>first
    |exact⟨0,_,rfl,⟨by simp,f2.y,f2.room,hr.1,f2.ly,f2.ck,.nil _,f2.sy⟩,fun _=>(f4 rfl).1,fun _=>rfl⟩
    |exact⟨0,_,rfl,⟨f2.x,by simp,f2.room,f2.lx,hr.1,f2.ck,f2.sx,.nil _⟩,fun _=>(f4 rfl).1,fun _=>rfl⟩
theorem ySk {k B C D}(h:wJ B D)(hu:wV D=false){i}(hi:i=0∨i=1){b}(hb:b.length≤1000000)(h8:gI b)(hc:B≤C)(hl:(kU D i).length+b.length≤C):Op C (vh k D i b):=by
 obtain⟨c,D',f1,f2,f3,f4⟩:=qQz (k:=k) h hu;have dL:=Nr f2;have hx:=f2.x;have hy:=f2.y;have hr:=h.room;have hlx:=h.lx;have hly:=h.ly;have g:=f2.mono hc;rcases hi with rfl|rfl
 · have hl:D.2.1.length+b.length≤C:=hl;show Op C ((rq k D).bind _);rw[show rq k D=some false from congrArg some hu];rw[zQ,f1];by_cases q:(b.length:Int)>D.1-(D.2.1.length:Int)
   · rw[aa q];exact⟨3,D,rfl,h.mono hc,fun _=>hu⟩
   rw[ab q];cases c with
   |true=>exact⟨11,D',rfl,g,by simp⟩
   |false=>
    have f5:=(f4 rfl).2.1;have e5:(D'.2.1++b).length=D.2.1.length+b.length:=by rw[aA,f5]
    show Op C (bif zO (D'.2.1.length+b.length) 1 then _ else none);rw[qG];exact⟨0,_,rfl,⟨by grind,hy,f2.room,by grind,f2.ly,f2.ck,⟨by show(D'.2.1++b).length≤C;omega,f2.sx.2.app h8⟩,g.sy⟩,fun _=>(f4 rfl).1⟩
 · have hl:D.2.2.2.1.length+b.length≤C:=hl;show Op C ((rq k D).bind _);rw[show rq k D=some false from congrArg some hu];show Op C (bif decide ((b.length:Int)>zA (D.1-(D.2.2.2.1.length:Int))) then _ else(fK k D).bind _);rw[zQ,f1];by_cases q:(b.length:Int)>D.1-(D.2.2.2.1.length:Int)
   · rw[aa q];exact⟨3,D,rfl,h.mono hc,fun _=>hu⟩
   rw[ab q];cases c with
   |true=>exact⟨11,D',rfl,g,by simp⟩
   |false=>
    have f5:=(f4 rfl).2.2;have e5:(D'.2.2.2.1++b).length=D.2.2.2.1.length+b.length:=by rw[aA,f5]
    show Op C (bif zO (D'.2.2.2.1.length+b.length) 1 then _ else none);rw[qG];exact⟨0,_,rfl,⟨hx,by grind,f2.room,f2.lx,by grind,f2.ck,g.sx,⟨by show(D'.2.2.2.1++b).length≤C;omega,f2.sy.2.app h8⟩⟩,fun _=>(f4 rfl).1⟩
def nA (b:AC):AC×AC×Bool:=
 if b.length<8∨iA (b.take 8)<0∨iA (b.take 8)>((b.length-8)/8:Nat) then([],[],false)
 else(fi (iA (b.take 8)).toNat (b.drop 8),b.drop (8+8*(iA (b.take 8)).toNat),true)
theorem vAa:∀m b,fi m (b.take (8*m))=fi m b
 |0,_=>rfl
 |m+1,b=>by
  show iA _::_=iA _::_;rw[List.take_take,List.drop_take,Nat.min_eq_left (by omega),show 8*(m+1)-8=8*m by omega,vAa m]
theorem yHq b:-9223372036854775808≤iA b∧iA b<9223372036854775808:=⟨X4 _,X5 _⟩
theorem vMu {k}(hk:9≤k){b}(h:b.length=8):sQ k b=some ([iA b],0):=by
 rw[Ya hk (by omega) (by omega)];unfold fH;rw[h];show some (([iA (b.take 8)]:AC),(0:Int))=_;grind
theorem yCl {k}(hk:9≤k){b m}(h:b.length=8*m)(hm:m<k)(ph:m≤1000000):sQ k b=some (fi m b,0)∧xL k b=some (fi m b,0):=by
 rw[Ya hk (by omega) (by omega),yZm hk (by omega) (by omega)];unfold fH;simp_all
theorem vUh {k}(hk:9≤k){b}(hb:b.length≤8*k)(bg:b.length≤1000000):Sa k b=some (nA b)∧Sb k b=some (nA b):=by
 have hd:(List.drop 8 b).length=b.length-8:=List.length_drop;unfold Sa Sb nA;by_cases h0:b.length<8
 · rw[aa,if_pos (.inl h0)];exact⟨rfl,rfl⟩
 have ht:(b.take 8).length=8:=by rw[bY];omega
 rw[ab,aa,vMu hk ht,yHd hk _ ht];have hn:=yHq (b.take 8);generalize iA (b.take 8)=n at hn;simp only[ak,ai,ae];simp only[ai,List.getD_cons_zero];by_cases h1:n<0
 · rw[aa h1,if_pos (.inr (.inl h1))];exact⟨rfl,rfl⟩
 have w1:zA (Int.tdiv ((List.drop 8 b).length:Int) 8)=((b.length-8)/8:Nat):=by
  rw[hd];show zA (((b.length-8)/8:Nat):Int)=_;rw[zQ]
 have w2:zA (Int.tdiv (zA ((b.length:Int)-8)) 8)=((b.length-8)/8:Nat):=by
  rw[zQ (x:=(b.length:Int)-8) (by omega) (by omega),show(b.length:Int)-8=((b.length-8:Nat):Int) by omega];show zA (((b.length-8)/8:Nat):Int)=_;rw[zQ]
 rw[ab h1,w1,w2];simp only[ak];by_cases h2:n>((b.length-8)/8:Nat)
 · rw[aa h2,if_pos (.inr (.inr h2))];exact⟨rfl,rfl⟩
 obtain⟨m,rfl⟩:∃m:Nat,n=m:=⟨n.toNat,by omega⟩;have e1:zA (8*(m:Int))=((8*m:Nat):Int):=by rw[zQ];omega
 have e2:zA (8+((8*m:Nat):Int))=((8+8*m:Nat):Int):=by rw[zQ];omega
 rw[ab h2,if_neg (by omega),e1,e2];simp only[ak,ao];have s1:qO b 8 (8+8*m-8)=(b.drop 8).take (8*m):=by unfold qO;rw[show 8+8*m-8=8*m by omega]
 have hl:((b.drop 8).take (8*m)).length=8*m:=by rw[bY,hd];omega
 have hg:=yCl hk hl (by omega) (by omega);rw[s1,hg.1,hg.2,vAa,aa,aa,aa,aa,aa,List.drop_drop];exact⟨rfl,rfl⟩
theorem yQl {b}(hb:b.length≤1000000):(nA b).2.1.length≤b.length∧((nA b).2.2=true→8*((nA b).1.length+1)+(nA b).2.1.length=b.length):=by
 unfold nA;split
 · simp
 · rw[PV,List.length_drop];omega
def kl (st:wZ):AC×wZ:=((nA st.1).1,(nA st.1).2.1,st.2&&(nA st.1).2.2)
def gd (n:Nat)(st:wZ):AC×wZ:=if(kl st).1.length=n then kl st else(List.replicate n 0,(kl st).2.1,false)
def IA (st:wZ):(Int×Int×Int)×wZ:=(((gd 3 st).1.getD 0 0,(gd 3 st).1.getD 1 0,(gd 3 st).1.getD 2 0),(gd 3 st).2)
def IB (st:wZ):(Int×Int×Int×Int×Int×Int×Int)×wZ:=
 (((gd 7 st).1.getD 0 0,(gd 7 st).1.getD 1 0,(gd 7 st).1.getD 2 0,(gd 7 st).1.getD 3 0,(gd 7 st).1.getD 4 0,(gd 7 st).1.getD 5 0,(gd 7 st).1.getD 6 0),(gd 7 st).2)
def vY (st:wZ):wZ:=(st.1,!st.2)
theorem CX n st:(gd n st).1.length=n:=by
 unfold gd;grind
theorem IC {k}(hk:9≤k){st:wZ}(hb:st.1.length≤8*k)(bg:st.1.length≤1000000):zw k (vY st)=some ((kl st).1,vY (kl st).2)∧zx k st=some (kl st):=by
 obtain⟨b,ok⟩:=st;have h:=vUh hk hb bg;unfold zw zx;rw[show(vY (b,ok)).1=b from rfl,h.1,h.2];cases ok<;>exact⟨rfl,rfl⟩
theorem Ns {k}(hk:9≤k){st:wZ}(hb:st.1.length≤8*k)(bg:st.1.length≤1000000){n:Nat}(hn:pb (n:Int) (n:Int) 8=true):vz k (vY st) (n:Int)=some ((gd n st).1,vY (gd n st).2)∧v9 k st (n:Int)=some (gd n st):=by
 have h:=IC hk hb bg;unfold vz v9 gd;rw[h.1,h.2];simp only[ae];by_cases e:(kl st).1.length=n
 · rw[aa,if_pos e];exact⟨rfl,rfl⟩
 · rw[ab,if_neg e,hn];exact⟨rfl,rfl⟩
structure yR {α:Type} (f:α→AC) (s:wZ→α×wZ):Prop where
 le:∀st:wZ,st.1.length≤1000000→(s st).2.1.length≤st.1.length
 ok:∀st:wZ,st.1.length≤1000000→(s st).2.2=true→st.2=true∧8*((f (s st).1).length+1)+(s st).2.1.length=st.1.length
theorem nB:yR (fun x=>x) kl:=⟨fun st h=>(yQl h).1,fun st h e=>by
 have e:(st.2&&(nA st.1).2.2)=true:=e;rw[aR] at e;exact⟨e.1,(yQl h).2 e.2⟩⟩
theorem ID n:yR (fun x=>x) (gd n):=by
 refine⟨fun st h=>?_,fun st h=>?_⟩<;>unfold gd<;>split
 · exact nB.le st h
 · exact nB.le st h
 · exact nB.ok st h
 · exact fun e=>nomatch e
theorem qN0:yR lG IA:=⟨fun st h=>(ID 3).le st h,fun st h e=>by
 have:=(ID 3).ok st h e;rw[CX] at this;exact this⟩
theorem qX3:yR lH IB:=⟨fun st h=>(ID 7).le st h,fun st h e=>by
 have:=(ID 7).ok st h e;rw[CX] at this;exact this⟩
def eS {α:Type}(step:wZ→α×wZ):Nat→Int→wZ→List α→wZ×List α
 |0,_,st,r=>(st,r)
 |m+1,n,st,r=>if 0<n∧st.2=true then eS step m (n-1) (step st).2 (r++[(step st).1]) else(st,r)
def tt (st:wZ):Nat:=if st.2 then st.1.length/8+1 else 0
theorem CY {α β:Type}{f:α→AC}{step:wZ→α×wZ}(hw:yR f step){L:Nat→Int→wZ→List α→Option β}{e:wZ→List α→β}{ix:Int→Int}{N:Int}{B:Nat}(hB:B≤1000000)
  (hs:∀m n st r,0<n→n≤N→st.2=true→st.1.length≤B→r.length≤1000000→L (m+1) (ix n) st r=L m (ix (n-1)) (step st).2 (r++[(step st).1]))
  (he:∀m n st r,¬(0<n∧st.2=true)→L (m+1) (ix n) st r=some (e st r)):
  ∀m n st r,n≤N→tt st<m→st.1.length≤B→r.length+tt st≤1000001→L m (ix n) st r=some (e (eS step m n st r).1 (eS step m n st r).2)
 |0,n,st,r,h1,h2,h3,h4=>absurd h2 (Nat.not_lt_zero _)
 |m+1,n,st,r,h1,h2,h3,h4=>by
  unfold eS;by_cases h:0<n∧st.2=true
  · have hm:tt st=st.1.length/8+1:=by unfold tt;rw[h.2];rfl
    have hle:=hw.le st (by omega);have bd:tt (step st).2<tt st:=by
     rw[hm];unfold tt;cases hq:(step st).2.2 with
     |false=>exact Nat.succ_pos _
     |true=>
      have:=(hw.ok st (by omega) hq).2;show(step st).2.1.length/8+1<_;omega
    rw[if_pos h,hs m n st r h.1 h1 h.2 h3 (by omega)];exact CY hw hB hs he m (n-1) _ _ (by omega) (by omega) (by omega) (by rw[aA];show r.length+1+_≤_;omega)
  · rw[if_neg h];exact he m n st r h
theorem IE {α:Type}{f:α→AC}{step:wZ→α×wZ}(hw:yR f step):∀m n st r,st.1.length≤1000000→
  (eS step m n st r).1.1.length≤st.1.length∧((eS step m n st r).1.2=true→st.2=true∧(yH ((eS step m n st r).2.map f)).length+(eS step m n st r).1.1.length=(yH (r.map f)).length+st.1.length)
 |0,n,st,r,_=>⟨Nat.le_refl _,fun h=>⟨h,rfl⟩⟩
 |m+1,n,st,r,hl=>by
  unfold eS;split
  · have h1:=hw.le st hl;have h2:=hw.ok st hl;have h3:=IE hw m (n-1) (step st).2 (r++[(step st).1]) (by omega);refine⟨by omega,fun h=>?_⟩;have h4:=h3.2 h;have h5:=h2 h4.1;have e:(yH ((r++[(step st).1]).map f)).length=(yH (r.map f)).length+8*((f (step st).1).length+1):=by
     rw[List.map_append,qSk,aA,←sR];simp[yH]
    exact⟨h5.1,by omega⟩
  · exact⟨Nat.le_refl _,fun h=>⟨h,rfl⟩⟩
theorem yOy {l}(h:(yH l).length≤19200):jC l:=by
 have key:∀l,8*l.length≤(yH l).length∧∀x∈l,8*x.length≤(yH l).length:=fun l=>by
  induction l with
  |nil=>exact⟨Nat.zero_le _,fun x hx=>absurd hx List.not_mem_nil⟩
  |cons a l ih=>
   have e:(yH (a::l)).length=8*(a.length+1)+(yH l).length:=by
    rw[←sR];simp[yH]
   rw[e];refine⟨by rw[List.length_cons];omega,fun x hx=>?_⟩;rcases List.mem_cons.1 hx with rfl|hx
   · omega
   · have:=ih.2 x hx;omega
 have hk:=key l;exact⟨by omega,fun x hx=>by have:=hk.2 x hx;omega⟩
theorem Sc x:0≤IntKind.wrap .u8 x∧IntKind.wrap .u8 x<256:=by
 rw[KT];omega
theorem Se n:gI (fj n):=fun x hx=>by
 simp[fj] at hx;rcases hx with rfl|rfl|rfl|rfl|rfl|rfl|rfl|rfl<;>exact Sc _
theorem yZ9 l:gI (jM l):=fun x hx=>by
 obtain⟨n,_,h⟩:=List.mem_flatMap.1 hx;exact Se n x h
theorem yOz {b}(h:gI b):gI (kT b):=fun x hx=>by
 simp[kT] at hx;rcases hx with rfl|rfl|hx
 · exact Sc _
 · exact Sc _
 · exact h x hx
theorem vP5 {x y}(hx:0≤x∧x<256)(hy:0≤y∧y<256):wU .i64 (shl .i64 (zA x) 8) (zA y)=x*256+y∧zA (zA (zA x*256)+zA y)=x*256+y:=by
 rw[zQ (x:=x),zQ (x:=y)];refine⟨?_,by rw[zQ (x:=x*256),zQ]⟩;have e:shl .i64 x 8=x*2^8:=by
  show zA (x*2^8)=_;exact zQ
 rw[e,Rp 8 (by decide) hx.1 (by omega) (by omega)];omega
theorem yI4 {k B}:∀n b r,b.length<2*n→gI b→b.length≤B→B≤1000000→r.length+b.length≤2000000→(∀x∈r,x.length≤B)→
  ∃t l,Nt k n b r=some (t,l)∧Nu k n b r=some (t,l)∧(∀x∈l,x.length≤B)∧2*l.length≤2*r.length+b.length
 |n+1,b,r,h,h8,hB,fB,hr,hx=>by
  show∃t l,Sf k (Nt k n) b r=_∧Sg k (Nu k n) b r=_∧_;unfold Sf Sg;by_cases h2:b.length<2
  · rw[ab];exact by grind
  have l2:=vP5 (h8 (b.getD 0 0) (by grind)) (h8 (b.getD 1 0) (by grind));have b0:=h8 (b.getD 0 0) (by grind);have b1:=h8 (b.getD 1 0) (by grind);rw[aa,jB,jB,l2.1,l2.2];obtain⟨m,hm⟩:∃m:Nat,b.getD 0 0*256+b.getD 1 0=m:=⟨(b.getD 0 0*256+b.getD 1 0).toNat,by omega⟩;rw[hm];simp only[ai];by_cases h3:(m:Int)>60000
  · rw[aa h3];exact by grind
  rw[ab h3,zQ (x:=(b.length:Int)-2) (by omega) (by omega)];by_cases h4:(m:Int)>(b.length:Int)-2
  · rw[aa h4];exact by grind
  have e:zA (2+(m:Int))=((2+m:Nat):Int):=by rw[zQ];omega
  rw[ab h4,e,aa,aa,aa,ao];have hs:(qO b 2 (2+m-2)).length≤B:=by
   unfold qO;grind
  rw[qG,qG (n:=r.length+1)];simp only[ai];have hd:(b.drop (2+m)).length=b.length-(2+m):=List.length_drop;obtain⟨t,l,a1,a2,a3,a4⟩:=yI4 (k:=k) (B:=B) n (b.drop (2+m)) (r++[qO b 2 (2+m-2)]) (by omega) (fun x hx=>h8 x (by grind)) (by omega) fB (by grind) (by grind);grind
structure qM9 (B:Nat) (g:Int) (S:AC) (rows:EQ):Prop where
 g:(g=0∧S=[]∧rows=[])∨(1≤g∧g≤4611686018427387904)
 s:S.length≤B
 r:∀x∈rows,x.length≤B
 n:2*rows.length≤B
theorem Sh B:qM9 B 0 [] []:=⟨by simp,by simp,by simp,by simp⟩
theorem yZa {k B}(hk:9≤k)(hB:B<2*k)(fB:B≤1000000){D i}(hi:i=0∨i=1)(hl:(kU D i).length≤B)(h8:gI (kU D i)):
  ∃g S rows,IF k D i=some (g,S,rows)∧Nv k (qT D) i=some (g,S,rows,decide (g>0))∧qM9 B g S rows:=by
 have r1:qNb k D i=some (kU D i):=by
  rcases hi with rfl|rfl
  · have hl:D.2.1.length≤B:=hl;show(CZ k D.2.1).bind (fun x1=>some x1)=some D.2.1;unfold CZ;rw[qG];rfl
  · have hl:D.2.2.2.1.length≤B:=hl;show(CZ k D.2.2.2.1).bind (fun x1=>some x1)=some D.2.2.2.1;unfold CZ;rw[qG];rfl
 have r2:qX0 k (qT D) i=some (kU D i):=by
  rcases hi with rfl|rfl
  · have hl:D.2.1.length≤B:=hl;show(bif zO (0+D.2.1.length) 1 then some D.2.1 else none)=some D.2.1;rw[qG];rfl
  · have hl:D.2.2.2.1.length≤B:=hl;show(bif zO (0+D.2.2.2.1.length) 1 then some D.2.2.2.1 else none)=some D.2.2.2.1;rw[qG];rfl
 obtain⟨t,l,s1,s2,s3,s4⟩:=yI4 (k:=k) (B:=B) k (kU D i) [] (by omega) h8 hl fB (by show 0+_≤_;omega) (by simp);unfold IF Nv qUt qXn;rw[r1,r2];simp only[ae];rw[s1,s2];simp only[ae];cases l with
 |nil=>exact⟨0,[],[],rfl,rfl,Sh B⟩
 |cons a l=>
  have hb:zB 0 (a::l).length=true:=jB (by omega) (by simp);rw[ab (by rw[List.length_cons];omega),hb];simp only[ai,ak,List.getD_cons_zero];by_cases h:a.length<8
  · rw[aa];exact⟨0,[],[],rfl,rfl,Sh B⟩
  have ht:(List.take 8 a).length=8*1:=by rw[bY];omega
  have hg:=yCl hk ht (by omega) (by decide);rw[ab,aa,hg.1,hg.2,aa (by rw[List.length_cons];omega)];have hw:fi 1 (List.take 8 a)=[iA ((List.take 8 a).take 8)]:=rfl;rw[hw];generalize iA ((List.take 8 a).take 8)=g;simp only[ai,ak,ae,List.getD_cons_zero];rw[show zB 0 ([g]:AC).length=true from rfl];simp only[ai];by_cases h1:g<1
  · rw[aa h1];exact⟨0,[],[],rfl,rfl,Sh B⟩
  by_cases h2:g>4611686018427387904
  · rw[ab h1,aa h2];exact⟨0,[],[],rfl,rfl,Sh B⟩
  rw[ab h1,ab h2];have hs:qO (a::l) 1 ((a::l).length-1)=l:=by
   unfold qO;simp
  rw[hs];refine⟨g,a.drop 8,l,rfl,by rw[aa (by grind)];rfl,.inr (by omega),?_,by grind,?_⟩;all_goals grind
theorem vUi {k B}(hk:9≤k)(hB:B<2*k)(fB:B≤1000000){D}(h0:(kU D 0).length≤B∧gI (kU D 0))(h1:(kU D 1).length≤B∧gI (kU D 1)):
  ∃g m S rows ok,Nw k D=some (g,m,S,rows,ok)∧Nx k (qT D)=some (g,m,S,rows,ok)∧(m=0∨m=1)∧qM9 B g S rows∧(ok=true→1≤g):=by
 obtain⟨g,S,rows,a1,a2,a3⟩:=yZa hk hB fB (.inl rfl) h0.1 h0.2;obtain⟨g',S',JV,b1,b2,b3⟩:=yZa hk hB fB (.inr rfl) h1.1 h1.2;unfold Nw Nx;by_cases h:g>0
 · grind
 · by_cases h':g'>0
   · grind
   · obtain⟨rfl,rfl,rfl⟩:g=0∧S=[]∧rows=[]:=by
      rcases a3.g with q|q
      all_goals omega
     grind
structure nC (B:Nat) (L:wK) (D:vR):Prop where
 half:wJ B D
 up:wV D=false
 side:L.1=0∨L.1=1
 gen:1≤L.2.1∧L.2.1≤4611686018427387904
 stale:L.2.2.2=false
theorem yTg {k B L D}(h:nC B L D){b}(hb:b.length≤57)(h8:gI b):
  ∃e L' D',yu k L D b=some (e,L',D')∧yt k (hZ L) (qT D) b=some (e,hZ L',qT D')∧(e≠11→nC (B+59) L' D')∧wJ (B+59) D':=by
 have hl:=Nr h.half;have key:∃e L' D',yu k L D b=some (e,L',D')∧(e≠11→nC (B+59) L' D')∧wJ (B+59) D':=by
  have hlen:=P5 b;unfold yu;rw[P2,if_pos (by omega),ae,h.stale];obtain⟨e,D1,a1,a2,a4⟩:=ySk (k:=k) (C:=B+59) h.half h.up h.side (b:=kT b) (by omega) (yOz h8) (by omega) (by have:=(h.half.side h.side).1;omega);rw[a1];simp only[ae];by_cases h3:e=3
  · rw[aa h3];exact⟨10,L,D1,rfl,fun _=>⟨a2,by grind,h.side,h.gen,h.stale⟩,a2⟩
  by_cases h0:e=0
  · rw[ab h3,aa h0];obtain⟨f,D2,b1,b2,b4⟩:=yP8 (k:=k) a2 (by grind);rw[b1];simp only[ae];cases decide (f=0) with
    |true=>exact⟨f,_,D2,rfl,fun q=>⟨b2,b4 q,h.side,h.gen,rfl⟩,b2⟩
    |false=>exact⟨f,L,D2,rfl,fun q=>⟨b2,b4 q,h.side,h.gen,h.stale⟩,b2⟩
  · rw[ab h3,ab h0];exact⟨e,L,D1,rfl,fun q=>⟨a2,a4 q,h.side,h.gen,h.stale⟩,a2⟩
 obtain⟨e,L',D',h1,h2,h3⟩:=key;exact⟨e,L',D',h1,by rw[aat h.side hl.1 hl.2 (by omega),h1];rfl,h2,h3⟩
theorem yQb {k B}(hk:9≤k){D}(h:wJ B D)(hu:wV D=false){i}(hi:i=0∨i=1) g {b}(hb:b.length≤7000)(h8:gI b)(hB:7010≤B):
  ∃e D',yr k D i g b=some (e,D')∧(e=0→g≤4611686018427387904)∧(e≠11→wV D'=false)∧wJ B D':=by
 have hlen:(kT (fj g++b)).length=b.length+10:=by rw[P5,aA];show 8+b.length+2=_;omega
 unfold yr;rw[E3 hk [g] (by simp) (by simp;omega),ae,show jM [g]=fj g by simp[jM]];rw[qG (by show(8+b.length)*1≤_;omega) (by show 8+b.length≤_;omega),ai,P2,if_pos (by rw[aA];show 8+b.length≤_;omega),ae];simp only[aB,ak];by_cases hg:g>4611686018427387904
 · rw[aa hg];exact by grind
 rw[ab hg,show Ro k D=some D.1 from rfl];simp only[ae,ak];cases decide (((kT (fj g++b)).length:Int)>D.1) with
 |true=>exact by grind
 |false=>
  obtain⟨e,D1,a1,a2,a4,a5⟩:=vQ1 (k:=k) h hu hi;rw[a1];simp only[ae];by_cases h0:e=0
  · obtain⟨f,D2,b1,b2,b4⟩:=ySk (k:=k) (C:=B) a2 (by grind) hi (b:=kT (fj g++b)) (by omega) (yOz ((Se g).app h8)) (by omega) (by rw[a5 h0];show 0+_≤_;omega);rw[b1];simp only[ae];by_cases h1:f=0
    · obtain⟨f',D3,c1,c2,c4⟩:=yP8 (k:=k) b2 (by grind);grind
    grind
  · exact by grind
theorem yYh {k B}(hk:9≤k){L:wK}{D}(hc:wJ B D)(hu:wV D=false)(hs:L.1=0∨L.1=1)(hg:1≤L.2.1∧L.2.1≤4611686018427387904){b}(hb:b.length≤7000)(h8:gI b)(hB:7010≤B):
  ∃e L' D',ou k L D b=some (e,L',D')∧pE k (hZ L) (qT D) b=some (e,hZ L',qT D')∧(e=0→nC B L' D')∧(e≠0→L'=L)∧(e≠11→wV D'=false)∧wJ B D':=by
 have hl:=Nr hc;have e1:zA (1-L.1)=1-L.1:=zQ;have e2:zA (L.2.1+1)=L.2.1+1:=zQ;have key:∃e L' D',ou k L D b=some (e,L',D')∧(e=0→nC B L' D')∧(e≠0→L'=L)∧(e≠11→wV D'=false)∧wJ B D':=by
  obtain⟨e,D',h1,h2,h3,h4⟩:=yQb hk hc hu (i:=1-L.1) (by omega) (L.2.1+1) hb h8 hB;unfold ou;rw[e1,e2,h1];simp only[ae];by_cases h0:e=0
  · rw[aa h0];exact⟨e,_,D',rfl,fun _=>⟨h4,by grind,by omega,by show 1≤L.2.1+1∧L.2.1+1≤_;omega,rfl⟩,by grind,h3,h4⟩
  · rw[ab h0];grind
 obtain⟨e,L',D',h1,h2⟩:=key;exact⟨e,L',D',h1,by rw[aau hk hs hl.1 hl.2 (by omega),h1];rfl,h2⟩
theorem vJw {k B}(hk:9≤k){L D}(h:nC B L D){b}(hb:b.length≤7000)(h8:gI b)(hB:7010≤B):
  ∃e L' D',ou k L D b=some (e,L',D')∧pE k (hZ L) (qT D) b=some (e,hZ L',qT D')∧(e≠11→nC B L' D')∧wJ B D':=by
 obtain⟨e,L',D',h1,h2,h3,h4,h5,h6⟩:=yYh hk h.half h.up h.side h.gen hb h8 hB;refine⟨e,L',D',h1,h2,fun q=>?_,h6⟩;by_cases h0:e=0
 · exact h3 h0
 · rw[h4 h0];exact⟨h6,h5 q,h.side,h.gen,h.stale⟩
theorem vIr:∀m b,∀x∈fi m b,x≤9223372036854775807
 |0,b=>nofun
 |m+1,b=>fun x hx=>by
  rcases List.mem_cons.1 hx with rfl|hx
  · have:=yHq (b.take 8);omega
  · exact vIr m _ x hx
theorem abz n st i:(gd n st).1.getD i 0≤9223372036854775807:=by
 have key:∀l:AC,(∀x∈l,x≤9223372036854775807)→l.getD i 0≤9223372036854775807:=fun l h=>by
  by_cases hi:i<l.length
  all_goals simp_all
 refine key _ fun x hx=>?_
 unfold gd at hx;split at hx
 · have hx:x∈(nA st.1).1:=hx;unfold nA at hx;split at hx
   · simp_all
   · exact vIr _ _ x hx
 simp_all
theorem qYs {k st}(hb:st.1.length/8+2≤k)(bg:st.1.length≤1000000):tt st<k∧0+tt st≤1000001:=by
 unfold tt;grind
theorem yCn {st:wZ}{n:Int}(h:¬(0<n∧st.2=true)):decide (0<n)=false∨(decide (0<n)=true∧st.2=false):=by
 grind
theorem qZf {k}(hk:9≤k){st}(hb:st.1.length/8+2≤k)(bg:st.1.length≤1000000){n}(hn:n≤9223372036854775807):
  IG k (vY st) n=some ((eS kl k n st []).2,vY (eS kl k n st []).1)∧IH k st n=some ((eS kl k n st []).2,(eS kl k n st []).1):=by
 have hm:=qYs hb bg;have h1 := CY nB (L := fun m i st r => II k m i (vY st) r) (e := fun st r => (vY st, r)) (ix := fun i => i) (N := n) bg (fun m i s r h0 hN ok hB hr=>by
   show IJ k (II k m) i (vY s) r=_;unfold IJ;rw[aa (by grind),show(vY s).2=false by unfold vY;simp_all,(IC hk (by omega) (by omega)).1];rw[qG,zQ];rfl) (fun m i s r h=>by
   show IJ k (II k m) i (vY s) r=_;unfold IJ;rcases yCn h with h|⟨h,h'⟩
   · grind
   · rw[show decide (i>0)=true from h,show(vY s).2=true by unfold vY;simp_all];rfl) k n st [] (by simp) hm.1 (by simp) hm.2
 have h2 := CY nB (L := fun m i st r => IK k m n i st r) (e := fun st r => (st, r)) (ix := fun i => n - i) (N := n) bg (fun m i s r h0 hN ok hB hr=>by
   show IL k (IK k m) n (n-i) s r=_;unfold IL;rw[aa (by grind),ok,(IC hk (by omega) (by omega)).2];rw[qG,zQ,show n-i+1=n-(i-1) by omega];rfl) (fun m i s r h=>by
   show IL k (IK k m) n (n-i) s r=_;unfold IL;grind) k n st [] (by simp) hm.1 (by simp) hm.2
 unfold IG IH;simp_all
theorem vYj {k}(hk:9≤k){st}(hb:st.1.length/8+2≤k)(bg:st.1.length≤1000000){s0 h}(h9:h.length=9){b0 b3:Int×Int×Bool}(hn:h.getD 3 0≤9223372036854775807):
  C3 k k s0 (h.getD 3 0) b0 (vY st) h b3 []=some (s0,b0,vY (eS IA k (h.getD 3 0) st []).1,h,b3,(eS IA k (h.getD 3 0) st []).2)∧C4 k k s0 0 b0 st h b3 []=some (s0,b0,(eS IA k (h.getD 3 0) st []).1,h,b3,(eS IA k (h.getD 3 0) st []).2):=by
 have hm:=qYs hb bg;obtain⟨n,en⟩:∃n,h.getD 3 0=n:=by simp
 have ho:zB 3 h.length=true:=by rw[h9];rfl
 have h1 := CY qN0 (L := fun m i st r => C3 k m s0 i b0 (vY st) h b3 r) (e := fun st r => (s0, b0, vY st, h, b3, r)) (ix := fun i => i) (N := n) bg (fun m i s r h0 hN ok hB hr=>by
   show IM k (C3 k m) s0 i b0 (vY s) h b3 r=_;unfold IM;rw[aa (by grind),show(vY s).2=false by unfold vY;simp_all,show vz k (vY s) 3=_ from(Ns hk (n:=3) (by omega) (by omega) rfl).1];simp;rw[CX,qG,zQ];rfl) (fun m i s r g=>by
   show IM k (C3 k m) s0 i b0 (vY s) h b3 r=_;unfold IM;rcases yCn g with g|⟨g,g'⟩
   · grind
   · rw[show decide (i>0)=true from g,show(vY s).2=true by unfold vY;simp_all];rfl) k n st [] (by simp) hm.1 (by simp) hm.2
 have h2 := CY qN0 (L := fun m i st r => C4 k m s0 i b0 st h b3 r) (e := fun st r => (s0, b0, st, h, b3, r)) (ix := fun i => n - i) (N := n) bg (fun m i s r h0 hN ok hB hr=>by
   show IN k (C4 k m) s0 (n-i) b0 s h b3 r=_;unfold IN;rw[ho,en,aa (by grind),ok,show v9 k s 3=_ from(Ns hk (n:=3) (by omega) (by omega) rfl).2];simp;rw[CX,qG,zQ,show n-i+1=n-(i-1) by omega];rfl) (fun m i s r g=>by
   show IN k (C4 k m) s0 (n-i) b0 s h b3 r=_;unfold IN;grind) k n st [] (by simp) hm.1 (by simp) hm.2
 simp_all
theorem vQn {k}(hk:9≤k){st}(hb:st.1.length/8+2≤k)(bg:st.1.length≤1000000){s0 h}(h9:h.length=9){b0 b3:Int×Int×Bool}{r3:List (Int×Int×Int)}{r4 r6 r8 r5 r7}(hn:h.getD 8 0≤9223372036854775807):
  C5 k k s0 (h.getD 8 0) b0 (vY st) b3 r3 r4 r5 r6 r7 r8 []=some (s0,b0,vY (eS IB k (h.getD 8 0) st []).1,b3,r3,r4,r5,r6,r7,r8,(eS IB k (h.getD 8 0) st []).2)∧
  C6 k k s0 0 b0 st h b3 r3 r4 r5 r6 r7 r8 []=some (s0,b0,(eS IB k (h.getD 8 0) st []).1,b3,r3,r4,r5,r6,r7,r8,(eS IB k (h.getD 8 0) st []).2):=by
 have hm:=qYs hb bg;obtain⟨n,en⟩:∃n,h.getD 8 0=n:=by simp
 have ho:zB 8 h.length=true:=by rw[h9];rfl
 have h1 := CY qX3 (L := fun m i st r => C5 k m s0 i b0 (vY st) b3 r3 r4 r5 r6 r7 r8 r) (e := fun st r => (s0, b0, vY st, b3, r3, r4, r5, r6, r7, r8, r)) (ix := fun i => i) (N := n) bg (fun m i s r h0 hN ok hB hr=>by
   show IP k (C5 k m) s0 i b0 (vY s) b3 r3 r4 r5 r6 r7 r8 r=_;unfold IP;rw[aa (by grind),show(vY s).2=false by unfold vY;simp_all,show vz k (vY s) 7=_ from(Ns hk (n:=7) (by omega) (by omega) rfl).1];simp;rw[CX,qG,zQ];rfl) (fun m i s r g=>by
   show IP k (C5 k m) s0 i b0 (vY s) b3 r3 r4 r5 r6 r7 r8 r=_;unfold IP;rcases yCn g with g|⟨g,g'⟩
   · grind
   · rw[show decide (i>0)=true from g,show(vY s).2=true by unfold vY;simp_all];rfl) k n st [] (by simp) hm.1 (by simp) hm.2
 have h2 := CY qX3 (L := fun m i st r => C6 k m s0 i b0 st h b3 r3 r4 r5 r6 r7 r8 r) (e := fun st r => (s0, b0, st, b3, r3, r4, r5, r6, r7, r8, r)) (ix := fun i => n - i) (N := n) bg (fun m i s r h0 hN ok hB hr=>by
   show IQ k (C6 k m) s0 (n-i) b0 s h b3 r3 r4 r5 r6 r7 r8 r=_;unfold IQ;rw[ho,en,aa (by grind),ok,show v9 k s 7=_ from(Ns hk (n:=7) (by omega) (by omega) rfl).2];simp;rw[CX,qG,zQ,show n-i+1=n-(i-1) by omega];rfl) (fun m i s r g=>by
   show IQ k (C6 k m) s0 (n-i) b0 s h b3 r3 r4 r5 r6 r7 r8 r=_;unfold IQ;grind) k n st [] (by simp) hm.1 (by simp) hm.2
 simp_all
theorem abA {a b}(h:a.length≠b.length):oO a b=false:=by
 refine Bool.eq_false_iff.2 fun e=>h ?_
 have:=congrArg List.length (eq_of_beq e);unfold nH at this;simp_all
theorem vY0 {k}(hk:9999≤k){b}(hb:b.length/8+2≤k)(bg:b.length≤19200):
  ∃(s:uH) (ok:Bool),IS k b=some (s,ok)∧IT k b=some (s,ok)∧s.2.2.2.2.2.2.2.1.length≤2400∧s.2.2.2.2.2.2.2.2.1.length≤2400:=by
 have wa:9≤k:=by omega
 unfold IS IT;have a0:=Ns wa (st:=(b,true)) (n:=9) (by show b.length≤8*k;omega) (by show b.length≤_;omega) rfl;have l0:=(ID 9).le (b,true) (by show b.length≤_;omega);have o0:=(ID 9).ok (b,true) (by show b.length≤_;omega);have e9:=CX 9 (b,true);have lt:=abz 9 (b,true);rw[show vz k (b,false) 9=_ from a0.1,show v9 k (b,true) 9=_ from a0.2];clear a0;generalize gd 9 (b,true)=x at*
 obtain⟨h,st0⟩:=x;dsimp only at*
 rw[e9] at o0;simp only[ae];have bo:∀i:Int,0≤i→i<9→zB i h.length=true:=fun i h1 h2=>jB h1 (by omega)
 rw[bo 0 (by decide) (by decide),bo 1 (by decide) (by decide),bo 2 (by decide) (by decide),bo 3 (by decide) (by decide)];simp only[ai];have a1:=vYj wa (st:=st0) (by omega) (by omega) (s0:=b) e9 (b0:=(0,0,false)) (b3:=(h.getD 0 0,h.getD 1 0,decide (h.getD 2 0=1))) (lt 3);have w1:=IE qN0 k (h.getD 3 0) st0 [] (by omega);rw[a1.1,a1.2];clear a1;generalize eS IA k (h.getD 3 0) st0 []=z at*
 obtain⟨Ki,ac⟩:=z;simp only[ae] at*
 rw[bo 4 (by decide) (by decide)];simp only[ai];have a2:=qZf wa (st:=Ki) (by omega) (by omega) (lt 4);have w2:=IE nB k (h.getD 4 0) Ki [] (by omega);rw[a2.1,a2.2];clear a2;generalize eS kl k (h.getD 4 0) Ki []=z at*
 obtain⟨xx,bi⟩:=z;simp only[ae] at*
 have a3:=IC wa (st:=xx) (by omega) (by omega);have l3:=nB.le xx (by omega);have o3:=nB.ok xx (by omega);rw[a3.1,a3.2];clear a3;generalize kl xx=z at*
 obtain⟨mu,st3⟩:=z;simp only[ae] at*
 rw[bo 6 (by decide) (by decide)];simp only[ai];have a4:=qZf wa (st:=st3) (by omega) (by omega) (lt 6);have w4:=IE nB k (h.getD 6 0) st3 [] (by omega);rw[a4.1,a4.2];clear a4;generalize eS kl k (h.getD 6 0) st3 []=z at*
 obtain⟨Si,po⟩:=z;simp only[ae] at*
 have a5:=IC wa (st:=Si) (by omega) (by omega);have l5:=nB.le Si (by omega);have o5:=nB.ok Si (by omega);rw[a5.1,a5.2];clear a5;generalize kl Si=z at*
 obtain⟨pr,st5⟩:=z;simp only[ae] at*
 rw[bo 7 (by decide) (by decide)];simp only[ai];have a6:=qZf wa (st:=st5) (by omega) (by omega) (lt 7);have w6:=IE nB k (h.getD 7 0) st5 [] (by omega);rw[a6.1,a6.2];clear a6;generalize eS kl k (h.getD 7 0) st5 []=z at*
 obtain⟨st6,ho⟩:=z;simp only[ae] at*
 rw[bo 8 (by decide) (by decide)];simp only[ai];have a7:=vQn wa (st:=st6) (by omega) (by omega) (s0:=b) e9 (b0:=(0,0,false)) (b3:=(h.getD 0 0,h.getD 1 0,decide (h.getD 2 0=1))) (r3:=ac) (r4:=bi) (r5:=mu) (r6:=po) (r7:=pr) (r8:=ho) (lt 8);have w7:=IE qX3 k (h.getD 8 0) st6 [] (by omega);rw[a7.1,a7.2];clear a7;generalize eS IB k (h.getD 8 0) st6 []=z at*
 obtain⟨Sj,pa⟩:=z;simp only[ae] at*
 have a8:=IC wa (st:=Sj) (by omega) (by omega);have l8:=nB.le Sj (by omega);have o8:=nB.ok Sj (by omega);rw[a8.1,a8.2];clear a8;generalize kl Sj=z at*
 obtain⟨ids,c,ok⟩:=z;simp only[ae] at*
 cases ok with
 |false=>exact⟨_,_,rfl,rfl,Nat.zero_le _,Nat.zero_le _⟩
 |true=>
  have o8:=o8 rfl;have w7:=w7.2 o8.1;have w6:=w6.2 w7.1;have o5:=o5 w6.1;have w4:=w4.2 o5.1;have o3:=o3 w4.1;have w2:=w2.2 o3.1;have w1:=w1.2 w2.1;have o0:=o0 w1.1;obtain⟨s,es⟩:∃s:uH,s=(h.getD 0 0,ac,bi,mu,po,pr,ho,pa,ids,h.getD 1 0,decide (h.getD 2 0=1)):=⟨_,rfl⟩;have r0:(yH []).length=0:=rfl;have tot:(yH (iW s)).length+c.length=b.length:=by
   rw[vBv,es];simp only[aA,sR,List.map_id',List.map_nil,List.length_nil] at*
   have r9:∀a b c d e f g h i:Int,[a,b,c,d,e,f,g,h,i].length=9:=fun _ _ _ _ _ _ _ _ _=>rfl
   rw[r9];omega
  have few:jC (iW s):=yOy (by omega);have fn:=few.n;have fr:=few.r s.2.2.2.2.2.2.2.2.1 (by unfold iW;simp);have fp:s.2.2.2.2.2.2.2.1.length≤2400:=by
   unfold iW at fn;simp only[aA,List.length_map] at fn;omega
  have hs:=vCw hk few;have hr:=yUv hk few;subst es;generalize yH (iW _)=R at*
  cases hq:oO R b with
  |false=>
   refine⟨(0,[],[],[],[],[],[],[],[],0,false),false,(congrArg (fun z=>Option.bind z _) hs).trans ?_,?_,Nat.zero_le _,Nat.zero_le _⟩
   · show(bif !(oO R b) then _ else _)=_;rw[hq];rfl
   · show(bif decide ((c.length:Int)>0) then _ else _)=_;cases decide ((c.length:Int)>0) with
     |true=>rfl
     |false=>
      refine(congrArg (fun z=>Option.bind z _) hr).trans ?_;show(bif !(oO R b) then _ else _)=_;rw[hq];rfl
  |true=>
   have hc:c.length=0:=by
    refine Classical.byContradiction fun hc=>?_
    rw[abA (by omega)] at hq;exact nomatch hq
   refine⟨_,true,(congrArg (fun z=>Option.bind z _) hs).trans ?_,?_,fp,fr⟩
   · show(bif !(oO R b) then _ else _)=_;rw[hq];rfl
   · show(bif decide ((c.length:Int)>0) then _ else _)=_;rw[hc];refine(congrArg (fun z=>Option.bind z _) hr).trans ?_;show(bif !(oO R b) then _ else _)=_;rw[hq];rfl
def ja (r:qQ)(s:qH)(ev:Int)(d:Bool):lF:=(r.1,r.2.1,r.2.2.1,r.2.2.2.1,r.2.2.2.2,s.t,s.B.1,s.B.2.1,s.B.2.2.1,s.B.2.2.2,s.pr,s.ho,s.m,s.ids,s.to,s.ov,ev,d)
theorem vY3 l:gI (yH l):=fun x hx=>by
 obtain⟨n,_,h⟩:=List.mem_flatMap.1 hx;exact((Se _).app (yZ9 n)) x h
theorem Sk {r}(hr:wT r){s}(h:yF r s):∃b,ni 9999 s.st=some b∧ot 9999 s.st=some b∧b.length≤7000∧gI b:=by
 obtain⟨b,h1,h2,h3⟩:=vKs (Nat.le_refl 9999) hr h;exact⟨b,h1,by rw[h2] at h3⊢;exact yUv (by simp) (yOy (by omega)),h3,by rw[h2];exact vY3 _⟩
theorem vZv {w:Int}{f:jH}(hi:lJ 9999 f=some true):∃b,Sl 9999 (w,f)=some b∧Ny 9999 (w,f)=some (.inr b)∧b.length≤57∧gI b:=by
 obtain⟨h0,hz⟩:=yXx hi;have hm:=E0 f.1;obtain⟨n,hn⟩:∃n:Nat,yP f.1=n:=⟨(yP f.1).toNat,by omega⟩;have dP:qO [f.2.1,f.2.2.1,f.2.2.2.1,f.2.2.2.2.1,f.2.2.2.2.2.1,f.2.2.2.2.2.2] 0 (n-0)=(jP f).take n:=by
  unfold qO;show List.take (n-0) ((jP f).drop 0)=_;rw[List.drop_zero,Nat.sub_zero]
 have hll:((jP f).take n).length=n:=by rw[bY];show min n 6=n;omega
 have hbl:=ql ((jP f).take n);have bR:jM [w]=fj w:=by simp[jM]
 have se:(fj w).length=8:=rfl;refine⟨fj w++([IntKind.wrap .u8 f.1]++jM ((jP f).take n)),?_,?_,?_,(Se w).app (.app (fun x hx=>by rw[List.mem_singleton.1 hx];exact Sc _) (yZ9 _))⟩
 ·unfold Sl yA8;dsimp only;rw[hi];simp only[ae,aB,ak];rw[KR,hn];simp only[ae];rw[aa (show(0:Int)≤(n:Int) by omega),aa (show(n:Int)≤6 by omega),ao,dP];simp only[Bool.and_self,ai];rw[E3 (by omega) _ (by omega) (by omega)];simp only[ae];rw[qG];simp only[ai,ae];rw[ab (by rw[aA];simp;omega)];simp only[ak];rw[E3 (by omega) [w] (by simp) (by simp)];simp only[ae];rw[bR,qG (by rw[aA,List.length_singleton];omega) (by rw[aA,List.length_singleton];omega)];rfl
 ·unfold Ny Nz;dsimp only;rw[vYi,hi];simp only[ae,aB,ak];rw[PY,hn];simp only[ae];rw[aa (show(0:Int)≤(n:Int) by omega),aa (show(n:Int)≤6 by omega),ao,dP];simp only[Bool.and_self,ai];rw[My (by omega) (by omega) (by omega)];simp only[ae];rw[qG];simp only[ai,ae];rw[show Nat.blt 0 ([IntKind.wrap .u8 f.1]++jM ((jP f).take n)).length=true by rw[Nat.blt_eq];simp,My (by omega) (by simp) (by simp)];simp only[ai,ae];rw[bR,qG (by rw[aA,List.length_singleton];omega) (by rw[aA,List.length_singleton];omega)];rfl
 ·rw[aA,aA,hbl,hll,se];show 8+(1+8*n)≤57;omega
theorem vLi {b:AC}(hb:b.length≤19000):∃c e,Sm 9999 b=some (c,e)∧Sn 9999 b=some (c,e):=by
 unfold Sm Sn;by_cases h:b.length<8
 · rw[aa];exact⟨_,_,rfl,rfl⟩
 have ht:(List.take 8 b).length=8*1:=by rw[bY];omega
 have hd:(List.drop 8 b).length=b.length-8:=List.length_drop;have hg:=yCl (k:=9999) (by decide) ht (by decide) (by decide);rw[ab,aa,hg.1,hg.2,vG7 (by decide) (by omega) (by omega),yJ0 (by decide) (by omega) (by omega)];simp only[ai,ak,ae];rw[show zB 0 (fi 1 (List.take 8 b)).length=true from rfl];cases decide ((pn (List.drop 8 b)).2=0) with
 |false=>exact⟨_,_,rfl,rfl⟩
 |true=>exact⟨_,_,rfl,rfl⟩
theorem abB {r:qQ}(hr:wT r){s:qH}(hs:yF r s){ev:Int}{L:wK}{D:vR}{B:Nat}(hB:7010≤B)(h:nC B L D){c:u9}{b:AC}(hb:b.length≤57∧gI b)(hc:Ny 9999 c=some (.inr b)):
  ∃e L' D',So 9999 (ja r s ev false) L D b=some (e,ja r s ev false,L',D')∧Sp 9999 (ja r s ev false) (hZ L) (qT D) c=some (e,ja r s ev false,hZ L',qT D')∧(e≠11→nC (B+118) L' D')∧wJ (B+118) D':=by
 obtain⟨e1,L1,D1,a1,a2,a3,a4⟩:=yTg (k:=9999) h hb.1 hb.2;obtain⟨S,s1,s2,s3,s4⟩:=Sk hr hs;have mo:∀{L D},nC (B+59) L D→nC (B+118) L D:=fun h=>⟨h.half.mono (by omega),h.up,h.side,h.gen,h.stale⟩
 unfold So Sp;rw[a1,hc];simp only[ae];rw[a2];simp only[ae];by_cases h1:e1=10
 · rw[aa h1,show jS (ja r s ev false)=s.st from rfl,s1,s2];simp only[aB,ai,ak,ae];obtain⟨e2,L2,D2,b1,b2,b3,b4⟩:=vJw (k:=9999) (by decide) (a3 (by omega)) s3 s4 (by omega);rw[b1,b2];simp only[ae];by_cases h2:e2=0
   · obtain⟨e3,L3,D3,c1,c2,c3⟩:=yTg (k:=9999) (b3 (by omega)) hb.1 hb.2;rw[aa h2];simp only[aB,ai,ak];rw[c1,c2];exact⟨e3,L3,D3,rfl,rfl,c3⟩
   · rw[ab h2];exact⟨e2,L2,D2,rfl,rfl,fun q=>mo (b3 q),b4.mono (by omega)⟩
 · rw[ab h1];exact⟨e1,L1,D1,rfl,rfl,fun q=>mo (a3 q),a4.mono (by omega)⟩
inductive ll (r:qQ) (ev:Int) (B:Nat):lF→wK→vR→Prop
 |up {s:qH} {L:wK} {D:vR} (i:yF r s) (h:nC B L D):ll r ev B (ja r s ev false) L D
 |dn {s:qH} {L:wK} {D:vR} (i:yF r s) (h:wJ B D):ll r ev B (ja r s ev true) L D
theorem vPi {r:qQ}(hr:wT r){ev:Int}{G:lF}{L:wK}{D:vR}{B:Nat}(hB:7010≤B)(h:ll r ev B G L D)(a:Int){b:AC}(hb:b.length≤8000):
  ∃o G' L' D',C7 9999 G L D a b=some (o,G',L',D')∧NA 9999 G (hZ L) (qT D) a b=some (o,G',hZ L',qT D')∧o.length≤300∧ll r ev (B+118) G' L' D':=by
 have ml:∀{L D},nC B L D→nC (B+118) L D:=fun h=>⟨h.half.mono (by omega),h.up,h.side,h.gen,h.stale⟩
 cases h with
 |@dn s _ _ i h=>exact⟨[],ja r s ev true,L,D,rfl,rfl,by decide,.dn i (h.mono (by omega))⟩
 |@up s _ _ i h=>
  have hm:BR 9999 b=some (pn b):=vG7 (by omega) (by omega) (by omega);have ph:E1 9999 b=some (pn b):=yJ0 (by omega) (by omega) (by omega);have zy:=fun h=>aao (k:=9999) (by omega) (b:=b) h
  generalize pn b=m at hm ph zy;unfold C7 NA NB;rw[show ko 9999 (ja r s ev false) L D=some (false,ja r s ev false,L,D) from rfl,ph];simp only[ae,ak];rw[hm,show(ja r s ev false).2.2.2.2.2.2.2.2.2.2.2.2.2.2.2.2.2=false from rfl];simp only[ae,ak];by_cases h0:m.2=0
  case neg=>
    rw[ab h0,CH];exact⟨_,_,L,D,rfl,rfl,by simp,.up i (ml h)⟩
  obtain⟨f1,f2⟩:=zy h0;rw[aa h0];simp only[aB,ak];obtain⟨t,o,e,h1,h2,h3⟩:=yMj hr i (a,m.1);have ahO:=h3.few;have ahP:=h3.bad;have hinv:=h3.inv;rw[show yC (ja r s ev false)=r from rfl,show jS (ja r s ev false)=s.st from rfl,h1,h2];simp only[ae];by_cases he:e=0
  case neg=>
    rw[ab he,CH];exact⟨_,_,L,D,rfl,rfl,by simp,.up i (ml h)⟩
  subst he;rw[show decide ((0:Int)=0)=true from rfl];simp only[aB,ak];cases decide (m.1.1=9) with
  |true=>exact⟨o,_,L,D,rfl,rfl,by omega,.up i (ml h)⟩
  |false=>
  simp only[ak];obtain⟨c,nX,dq,dM⟩:=vZv (w:=a) f1;obtain⟨e',L1,D1,k1,k2,k3,k4⟩:=abB hr i (ev:=ev) hB h dM dq;rw[nX,k2];simp only[ae];rw[k1];simp only[ae];by_cases ui:e'=0
  · have q:=k3 (by omega);obtain⟨S,s1,s2,s3,s4⟩:=Sk hr hinv;rw[aa ui,show qOw 9999 L1 D1=some (L1.2.2.1,L1,D1) from rfl,s2];simp only[ae,ai];rw[s1];show∃o' G' L' D',(bif decide (L1.2.2.1≥ev) then _ else _)=some (o',G',L',D')∧(bif decide (L1.2.2.1≥ev) then _ else _)=some (o',G',hZ L',qT D')∧_;cases decide (L1.2.2.1≥ev) with
    |false=>exact⟨o,ja r t ev false,L1,D1,rfl,rfl,by omega,.up hinv q⟩
    |true=>
      obtain⟨e3,L2,D2,b1,b2,b3,b4⟩:=vJw (k:=9999) (by decide) q s3 s4 (by omega);simp only[ai,ae];rw[b1,b2];simp only[ae];by_cases h3:e3=11
      · rw[aa h3];exact⟨o,ja r t ev true,L2,D2,rfl,rfl,by omega,.dn hinv b4⟩
      · rw[ab h3];exact⟨o,ja r t ev false,L2,D2,rfl,rfl,by omega,.up hinv (b3 h3)⟩
  by_cases fa:e'=10
  · rw[ab ui,aa fa,CH];exact⟨_,_,L1,D1,rfl,rfl,by simp,.up i (k3 (by omega))⟩
  · rw[ab ui,ab fa];exact⟨[],ja r s ev true,L1,D1,rfl,rfl,by decide,.dn i k4⟩
theorem vCb {r}(hr:wT r){rows}(hl:∀x∈rows,x.length≤19000)(hn:rows.length≤1000000):∀(m n i:Nat) s,i+m=rows.length→m<n→yF r s→
  ∃t,yF r t∧(∀ev was b0 r1 r2 L,tu 9999 n ev was rows (rows.length:Int) (i:Int) b0 r1 r2 r L s.st=some (ev,was,b0,r1,r2,r,L,t.st))∧
   (∀ev was b0 r1 r2 L,tv 9999 n ev was rows (i:Int) b0 r1 r2 r L s.st=some (ev,was,b0,r1,r2,r,L,t.st))
 |0,n,i,s,hi,hn',hs=>by
  obtain⟨n,rfl⟩:=ara n;refine⟨s,hs,fun ev was b0 r1 r2 L=>?_,fun ev was b0 r1 r2 L=>?_⟩
  · show IU 9999 (tu 9999 n) ev was rows (rows.length:Int) (i:Int) b0 r1 r2 r L s.st=_;unfold IU;rw[ab];rfl
  · show IV 9999 (tv 9999 n) ev was rows (i:Int) b0 r1 r2 r L s.st=_;unfold IV;rw[ab];rfl
 |m+1,n,i,s,hi,hn',hs=>by
  obtain⟨n,rfl⟩:=ara n;have bd:i<rows.length:=by omega
  obtain⟨c,e,q1,q2⟩:=vLi (hl (rows.getD i []) (by grind));obtain⟨u,o,f,d1,d2,d3⟩:=yMj hr hs c;have hu:=d3.inv;obtain⟨s',pW,e'⟩:∃s',yF r s'∧s'=if e=0 then u else s:=by grind
  obtain⟨t,t1,t2,t3⟩:=vCb hr hl hn m n (i+1) s' (by omega) (by omega) pW;refine⟨t,t1,fun ev was b0 r1 r2 L=>?_,fun ev was b0 r1 r2 L=>?_⟩
  · show IU 9999 (tu 9999 n) ev was rows (rows.length:Int) (i:Int) b0 r1 r2 r L s.st=_;unfold IU;rw[aa,jB,ao,q1,qD bd (by omega),←t2 ev was b0 r1 r2 L];grind
  · show IV 9999 (tv 9999 n) ev was rows (i:Int) b0 r1 r2 r L s.st=_;unfold IV;rw[aa,jB,ao,q2,qD bd (by omega),←t3 ev was b0 r1 r2 L];grind
def cv:((Int×vR×lF×wK)⊕(Int×vR))→((Int×wX×lF×wK)⊕(Int×wX))
 |.inl x=>.inl (x.1,qT x.2.1,x.2.2.1,hZ x.2.2.2)
 |.inr x=>.inr (x.1,qT x.2)
inductive NC (r:qQ) (ev:Int) (B:Nat):((Int×vR×lF×wK)⊕(Int×vR))→Prop
 |up {G:lF} {L:wK} {D:vR} (h:ll r ev B G L D):NC r ev B (.inl (0,D,G,L))
 |no {e:Int} {D:vR} (h:wJ B D):NC r ev B (.inr (e,D))
theorem yJm {r}(hr:wT r){ev was rows}(hl:∀x∈rows,x.length≤19000)(hn:rows.length<9999){D B}(hB:7010≤B)(hc:wJ B D)(hu:wV D=false){L:wK}(hs:L.1=0∨L.1=1)(hg:1≤L.2.1∧L.2.1≤4611686018427387904)(hw:was=true∨L.2.2.2=false){s}(h:yF r s):
  ∃ x, ((tu 9999 9999 ev was rows (rows.length:Int) 0 (D.1,D.2.2.1,D.2.2.2.2) D.2.1 D.2.2.2.1 r L s.st).bind fun z2=>
  bif z2.2.1 then ((ni 9999 z2.2.2.2.2.2.2.2).bind fun oE=>
   (ou 9999 z2.2.2.2.2.2.2.1 (z2.2.2.1.1,z2.2.2.2.1,z2.2.2.1.2.1,z2.2.2.2.2.1,z2.2.2.1.2.2) oE).bind fun cq=>
   bif !(decide (cq.1=0)) then some (.inr (cq.1,cq.2.2))
   else some (.inl (0,cq.2.2,(vK z2.2.2.2.2.2.1 (lK z2 (z2.1,false))),cq.2.1)))
  else some (.inl (0,(z2.2.2.1.1,z2.2.2.2.1,z2.2.2.1.2.1,z2.2.2.2.2.1,z2.2.2.1.2.2),(vK z2.2.2.2.2.2.1 (lK z2 (z2.1,false))),z2.2.2.2.2.2.2.1)))=some x∧
  ((tv 9999 9999 ev was rows 0 (qT D).2.2 (qT D).1 (qT D).2.1 r (hZ L) s.st).bind fun z2=>
  bif z2.2.1 then ((ot 9999 z2.2.2.2.2.2.2.2).bind fun oE=>
   (pE 9999 z2.2.2.2.2.2.2.1 (z2.2.2.2.1,z2.2.2.2.2.1,z2.2.2.1) oE).bind fun cq=>
   bif !(decide (cq.1=0)) then some (.inr (cq.1,cq.2.2))
   else some (.inl (0,cq.2.2,(vK z2.2.2.2.2.2.1 (lK z2 (z2.1,false))),cq.2.1)))
  else some (.inl (0,(z2.2.2.2.1,z2.2.2.2.2.1,z2.2.2.1),(vK z2.2.2.2.2.2.1 (lK z2 (z2.1,false))),z2.2.2.2.2.2.2.1)))=some (cv x)∧NC r ev B x:=by
 obtain⟨t,t1,t2,t3⟩:=vCb hr hl (by omega) rows.length 9999 0 s (by omega) (by omega) h;have t2:∀ev was b0 r1 r2 L,tu 9999 9999 ev was rows (rows.length:Int) 0 b0 r1 r2 r L s.st=some (ev,was,b0,r1,r2,r,L,t.st):=t2;have t3:∀ev was b0 r1 r2 L,tv 9999 9999 ev was rows 0 b0 r1 r2 r L s.st=some (ev,was,b0,r1,r2,r,L,t.st):=t3;rw[t2,t3];simp;cases was with
 |false=>
  have hw:L.2.2.2=false:=by
   simp_all
  exact⟨.inl (0,D,ja r t ev false,L),rfl,rfl,.up (.up t1 ⟨hc,hu,hs,hg,hw⟩)⟩
 |true=>
  obtain⟨S,s1,s2,s3,s4⟩:=Sk hr t1;rw[s1,s2];simp;obtain⟨e,L',D',b1,b2,b3,b4,b5,b6⟩:=yYh (k:=9999) (by decide) hc hu hs hg s3 s4 hB;rw[show((qT D).1,(qT D).2.1,(qT D).2.2)=qT D from rfl,b2];rw[show(D.1,D.2.1,D.2.2.1,D.2.2.2.1,D.2.2.2.2)=D from rfl,b1];simp;by_cases h0:e=0
  · rw[aa h0];exact⟨.inl (0,D',ja r t ev false,L'),rfl,rfl,.up (.up t1 (b3 h0))⟩
  · rw[ab h0];exact⟨.inr (e,D'),rfl,rfl,.no b6⟩
theorem vWw {r}(w:Ib r)(hn:zz 9999 r=some (oD r).st)(h7:ND 9999 r=some true)(NF:NG 9999 r=some true){ev}(aV:1≤ev∧ev≤1000){B}(hB:7010≤B∧B≤19000){D}(hc:wJ B D)(hu:wV D=false):
  ∃x,fq 9999 r D ev=some x∧lL 9999 r (qT D) ev=some (cv x)∧NC r ev B x:=by
 obtain⟨F,f1,f2,f3,f4⟩:=Sk w.ok w.inv;obtain⟨g,m,S,rows,ok,a1,a2,a3,a4,a5⟩:=vUi (k:=9999) (B:=B) (by decide) (by omega) (by omega) (hc.side (.inl rfl)) (hc.side (.inr rfl));have read:∀S:AC,S.length≤19000→∃(s:tf) (ok:Bool),IS 9999 S=some (s,ok)∧IT 9999 S=some (s,ok)∧∃y,Ix 9999 r s=some y∧Io 9999 r s=some y∧(y=true→∃t:qH,s=t.st∧yF r t):=fun S hS=>by
  obtain⟨s,ok,b1,b2,b3,b4⟩:=vY0 (k:=9999) (Nat.le_refl _) (b:=S) (by omega) (by omega);obtain⟨t,et⟩:∃t:qH,s=t.st:=⟨⟨s.1,(s.2.1,s.2.2.1,s.2.2.2.1,s.2.2.2.2.1),s.2.2.2.2.2.1,s.2.2.2.2.2.2.1,s.2.2.2.2.2.2.2.1,s.2.2.2.2.2.2.2.2.1,s.2.2.2.2.2.2.2.2.2.1,s.2.2.2.2.2.2.2.2.2.2⟩,rfl⟩;subst et;exact⟨t.st,ok,b1,b2,_,vOz w.ok b3 b4,abu w.ok b3 b4,fun h=>⟨t,rfl,abv w.ok h⟩⟩
 unfold fq lL;rw[NF,h7];simp only[ae,aB,ak];rw[ab (show¬ev<1 by omega),ab (by grind),a1,a2,w.new,hn];simp only[ae,ak];rw[f1,f2];simp only[ae];unfold yEb qO2;rw[a1,a2];simp only[ae];cases ok with
 |true=>
  have a5:=a5 rfl;have tb:=fun{s:qH} (h:yF r s)=>yJm w.ok (ev:=ev) (was:=true) (rows:=rows) (fun x hx=>by have:=a4.r x hx;omega) (by have:=a4.n;omega) hB.1 hc hu (L:=(m,g,(rows.length:Int),true)) a3 (by rcases a4.g with q|q;exact absurd q.1 (by omega);exact q) (.inl rfl) h
  obtain⟨s,gT,b1,b2,y,b3,b4,b5⟩:=read S (by have:=a4.s;omega);simp only[ai,ae,decide_true,aB,ak];rw[b1,b2];simp only[ae];cases gT with
  |false=>exact tb w.inv
  |true=>
   simp only[aB,ak];rw[b3,b4];cases y with
   |false=>exact tb w.inv
   |true=>
    obtain⟨t,rfl,ht⟩:=b5 rfl;exact tb ht
 |false=>
  have hl:=Nr hc;simp only[ak];rw[yNf (by decide) (.inl rfl) hl.1 hl.2 (by omega)];obtain⟨e,D',c1,_,c3,c4⟩:=yQb (k:=9999) (by decide) hc hu (.inl rfl) 1 f3 f4 hB.1;rw[c1];simp only[ae,Option.map_some];rw[show(mp (e,D')).1=e from rfl];by_cases h0:e=0
  case neg=>
   rw[ab h0];show∃x,(bif !(decide (e=0)) then _ else _)=some x∧(bif !(decide (e=0)) then _ else _)=some (cv x)∧_;rw[ab h0];exact⟨.inr (e,D'),rfl,rfl,.no c4⟩
  subst h0;have tb:=fun{s:qH} (h:yF r s)=>yJm w.ok (ev:=ev) (was:=false) (rows:=[]) (by simp) (by decide) hB.1 c4 (c3 (by decide)) (L:=(0,1,0,false)) (.inl rfl) (by show(1:Int)≤1∧(1:Int)≤_;decide) (.inr rfl) h
  obtain⟨s,gT,b1,b2,y,b3,b4,b5⟩:=read F (by omega);rw[qG];simp only[ai,ae,decide_true,aB,ak];rw[b1,b2];simp only[ae];cases gT with
  |false=>exact tb w.inv
  |true=>
   simp only[aB,ak];rw[b3,b4];cases y with
   |false=>exact tb w.inv
   |true=>
    obtain⟨t,rfl,ht⟩:=b5 rfl;exact tb ht
theorem yRf {k B D}(h:wJ B D):∃D',C8 k D=some D'∧C9 k (qT D)=some (qT D')∧wJ B D'∧wV D'=false:=by
 obtain⟨ro,x,sx,y,sy,cA,cK,ar,dn,op⟩:=D;obtain⟨h1,h2,h3,h4,h5,h6,h7,h8⟩:=h;refine⟨(ro,x.take sx.toNat,sx,y.take sy.toNat,sy,cA,cK,false,false,0),?_,?_,⟨by grind,by grind,h3,by grind,by grind,h6,h7.take _,h8.take _⟩,rfl⟩
 · unfold C8;simp_all
 · unfold C9 qT;simp_all
theorem ySz {k B D}(h:wJ B D){c:Int×Int}(hc:c.2<9223372036854775808):∃D',NH k D c=some D'∧NI k (qT D) c=some (qT D')∧wJ B D'∧wV D'=wV D:=
 ⟨(D.1,D.2.1,D.2.2.1,D.2.2.2.1,D.2.2.2.2.1,c.1,c.2,true,D.2.2.2.2.2.2.2.2),rfl,rfl,⟨h.x,h.y,h.room,h.lx,h.ly,hc,h.sx,h.sy⟩,rfl⟩
theorem abC {r}(h7:ND 9999 r=some true)(NF:NG 9999 r=some true){ev}(aV:ev<1∨ev>1000) D:fq 9999 r D ev=some (.inr (1,D))∧lL 9999 r (qT D) ev=some (.inr (1,qT D)):=by
 unfold fq lL;grind
structure z9 (r:qQ):Prop where
 w:Ib r
 new:zz 9999 r=some (oD r).st
 is7:ND 9999 r=some true
 day:NG 9999 r=some true
theorem abD:z9 r0:=⟨abe,by rfl,by rfl,by rfl⟩
theorem vTm:z9 r1:=⟨abf,by rfl,by rfl,by rfl⟩
theorem vK3:z9 r2:=⟨vYl,by rfl,by rfl,by rfl⟩
theorem abE:z9 r3:=⟨abg,by rfl,by rfl,by rfl⟩
theorem qXd {r}(w:z9 r) ev {B}(hB:7010≤B∧B≤19000){D}(hc:wJ B D)(hu:wV D=false):
  ∃x,fq 9999 r D ev=some x∧lL 9999 r (qT D) ev=some (cv x)∧NC r ev B x:=by
 by_cases h:1≤ev∧ev≤1000
 · exact vWw w.w w.new w.is7 w.day h hB hc hu
 · obtain⟨a,b⟩:=abC w.is7 w.day (ev:=ev) (by omega) D;exact⟨_,a,b,.no hc⟩
end Go.Ab.Gi
namespace Go.Ab.Gi
open Go.Ab Go.RowKit
theorem abF {l:List wj}(hb:∀a∈l,a.2.2.1.length≤140737488355328):∃b,Sq 9999 l=some b∧(b=false→l.length≤100∧∀a∈l,a.2.2.1.length≤8000):=by
 have key:∀(c n i:Nat) (s:Nat),i+c=min l.length 200→c<n→s≤140737488355328*i→(∀j,j<i→(l.getD j d0).2.2.1.length≤s)→
   ∃t:Nat,IW 9999 n l (s:Int) (i:Int)=some (l,(t:Int))∧∀j,j<min l.length 200→(l.getD j d0).2.2.1.length≤t:=by
  intro c
  induction c with
  |zero=>
   intro n i s h1 h2 h3 h4;obtain⟨n,rfl⟩:=ara n;refine⟨s,?_,by grind⟩;show IX 9999 _ l (s:Int) (i:Int)=_;unfold IX;grind
  |succ c ih=>
   intro n i s h1 h2 h3 h4;obtain⟨n,rfl⟩:=ara n;have hi:i<l.length:=by omega
   have hl:=hb _ (fU (d:=d0) hi);obtain⟨t,g1,g2⟩:=ih n (i+1) (s+(l.getD i d0).2.2.1.length) (by omega) (by omega) (by omega) (by grind);refine⟨t,?_,g2⟩;show IX 9999 (IW 9999 n) l (s:Int) (i:Int)=_;unfold IX;rw[aa (by grind),aa (by grind),jB,ao];simp only[ai];have e:(s:Int)+((l.getD i (0,0,[],0,0)).2.2.1.length:Int)=((s+(l.getD i d0).2.2.1.length:Nat):Int):=by rw[Int.natCast_add];rfl
   rw[e,zQ,qD (N:=200) (by omega) (by omega)];exact g1
 obtain⟨t,g1,g2⟩:=key (min l.length 200) 9999 0 0 (by omega) (by omega) (by omega) (by simp);unfold Sq;have g1:IW 9999 9999 l 0 0=some (l,(t:Int)):=g1;rw[g1];simp only[ae];by_cases h:(l.length:Int)>100
 ·rw[aa h];exact by simp
 ·rw[ab h];refine⟨_,rfl,fun e=>⟨by omega,fun a ha=>?_⟩⟩;obtain⟨j,hj,rfl⟩:=List.mem_iff_getElem.1 ha;grind
theorem vZe (o:List yJ)(h:o.length≤300):G3 9999 o o=some true:=by
 rw[aad (by omega) (by omega),aa rfl]
theorem abG a:∃r,kp 9999 a=some r∧z9 r:=by
 unfold kp;cases decide (yK .i64 a 3=1) with
 |true=>exact⟨r1,rfl,vTm⟩
 |false=>
  cases decide (yK .i64 a 3=2) with
  |true=>exact⟨r2,rfl,vK3⟩
  |false=>
   cases decide (yK .i64 a 3=3) with
   |true=>exact⟨r3,rfl,abE⟩
   |false=>exact⟨r0,rfl,abD⟩
theorem NJ {r}(hr:wT r){ev B G L D}(h:ll r ev B G L D){X:Type} no (F:uH×lF×wK×vR→Option X):
  ((ko 9999 G L D).bind fun x=>bif !(eL x.1 G.2.2.2.2.2.2.2.2.2.2.2.2.2.2.2.2.2) then no else(pG 9999 x.2.1 x.2.2.1 x.2.2.2).bind fun y=>(rj 9999 y.1 (jS G)).bind fun z=>bif !z then no else F y)=F (jS G,G,L,D):=by
 obtain⟨s,i,e⟩:∃s,yF r s∧jS G=s.st:=by
  cases h with
  |up i h=>exact⟨_,i,rfl⟩
  |dn i h=>exact⟨_,i,rfl⟩
 show(bif !(eL G.2.2.2.2.2.2.2.2.2.2.2.2.2.2.2.2.2 G.2.2.2.2.2.2.2.2.2.2.2.2.2.2.2.2.2) then no else(rj 9999 (jS G) (jS G)).bind fun z=>bif !z then no else F (jS G,G,L,D))=_;rw[show eL G.2.2.2.2.2.2.2.2.2.2.2.2.2.2.2.2.2 G.2.2.2.2.2.2.2.2.2.2.2.2.2.2.2.2.2=true by cases G.2.2.2.2.2.2.2.2.2.2.2.2.2.2.2.2.2<;>rfl,e,vOa hr i];rfl
theorem abH {r}(hr:wT r){ev B}(hB:7010≤B){G L D}(h:ll r ev B G L D) a {b}(hb:b.length≤8000):
  ∃o G' L' D',ll r ev (B+118) G' L' D'∧∀{X:Type} no (K:List yJ×lF×wK×vR→List yJ×lF×wK×wX→Option X),((C7 9999 G L D a b).bind fun x=>(NA 9999 G (hZ L) (qT D) a b).bind fun y=>(G3 9999 x.1 y.1).bind fun z=>bif !z then no else K x y)=K (o,G',L',D') (o,G',hZ L',qT D'):=by
 obtain⟨o,G',L',D',d1,d2,d3,d4⟩:=vPi hr hB h a hb;refine⟨o,G',L',D',d4,fun no K=>?_⟩;rw[d1,d2];simp;rw[vZe o d3];rfl
abbrev ZN:Type:=Int×List wj×Int×(Int×Int×Int×Int)×List (Int×Int)×(Int×Int×Int×Int×Int×Bool×Bool×Int)×AC×AC×(Int×Int×Int×Int×Int×Int×Bool×Bool)×AC×AC
abbrev ZG:Type:=Int×List wj×Int×(Int×Int×Int×Int)×List (Int×Int)×(Int×Int×Int×Int×Int×Bool×Bool×Int)×AC×AC×(Int×Int×Int×Int×Int×Int×Bool×Bool)×AC×AC×lF×wK×lF×wK
def zG (ev:Int)(l:List wj)(i:Int)(r:qQ)(D:vR)(G:lF)(L:wK):ZG:=(ev,l,i,(r.1,r.2.2),r.2.1,(D.1,D.2.2.1,D.2.2.2.2),D.2.1,D.2.2.2.1,(qT D).2.2,(qT D).1,(qT D).2.1,G,L,G,hZ L)
def zN (ev:Int)(l:List wj)(i:Int)(r:qQ)(D:vR):ZN:=(ev,l,i,(r.1,r.2.2),r.2.1,(D.1,D.2.2.1,D.2.2.2.2),D.2.1,D.2.2.2.1,(qT D).2.2,(qT D).1,(qT D).2.1)
theorem ll.deck {r ev B G L D}(h:ll r ev B G L D):wJ B D:=by
 cases h with
 |up i h=>exact h.half
 |dn i h=>exact h
theorem ll.mono {r ev B C G L D}(h:ll r ev B G L D)(hc:B≤C):ll r ev C G L D:=by
 cases h with
 |up i h=>exact .up i ⟨h.half.mono hc,h.up,h.side,h.gen,h.stale⟩
 |dn i h=>exact .dn i (h.mono hc)
theorem ll.arm {r ev B G L D D'}(h:ll r ev B G L D)(h1:wJ B D')(h2:wV D'=wV D):ll r ev B G L D':=by
 cases h with
 |up i h=>exact .up i ⟨h1,h2.trans h.up,h.side,h.gen,h.stale⟩
 |dn i h=>exact .dn i h1
def qPi (r:qQ)(ev:Int)(l:List wj)(B:Nat)(i:Int)(z:ZG⊕ZN):Prop:=(∃G L D,ll r ev B G L D∧z=.inl (zG ev l i r D G L))∨∃D,wJ B D∧z=.inr (zN ev l i r D)
theorem abI {α:Type} b (x:α):(bif b then x else x)=x:=by simp
theorem vRy {r}(w:z9 r){ev l}(hl:l.length≤100)(hb:∀a∈l,a.2.2.1.length≤8000∧a.2.2.2.2<9223372036854775808){B}(hB:7010≤B∧B≤18900){i:Nat}(hi:i<l.length){z}(h:qPi r ev l B i z) rec:
  ∃z',qPi r ev l (B+118) ((i+1:Nat):Int) z'∧Da 9999 rec z=rec z':=by
 have ET:zB (i:Int) l.length=true:=jB;have ha:=hb _ (fU (d:=d0) hi);have bd:decide ((i:Int)<(l.length:Int))=true:=aa;have hw:=qD hi (by omega);rcases h with⟨G,L,D,h,rfl⟩|⟨D,h,rfl⟩
 · unfold Da;dsimp only[zG];rw[bd,ET,ao,hw];simp only[ai];have ha:(l.getD i (0,0,[],0,0)).2.2.1.length≤8000∧(l.getD i (0,0,[],0,0)).2.2.2.2<9223372036854775808:=ha;generalize l.getD i (0,0,[],0,0)=a at ha;cases decide (a.1=1) with
   |true=>
    obtain⟨o,G',L',D',d1,d2⟩:=abH w.w.ok hB.1 h a.2.1 ha.1;exact⟨_,.inl ⟨G',L',D',d1,rfl⟩,(d2 _ _).trans (NJ w.w.ok d1 _ _)⟩
   |false=>
   cases decide (a.1=2) with
   |true=>
    obtain⟨D',d1,d2,d3,d4⟩:=ySz (k:=9999) h.deck ha.2;have g:=h.arm d3 d4;simp only[ai,ak];rw[d1,d2];exact⟨_,.inl ⟨G,L,D',g.mono (by omega),rfl⟩,NJ w.w.ok g _ _⟩
   |false=>
   cases decide (a.1=3) with
   |true=>
    obtain⟨D',d1,d2,d3,d4⟩:=yRf (k:=9999) h.deck;obtain⟨x,x1,x2,x3⟩:=qXd w ev (B:=B) (by omega) d3 d4;have x1:fq 9999 (r.1,r.2.1,r.2.2) D' ev=some x:=x1;simp only[ai,ak];rw[d1,d2];simp only[ae];rw[x1,x2];cases x3 with
    |@up G L D h=>exact⟨_,.inl ⟨G,L,D,h.mono (by omega),rfl⟩,NJ w.w.ok h _ _⟩
    |@no e D h=>
     refine⟨_,.inr ⟨D,h.mono (by omega),rfl⟩,?_⟩;show(bif !(decide (e=e)) then _ else _)=_;rw[aa rfl];rfl
   |false=>exact⟨_,.inl ⟨G,L,D,h.mono (by omega),rfl⟩,NJ w.w.ok h _ _⟩
 · unfold Da;dsimp only[zN];rw[bd,ET,ao,hw];simp only[ai];have ha:(l.getD i (0,0,[],0,0)).2.2.1.length≤8000∧(l.getD i (0,0,[],0,0)).2.2.2.2<9223372036854775808:=ha;generalize l.getD i (0,0,[],0,0)=a at ha;rw[abI];cases decide (a.1=2) with
   |true=>
    obtain⟨D',d1,d2,d3,d4⟩:=ySz (k:=9999) h ha.2;simp only[ai];rw[d1,d2];exact⟨_,.inr ⟨D',d3.mono (by omega),rfl⟩,rfl⟩
   |false=>
   cases decide (a.1=3) with
   |true=>
    obtain⟨D',d1,d2,d3,d4⟩:=yRf (k:=9999) h;obtain⟨x,x1,x2,x3⟩:=qXd w ev (B:=B) (by omega) d3 d4;have d1:C8 9999 (D.1,D.2.1,D.2.2.1,D.2.2.2.1,D.2.2.2.2)=some D':=d1;have d2:C9 9999 ((qT D).1,(qT D).2.1,(qT D).2.2)=some (qT D'):=d2;have x1:fq 9999 (r.1,r.2.1,r.2.2) D' ev=some x:=x1;have x2:lL 9999 (r.1,r.2.1,r.2.2) (qT D') ev=some (cv x):=x2;simp only[ai,ak];rw[d1,d2];simp only[ae];rw[x1,x2];cases x3 with
    |@up G L D h=>exact⟨_,.inl ⟨G,L,D,h.mono (by omega),rfl⟩,NJ w.w.ok h _ _⟩
    |@no e D h=>
     refine⟨_,.inr ⟨D,h.mono (by omega),rfl⟩,?_⟩;show(bif !(decide (e=e)) then _ else _)=_;rw[aa rfl];rfl
   |false=>exact⟨_,.inr ⟨D,h.mono (by omega),rfl⟩,rfl⟩
theorem qVs {r}(w:z9 r){ev l}(hl:l.length≤100)(hb:∀a∈l,a.2.2.1.length≤8000∧a.2.2.2.2<9223372036854775808):∀m n i z,i+m=l.length→m<n→qPi r ev l (7010+118*i) i z→rr 9999 n z=some (.inl ())
 |_,0,_,_,_,hn,_=>by omega
 |0,n+1,i,z,hi,_,h=>by
  show Da 9999 (rr 9999 n) z=_;unfold Da;rcases h with⟨G,L,D,h,rfl⟩|⟨D,h,rfl⟩
  · dsimp only[zG];simp_all
  · dsimp only[zN];simp_all
 |m+1,n+1,i,z,hi,hn,h=>by
  obtain⟨z',h',e⟩:=vRy w hl hb (by grind) (by omega) h (rr 9999 n);exact e.trans (qVs w hl hb m n (i+1) z' (by omega) (by omega) h')
theorem abJ {room}(h:¬room<0)(h':¬room>200000):wJ 7010 ((room,[],0,[],0,0,0,false,false,0):vR):=
 ⟨by simp,by simp,by grind,by simp_all,by simp_all,by simp,.nil _,.nil _⟩
theorem vUz way room ev {l:List wj}(h0:∀a∈l,a.2.2.1.length≤140737488355328)(h1:∀a∈l,a.2.2.2.2<9223372036854775808):Sr 9999 way room ev l=some true:=by
 obtain⟨b,e,hl⟩:=abF h0;unfold Sr;rw[e];simp only[ae];cases b with
 |true=>rfl
 |false=>
 obtain⟨hl,hb⟩:=hl rfl;have hb:∀a∈l,a.2.2.1.length≤8000∧a.2.2.2.2<9223372036854775808:=by grind
 obtain⟨r,er,w⟩:=abG way;have kn:NK 9999=some true:=by kernel_rfl
 unfold Ss Su;rw[er];simp only[ak,ae];by_cases n0:room<0
 · rw[aa n0,kn];rfl
 by_cases n1:room>200000
 · rw[ab n0,aa n1,kn];rfl
 rw[ab n0,ab n1];simp only[ak,ae];obtain⟨x,x1,x2,x3⟩:=qXd w ev (B:=7010) (by decide) (abJ n0 n1) rfl;have x2:lL 9999 r ([],[],0,0,room,0,0,0,false,false) ev=some (cv x):=x2;rw[x1,x2];simp only[ae];cases x3 with
 |@up G L D h=>
  have lp:=qVs w (ev:=ev) hl hb l.length 9999 0 _ (by omega) (by omega) (.inl ⟨G,L,D,h,rfl⟩);have lp:rr 9999 9999 (.inl (ev,l,0,(r.1,r.2.2),r.2.1,(D.1,D.2.2.1,D.2.2.2.2),D.2.1,D.2.2.2.1,(qT D).2.2,(qT D).1,(qT D).2.1,G,L,G,hZ L))=some (.inl ()):=lp;show(rr 9999 9999 (.inl (ev,l,0,(r.1,r.2.2),r.2.1,(D.1,D.2.2.1,D.2.2.2.2),D.2.1,D.2.2.2.1,(qT D).2.2,(qT D).1,(qT D).2.1,G,L,G,hZ L))).bind _=_;rw[lp];simp only[ae,kn]
 |@no e D h=>
  have lp:=qVs w (ev:=ev) hl hb l.length 9999 0 _ (by omega) (by omega) (.inr ⟨D,h,rfl⟩);have lp:rr 9999 9999 (.inr (ev,l,0,(r.1,r.2.2),r.2.1,(D.1,D.2.2.1,D.2.2.2.2),D.2.1,D.2.2.2.1,(qT D).2.2,(qT D).1,(qT D).2.1))=some (.inl ()):=lp;show(bif !(decide (e=e)) then some false else(rr 9999 9999 (.inr (ev,l,0,(r.1,r.2.2),r.2.1,(D.1,D.2.2.1,D.2.2.2.2),D.2.1,D.2.2.2.1,(qT D).2.2,(qT D).1,(qT D).2.1))).bind _)=_;rw[aa rfl,lp];simp only[ae,kn];rfl
end Go.Ab.Gi
