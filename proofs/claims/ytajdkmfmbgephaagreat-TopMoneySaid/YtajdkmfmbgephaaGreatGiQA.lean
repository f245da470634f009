/- Plain proofs, part 0. -/
import Derived.Test.YtajdkmfmbgephaaGreatGiAbC
import Derived.Test.YtajdkmfmbgephaaGreatGiXS
set_option linter.unusedVariables false
set_option linter.unusedSimpArgs false
set_option maxRecDepth 100000
set_option linter.unusedSectionVars false
namespace Go.Ab
theorem ah {p:Prop}[Decidable p](h:p):decide p=true:=decide_eq_true h
theorem ak {p:Prop}[Decidable p](h:¬p):decide p=false:=decide_eq_false h
theorem H8 {p:Prop}[Decidable p](h:decide p=true):p:=of_decide_eq_true h
theorem jx {p:Prop}[Decidable p](h:decide p=false):¬p:=of_decide_eq_false h
theorem bD {p:Prop}[Decidable p]:(decide p=true)=p:=decide_eq_true_eq
theorem aj {α β:Type}(a:α)(f:α→Option β):(some a).bind f=f a:=rfl
theorem an {α:Type}(a b:α):cond true a b=a:=rfl
theorem ao {α:Type}(a b:α):cond false a b=b:=rfl
theorem aF (n:Nat):(n:Int).toNat=n:=rfl
theorem bI (a b:Bool):((a&&b)=true)=(a=true∧b=true):=Bool.and_eq_true a b
theorem aU:(!true)=false:=rfl
theorem dZ:(!false)=true:=rfl
end Go.Ab
namespace Go.Ab
theorem qH {x:Int}(h1:-9223372036854775808≤x)(h2:x<9223372036854775808):zA x=x:=by
 unfold zA IntKind.wrap
 simp only[IntKind.bits,IntKind.signed,Bool.true_and]
 by_cases h:x%2^64≥2^(64-1)
 ·rw[if_pos (by simpa using h)];omega
 ·rw[if_neg (by simpa using h)];omega
theorem Z3 (x:Int):-9223372036854775808≤zA x:=by
 unfold zA IntKind.wrap
 simp only[IntKind.bits,IntKind.signed,Bool.true_and]
 by_cases h:x%2^64≥2^(64-1)
 ·rw[if_pos (by simpa using h)];omega
 ·rw[if_neg (by simpa using h)];omega
theorem Z4 (x:Int):zA x<9223372036854775808:=by
 unfold zA IntKind.wrap
 simp only[IntKind.bits,IntKind.signed,Bool.true_and]
 by_cases h:x%2^64≥2^(64-1)
 ·rw[if_pos (by simpa using h)];omega
 ·rw[if_neg (by simpa using h)];omega
theorem qM {i N:Nat}(h:i<N)(hN:N<9223372036854775808):zA ((i:Int)+1)=((i+1:Nat):Int):=by
 rw[qH (by omega) (by omega)];rfl
theorem Z5 {n:Int}(h:(Lit.int .i64 n).wf=true):-9223372036854775808≤n∧n<9223372036854775808:=by
 simp only[Lit.wf,bI,bD,IntKind.min,IntKind.max,IntKind.bits,IntKind.signed] at h
 simp at h
 omega
theorem qL (i n:Nat):zD (i:Int) n=decide (i<n):=by
 unfold zD
 simp
theorem jQ {i:Int}{n:Nat}(h0:0≤i)(h1:i<n):zD i n=true:=by
 unfold zD
 simp;omega
theorem qY {n b:Nat}(h:n*b≤140737488355328)(h':n≤140737488355328):zU n b=true:=by
 unfold zU
 rw[Nat.ble_eq_true_of_le h,Nat.ble_eq_true_of_le h'];rfl
theorem qJ (i n:Nat):decide ((i:Int)<(n:Int))=decide (i<n):=by simp
theorem rT (i n:Nat):decide ((i:Int)=(n:Int))=decide (i=n):=by
 by_cases h:i=n
 ·subst h;simp
 ·rw[ak h,ak (by omega)]
def qD (p:Nat→Bool):Nat→Nat→Bool
 |0,_=>true
 |c+1,i=>p i&&qD p c (i+1)
theorem Z6 {p:Nat→Bool}:∀{c i:Nat},qD p c i=true↔∀j,i≤j→j<i+c→p j=true
 |0,i=>by simp[qD];intro j h1 h2;omega
 |c+1,i=>by
  simp only[qD,bI,Z6 (c:=c)]
  constructor
  ·rintro⟨h1,h2⟩ j h3 h4
   by_cases e:j=i
   ·subst e;exact h1
   ·exact h2 j (by omega) (by omega)
  ·intro h
   exact⟨h i (Nat.le_refl i) (by omega),fun j h1 h2=>h j (by omega) (by omega)⟩
theorem dI {p:Nat→Bool}{c:Nat}:qD p c 0=true↔∀j,j<c→p j=true:=by
 rw[Z6]
 exact⟨fun h j hj=>h j (Nat.zero_le j) (by omega),fun h j _ hj=>h j (by omega)⟩
theorem Z7 {X:Type}{L:Nat→Int→Option X}{N:Nat}(ok:Nat→Bool)(a b:X)(bh:∀n,L (n+1) (N:Int)=some a)
  (ax:∀n i,i<N→L (n+1) (i:Int)=bif ok i then L n ((i+1:Nat):Int) else some b):∀c i n,i+c=N→c<n→L n (i:Int)=some (bif qD ok c i then a else b)
 |0,i,n,h,hn=>by
  obtain⟨n,rfl⟩:∃m,n=m+1:=⟨n-1,by omega⟩
  have:i=N:=by omega
  subst this
  exact bh n
 |c+1,i,n,h,hn=>by
  obtain⟨n,rfl⟩:∃m,n=m+1:=⟨n-1,by omega⟩
  rw[ax n i (by omega)]
  unfold qD
  cases ok i with
  |false=>rfl
  |true=>
   simp only[an,Bool.true_and]
   exact Z7 ok a b bh ax c (i+1) n (by omega) (by omega)
theorem pn {X:Type}{L:Nat→Int→Option X}{N:Nat}(ok:Nat→Bool)(a b:X)(bh:∀n,L (n+1) (N:Int)=some a)
  (ax:∀n i,i<N→L (n+1) (i:Int)=bif ok i then L n ((i+1:Nat):Int) else some b) {n:Nat} (hn:N<n):L n 0=some (bif qD ok N 0 then a else b):=
 Z7 ok a b bh ax N 0 n (by omega) hn
theorem Z8 {L:Nat→Int→Option (Unit⊕Int)}{N:Nat}(bad:Nat→Bool)(bh:∀n,L (n+1) (N:Int)=some (.inl ()))
  (ax:∀n i,i<N→L (n+1) (i:Int)=bif bad i then some (.inr (i:Int)) else L n ((i+1:Nat):Int)):
  ∀c i n,i+c=N→c<n→(qD (fun j=> !bad j) c i=true∧L n (i:Int)=some (.inl ()))∨∃x:Nat,i≤x∧x<N∧bad x=true∧(∀j,i≤j→j<x→bad j=false)∧qD (fun j=> !bad j) c i=false∧L n (i:Int)=some (.inr (x:Int))
 |0,i,n,h,hn=>by
  obtain⟨n,rfl⟩:∃m,n=m+1:=⟨n-1,by omega⟩
  have:i=N:=by omega
  subst this
  exact .inl ⟨rfl,bh n⟩
 |c+1,i,n,h,hn=>by
  obtain⟨n,rfl⟩:∃m,n=m+1:=⟨n-1,by omega⟩
  rw[ax n i (by omega)]
  unfold qD
  cases hb:bad i with
  |true=>exact .inr ⟨i,Nat.le_refl i,by omega,hb,fun j h1 h2=>absurd h1 (by omega),rfl,rfl⟩
  |false=>
   simp only[ao,dZ,Bool.true_and]
   rcases Z8 bad bh ax c (i+1) n (by omega) (by omega) with h1|⟨x,x1,x2,x3,x4,x5,x6⟩
   ·exact .inl h1
   ·refine .inr ⟨x,by omega,x2,x3,fun j h1 h2=>?_,x5,x6⟩
    by_cases e:j=i
    ·subst e;exact hb
    ·exact x4 j (by omega) h2
theorem pq {L:Nat→Int→Option (Unit⊕Int)}{N:Nat}(bad:Nat→Bool)(bh:∀n,L (n+1) (N:Int)=some (.inl ()))
  (ax:∀n i,i<N→L (n+1) (i:Int)=bif bad i then some (.inr (i:Int)) else L n ((i+1:Nat):Int)) {n:Nat} (hn:N<n):
  ∃x:Unit⊕Int,L n 0=some x∧decide ((match x with|.inl _=>(-1:Int)|.inr y=>y)≥0)= !qD (fun j=> !bad j) N 0:=by
 rcases Z8 bad bh ax N 0 n (by omega) hn with⟨h1,h2⟩|⟨x,_,_,_,_,h5,h6⟩
 ·exact⟨_,h2,by rw[h1];rfl⟩
 ·exact⟨_,h6,by rw[h5];simp⟩
theorem Z9 {S X:Type}{L:Nat→Int→S→Option X}{N:Nat}(e:S→X)(inv:Nat→S→Prop)(bh:∀n s,inv N s→L (n+1) (N:Int) s=some (e s))
  (ax:∀n i s,i<N→inv i s→∃s',L (n+1) (i:Int) s=L n ((i+1:Nat):Int) s'∧inv (i+1) s'):
  ∀c i n s,i+c=N→c<n→inv i s→∃s',L n (i:Int) s=some (e s')∧inv N s'
 |0,i,n,s,h,hn,hs=>by
  obtain⟨n,rfl⟩:∃m,n=m+1:=⟨n-1,by omega⟩
  have:i=N:=by omega
  subst this
  exact⟨s,bh n s hs,hs⟩
 |c+1,i,n,s,h,hn,hs=>by
  obtain⟨n,rfl⟩:∃m,n=m+1:=⟨n-1,by omega⟩
  obtain⟨s',h1,h2⟩:=ax n i s (by omega) hs
  rw[h1]
  exact Z9 e inv bh ax c (i+1) n s' (by omega) (by omega) h2
theorem vU {S X:Type}{L:Nat→Int→S→Option X}{N:Nat}(e:S→X)(inv:Nat→S→Prop)(bh:∀n s,inv N s→L (n+1) (N:Int) s=some (e s))
  (ax:∀n i s,i<N→inv i s→∃s',L (n+1) (i:Int) s=L n ((i+1:Nat):Int) s'∧inv (i+1) s') {n:Nat} {s:S} (hn:N<n) (hs:inv 0 s):
  ∃s',L n 0 s=some (e s')∧inv N s':=Z9 e inv bh ax N 0 n s (by omega) hn hs
def zL {α:Type}(g:α→Int):List α→Int
 |[]=>0
 |p::l=>g p+zL g l
theorem ee {α:Type}(g:α→Int):∀(l m:List α),zL g (l++m)=zL g l+zL g m
 |[],m=>by simp[zL]
 |p::l,m=>by
  show g p+zL g (l++m)=g p+zL g l+zL g m
  rw[ee g l m];omega
theorem uB {α:Type}{g:α→Int}{A:Int}:∀{l:List α},(∀p∈l,-A≤g p∧g p≤A)→-(l.length*A)≤zL g l∧zL g l≤l.length*A
 |[],_=>by simp[zL]
 |p::l,h=>by
  have h1:=h p (List.mem_cons_self ..)
  have h2:=uB (l:=l) fun q hq=>h q (List.mem_cons_of_mem _ hq)
  have e:((p::l).length:Int)*A=(l.length:Int)*A+A:=by
   rw[List.length_cons,Int.natCast_add,Int.add_mul];simp
  rw[e]
  show-_≤g p+zL g l∧g p+zL g l≤_
  omega
theorem rU {α:Type}{g:α→Int}:∀{l:List α},(∀p∈l,0≤g p)→0≤zL g l
 |[],_=>by simp[zL]
 |p::l,h=>by
  have h1:=h p (List.mem_cons_self ..)
  have h2:=rU (l:=l) fun q hq=>h q (List.mem_cons_of_mem _ hq)
  show 0≤g p+zL g l
  omega
theorem yJf {α:Type}(g h:α→Int):∀(l:List α),zL (fun p=>g p+h p) l=zL g l+zL h l
 |[]=>rfl
 |p::l=>by
  show g p+h p+zL _ l=g p+zL g l+(h p+zL h l)
  rw[yJf g h l];omega
theorem Oh {α:Type}(g h:α→Int):∀(l:List α),zL (fun p=>g p-h p) l=zL g l-zL h l
 |[]=>rfl
 |p::l=>by
  show g p-h p+zL _ l=g p+zL g l-(h p+zL h l)
  rw[Oh g h l];omega
theorem H9 {α:Type}{g h:α→Int}:∀{l:List α},(∀p∈l,g p=h p)→zL g l=zL h l
 |[],_=>rfl
 |p::l,e=>by
  show g p+zL g l=h p+zL h l
  rw[e p (List.mem_cons_self ..),H9 fun q hq=>e q (List.mem_cons_of_mem _ hq)]
def zW (g:Nat→Int):Nat→Int
 |0=>0
 |n+1=>zW g n+g n
theorem uC (g h:Nat→Int):∀n,zW (fun j=>g j+h j) n=zW g n+zW h n
 |0=>rfl
 |n+1=>by
  show zW _ n+(g n+h n)=zW g n+g n+(zW h n+h n)
  rw[uC g h n];omega
theorem jy {g h:Nat→Int}:∀{n:Nat},(∀j,j<n→g j=h j)→zW g n=zW h n
 |0,_=>rfl
 |n+1,e=>by
  show zW g n+g n=zW h n+h n
  rw[jy fun j hj=>e j (by omega),e n (Nat.lt_succ_self n)]
theorem uD (c:Int)(t:Nat):∀n,zW (fun j=>if j=t then c else 0) n=if t<n then c else 0
 |0=>rfl
 |n+1=>by
  show zW _ n+(if n=t then c else 0)=_
  rw[uD c t n]
  by_cases h:t<n
  ·rw[if_pos h,if_neg (by omega),if_pos (by omega)];omega
  ·by_cases h':n=t
   ·rw[if_neg h,if_pos h',if_pos (by omega)];omega
   ·rw[if_neg h,if_neg h',if_neg (by omega)];omega
theorem Ia:∀n,zW (fun _=>0) n=0
 |0=>rfl
 |n+1=>by show zW _ n+0=0;rw[Ia n];rfl
theorem Ej {g:Nat→Int}{A:Int}(h:∀j,-A≤g j∧g j≤A):∀n:Nat,-(n*A)≤zW g n∧zW g n≤n*A
 |0=>by simp[zW]
 |n+1=>by
  have h1:=h n
  have h2:=Ej h n
  have e:((n+1:Nat):Int)*A=(n:Int)*A+A:=by
   rw[Int.natCast_add,Int.add_mul];simp
  rw[e]
  show-_≤zW g n+g n∧zW g n+g n≤_
  omega
theorem Ib {α:Type}(g:Nat→α→Int)(n:Nat):∀l:List α,zW (fun j=>zL (g j) l) n=zL (fun p=>zW (fun j=>g j p) n) l
 |[]=>Ia n
 |p::l=>by
  show zW (fun j=>g j p+zL (g j) l) n=zW (fun j=>g j p) n+zL _ l
  rw[uC,Ib g n l]
theorem jR {α:Type}{l:List α}{i:Nat}{d:α}(h:i<l.length):l.getD i d∈l:=by
 rw[List.getD_eq_getElem?_getD,List.getElem?_eq_getElem h]
 exact List.getElem_mem h
theorem jM {α:Type}(l:List α)(i:Nat)(d:α)(h:i<l.length):l.take i++[l.getD i d]=l.take (i+1):=by
 rw[List.take_add_one,List.getD_eq_getElem?_getD,List.getElem?_eq_getElem h]
 rfl
theorem jG {α:Type}(l:List α)(i j:Nat)(a d:α):(l.set i a).getD j d=if i=j∧i<l.length then a else l.getD j d:=by
 rw[List.getD_eq_getElem?_getD,List.getD_eq_getElem?_getD,List.getElem?_set]
 by_cases h:i=j
 ·subst h
  by_cases h':i<l.length<;>simp[h']
 ·simp[h]
theorem Ic {α:Type}{l m:List α}(d:α)(hl:l.length=m.length)(h:∀i,i<l.length→l.getD i d=m.getD i d):l=m:=by
 apply List.ext_getElem hl
 intro i h1 h2
 have:=h i h1
 rwa [List.getD_eq_getElem?_getD,List.getD_eq_getElem?_getD,List.getElem?_eq_getElem h1,List.getElem?_eq_getElem h2] at this
theorem yS6 (m:Nat)(hm:m≤62)(x:Int):jO .i64 x (2^m-1)=x%2^m:=by
 unfold jO ql
 have hp:(2:Int)^m=((2^m:Nat):Int):=by norm_cast
 have hle:2^m≤2^62:=Nat.pow_le_pow_right (by omega) hm
 have pt:0<2^m:=Nat.two_pow_pos m
 have h62:(2:Nat)^62=4611686018427387904:=rfl
 have e1:(BitVec.ofInt IntKind.i64.bits x&&&BitVec.ofInt IntKind.i64.bits (2^m-1)).toNat=(x%2^m).toNat:=by
  rw[BitVec.toNat_and,BitVec.toNat_ofInt,BitVec.toNat_ofInt]
  have e2:((2:Int)^m-1)%((2^IntKind.i64.bits:Nat):Int)=((2^m-1:Nat):Int):=by
   rw[hp]
   have:((2^m:Nat):Int)-1=((2^m-1:Nat):Int):=by omega
   rw[this]
   apply Int.emod_eq_of_lt (by omega)
   show((2^m-1:Nat):Int)<((2^64:Nat):Int)
   have:(2:Nat)^64=18446744073709551616:=rfl
   omega
  rw[e2,aF,Nat.and_two_pow_sub_one_eq_mod]
  have hx:0≤x%((2^IntKind.i64.bits:Nat):Int):=Int.emod_nonneg _ (by show((2^64:Nat):Int)≠0;decide)
  have e3:x%2^m=(x%((2^IntKind.i64.bits:Nat):Int))%((2^m:Nat):Int):=by
   rw[hp,Int.emod_emod_of_dvd]
   show((2^m:Nat):Int)∣((2^64:Nat):Int)
   exact Int.natCast_dvd_natCast.2 (Nat.pow_dvd_pow 2 (by omega))
  rw[e3]
  generalize x%((2^IntKind.i64.bits:Nat):Int)=y at hx
  obtain⟨y,rfl⟩:=Int.eq_ofNat_of_zero_le hx
  rw[aF,←Int.natCast_emod,aF]
 rw[e1]
 have h0:0≤x%2^m:=Int.emod_nonneg _ (by omega)
 have h1:x%2^m<2^m:=Int.emod_lt_of_pos _ (by omega)
 rw[Int.toNat_of_nonneg h0]
 exact qH (by omega) (by omega)
end Go.Ab
namespace Go.Ab.Gi
open Go.Ab
def jL (l:AC):Int:=zL (fun x=>x) l
def rV (x:Int):Bool:=decide (-9223372036854775808≤x)&&decide (x<9223372036854775808)
theorem yG7 x:shr .i64 x 63=x/9223372036854775808:=by
 show x.fdiv (2^(min 63 64))=_
 grind
theorem mi x:IntKind.wrap .u64 x=x%18446744073709551616:=by
 rfl
theorem vDe {x}(h:0≤x∧x<18446744073709551616):zA x=if x<9223372036854775808 then x else x-18446744073709551616:=by
 unfold zA IntKind.wrap
 simp[IntKind.bits,IntKind.signed]
 grind
theorem yOe (l:AC) i (hi:i<l.length):jL (l.take (i+1))=jL (l.take i)+l.getD i 0:=by
 have:l.take (i+1)=l.take i++[l.getD i 0]:=by
  simp_all
 unfold jL
 rw[this,ee]
 simp[zL]
theorem Oi {k l}(hk:l.length<k)(hl:l.length≤1000000)(hw:∀i,i<l.length→-9223372036854775808≤l.getD i 0∧l.getD i 0<9223372036854775808):
  uE k l=some (bif rV (jL l) then(jL l,true) else(0,false)):=by
 obtain ⟨s', g1, g2, g3, g4⟩ := vU (L := fun n i (s : Int × Int) => yn k n s.1 s.2 l (l.length : Int) i) (N := l.length) (fun s => (s.1, s.2)) (fun i s => (0 ≤ s.2 ∧ s.2 < 18446744073709551616) ∧ s.1 * 18446744073709551616 + s.2 = jL (l.take i) ∧ (-(i : Int) ≤ s.1 ∧ s.1 ≤ i)) (fun n s _=>by
  show yo k _ s.1 s.2 l l.length l.length=_
  unfold yo
  simp only [qJ, ak (Nat.lt_irrefl _), ao]) (fun n i s hi hs=>by
  obtain⟨h,lo⟩:=s
  obtain⟨⟨h1,h2⟩,h3,h4⟩:=hs
  simp only at h1 h2 h3 h4
  show∃s',yo k _ h lo l l.length i=_∧_
  unfold yo yl
  have hb:=hw i hi
  have rW:=yOe l i hi
  obtain⟨v,hv⟩:∃v,l.getD i 0=v:=⟨_,rfl⟩
  rw[hv] at hb rW
  simp only[qJ,qL,aF,ah hi,an,hv,mi,yG7,decide_true,aj,qM hi (show l.length<9223372036854775808 by omega)]
  obtain⟨u,hu⟩:∃u,v%18446744073709551616=u:=⟨_,rfl⟩
  rw[hu]
  obtain⟨q,hq⟩:∃q,v/9223372036854775808=q:=⟨_,rfl⟩
  rw[hq]
  have Yj:u=v-q*18446744073709551616:=by omega
  have lq:q=0∨q= -1:=by omega
  obtain⟨a,ha⟩:∃a:Nat,lo.toNat+u.toNat+0=a:=⟨_,rfl⟩
  rw[ha]
  have ni:(a:Int)=lo+u:=by omega
  obtain⟨c,hc⟩:∃c:Nat,a/18446744073709551616=c:=⟨_,rfl⟩
  obtain⟨m,hm⟩:∃c:Nat,a%18446744073709551616=c:=⟨_,rfl⟩
  rw[hc,hm]
  have hcm:a=c*18446744073709551616+m:=by omega
  have kI:m<18446744073709551616:=by omega
  have eJ:c≤1:=by omega
  have e1:zA (Int.ofNat c)=(c:Int):=qH (by show(_:Int)≤((c:Nat):Int);omega) (by show((c:Nat):Int)<_;omega)
  have e2:zA (q+(c:Int))=q+c:=qH (by omega) (by omega)
  have e3:zA (h+(q+(c:Int)))=h+(q+c):=qH (by omega) (by omega)
  rw[e1,e2,e3]
  refine⟨(h+(q+c),(m:Int)),rfl,by grind,?_,?_⟩
  ·rw[rW]
   show(h+(q+c))*18446744073709551616+(m:Int)=_
   omega
  ·show-((i+1:Nat):Int)≤h+(q+c)∧h+(q+c)≤((i+1:Nat):Int)
   omega) (s:=(0,0)) hk ⟨⟨by show(0:Int)≤0;omega,by show(0:Int)<_;omega⟩,rfl,by show-((0:Nat):Int)≤0;omega,by show(0:Int)≤((0:Nat):Int);omega⟩
 have Oj:yn k k 0 0 l (l.length:Int) 0=some (s'.1,s'.2):=g1
 rw[List.take_length] at g3
 unfold uE
 rw[Oj]
 simp only[aj,yG7]
 rw[vDe g2]
 by_cases c:rV (jL l)=true
 ·have c':-9223372036854775808≤jL l∧jL l<9223372036854775808:=by simpa[rV] using c
  rw[c]
  by_cases d:s'.2<9223372036854775808
  ·rw[if_pos d,ah (show s'.1=s'.2/9223372036854775808 by omega)]
   simp only[aU,ao,an]
   rw[show s'.2=jL l by omega]
  ·rw[if_neg d,ah (show s'.1=(s'.2-18446744073709551616)/9223372036854775808 by omega)]
   simp only[aU,ao,an]
   rw[show s'.2-18446744073709551616=jL l by omega]
 ·have c':¬(-9223372036854775808≤jL l∧jL l<9223372036854775808):=by simpa[rV] using c
  rw[Bool.not_eq_true] at c
  rw[c]
  by_cases d:s'.2<9223372036854775808
  ·rw[if_pos d,ak (show¬s'.1=s'.2/9223372036854775808 by omega)]
   rfl
  ·rw[if_neg d,ak (by grind)]
   rfl
abbrev Ie:Type:=Int×Int×Int
abbrev gA:Type:=EQ
def vL (p:gA)(i j:Nat):Int:=(p.getD i []).getD j 0
theorem Ol {S X:Type}{L:Nat→Int→S→Option X}{N:Nat}(ok:Nat→Bool)(e:S→X)(b:X)(inv:Nat→S→Prop)(bh:∀n s,inv N s→L (n+1) (N:Int) s=some (e s))
  (ax:∀n i s,i<N→inv i s→(ok i=true→∃s',L (n+1) (i:Int) s=L n ((i+1:Nat):Int) s'∧inv (i+1) s')∧(ok i=false→L (n+1) (i:Int) s=some b)):
  ∀c i n s,i+c=N→c<n→inv i s→(qD ok c i=true∧∃s',L n (i:Int) s=some (e s')∧inv N s')∨(qD ok c i=false∧L n (i:Int) s=some b)
 |0,i,n,s,h,hn,hs=>by
  obtain⟨n,rfl⟩:∃m,n=m+1:=⟨n-1,by omega⟩
  have:i=N:=by omega
  subst this
  exact .inl ⟨rfl,s,bh n s hs,hs⟩
 |c+1,i,n,s,h,hn,hs=>by
  obtain⟨n,rfl⟩:∃m,n=m+1:=⟨n-1,by omega⟩
  obtain⟨h1,h2⟩:=ax n i s (by omega) hs
  unfold qD
  cases ho:ok i with
  |true=>
   obtain⟨s',h3,h4⟩:=h1 ho
   rw[h3]
   simp only[Bool.true_and]
   exact Ol ok e b inv bh ax c (i+1) n s' (by omega) (by omega) h4
  |false=>exact .inr ⟨rfl,h2 ho⟩
def yp (p:gA):Bool:=qD (fun i=>decide ((p.getD i []).length=p.length)) p.length 0
def yq (p:gA):Bool:=qD (fun i=>qD (fun j=>decide (vL p j i= -vL p i j)) p.length 0) p.length 0
theorem vKt {k:Nat}{p:gA}(hk:p.length<k)(hl:p.length<9223372036854775808)(a:List Ie)(b:gA)(m:AC):Ig k p a b m p=some (!yp p):=by
 obtain ⟨x, h1, h2⟩ := pq (L := fun c i => Ek k c p p.length i a b m p) (N := p.length) (fun i => !decide ((p.getD i []).length = p.length)) (fun c=>by
  show yr k _ p p.length p.length a b m p=_
  unfold yr
  simp only [qJ, ak (Nat.lt_irrefl _), ao]) (fun c i hi=>by
  show yr k _ p p.length i a b m p=_
  unfold yr Om
  simp only[qL,qM hi hl,qJ,rT,aF,ah hi,an,aj]) hk
 unfold Ig On
 rw[h1]
 simp only[Bool.not_not] at h2
 show _=some (!qD (fun i=>decide ((p.getD i []).length=p.length)) p.length 0)
 rw[←h2]
 cases x<;>rfl
section
variable {k:Nat} {p:gA} (hk:500≤k) (uF:p.length≤20) (iN:∀i,i<p.length→(p.getD i []).length=p.length) (hb:∀i,i<p.length→∀j,j<p.length→-1152921504606846976≤vL p i j∧vL p i j≤1152921504606846976)
include hk uF iN hb
theorem yXd (a:List Ie)(b:gA)(m:AC){i:Nat}(hi:i<p.length){r:AC}(hr:r.length≤1000):
  (qD (fun j=>decide (vL p j i= -vL p i j)) p.length 0=true∧mj k k i p p.length i (p.getD i []) p.length 0 a b m p r=some (.inl (p,p.length,i,a,b,m,p,r++p.getD i [])))∨
  (qD (fun j=>decide (vL p j i= -vL p i j)) p.length 0=false∧mj k k i p p.length i (p.getD i []) p.length 0 a b m p r=some (.inr false)):=by
 have aC:=iN i hi
 rcases Ol (L := fun n j (s : AC) => mj k n i p p.length i (p.getD i []) p.length j a b m p s) (N := p.length) (fun j => decide (vL p j i = - vL p i j)) (fun s => .inl (p, (p.length : Int), (i : Int), a, b, m, p, s)) (.inr false) (fun j s => s = r ++ (p.getD i []).take j) (fun n s _=>by
  show rY k _ i p p.length i (p.getD i []) p.length p.length a b m p s=_
  unfold rY
  simp only [qJ, ak (Nat.lt_irrefl _), ao]) (fun n j s hj hs=>by
  have hjr:=iN j hj
  have hc:=hb i hi j hj
  have hw:zA (0-vL p i j)= -vL p i j:=by rw[qH (by omega) (by omega)];omega
  unfold vL at hw
  have Db:zU (s.length+1) 8=true:=by
   have:s.length≤1020:=by rw[hs,List.length_append,List.length_take];omega
   exact qY (by omega) (by omega)
  have key:rY k (mj k n) i p p.length i (p.getD i []) p.length j a b m p s=bif decide (vL p j i= -vL p i j) then mj k n i p p.length i (p.getD i []) p.length ((j+1:Nat):Int) a b m p (s++[vL p i j]) else some (.inr false):=by
   unfold rY vL
   simp only[qL,qM hj (show p.length<9223372036854775808 by omega),qJ,aF,ah hj,aC,hjr,ah hi,an,hw,Db]
   cases decide ((p.getD j []).getD i 0= -(p.getD i []).getD j 0)<;>rfl
  refine⟨fun ho=>⟨s++[vL p i j],?_,?_⟩,fun ho=>?_⟩
  ·show rY k (mj k n) i p p.length i (p.getD i []) p.length j a b m p s=_
   rw[key,ho]
   rfl
  ·rw[hs,List.append_assoc]
   congr 1
   rw[List.take_add_one,List.getElem?_eq_getElem (by omega)]
   unfold vL
   rw[List.getD_eq_getElem?_getD (l:=p.getD i []),List.getElem?_eq_getElem (by omega)]
   rfl
  ·show rY k (mj k n) i p p.length i (p.getD i []) p.length j a b m p s=_
   rw[key,ho]
   rfl) p.length 0 k r (by omega) (by omega) (by simp) with⟨h1,s',h2,h3⟩|⟨h1,h2⟩
 ·refine .inl ⟨h1,?_⟩
  rw[←aC,List.take_length] at h3
  subst h3
  exact h2
 ·exact .inr ⟨h1,h2⟩
theorem vEe (a:List Ie)(b:gA)(m:AC):
  (yq p=true∧mm k k p p.length 0 a b m p []=some (.inl p.flatten))∨(yq p=false∧mm k k p p.length 0 a b m p []=some (.inr false)):=by
 rcases Ol (L := fun n i (s : AC) => mm k n p p.length i a b m p s) (N := p.length) (fun i => qD (fun j => decide (vL p j i = - vL p i j)) p.length 0) (fun s => .inl s) (.inr false) (fun i s => s = (p.take i).flatten ∧ s.length = i * p.length) (fun n s _=>by
  show rZ k _ p p.length p.length a b m p s=_
  unfold rZ
  simp only [qJ, ak (Nat.lt_irrefl _), ao]) (fun n i s hi hs=>by
  have aC:=iN i hi
  have hlen:s.length≤1000:=by
   rw[hs.2]
   have:i*p.length≤20*20:=Nat.mul_le_mul (by omega) uF
   omega
  have hz:=yXd hk uF iN hb a b m hi hlen
  have key:rZ k (mm k n) p p.length i a b m p s=bif qD (fun j=>decide (vL p j i= -vL p i j)) p.length 0 then mm k n p p.length ((i+1:Nat):Int) a b m p (s++p.getD i []) else some (.inr false):=by
   unfold rZ
   simp only[qL,qJ,aF,ah hi,an,aC]
   rcases hz with⟨h1,h2⟩|⟨h1,h2⟩
   ·rw[h1,h2]
    simp only[aj,qM hi (show p.length<9223372036854775808 by omega)]
    rfl
   ·rw[h1,h2]
    rfl
  refine⟨fun ho=>⟨s++p.getD i [],?_,?_,?_⟩,fun ho=>?_⟩
  ·show rZ k (mm k n) p p.length i a b m p s=_
   rw[key,ho]
   rfl
  ·rw[hs.1,List.take_add_one,List.getElem?_eq_getElem hi,List.flatten_append,List.getD_eq_getElem?_getD,List.getElem?_eq_getElem hi]
   simp
  ·rw[List.length_append,hs.2,aC,Nat.add_mul,Nat.one_mul]
  ·show rZ k (mm k n) p p.length i a b m p s=_
   rw[key,ho]
   rfl) p.length 0 k [] (by omega) (by omega) ⟨by simp,by simp⟩ with⟨h1,s',h2,h3,h4⟩|⟨h1,h2⟩
 ·refine .inl ⟨h1,?_⟩
  rw[List.take_length] at h3
  subst h3
  exact h2
 ·exact .inr ⟨h1,h2⟩
end
theorem Oo (g:Nat→Int):∀n,zW (fun j=>-g j) n= -zW g n
 |0=>rfl
 |n+1=>by
  show zW _ n+-g n= -(zW g n+g n)
  rw[Oo g n];omega
theorem yKp (g:Nat→Nat→Int)(m:Nat):∀n,zW (fun i=>zW (fun j=>g i j) m) n=zW (fun j=>zW (fun i=>g i j) n) m
 |0=>(Ia m).symm
 |n+1=>by
  show zW _ n+zW _ m=zW (fun j=>zW (fun i=>g i j) n+g n j) m
  rw[yKp g m n,uC]
theorem Oq {α:Type}(f:α→Int)(d:α):∀(l:List α) (n:Nat),n≤l.length→zL f (l.take n)=zW (fun i=>f (l.getD i d)) n
 |l,0,_=>by simp[zL,zW]
 |l,n+1,h=>by
  show _=zW _ n+_
  rw[←Oq f d l n (by omega)]
  have:l.take (n+1)=l.take n++[l.getD n d]:=by
   rw[List.take_add_one,List.getD_eq_getElem?_getD,List.getElem?_eq_getElem (by omega)]
   rfl
  rw[this,ee]
  simp[zL]
theorem yLu:∀p:gA,jL p.flatten=zL jL p
 |[]=>rfl
 |r::p=>by
  show zL _ (r++p.flatten)=jL r+zL jL p
  rw[ee,←yLu p]
  rfl
theorem vGq {p:gA}(iN:∀i,i<p.length→(p.getD i []).length=p.length)(ha:yq p=true):jL p.flatten=0:=by
 have h1:jL p.flatten=zW (fun i=>zW (fun j=>vL p i j) p.length) p.length:=by
  rw[yLu]
  have:=Oq jL [] p p.length (Nat.le_refl _)
  rw[List.take_length] at this
  rw[this]
  refine jy fun i hi=>?_
  have h2:=Oq (fun x=>x) 0 (p.getD i []) (p.getD i []).length (Nat.le_refl _)
  rw[List.take_length,iN i hi] at h2
  exact h2
 have h2:zW (fun i=>zW (fun j=>vL p i j) p.length) p.length=zW (fun i=>zW (fun j=>vL p j i) p.length) p.length:=yKp _ _ _
 have h3:zW (fun i=>zW (fun j=>vL p j i) p.length) p.length=zW (fun i=>-zW (fun j=>vL p i j) p.length) p.length:=by
  refine jy fun i hi=>?_
  rw[←Oo]
  refine jy fun j hj=>?_
  have:=dI.1 (dI.1 ha i hi) j hj
  simpa using this
 rw[Oo] at h3
 omega
def Ot (p:gA):Prop:=p.length≤20∧∀i,i<p.length→∀j,j<p.length→j<(p.getD i []).length→-1152921504606846976≤vL p i j∧vL p i j≤1152921504606846976
theorem qWp {p:gA}:yp p=true↔∀i,i<p.length→(p.getD i []).length=p.length:=by
 unfold yp
 rw[dI]
 simp
theorem vIb {p:gA}(hw:Ot p)(iN:∀i,i<p.length→(p.getD i []).length=p.length):∀i,i<p.length→∀j,j<p.length→-1152921504606846976≤vL p i j∧vL p i j≤1152921504606846976:=
 fun i hi j hj=>hw.2 i hi j hj (by rw[iN i hi];exact hj)
theorem vFc {p:gA}{A:Int}(hA:0≤A)(h:∀i,i<p.length→∀j,j<(p.getD i []).length→-A≤(p.getD i []).getD j 0∧(p.getD i []).getD j 0≤A)(i:Nat):-A≤p.flatten.getD i 0∧p.flatten.getD i 0≤A:=by
 by_cases hi:i<p.flatten.length
 ·have hm:p.flatten.getD i 0∈p.flatten:=by
   rw[List.getD_eq_getElem?_getD,List.getElem?_eq_getElem hi]
   exact List.getElem_mem hi
  obtain⟨r,hr,hx⟩:=List.mem_flatten.1 hm
  obtain⟨a,ha,e⟩:=List.mem_iff_getElem.1 hr
  obtain⟨b,hb,e'⟩:=List.mem_iff_getElem.1 hx
  have aC:p.getD a []=r:=by rw[List.getD_eq_getElem?_getD,List.getElem?_eq_getElem ha];exact e
  have:=h a ha b (by rw[aC];exact hb)
  rw[aC,List.getD_eq_getElem?_getD (l:=r),List.getElem?_eq_getElem hb] at this
  rw[←e']
  exact this
 ·rw[List.getD_eq_getElem?_getD,List.getElem?_eq_none (by omega)]
  show-A≤0∧(0:Int)≤A
  omega
theorem vBv {p:gA}{N:Nat}(h:∀r∈p,r.length=N):p.flatten.length=p.length*N:=by
 induction p with
 |nil=>simp
 |cons r p ih=>
  rw[List.flatten_cons,List.length_append,List.length_cons,ih fun q hq=>h q (List.mem_cons_of_mem _ hq),h r (List.mem_cons_self ..),Nat.add_mul]
  omega
theorem yPw {k:Nat}(hk:500≤k){p:gA}(hw:Ot p)(a:List Ie)(b:gA)(m:AC):yt k a b m p=some (yp p&&yq p):=by
 have uF:=hw.1
 unfold yt
 rw[vKt (by omega) (by omega)]
 cases hs:yp p with
 |false=>rfl
 |true=>
  have iN:=qWp.1 hs
  have hb:=vIb hw iN
  simp only[aj,aU,ao,Bool.true_and]
  rcases vEe hk uF iN hb a b m with⟨h1,h2⟩|⟨h1,h2⟩
  ·rw[h1,h2]
   simp only[aj]
   have hz:=vGq iN h1
   have rj:p.flatten.length=p.length*p.length:=vBv fun r hr=>by
    obtain⟨i,hi,e⟩:=List.mem_iff_getElem.1 hr
    have:=iN i hi
    rw[List.getD_eq_getElem?_getD,List.getElem?_eq_getElem hi] at this
    rw[←e]
    exact this
   have aam:p.length*p.length≤20*20:=Nat.mul_le_mul uF uF
   rw [Oi (l := p.flatten) (by omega) (by omega) (fun i hi=>by
    have:=vFc (p:=p) (A:=1152921504606846976) (by omega) (fun i hi j hj=>hb i hi j (by rw[←iN i hi];exact hj)) i
    omega),hz]
   rfl
  ·rw[h1,h2]
   rfl
def nN (s c:Int):Int:=fP .u64 (shl .u64 s 8) (IntKind.wrap .u64 c)
def yu (b:AC):Int:=zA (b.foldl nN 0)
def pv:Nat→AC→AC
 |0,_=>[]
 |m+1,b=>yu (b.take 8)::pv m (b.drop 8)
theorem vG5 {x:AC}{i:Nat}(h:i<x.length)(s:Int):(x.take (i+1)).foldl nN s=nN ((x.take i).foldl nN s) (x.getD i 0):=by
 rw[←jM x i 0 h,List.foldl_append];rfl
theorem vDx {k:Nat}(hk:9≤k)(s0 x r0:AC)(hx:x.length=8):yv k k s0 0 x 8 0 r0=some (s0,x.foldl nN 0,r0):=by
 obtain ⟨s, h1, h2⟩ := vU (L := fun n i (s : Int) => yv k n s0 s x 8 i r0) (N := 8) (fun s => (s0, s, r0)) (fun i s => s = (x.take i).foldl nN 0) (fun n s _ => rfl) (fun n i s hi hs=>by
  refine⟨nN s (x.getD i 0),?_,by rw[vG5 (by omega),hs]⟩
  show Ih k (yv k n) s0 s x 8 (i:Int) r0=_
  unfold Ih
  rw[ah (show(i:Int)<8 by omega),an,jQ (by omega) (by omega),an,qM (N:=8) hi (by omega),aF]
  rfl) (n:=k) (s:=0) (by omega) rfl
 rw[List.take_of_length_le (by omega)] at h2
 subst h2
 exact h1
theorem yI6 {k:Nat}(hk:9≤k):∀(m n:Nat) (b r:AC),b.length=8*m→m<n→r.length+m≤17592186044416→yw k n b r=some (r++pv m b)
 |0,n,b,r,hb,hn,_=>by
  obtain⟨n,rfl⟩:∃x,n=x+1:=⟨n-1,by omega⟩
  show yx k (yw k n) b r=_
  unfold yx
  rw[ak (by omega),ao]
  simp[pv]
 |m+1,n,b,r,hb,hn,hr=>by
  obtain⟨n,rfl⟩:∃x,n=x+1:=⟨n-1,by omega⟩
  show yx k (yw k n) b r=_
  unfold yx
  have ht:(b.take 8).length=8:=by rw[List.length_take];omega
  have e8:((b.take 8).length:Int)=8:=by rw[ht];rfl
  rw[ah (show(b.length:Int)>0 by omega),an,ah (show(8:Int)≤(b.length:Int) by omega),an,e8,vDx hk _ _ _ ht,aj]
  dsimp only
  rw[qY (by omega) (by omega),an,ah (show(8:Int)≤(b.length:Int) by omega),an]
  rw[yI6 hk m n _ _ (by rw[List.length_drop];omega) (by omega) (by simp;omega)]
  show some ((r++[zA _])++pv m (b.drop 8))=_
  rw[List.append_assoc]
  rfl
theorem vBl (n:Nat):Int.tmod (n:Int) 8=((n%8:Nat):Int):=rfl
def eT (b:AC):AC×Int:=if b.length%8=0 then(pv (b.length/8) b,0) else([],2)
theorem qWw {k:Nat}{b:AC}(hk:9≤k)(hb:b.length<8*k)(bo:b.length≤140737488355328):mn k b=some (eT b):=by
 unfold mn eT
 rw[vBl]
 by_cases h:b.length%8=0
 ·rw[if_pos h,ah (by omega),yI6 hk (b.length/8) k b [] (by omega) (by omega) (by simp;omega)]
  rfl
 ·rw[if_neg h,ak (by omega)]
  rfl
def yIw:AC:=[(-1),6,1,2,2,2,1,1,2,0,2,2,2,0,0,0,1,5,4,1,1,1,1,1]
def yV (x:Int):Int:=if 0≤x∧x<24 then yIw.getD x.toNat 0 else-1
theorem Ii (k:Nat)(x:Int):sb k x=some (yV x):=by
 by_cases h:0≤x∧x<24
 ·obtain⟨n,rfl⟩:∃n:Nat,x=n:=⟨x.toNat,by omega⟩
  have hn:n<24:=by omega
  have:∀n:Nat,n<24→sb 0 (n:Int)=some (yV (n:Int)):=by decide
  exact this n hn
 ·have e:yV x= -1:=by unfold yV;rw[if_neg h]
  rw[e]
  unfold sb
  have ne:∀c:Int,0≤c→c<24→decide (x=c)=false:=fun c h1 h2=>ak (by omega)
  rw[ne 9 (by omega) (by omega),ne 13 (by omega) (by omega),ne 14 (by omega) (by omega),ne 15 (by omega) (by omega),ne 2 (by omega) (by omega),ne 6 (by omega) (by omega),ne 7 (by omega) (by omega),ne 16 (by omega) (by omega),
   ne 19 (by omega) (by omega),ne 20 (by omega) (by omega),ne 21 (by omega) (by omega),ne 22 (by omega) (by omega),ne 23 (by omega) (by omega),ne 3 (by omega) (by omega),ne 4 (by omega) (by omega),ne 5 (by omega) (by omega),ne 8 (by omega) (by omega),
   ne 10 (by omega) (by omega),ne 11 (by omega) (by omega),ne 12 (by omega) (by omega),ne 18 (by omega) (by omega),ne 17 (by omega) (by omega),ne 1 (by omega) (by omega)]
  rfl
abbrev El:Type:=Int×Int×Int×Int×Int×Int×Int
def gX (b:AC):El×Int:=
 if b=[] then((0,0,0,0,0,0,0),2)
 else if(eT (b.drop 1)).2≠0∨((eT (b.drop 1)).1.length:Int)≠yV (zA (b.getD 0 0)) then((0,0,0,0,0,0,0),2)
 else((zA (b.getD 0 0),(eT (b.drop 1)).1.getD 0 0,(eT (b.drop 1)).1.getD 1 0,(eT (b.drop 1)).1.getD 2 0,(eT (b.drop 1)).1.getD 3 0,(eT (b.drop 1)).1.getD 4 0,(eT (b.drop 1)).1.getD 5 0),0)
theorem vGp (l:AC)(i:Nat):(bif Nat.blt i l.length then l.getD i 0 else 0)=l.getD i 0:=by
 by_cases h:i<l.length
 ·rw[show Nat.blt i l.length=true by simp[Nat.blt_eq,h]];rfl
 ·rw[show Nat.blt i l.length=false by
   cases e:Nat.blt i l.length with
   |false=>rfl
   |true=>rw[Nat.blt_eq] at e;omega]
  rw[List.getD_eq_getElem?_getD,List.getElem?_eq_none (by omega)];rfl
theorem Ij {k:Nat}{b:AC}(hk:9≤k)(hb:b.length≤8*k)(bo:b.length≤140737488355328):lr k b=some (gX b):=by
 unfold lr gX
 cases b with
 |nil=>rfl
 |cons c l=>
  rw[if_neg (by simp)]
  have e0:((c::l).length:Int)=(l.length:Int)+1:=by simp
  rw[ak (by omega),ao,ah (show(1:Int)≤((c::l).length:Int) by omega),an,qWw hk (by simp at hb⊢;omega) (by simp at bo⊢;omega),aj]
  by_cases h:(eT (List.drop 1 (c::l))).2=0
  ·rw[ah h,jQ (by omega) (by simp),Ii]
   simp only[aU,ao,an,aj]
   by_cases h2:((eT (List.drop 1 (c::l))).1.length:Int)=yV (zA ((c::l).getD 0 0))
   ·rw[ah h2,if_neg (fun hh=>hh.elim (fun e=>e h) fun e=>e h2)]
    simp only[aU,ao,vGp]
   ·rw[ak h2,if_pos (.inr h2)]
    rfl
  ·rw[ak h,if_pos (.inl h)]
   rfl
theorem Ou (x:Int):yV x≤6:=by
 unfold yV
 split
 ·rename_i h
  obtain⟨n,rfl⟩:∃n:Nat,x=n:=⟨x.toNat,by omega⟩
  have:∀n:Nat,n<24→yIw.getD n 0≤6:=by decide
  exact this n (by omega)
 ·omega
abbrev wU:Type:=Int×Int×Int×Int×Int×Int×Int×Int
abbrev gC:Type:=Int×Int×AC×Int×Int
abbrev qO:Type:=Int×AC×Int×AC×Int×Int×Int×Bool×Bool×Int
abbrev vG:Type:=Int×Int×Int×Bool
abbrev Ik:Type:=Int×List (Int×Int)×Int×Int×Int
abbrev yy:Type:=Int×List (Int×Int×Int)×EQ×AC×EQ×AC×EQ×List (Int×Int×Int×Int×Int×Int×Int)×AC×Int×Bool
abbrev gD:Type:=Int×List (Int×Int)×Int×Int×Int×Int×List (Int×Int×Int)×EQ×AC×EQ×AC×EQ×List (Int×Int×Int×Int×Int×Int×Int)×AC×Int×Bool×Int×Bool
abbrev yz:Type:=Int×Int×Bool×Bool
def d0:gC:=(0,0,[],0,0)
def zI (ev:Int)(acts:List gC)(n i:Int)(R:Ik)(c:yz)(D:qO)(G:gD)(L:vG)(c2:yz)(outs:List (List wU))(asked:List wU):=
 (ev,acts,n,i,R,c,((D.1,D.2.2.1,D.2.2.2.2):Int×Int×Int×Int×Int×Bool×Bool×Int),D.2.1,D.2.2.2.1,G,L,c2,outs,asked)
section
variable {k:Nat} {rec:uG} {ev n i:Int} {acts:List gC} {R:Ik} {c c2:yz} {D:qO} {G:gD} {L:vG} {outs:List (List wU)} {asked:List wU}
theorem sd (h:outs.length≤1000000):zU (outs.length+1) 24=true:=qY (by omega) (by omega)
theorem yZz {e}{D1 D2:qO}{G':gD}{L':vG}{er}(hi:i<n)(h0:0≤i)(hl:i<acts.length)(ha:acts.getD i.toNat d0=(3,e))
  (h1:za k D=some D1) (h2:iO k R D1 ev=some (.inl (er,D2,G',L'))) (ho:outs.length≤1000000):
  gY k rec (.inl (zI ev acts n i R c D G L c2 outs asked))=rec (.inl (zI ev acts n (zA (i+1)) R c D2 G' L' c2 (outs++[[]]) asked)):=by
 unfold gY
 dsimp only[zI]
 rw[ah hi,an,jQ h0 hl,an]
 rw[show List.getD acts i.toNat (0,0,[],0,0)=(3,e) from ha]
 dsimp only
 rw[ak (by decide),ao,ak (by decide),ao,ah rfl,an,h1,aj,h2,aj]
 dsimp only
 rw[sd ho,an]
theorem vF3 {q}(hi:i<n)(h0:0≤i)(hl:i<acts.length)(ha:acts.getD i.toNat d0=q)(h1:q.1≠1)(h2:q.1≠2)(h3:q.1≠3)(ho:outs.length≤1000000):
  gY k rec (.inl (zI ev acts n i R c D G L c2 outs asked))=rec (.inl (zI ev acts n (zA (i+1)) R c D G L c2 (outs++[[]]) asked)):=by
 unfold gY
 dsimp only[zI]
 rw[ah hi,an,jQ h0 hl,an]
 rw[show List.getD acts i.toNat (0,0,[],0,0)=q from ha]
 rw[ak h1,ao,ak h2,ao,ak h3,ao,sd ho,an]
theorem yPk (hi:¬i<n):gY k rec (.inl (zI ev acts n i R c D G L c2 outs asked))=some (.inr (c,G,L,(D.1,D.2.2.1,D.2.2.2.2),D.2.1,D.2.2.2.1,c2,outs,asked)):=by
 unfold gY
 dsimp only[zI]
 grind
end
abbrev dkW (ro:Int)(x:AC)(sx:Int)(y:AC)(sy cA cK op:Int):qO:=(ro,x,sx,y,sy,cA,cK,false,false,op)
section
variable {k:Nat} {ro sx sy cA cK op:Int} {x y b:AC}
end
def yU (n:Int)(i:Nat):Int:=IntKind.wrap .u8 (shr .i64 n (8*(i:Int)))
def qX (n:Int):AC:=[yU n 7,yU n 6,yU n 5,yU n 4,yU n 3,yU n 2,yU n 1,yU n 0]
def yQ (l:AC):AC:=l.flatMap qX
theorem lu:∀l,(yQ l).length=8*l.length
 |[]=>rfl
 |n::l=>by
  have:=lu l
  simp[yQ] at this⊢
  rw[this]
  simp[qX]
  omega
theorem vFv {k n} v (i:Nat)(hi:i≤7) bK bV bn r (hr:r.length≤1000000000):
  se k (n+1) v (i:Int) bK bV bn r=se k n v ((i:Int)-1) bK bV bn (r++[yU v i]):=by
 show Il k (se k n) v (i:Int) bK bV bn r=_
 unfold Il
 have e8:zA (8*(i:Int))=8*(i:Int):=qH (by omega) (by omega)
 rw[ah (by simp),an,e8,ak (by omega),dZ,an,qY (by omega) (by omega),an,qH (by omega) (by omega)]
 rfl
theorem yNj {k}(hk:9≤k) v bK bV bn r (hr:r.length≤100000000):
  se k k v 7 bK bV bn r=some (bK,bV,bn,r++qX v):=by
 have gen:∀m,se k (m+9) v 7 bK bV bn r=some (bK,bV,bn,r++qX v):=fun m=>by
  have h:=fun n i hi r' jn=>vFv (k:=k) (n:=n) v i hi bK bV bn r' jn
  have h7:=h (m+8) 7 (by omega) r (by omega)
  have h6:=h (m+7) 6 (by omega) (r++[yU v 7]) (by grind)
  have h5:=h (m+6) 5 (by omega) ((r++[yU v 7])++[yU v 6]) (by grind)
  have h4:=h (m+5) 4 (by omega) (((r++[yU v 7])++[yU v 6])++[yU v 5]) (by grind)
  have h3:=h (m+4) 3 (by omega) ((((r++[yU v 7])++[yU v 6])++[yU v 5])++[yU v 4]) (by grind)
  have h2:=h (m+3) 2 (by omega) (((((r++[yU v 7])++[yU v 6])++[yU v 5])++[yU v 4])++[yU v 3]) (by grind)
  have h1:=h (m+2) 1 (by omega) ((((((r++[yU v 7])++[yU v 6])++[yU v 5])++[yU v 4])++[yU v 3])++[yU v 2]) (by simp;omega)
  have h0:=h (m+1) 0 (by omega) (((((((r++[yU v 7])++[yU v 6])++[yU v 5])++[yU v 4])++[yU v 3])++[yU v 2])++[yU v 1]) (by simp;omega)
  refine(h7.trans (h6.trans (h5.trans (h4.trans (h3.trans (h2.trans (h1.trans (h0.trans ?_))))))))
  show some (bK,bV,bn,_)=_
  simp only[List.append_assoc,List.cons_append,List.nil_append]
  rfl
 obtain⟨m,rfl⟩:∃m,k=m+9:=⟨k-9,by omega⟩
 exact gen m
theorem yC4 {k}(hk:9≤k) l (hl:l.length≤1000000):∀(m n i:Nat),i+m=l.length→m<n→uH k n l (l.length:Int) (i:Int) (yQ (l.take i))=some (yQ l)
 |0,n,i,hi,hn=>by
  obtain⟨n,rfl⟩:∃x,n=x+1:=⟨n-1,by omega⟩
  show zb k (uH k n) l _ _ _=_
  unfold zb
  simp_all
 |m+1,n,i,hi,hn=>by
  obtain⟨n,rfl⟩:∃x,n=x+1:=⟨n-1,by omega⟩
  show zb k (uH k n) l _ _ _=_
  unfold zb
  have aX:i<l.length:=by omega
  rw[ah (by grind),an,jQ (by omega) (by omega),an,aF,
   yNj hk _ _ _ _ _ (by rw[lu,List.length_take];omega),aj,qM (N:=l.length) aX (by omega)]
  rw[show yQ (l.take i)++qX (l.getD i 0)=yQ (l.take (i+1)) by
   rw[←jM l i 0 aX]
   simp[yQ]]
  exact yC4 hk l hl m n (i+1) (by omega) (by omega)
theorem Em {k}(hk:9≤k) l (hl:l.length≤1000000)(re:l.length<k):sf k l=some (yQ l):=by
 unfold sf
 have h8:zA (8*(l.length:Int))=((8*l.length:Nat):Int):=by rw[qH (by omega) (by omega)];omega
 rw[h8]
 have hm:uj 0 ((8*l.length:Nat):Int) 1=true:=by
  grind
 rw[hm,an]
 have:=yC4 hk l hl l.length k 0 (by omega) re
 show(uH k k l (l.length:Int) ((0:Nat):Int) (yQ (l.take 0))).bind _=_
 simp_all
def vR (l:AC):AC:=qX (l.length:Int)++yQ l
theorem vCu {k}(hk:9≤k) l (hl:l.length≤1000000)(re:l.length<k):Im k l=some (vR l):=by
 unfold Im
 rw[Em hk [(l.length:Int)] (by simp) (by grind),aj,Em hk l hl re,aj]
 rw[qY (by rw[lu,lu];grind) (by rw[lu,lu];grind)]
 rfl
def vM (b:AC):AC:=[IntKind.wrap .u8 (shr .i64 (b.length:Int) 8),IntKind.wrap .u8 (b.length:Int)]++b
theorem qQ6 k b:En k b=some (if b.length≤60000 then(vM b,true) else([],false)):=by
 unfold En
 by_cases h:b.length≤60000
 ·rw[ak (by omega),ao,qY (by omega) (by omega),if_pos h]
  rfl
 grind
theorem yM6 (x:Nat)(hx:x<18446744073709551616):(BitVec.ofInt 64 (x:Int)).toNat=x:=by
 rw[BitVec.ofInt_natCast,BitVec.toNat_ofNat]
 exact Nat.mod_eq_of_lt hx
theorem qTh (a c:Nat)(hc:c<256)(ha:a*256+c<18446744073709551616):(BitVec.ofInt 64 ((a*256:Nat):Int)|||BitVec.ofInt 64 (c:Int)).toNat=a*256+c:=by
 rw[BitVec.toNat_or,yM6 _ (by omega),yM6 _ (by omega)]
 have:=Nat.two_pow_add_eq_or_of_lt (b:=c) (i:=8) hc a
 rw[show(2:Nat)^8*a=a*256 by omega] at this
 exact this.symm
theorem Io (x:Int):IntKind.wrap .u8 x=x%256:=by
 unfold IntKind.wrap
 simp[IntKind.bits,IntKind.signed]
theorem Ov (x:Int):IntKind.wrap .u64 x=x%18446744073709551616:=by
 unfold IntKind.wrap
 simp[IntKind.bits,IntKind.signed]
theorem vEo {s c:Int}(hs:0≤s)(hc:0≤c∧c<256):nN s c=(s*256+c)%18446744073709551616:=by
 unfold nN
 have e1:shl .u64 s 8=(s*256)%18446744073709551616:=Ov _
 rw[e1,Ov c]
 obtain⟨a,ha⟩:∃a:Nat,s%72057594037927936=a:=⟨(s%72057594037927936).toNat,by omega⟩
 obtain⟨d,rfl⟩:∃d:Nat,c=d:=⟨c.toNat,by omega⟩
 have e2:(s*256)%18446744073709551616=((a*256:Nat):Int):=by omega
 have e3:(d:Int)%18446744073709551616=(d:Int):=by omega
 rw[e2,e3]
 show IntKind.wrap .u64 (((BitVec.ofInt 64 ((a*256:Nat):Int)|||BitVec.ofInt 64 (d:Int)).toNat:Nat):Int)=_
 rw[qTh a d (by omega) (by omega),Ov]
 omega
theorem yNu (n:Int)(i:Nat)(hi:i≤7):yU n i=(n/2^(8*i))%256:=by
 unfold yU
 rw[Io]
 congr 1
 show n.fdiv (2^(min (8*(i:Int)).toNat 64))=_
 rw[show min (8*(i:Int)).toNat 64=8*i by omega]
 exact Int.fdiv_eq_ediv_of_nonneg _ (Int.le_of_lt (Int.pow_pos (by decide)))
theorem vAw {n:Int}(h1:-9223372036854775808≤n)(h2:n<9223372036854775808):yu (qX n)=n:=by
 have o:=fun i (hi:i≤7)=>yNu n i hi
 have b:∀i,i≤7→0≤yU n i∧yU n i<256:=fun i hi=>by rw[o i hi];omega
 have p:∀s:Int,0≤s→∀i,i≤7→nN s (yU n i)=(s*256+yU n i)%18446744073709551616:=fun s hs i hi=>vEo hs (b i hi)
 unfold yu qX
 simp only[List.foldl_cons,List.foldl_nil]
 rw[p 0 (by omega) 7 (by omega),p _ (by omega) 6 (by omega),p _ (by omega) 5 (by omega),p _ (by omega) 4 (by omega),p _ (by omega) 3 (by omega),p _ (by omega) 2 (by omega),p _ (by omega) 1 (by omega),p _ (by omega) 0 (by omega)]
 rw[o 7 (by omega),o 6 (by omega),o 5 (by omega),o 4 (by omega),o 3 (by omega),o 2 (by omega),o 1 (by omega),o 0 (by omega)]
 simp only[Nat.reduceMul,Int.reducePow]
 unfold zA IntKind.wrap
 simp only[IntKind.bits,IntKind.signed,Bool.true_and]
 simp
 split<;>omega
def qV (l:EQ):AC:=l.flatMap vR
theorem jz l:(vR l).length=8*(l.length+1):=by
 simp[vR,lu]
 show 8+_=_
 omega
theorem vA2 {l:EQ}{i}(h:i<l.length):qV (l.take i)++vR (l.getD i [])=qV (l.take (i+1)):=by
 rw[←jM l i [] h]
 simp[qV]
structure jH (l:EQ):Prop where
 n:l.length≤900
 r:∀x∈l,x.length≤900
theorem vA3 {l}(h:∀x∈l,x.length≤900):(qV l).length≤8000*l.length:=by
 induction l with
 |nil=>simp[qV]
 |cons x l ih=>
  have h1:=ih (by grind)
  have h2:=h x (by simp)
  simp[qV,jz] at h1⊢
  omega
theorem yPb {k}(hk:1000≤k){l}(h:jH l):Eo k l=some (qV l):=by
 have hn:=h.n
 unfold Eo
 obtain ⟨s, h1, h2⟩ := vU (L := fun n i (s : AC) => zc k n l (l.length : Int) i s) (N := l.length) (fun s => s) (fun i s => s = qV (l.take i)) (fun n s _=>by
  show zd k (zc k n) l _ _ s=_
  unfold zd
  simp) (fun n i s hi hs=>by
  refine⟨s++vR (l.getD i []),?_,by rw[hs,vA2 hi]⟩
  show zd k (zc k n) l _ (i:Int) s=_
  unfold zd
  have hr:=h.r _ (jR (d:=[]) hi)
  have xS:s.length≤8000*1000:=by
   have:=vA3 (l:=l.take i) fun x hx=>h.r x (by grind)
   grind
  rw[ah (by grind),an,jQ (by omega) (by omega),an,aF,vCu (by omega) _ (by omega) (by omega),aj,
   qY (by rw[jz];omega) (by rw[jz];omega),an,qM (N:=l.length) hi (by omega)]) (n:=k) (s:=[]) (by omega) rfl
 simp_all
def fR (a:Int×Int×Int):AC:=[a.1,a.2.1,a.2.2]
def dJ (p:Int×Int×Int×Int×Int×Int×Int):AC:=[p.1,p.2.1,p.2.2.1,p.2.2.2.1,p.2.2.2.2.1,p.2.2.2.2.2.1,p.2.2.2.2.2.2]
def dK (s:yy):EQ:=
 (((((([[s.1,s.2.2.2.2.2.2.2.2.2.1,bif s.2.2.2.2.2.2.2.2.2.2 then 1 else 0,(s.2.1.length:Int),(s.2.2.1.length:Int),(s.2.2.2.1.length:Int),(s.2.2.2.2.1.length:Int),(s.2.2.2.2.2.2.1.length:Int),(s.2.2.2.2.2.2.2.1.length:Int)]]++
  s.2.1.map fR)++s.2.2.1)++[s.2.2.2.1])++s.2.2.2.2.1)++[s.2.2.2.2.2.1])++s.2.2.2.2.2.2.1)++s.2.2.2.2.2.2.2.1.map dJ++[s.2.2.2.2.2.2.2.2.1]
theorem yK8 {α β:Type}(f:α→β) d {l:List α}{i}(h:i<l.length):(l.take i).map f++[f (l.getD i d)]=(l.take (i+1)).map f:=by
 rw[←jM l i d h];simp
theorem vD6 {k}{l:List (Int×Int×Int)}(hl:l.length≤900)(hk:1000≤k)(s:yy)(b) r (hr:r.length≤1000000):uI k k l (l.length:Int) 0 s b r=some (s,b,r++l.map fR):=by
 obtain ⟨t, h1, h2⟩ := vU (L := fun n i (t : EQ) => uI k n l (l.length : Int) i s b t) (N := l.length) (fun t => (s, b, t)) (fun i t => t = r ++ (l.take i).map fR) (fun n t _=>by
  show ze k (uI k n) l _ _ s b t=_
  unfold ze
  simp) (fun n i t hi ht=>by
  refine⟨t++[fR (l.getD i (0,0,0))],?_,by rw[ht,List.append_assoc,yK8 fR (0,0,0) hi]⟩
  show ze k (uI k n) l _ (i:Int) s b t=_
  unfold ze
  have:t.length≤1001000:=by grind
  rw[ah (by grind),an,jQ (by omega) (by omega),an,qY (by omega) (by omega),an,qM (N:=l.length) hi (by omega)]
  rfl) (n:=k) (s:=r) (by omega) (by simp)
 simp_all
theorem yR8 {k}{l:List (Int×Int×Int×Int×Int×Int×Int)}(hl:l.length≤900)(hk:1000≤k)(s:yy) r (hr:r.length≤1000000):uJ k k l (l.length:Int) 0 s r=some (s,r++l.map dJ):=by
 obtain ⟨t, h1, h2⟩ := vU (L := fun n i (t : EQ) => uJ k n l (l.length : Int) i s t) (N := l.length) (fun t => (s, t)) (fun i t => t = r ++ (l.take i).map dJ) (fun n t _=>by
  show zg k (uJ k n) l _ _ s t=_
  unfold zg
  simp) (fun n i t hi ht=>by
  refine⟨t++[dJ (l.getD i (0,0,0,0,0,0,0))],?_,by rw[ht,List.append_assoc,yK8 dJ (0,0,0,0,0,0,0) hi]⟩
  show zg k (uJ k n) l _ (i:Int) s t=_
  unfold zg
  have:t.length≤1001000:=by grind
  rw[ah (by grind),an,jQ (by omega) (by omega),an,qY (by omega) (by omega),an,qM (N:=l.length) hi (by omega)]
  rfl) (n:=k) (s:=r) (by omega) (by simp)
 simp_all
theorem qV6 {k}(hk:1000≤k){s}(h:jH (dK s)):fq k s=some (qV (dK s)):=by
 have hn:=h.n
 simp only[dK,List.length_append,List.length_map] at hn
 unfold fq
 rw[show Ip k s.2.2.2.2.2.2.2.2.2.2=some (bif s.2.2.2.2.2.2.2.2.2.2 then 1 else 0) by unfold Ip;grind,aj]
 rw[vD6 (by omega) hk _ _ _ (by simp),aj]
 dsimp only
 rw[qY (by grind) (by grind),an,qY (by grind) (by grind),an,qY (by simp;omega) (by grind),an,qY (by simp;omega) (by simp;omega),an,
  qY (by simp;omega) (by simp;omega),an,yR8 (by omega) hk _ _ (by simp;omega),aj]
 dsimp only
 rw[qY (by simp;omega) (by simp;omega),an]
 show(Eo k (dK s)).bind (fun x1=>some x1)=_
 rw[yPb hk h]
 rfl
structure Ow (D:qO):Prop where
 aaa:D.2.2.2.2.2.2.2.1=false
 down:D.2.2.2.2.2.2.2.2.1=false
 room:0≤D.1∧D.1≤200000
 x:(D.2.1.length:Int)≤D.1
 y:(D.2.2.2.1.length:Int)≤D.1
def yK (D:qO)(i:Int):AC:=if i=0 then D.2.1 else D.2.2.2.1
theorem Ow.as {D}(h:Ow D):∃ro x sx y sy cA cK op,D=dkW ro x sx y sy cA cK op∧0≤ro∧ro≤200000∧(x.length:Int)≤ro∧(y.length:Int)≤ro:=by
 obtain⟨ro,x,sx,y,sy,cA,cK,ar,dn,op⟩:=D
 obtain⟨h1,h2,h3,h4,h5⟩:=h
 subst h1;subst h2
 grind
structure vLv (L:vG):Prop where
 side:L.1=0∨L.1=1
 gen:1≤L.2.1∧L.2.1≤4611686018427387904
 rows:0≤L.2.2.1∧L.2.2.1≤1000000
 stale:L.2.2.2=false
theorem pw b:(vM b).length=b.length+2:=by rfl
def lv (l:AC):Prop:=∀x∈l,-9223372036854775808≤x∧x<9223372036854775808
theorem qYt:∀{l:AC},lv l→pv l.length (yQ l)=l
 |[],_=>rfl
 |n::l,h=>by
  have h1:=h n (List.mem_cons_self ..)
  have e:yQ (n::l)=qX n++yQ l:=by simp[yQ]
  rw[e]
  show yu ((qX n++yQ l).take 8)::pv l.length ((qX n++yQ l).drop 8)=_
  have t:(qX n++yQ l).take 8=qX n:=rfl
  have d:(qX n++yQ l).drop 8=yQ l:=rfl
  rw[t,d,vAw h1.1 h1.2,qYt fun x hx=>h x (List.mem_cons_of_mem _ hx)]
theorem qSr {l:AC}(h:lv l):eT (yQ l)=(l,0):=by
 unfold eT
 have:=lu l
 rw[if_pos (by omega),show(yQ l).length/8=l.length by omega,qYt h]
theorem yCv {k:Nat}(hk:9≤k){l:AC}(hl:l.length<k)(hm:l.length≤1000000)(h:lv l):mn k (yQ l)=some (l,0):=by
 have:=lu l
 rw[qWw hk (by omega) (by omega),qSr h]
theorem Ox {k:Nat}(hk:9≤k){n:Int}(h:-9223372036854775808≤n∧n<9223372036854775808):mn k (qX n)=some ([n],0):=by
 have e:qX n=yQ [n]:=by simp[yQ]
 rw[e]
 exact yCv hk (by simp;omega) (by simp) fun x hx=>by rw[List.mem_singleton.1 hx];exact h
theorem yNn {k:Nat}(hk:9≤k){l:AC}(hl:l.length<k)(hm:l.length≤100000)(h:lv l)(b:AC)(hb:b.length≤1000000):Iq k (vR l++b)=some (l,b,true):=by
 have lz:=lu l
 have hlen:(vR l++b).length=8+8*l.length+b.length:=by
  rw[List.length_append,vR,List.length_append,lz];rfl
 have t:(vR l++b).take 8=qX (l.length:Int):=rfl
 have d:(vR l++b).drop 8=yQ l++b:=rfl
 unfold Iq
 rw[ak (by omega),ao,ah (by omega),an,t,Ox hk (by omega),aj,d]
 have uK:(yQ l++b).length=8*l.length+b.length:=by rw[List.length_append,lz]
 have w1:zA (Int.tdiv ((yQ l++b).length:Int) 8)=((l.length+b.length/8:Nat):Int):=by
  rw[uK]
  have:Int.tdiv ((8*l.length+b.length:Nat):Int) 8=(((8*l.length+b.length)/8:Nat):Int):=rfl
  rw[this,qH (by omega) (by omega)]
  congr 1
  omega
 have w2:zA (8*(l.length:Int))=((8*l.length:Nat):Int):=by rw[qH (by omega) (by omega)];omega
 have bd:zD 0 [(l.length:Int)].length=true:=rfl
 simp only[List.getD_cons_zero,bd,an]
 rw[ak (show¬(l.length:Int)<0 by omega),w1,w2,ak (show¬(l.length:Int)>((l.length+b.length/8:Nat):Int) by omega),ah (show(0:Int)≤((8*l.length:Nat):Int) by omega),
  ah (show((8*l.length:Nat):Int)≤((yQ l++b).length:Int) by omega),aF,show List.take (8*l.length) (yQ l++b)=yQ l from List.take_left' lz,show List.drop (8*l.length) (yQ l++b)=b from List.drop_left' lz]
 simp only[an,ao,Bool.and_self]
 rw[yCv hk hl (by omega) h]
 rfl
def uL (b:AC):Int:=fP .i64 (shl .i64 (zA (b.getD 0 0)) 8) (zA (b.getD 1 0))
def Cut (b:AC):Prop:=b.length<2∨uL b>60000∨uL b>(b.length:Int)-2
def wQ (l:EQ):AC:=l.flatMap vM
theorem yG0 {r:AC}(hr:r.length≤60000){b:AC}(h0:b.getD 0 0=(vM r).getD 0 0)(h1:b.getD 1 0=(vM r).getD 1 0):uL b=(r.length:Int):=by
 unfold uL
 rw[h0,h1]
 have e0:(vM r).getD 0 0=((r.length/256:Nat):Int):=by
  show IntKind.wrap .u8 (shr .i64 (r.length:Int) 8)=_
  rw[Io]
  have:shr .i64 (r.length:Int) 8=((r.length/256:Nat):Int):=by
   show(r.length:Int).fdiv (2^8)=_
   rw[Int.fdiv_eq_ediv_of_nonneg _ (by decide)]
   rfl
  rw[this]
  omega
 have e1:(vM r).getD 1 0=((r.length%256:Nat):Int):=by
  show IntKind.wrap .u8 (r.length:Int)=_
  rw[Io]
  omega
 rw[e0,e1,qH (by omega) (by omega),qH (by omega) (by omega)]
 have e2:shl .i64 ((r.length/256:Nat):Int) 8=((r.length/256*256:Nat):Int):=by
  show zA (((r.length/256:Nat):Int)*2^8)=_
  rw[show((r.length/256:Nat):Int)*2^8=((r.length/256*256:Nat):Int) by omega]
  exact qH (by omega) (by omega)
 rw[e2]
 show IntKind.wrap .i64 (((BitVec.ofInt 64 ((r.length/256*256:Nat):Int)|||BitVec.ofInt 64 ((r.length%256:Nat):Int)).toNat:Nat):Int)=_
 rw[qTh _ _ (by omega) (by omega)]
 have:=qH (x:=((r.length/256*256+r.length%256:Nat):Int)) (by omega) (by omega)
 unfold zA at this
 rw[this]
 omega
theorem yIn {r:AC}(hr:r.length≤60000){j:Nat}(hj:j<r.length+2):Cut ((vM r).take j):=by
 have hl:=pw r
 by_cases h:j<2
 ·left
  rw[List.length_take];omega
 ·right;right
  have g:∀i,i<2→((vM r).take j).getD i 0=(vM r).getD i 0:=fun i hi=>by
   rw[List.getD_eq_getElem?_getD,List.getD_eq_getElem?_getD,List.getElem?_take_of_lt (by omega)]
  rw[yG0 hr (g 0 (by omega)) (g 1 (by omega)),List.length_take]
  omega
theorem zh:Cut []:=.inl (by decide)
theorem yLm {k:Nat}{t:AC}(ht:Cut t)(oN:t.length≤1000000):∀(l:EQ) (n:Nat) (r:EQ),(∀x∈l,x.length≤60000)→l.length<n→(wQ l).length≤1000000→r.length+l.length≤1000000→zi k n (wQ l++t) r=some (t,r++l)
 |[],n,r,_,hn,_,_=>by
  obtain⟨n,rfl⟩:∃m,n=m+1:=⟨n-1,by omega⟩
  rw[List.append_nil]
  show zj k (zi k n) t r=_
  unfold zj
  by_cases h2:t.length<2
  ·rw[ak (by omega)];rfl
  ·rw[ah (by omega),jQ (by omega) (by omega),jQ (by omega) (by omega)]
   simp only[an]
   have e:fP .i64 (shl .i64 (zA (t.getD 0 0)) 8) (zA (t.getD 1 0))=uL t:=rfl
   rw[e,qH (x:=(t.length:Int)-2) (by omega) (by omega)]
   by_cases h3:uL t>60000
   ·rw[ah h3];rfl
   ·rw[ak h3,ah (show uL t>(t.length:Int)-2 by rcases ht with h|h|h;exact absurd h h2;exact absurd h h3;exact h)]
    rfl
 |x::l,n,r,hl,hn,hb,hr=>by
  obtain⟨n,rfl⟩:∃m,n=m+1:=⟨n-1,by omega⟩
  have hx:=hl x (List.mem_cons_self ..)
  have ex:wQ (x::l)=vM x++wQ l:=by simp[wQ]
  have hxl:=pw x
  rw[ex,List.length_append] at hb
  have ih:=yLm (k:=k) ht oN l n (r++[x]) (fun y hy=>hl y (List.mem_cons_of_mem _ hy)) (by simp at hn;omega) (by omega) (by rw[List.length_append];simp at hr⊢;omega)
  rw[ex,List.append_assoc]
  obtain⟨B,hB⟩:∃B,wQ l++t=B:=⟨_,rfl⟩
  rw[hB] at ih⊢
  have ZX:B.length≤2000000:=by rw[←hB,List.length_append];omega
  have hlen:(vM x++B).length=x.length+2+B.length:=by rw[List.length_append,hxl]
  show zj k (zi k n) (vM x++B) r=_
  unfold zj
  rw[ah (by omega),jQ (by omega) (by omega),jQ (by omega) (by omega)]
  simp only[an]
  have e:fP .i64 (shl .i64 (zA ((vM x++B).getD 0 0)) 8) (zA ((vM x++B).getD 1 0))=(x.length:Int):=yG0 hx rfl rfl
  have hs:qW (vM x++B) 2 (x.length+2-2)=x:=by
   unfold qW
   show List.take (x.length+2-2) (x++B)=x
   exact List.take_left' (by omega)
  have hd:List.drop (x.length+2) (vM x++B)=B:=List.drop_left' hxl
  have w2:zA (2+(x.length:Int))=((x.length+2:Nat):Int):=by rw[qH (by omega) (by omega)];omega
  rw[e,w2,qH (x:=((vM x++B).length:Int)-2) (by omega) (by omega),ak (show¬(x.length:Int)>60000 by omega),ak (show¬(x.length:Int)>((vM x++B).length:Int)-2 by omega),aF,hs,hd,
   ah (show(2:Int)≤((x.length+2:Nat):Int) by omega),ah (show(0:Int)≤((x.length+2:Nat):Int) by omega),ah (show((x.length+2:Nat):Int)≤((vM x++B).length:Int) by omega),qY (by omega) (by omega),qY (by simp at hr;omega) (by simp at hr;omega)]
  simp only[ao,Bool.and_self,an]
  rw[ih,List.append_assoc]
  rfl
theorem qXi {k:Nat}{t:AC}(ht:Cut t)(oN:t.length≤1000000){l:EQ}(hl:∀x∈l,x.length≤60000)(hn:l.length<k)(hm:l.length≤1000000)(hb:(wQ l).length≤1000000):Ep k (wQ l++t)=some (l,(t.length:Int)):=by
 unfold Ep
 rw[yLm ht oN l k [] hl hn hb (by simpa using hm)]
 rfl
abbrev qT:=Int×Int×Int
abbrev zC:=Int×Int×Int×Int×Int×Int×Int
def dq (a:qT):Bool:=decide (a.1>-4611686018427387904)&&(decide (a.1<4611686018427387904)&&(decide (a.2.1≥0)&&(decide (a.2.1≤2305843009213693952)&&(decide (a.2.2≥0)&&decide (a.2.2≤2305843009213693952)))))
def vX (n:Int):Bool:=decide (n≥-1)&&decide (n≤2305843009213693952)
def dL (n:Int):Bool:=decide (n>-72057594037927936)&&decide (n<72057594037927936)
def cell (m:EQ)(i j:Nat):Int:=(m.getD i []).getD j 0
def j0 (n:Nat)(m:EQ):Bool:=decide (m.length=n)&&qD (fun i=>decide ((m.getD i []).length=n)) n 0
def mo (p:Int→Bool)(n:Nat)(m:EQ):Bool:=qD (fun i=>qD (fun j=>p (cell m i j)) n 0) n 0
def px (n:Nat)(m:EQ):Bool:=qD (fun i=>qD (fun j=>decide (cell m i j=zA (0-cell m j i))) n 0) n 0
def j3 (sg:List qT)(bil:EQ)(mul:AC)(pos:EQ):Bool:=
 let n:=sg.length
 decide (1≤n)&&(decide (n≤6)&&(j0 n bil&&(j0 n pos&&(decide (mul.length=n)&&(qD (fun i=>dq (sg.getD i (0,0,0))) n 0&&(qD (fun i=>vX (mul.getD i 0)) n 0&&(mo vX n bil&&(mo dL n pos&&px n pos))))))))
theorem qXp (k:Nat)(b c r:Int):Oy k b c r=some (dq (b,c,r)):=by
 unfold Oy dq
 cases decide (b>-4611686018427387904)<;>cases decide (b<4611686018427387904)<;>cases decide (c≥0)<;>cases decide (c≤2305843009213693952)<;>cases decide (r≥0)<;>rfl
theorem yLg (k:Nat)(b c r:Int):Ir k b c r=some (dq (b,c,r)):=qXp k b c r
theorem Oz (k:Nat)(n:Int):Is k n=some (vX n):=by
 unfold Is vX
 cases decide (n≥-1)<;>rfl
theorem yOg (k:Nat)(n:Int):OA k n=some (vX n):=Oz k n
theorem vH8 (k:Nat)(n:Int):Iu k n=some (dL n):=by
 unfold Iu dL
 cases decide (n>-72057594037927936)<;>rfl
theorem yMo {k:Nat}{n:Nat}(hk:n<k)(hn:n≤1000)(m:EQ):Iv k m n=some (j0 n m):=by
 unfold Iv j0
 simp only[rT]
 by_cases h:m.length=n
 ·have := pn (L := fun c i => OB k c m n i) (N := n) (fun i => decide ((m.getD i []).length = n)) (.inl ()) (.inr false) (fun c=>by
    show Er k _ m n n=_
    unfold Er
    simp only [qJ, ak (Nat.lt_irrefl n), ao]) (fun c i hi=>by
    show Er k _ m n i=_
    unfold Er
    simp only[qL,qM hi (by omega),qJ,rT,aF,h,ah hi,an]
    cases decide ((m.getD i []).length=n)<;>rfl) hk
  simp only[h,decide_true,aU,ao,Bool.true_and]
  rw[this]
  generalize qD _ _ _=r
  cases r<;>rfl
 ·simp only[ak h,dZ,an,Bool.false_and]
theorem vEq {k:Nat}{N i:Nat}(hk:N<k)(hN:N≤1000)(hi:i<N){a:List qT}{b p:EQ}{m:AC}(hb:b.length=N)(hp:p.length=N)(OC:∀j,j<N→(b.getD j []).length=N)(mq:∀j,j<N→(p.getD j []).length=N):
  Iw k k N i 0 a b m p=some (bif qD (fun j=>vX (cell b i j)&&(dL (cell p i j)&&decide (cell p i j=zA (0-cell p j i)))) N 0 then .inl ((N:Int),(i:Int),a,b,m,p) else .inr false):=by
 refine pn (L:=fun c j=>Iw k c N i j a b m p) (N:=N) _ (.inl ((N:Int),(i:Int),a,b,m,p)) (.inr false) (fun c=>?_) (fun c j hj=>?_) hk
 ·show Es k _ N i N a b m p=_
  unfold Es
  simp only[qJ,ak (Nat.lt_irrefl N),ao]
 ·show Es k _ N i j a b m p=_
  unfold Es
  simp only[qL,qM hj (by omega),qJ,aF,hb,hp,OC i hi,mq i hi,mq j hj,ah hj,ah hi,an,Oz,aj,dL]
  show(bif !vX (cell b i j) then _ else bif decide (cell p i j≤_) then _ else bif decide (cell p i j≥_) then _ else bif !decide (cell p i j=_) then _ else _)=_
  have e1:decide (cell p i j≤-72057594037927936)= !decide (cell p i j>-72057594037927936):=by
   by_cases h:cell p i j≤-72057594037927936
   ·rw[ah h,ak (by omega)];rfl
   ·rw[ak h,ah (by omega)];rfl
  have e2:decide (cell p i j≥72057594037927936)= !decide (cell p i j<72057594037927936):=by
   by_cases h:cell p i j≥72057594037927936
   ·rw[ah h,ak (by omega)];rfl
   ·rw[ak h,ah (by omega)];rfl
  rw[e1,e2]
  show(bif !vX (cell b i j) then _ else bif _ then _ else bif _ then _ else bif !decide (cell p i j=zA (0-cell p j i)) then _ else _)=_
  cases vX (cell b i j)<;>cases decide (cell p i j>-72057594037927936)<;>cases decide (cell p i j<72057594037927936)<;>cases decide (cell p i j=zA (0-cell p j i))<;>rfl
theorem yY8 {k:Nat}{N:Nat}(hk:N<k)(hN:N≤1000){a:List qT}{b p:EQ}{m:AC}(ha:a.length=N)(hm:m.length=N)(hb:b.length=N)(hp:p.length=N)(OC:∀j,j<N→(b.getD j []).length=N)(mq:∀j,j<N→(p.getD j []).length=N):
  Ix k k N 0 a b m p=some (bif qD (fun i=>dq (a.getD i (0,0,0))&&(vX (m.getD i 0)&&qD (fun j=>vX (cell b i j)&&(dL (cell p i j)&&decide (cell p i j=zA (0-cell p j i)))) N 0)) N 0 then .inl () else .inr false):=by
 refine pn (L:=fun c j=>Ix k c N j a b m p) (N:=N) _ (.inl ()) (.inr false) (fun c=>?_) (fun c i hi=>?_) hk
 ·show Et k _ N N a b m p=_
  unfold Et
  simp only[qJ,ak (Nat.lt_irrefl N),ao]
 ·show Et k _ N i a b m p=_
  unfold Et
  simp only[qL,qJ,aF,ha,hm,ah hi,an,Oz,qXp,aj,vEq hk hN hi hb hp OC mq]
  generalize qD _ N 0=r
  show(bif !dq (a.getD i (0,0,0)) then _ else _)=_
  cases dq (a.getD i (0,0,0))<;>cases vX (m.getD i 0)<;>cases r<;>simp only[aU,dZ,an,ao,Bool.and_true,Bool.and_false,Bool.true_and,Bool.false_and,qM hi (show N<9223372036854775808 by omega)]
theorem vK8 {k:Nat}(hk:10<k)(a:List qT)(b:EQ)(m:AC)(p:EQ):OD k a b m p=some (j3 a b m p):=by
 unfold OD
 have l1:decide ((a.length:Int)<1)= !decide (1≤a.length):=by
  by_cases h:1≤a.length
  ·rw[ah h,ak (by omega)];rfl
  ·rw[ak h,ah (by omega)];rfl
 have l2:decide ((a.length:Int)>6)= !decide (a.length≤6):=by
  by_cases h:a.length≤6
  ·rw[ah h,ak (by omega)];rfl
  ·rw[ak h,ah (by omega)];rfl
 rw[l1,l2]
 unfold j3
 dsimp only
 by_cases h1:1≤a.length
 case neg=>rw[ak h1];rfl
 by_cases h2:a.length≤6
 case neg=>rw[ah h1,ak h2];rfl
 rw[ah h1,ah h2]
 simp only[aU,ao,Bool.true_and]
 rw[yMo (by omega) (by omega),yMo (by omega) (by omega)]
 simp only[aj,rT]
 cases hb:j0 a.length b with
 |false=>rfl
 |true=>
  cases hp:j0 a.length p with
  |false=>rfl
  |true=>
   by_cases hm:m.length=a.length
   case neg=>simp only[ak hm];rfl
   simp only[j0,bI,bD,dI] at hb hp
   simp only[hm,decide_true,aU,ao,Bool.true_and]
   rw[yY8 (by omega) (by omega) rfl hm hb.1 hp.1 hb.2 hp.2]
   have e:(qD (fun i=>dq (a.getD i (0,0,0))) a.length 0&&(qD (fun i=>vX (m.getD i 0)) a.length 0&&(mo vX a.length b&&(mo dL a.length p&&px a.length p))))=
     qD (fun i=>dq (a.getD i (0,0,0))&&(vX (m.getD i 0)&&qD (fun j=>vX (cell b i j)&&(dL (cell p i j)&&decide (cell p i j=zA (0-cell p j i)))) a.length 0)) a.length 0:=by
    rw[Bool.eq_iff_iff]
    simp only[mo,px,bI,dI]
    constructor
    ·rintro⟨h1,h2,h3,h4,h5⟩ i hi
     exact⟨h1 i hi,h2 i hi,fun j hj=>⟨h3 i hi j hj,h4 i hi j hj,h5 i hi j hj⟩⟩
    ·intro h
     exact⟨fun i hi=>(h i hi).1,fun i hi=>(h i hi).2.1,fun i hi j hj=>((h i hi).2.2 j hj).1,fun i hi j hj=>((h i hi).2.2 j hj).2.1,fun i hi j hj=>((h i hi).2.2 j hj).2.2⟩
   rw[e]
   generalize qD _ _ _=r
   cases r<;>rfl
theorem yT6 {k:Nat}{a:List qT}(hk:a.length<k)(hl:a.length<9223372036854775808):Iy k a=some (!qD (fun i=>dq (a.getD i (0,0,0))) a.length 0):=by
 obtain ⟨x, h1, h2⟩ := pq (L := fun c i => Eu k c a a.length i) (N := a.length) (fun i => !dq (a.getD i (0, 0, 0))) (fun c=>by
  show zk k _ a a.length a.length=_
  unfold zk
  simp only [qJ, ak (Nat.lt_irrefl _), ao]) (fun c i hi=>by
  show zk k _ a a.length i=_
  unfold zk OE
  simp only[qL,qM hi hl,qJ,aF,ah hi,an,yLg,aj]) hk
 unfold Iy OF
 rw[h1]
 simp only[Bool.not_not] at h2
 rw[←h2]
 cases x<;>rfl
theorem yTp {k:Nat}{a:AC}(hk:a.length<k)(hl:a.length<9223372036854775808):Iz k a=some (!qD (fun i=>vX (a.getD i 0)) a.length 0):=by
 obtain ⟨x, h1, h2⟩ := pq (L := fun c i => Ev k c a a.length i) (N := a.length) (fun i => !vX (a.getD i 0)) (fun c=>by
  show zl k _ a a.length a.length=_
  unfold zl
  simp only [qJ, ak (Nat.lt_irrefl _), ao]) (fun c i hi=>by
  show zl k _ a a.length i=_
  unfold zl OG
  simp only[qL,qM hi hl,qJ,aF,ah hi,an,yOg,aj]) hk
 unfold Iz OH
 rw[h1]
 simp only[Bool.not_not] at h2
 rw[←h2]
 cases x<;>rfl
theorem vGs {k:Nat}{a:AC}(hk:a.length<k)(hl:a.length<9223372036854775808):IA k a=some (!qD (fun i=>dL (a.getD i 0)) a.length 0):=by
 obtain ⟨x, h1, h2⟩ := pq (L := fun c i => Ew k c a a.length i) (N := a.length) (fun i => !dL (a.getD i 0)) (fun c=>by
  show zm k _ a a.length a.length=_
  unfold zm
  simp only [qJ, ak (Nat.lt_irrefl _), ao]) (fun c i hi=>by
  show zm k _ a a.length i=_
  unfold zm OI
  simp only[qL,qM hi hl,qJ,aF,ah hi,an,vH8,aj]) hk
 unfold IA OJ
 rw[h1]
 simp only[Bool.not_not] at h2
 rw[←h2]
 cases x<;>rfl
theorem yF3 {k n:Nat}(hk:n<k)(hn:n≤1000)(a:AC):Ey k a n=some (decide (a.length=n)&&qD (fun i=>vX (a.getD i 0)) n 0):=by
 unfold Ey
 simp only[rT]
 by_cases h:a.length=n
 ·rw[yTp (by omega) (by omega)]
  simp only[h,decide_true,an,aj,Bool.not_not,Bool.true_and]
 ·simp only[ak h,ao,Bool.false_and]
theorem vIx {k n:Nat}(hk:n<k)(hn:n≤1000)(a:AC):IB k a n=some (decide (a.length=n)&&qD (fun i=>dL (a.getD i 0)) n 0):=by
 unfold IB
 simp only[rT]
 by_cases h:a.length=n
 ·rw[vGs (by omega) (by omega)]
  simp only[h,decide_true,an,aj,Bool.not_not,Bool.true_and]
 ·simp only[ak h,ao,Bool.false_and]
theorem vIw {k n:Nat}(hk:n<k)(hn:n≤1000)(m:EQ):IC k m n=some (decide (m.length=n)&&qD (fun i=>decide ((m.getD i []).length=n)&&qD (fun j=>vX (cell m i j)) n 0) n 0):=by
 unfold IC
 simp only[rT]
 by_cases h:m.length=n
 ·have := pn (L := fun c i => Ez k c n m n i) (N := n) (fun i => decide ((m.getD i []).length = n) && qD (fun j => vX (cell m i j)) n 0) (.inl ()) (.inr false) (fun c=>by
    show zn k _ n m n n=_
    unfold zn
    simp only [qJ, ak (Nat.lt_irrefl n), ao]) (fun c i hi=>by
    show zn k _ n m n i=_
    unfold zn
    simp only[qL,qM hi (by omega),qJ,aF,h,ah hi,an,yF3 hk hn,aj]
    show(bif !(decide ((m.getD i []).length=n)&&qD (fun j=>vX (cell m i j)) n 0) then _ else _)=_
    generalize (decide ((m.getD i []).length=n)&&qD (fun j=>vX (cell m i j)) n 0)=r
    cases r<;>rfl) hk
  simp only[h,decide_true,aU,ao,Bool.true_and]
  rw[this]
  generalize qD _ _ _=r
  cases r<;>rfl
 ·simp only[ak h,dZ,an,Bool.false_and]
theorem vFj {k n:Nat}(hk:n<k)(hn:n≤1000)(m:EQ):ID k m n=some (decide (m.length=n)&&qD (fun i=>decide ((m.getD i []).length=n)&&qD (fun j=>dL (cell m i j)) n 0) n 0):=by
 unfold ID
 simp only[rT]
 by_cases h:m.length=n
 ·have := pn (L := fun c i => EA k c n m n i) (N := n) (fun i => decide ((m.getD i []).length = n) && qD (fun j => dL (cell m i j)) n 0) (.inl ()) (.inr false) (fun c=>by
    show zo k _ n m n n=_
    unfold zo
    simp only [qJ, ak (Nat.lt_irrefl n), ao]) (fun c i hi=>by
    show zo k _ n m n i=_
    unfold zo
    simp only[qL,qM hi (by omega),qJ,aF,h,ah hi,an,vIx hk hn,aj]
    show(bif !(decide ((m.getD i []).length=n)&&qD (fun j=>dL (cell m i j)) n 0) then _ else _)=_
    generalize (decide ((m.getD i []).length=n)&&qD (fun j=>dL (cell m i j)) n 0)=r
    cases r<;>rfl) hk
  simp only[h,decide_true,aU,ao,Bool.true_and]
  rw[this]
  generalize qD _ _ _=r
  cases r<;>rfl
 ·simp only[ak h,dZ,an,Bool.false_and]
theorem yUg {k N i:Nat}(hk:N<k)(hN:N≤1000)(hi:i<N){p q:EQ}{u:Int}(hp:p.length=N)(mq:∀j,j<N→(p.getD j []).length=N):
  zp k k p i q u i (p.getD i []) N 0=some (bif qD (fun j=>decide (cell p j i=zA (0-cell p i j))) N 0 then .inl (p,q,u,(i:Int)) else .inr false):=by
 refine pn (L:=fun c j=>zp k c p i q u i (p.getD i []) N j) (N:=N) _ (.inl (p,q,u,(i:Int))) (.inr false) (fun c=>?_) (fun c j hj=>?_) hk
 ·show zq k _ p i q u i (p.getD i []) N N=_
  unfold zq
  simp only[qJ,ak (Nat.lt_irrefl N),ao]
 ·show zq k _ p i q u i (p.getD i []) N j=_
  unfold zq
  simp only[qL,qM hj (show N<9223372036854775808 by omega),qJ,aF,hp,mq i hi,mq j hj,ah hj,ah hi,an]
  show(bif !decide (cell p j i=zA (0-cell p i j)) then _ else _)=_
  generalize decide (cell p j i=zA (0-cell p i j))=r
  cases r<;>rfl
theorem yYo {k N:Nat}(hk:N<k)(hN:N≤1000){p:EQ}(hp:p.length=N)(mq:∀j,j<N→(p.getD j []).length=N):
  IE k p=some (px N p):=by
 have := pn (L := fun c i => EB k c p p N i) (N := N) (fun i => qD (fun j => decide (cell p j i = zA (0 - cell p i j))) N 0) (.inl ()) (.inr false) (fun c=>by
   show zr k _ p p N N=_
   unfold zr
   simp only [qJ, ak (Nat.lt_irrefl N), ao]) (fun c i hi=>by
   show zr k _ p p N i=_
   unfold zr
   simp only[qL,qJ,aF,hp,mq i hi,ah hi,an,yUg hk hN hi hp mq,aj]
   generalize qD _ N 0=r
   cases r<;>simp only[an,ao,qM hi (show N<9223372036854775808 by omega)]) hk
 unfold IE
 simp only[hp]
 rw[this]
 have e:qD (fun i=>qD (fun j=>decide (cell p j i=zA (0-cell p i j))) N 0) N 0=px N p:=by
  rw[Bool.eq_iff_iff]
  simp only[px,dI]
  exact⟨fun h i hi j hj=>h j hj i hi,fun h i hi j hj=>h j hj i hi⟩
 rw[e]
 generalize px N p=r
 cases r<;>rfl
theorem yBk {k:Nat}(hk:10<k)(a:List qT)(b:EQ)(m:AC)(p:EQ):uM k a b m p=some (j3 a b m p):=by
 unfold uM
 have l1:decide ((a.length:Int)<1)= !decide (1≤a.length):=by
  by_cases h:1≤a.length
  ·rw[ah h,ak (by omega)];rfl
  ·rw[ak h,ah (by omega)];rfl
 have l2:decide ((a.length:Int)>6)= !decide (a.length≤6):=by
  by_cases h:a.length≤6
  ·rw[ah h,ak (by omega)];rfl
  ·rw[ak h,ah (by omega)];rfl
 rw[l1,l2]
 unfold j3
 dsimp only
 by_cases h1:1≤a.length
 case neg=>rw[ak h1];rfl
 by_cases h2:a.length≤6
 case neg=>rw[ah h1,ak h2];rfl
 rw[ah h1,ah h2]
 simp only[aU,ao,Bool.true_and]
 rw[yT6 (by omega) (by omega),vIw (by omega) (by omega),yF3 (by omega) (by omega),vFj (by omega) (by omega)]
 simp only[aj]
 generalize hA:qD (fun i=>dq (a.getD i (0,0,0))) a.length 0=A
 have sq:∀(q:Int→Bool) (m:EQ),(decide (m.length=a.length)&&qD (fun i=>decide ((m.getD i []).length=a.length)&&qD (fun j=>q (cell m i j)) a.length 0) a.length 0)=(j0 a.length m&&mo q a.length m):=by
  intro q m
  rw[Bool.eq_iff_iff]
  simp only[j0,mo,bI,bD,dI]
  exact⟨fun h=>⟨⟨h.1,fun i hi=>(h.2 i hi).1⟩,fun i hi=>(h.2 i hi).2⟩,fun h=>⟨h.1.1,fun i hi=>⟨h.1.2 i hi,h.2 i hi⟩⟩⟩
 rw[sq vX b,sq dL p]
 cases hp:j0 a.length p with
 |false=>
  cases A<;>cases j0 a.length b<;>cases mo vX a.length b<;>cases decide (m.length=a.length)<;>cases qD (fun i=>vX (m.getD i 0)) a.length 0<;>rfl
 |true=>
  simp only[j0,bI,bD,dI] at hp
  rw[yYo (N:=a.length) (by omega) (by omega) hp.1 hp.2]
  cases A<;>cases j0 a.length b<;>cases mo vX a.length b<;>cases decide (m.length=a.length)<;>cases qD (fun i=>vX (m.getD i 0)) a.length 0<;>cases mo dL a.length p<;>cases px a.length p<;>rfl
theorem qVb {k N:Nat}{s:EQ}(hN:s.length=N)(hl:N≤1000)(hr:∀i,i<N→(s.getD i []).length≤1000):∀(c i n:Nat),i+c=N→c<n→OK k n s i (s.take i)=some s
 |0,i,n,h,hn=>by
  obtain⟨n,rfl⟩:∃m,n=m+1:=⟨n-1,by omega⟩
  show EC k _ s i (s.take i)=_
  unfold EC
  have:¬i<s.length:=by omega
  simp only[qJ,ak this,ao]
  rw[List.take_of_length_le (by omega)]
 |c+1,i,n,h,hn=>by
  obtain⟨n,rfl⟩:∃m,n=m+1:=⟨n-1,by omega⟩
  show EC k _ s i (s.take i)=_
  unfold EC
  have hi:i<s.length:=by omega
  have h1:=hr i (by omega)
  have e1:zU (0+(s.getD i []).length) 8=true:=qY (by omega) (by omega)
  have e2:zU ((s.take i).length+1) 24=true:=qY (by rw[List.length_take];omega) (by rw[List.length_take];omega)
  simp only[qL,qM hi (show s.length<9223372036854775808 by omega),qJ,aF,ah hi,an,e1,e2]
  rw[jM s i [] hi]
  exact qVb hN hl hr c (i+1) n (by omega) (by omega)
theorem qSx {k:Nat}{s:EQ}(hl:s.length≤1000)(hk:s.length<k)(hr:∀i,i<s.length→(s.getD i []).length≤1000):IF k s=some s:=by
 unfold IF
 have:=qVb (k:=k) rfl hl hr s.length 0 k (by omega) hk
 rw[List.take_zero] at this
 have e:((0:Nat):Int)=0:=rfl
 rw[e] at this
 rw[this]
 rfl
theorem qWc {k N:Nat}{s:EQ}(hN:s.length=N)(hl:N≤1000)(hr:∀i,i<N→(s.getD i []).length≤1000):∀(c i n:Nat),i+c=N→c<n→ED k n s N i (s.take i) N=some (s,N)
 |0,i,n,h,hn=>by
  obtain⟨n,rfl⟩:∃m,n=m+1:=⟨n-1,by omega⟩
  show zt k _ s N i (s.take i) N=_
  unfold zt
  have:¬i<N:=by omega
  simp only[qJ,ak this,ao]
  rw[List.take_of_length_le (by omega)]
 |c+1,i,n,h,hn=>by
  obtain⟨n,rfl⟩:∃m,n=m+1:=⟨n-1,by omega⟩
  show zt k _ s N i (s.take i) N=_
  unfold zt mr
  have hi:i<N:=by omega
  have h1:=hr i (by omega)
  have e1:zU (0+(s.getD i []).length) 8=true:=qY (by omega) (by omega)
  have e2:Nat.beq i (s.take i).length=true:=by rw[List.length_take,Nat.min_eq_left (by omega)];simp
  simp only[qL,qM hi (show N<9223372036854775808 by omega),qJ,aF,ah hi,an,e1,e2,hN,aj]
  rw[jM s i [] (by omega)]
  exact qWc hN hl hr c (i+1) n (by omega) (by omega)
theorem yMy {k:Nat}{s:EQ}(hl:s.length≤1000)(hk:s.length<k)(hr:∀i,i<s.length→(s.getD i []).length≤1000):EE k s=some s:=by
 unfold EE OM
 have:=qWc (k:=k) rfl hl hr s.length 0 k (by omega) hk
 rw[List.take_zero] at this
 have e:((0:Nat):Int)=0:=rfl
 rw[e] at this
 have e1:zU (0+s.length) 24=true:=qY (by omega) (by omega)
 simp only[e1,an,aj]
 rw[this]
 simp only[aj,yTw]
 simp
structure Sized (a:List qT) (b:EQ) (m:AC) (p:EQ):Prop where
 n1:1≤a.length
 n6:a.length≤6
 bl:b.length=a.length
 br:∀i,i<a.length→(b.getD i []).length=a.length
 ml:m.length=a.length
 pl:p.length=a.length
 pr:∀i,i<a.length→(p.getD i []).length=a.length
structure wP (a:List qT) (b:EQ) (m:AC) (p:EQ):Prop extends Sized a b m p where
 acct:∀i,i<a.length→dq (a.getD i (0,0,0))=true
 mul:∀i,i<a.length→vX (m.getD i 0)=true
 bil:∀i,i<a.length→∀j,j<a.length→vX (cell b i j)=true
 net:∀i,i<a.length→∀j,j<a.length→dL (cell p i j)=true
 turn:∀i,i<a.length→∀j,j<a.length→cell p i j=zA (0-cell p j i)
theorem IG {a:List qT}{b:EQ}{m:AC}{p:EQ}:j3 a b m p=true↔wP a b m p:=by
 unfold j3
 simp only[bI,bD,j0,mo,px,dI]
 constructor
 ·rintro⟨h1,h2,⟨h3,h4⟩,⟨h5,h6⟩,h7,h8,h9,EF,EG,ON⟩
  exact{n1:=h1,n6:=h2,bl:=h3,br:=h4,ml:=h7,pl:=h5,pr:=h6,acct:=h8,mul:=h9,bil:=EF,net:=EG,turn:=ON}
 ·intro h
  exact⟨h.n1,h.n6,⟨h.bl,h.br⟩,⟨h.pl,h.pr⟩,h.ml,h.acct,h.mul,h.bil,h.net,h.turn⟩
theorem yWa {k:Nat}(hk:10<k){a:List qT}{b:EQ}{m:AC}{p:EQ}(h:Sized a b m p):OO k a b m p=some (a,b,m,p):=by
 obtain⟨h1,h2,h3,h4,h5,h6,h7⟩:=h
 unfold OO
 have e1:zU (0+a.length) 24=true:=qY (by omega) (by omega)
 have e2:zU (0+m.length) 8=true:=qY (by omega) (by omega)
 rw[qSx (s:=b) (by omega) (by omega) (fun i hi=>by rw[h4 i (by omega)];omega),qSx (s:=p) (by omega) (by omega) (fun i hi=>by rw[h7 i (by omega)];omega)]
 simp only[e1,e2,an,aj]
theorem EH {k:Nat}(hk:10<k){a:List qT}{b:EQ}{m:AC}{p:EQ}(h:Sized a b m p):dM k a b m p=some (a,b,m,p):=by
 obtain⟨h1,h2,h3,h4,h5,h6,h7⟩:=h
 unfold dM OP mr
 have e1:zU (0+a.length) 24=true:=qY (by omega) (by omega)
 have e2:zU (0+m.length) 8=true:=qY (by omega) (by omega)
 rw[yMy (s:=b) (by omega) (by omega) (fun i hi=>by rw[h4 i (by omega)];omega),yMy (s:=p) (by omega) (by omega) (fun i hi=>by rw[h7 i (by omega)];omega)]
 simp only[e1,e2,an,aj]
abbrev pd:zC:=(0,(0,(0,(0,(0,(0,0))))))
abbrev ad:qT:=(0,(0,0))
def mv (n:Nat)(p:zC):Bool:=decide (p.2.1≥0)&&(decide (p.2.1<(n:Int))&&(decide (p.2.2.1≥0)&&(decide (p.2.2.1<(n:Int))&&(!decide (p.2.1=p.2.2.1)&&(decide (p.2.2.2.1≥1)&&(decide (p.2.2.2.1≤1099511627776)&&(decide (p.2.2.2.2.1≥1)&&decide (p.2.2.2.2.1≤3))))))))
structure yP (n:Nat) (p:zC):Prop where
 f0:0≤p.2.1
 f1:p.2.1<n
 t0:0≤p.2.2.1
 t1:p.2.2.1<n
 ne:p.2.1≠p.2.2.1
 a1:1≤p.2.2.2.1
 a2:p.2.2.2.1≤1099511627776
 c1:1≤p.2.2.2.2.1
 c3:p.2.2.2.2.1≤3
theorem OQ {n p}:mv n p=true↔yP n p:=by
 unfold mv
 simp
 exact⟨fun⟨h1,h2,h3,h4,h5,h6,h7,h8,h9⟩=>⟨h1,h2,h3,h4,h5,h6,h7,h8,h9⟩,fun⟨h1,h2,h3,h4,h5,h6,h7,h8,h9⟩=>by grind⟩
theorem IH k (a:List qT) b m p i f t am c s ti:zu k a b m p i f t am c s ti=some (mv a.length (i,f,t,am,c,s,ti)):=by
 unfold zu mv
 grind
theorem yYp k (a:List qT) b m p i f t am c s ti:yJ7 k a b m p i f t am c s ti=some (mv a.length (i,f,t,am,c,s,ti)):=IH k a b m p i f t am c s ti
def lA (n:Nat)(l:List zC):Bool:=qD (fun i=>mv n (l.getD i pd)) l.length 0
theorem zv {n l}:lA n l=true↔∀p∈l,yP n p:=by
 unfold lA
 rw[dI]
 constructor
 ·intro h p hp
  obtain⟨i,hi,rfl⟩:=List.getElem_of_mem hp
  have:=h i hi
  rw[List.getD_eq_getElem?_getD,List.getElem?_eq_getElem hi] at this
  exact OQ.1 this
 ·intro h i hi
  exact OQ.2 (by grind)
theorem yVj {k}{l:List zC}(hk:l.length<k)(hl:l.length<9223372036854775808)(a:List qT) b m p:II k l a b m p=some (!lA a.length l):=by
 obtain ⟨x, h1, h2⟩ := pq (L := fun c i => EI k c l l.length i a b m p) (N := l.length) (fun i => !mv a.length (l.getD i pd)) (fun c=>by
  show zw k _ l l.length l.length a b m p=_
  unfold zw
  simp) (fun c i hi=>by
  show zw k _ l l.length i a b m p=_
  unfold zw OR
  simp[qL,qM hi hl,ah hi,IH]) hk
 unfold II OT
 unfold lA
 grind
theorem yT3 {k}{l:List zC}(hk:l.length<k)(hl:l.length<9223372036854775808)(a:List qT) b m p:OU k a b m p l=some (lA a.length l&&decide (l.length≤64)):=by
 unfold OU
 have := pn (L := fun c i => OV k c l i a b m p) (N := l.length) (fun i => mv a.length (l.getD i pd)) (.inl l) (.inr false) (fun c=>by
  show EJ k _ l l.length a b m p=_
  unfold EJ
  simp) (fun c i hi=>by
  show EJ k _ l i a b m p=_
  unfold EJ
  simp only[qL,qM hi hl,qJ,ah hi,yYp]
  simp) hk
 unfold lA
 have e:decide (((l.length:Nat):Int)≤64)=decide (l.length≤64):=by
  grind
 grind
def gB (i:Nat)(p:zC):Int:=(if p.2.2.1=i then p.2.2.2.1 else 0)-(if p.2.1=i then p.2.2.2.1 else 0)
def gS (i j:Nat)(p:zC):Int:=if p.2.1=i∧p.2.2.1=j then p.2.2.2.1 else 0
def gR (i:Nat)(p:zC):Int:=if p.2.1=i∧p.2.2.2.2.1≠3 then p.2.2.2.1 else 0
def wI (r s:Int):Int:=if s≥r then 0 else r-s
theorem vH1 {r s t}(hs:0≤s)(ht:0≤t):wI (wI r s) t=wI r (s+t):=by
 unfold wI
 omega
theorem OW {r}(hr:0≤r):wI r 0=r:=by
 unfold wI
 omega
theorem yXv {r s}:0≤wI r s:=by
 unfold wI
 omega
theorem vAq {r s}(hr:0≤r)(hs:0≤s):wI r s≤r:=by
 unfold wI
 omega
section
variable {n:Nat} {p:zC}
theorem yV5 (h:yP n p) i:-1099511627776≤gB i p∧gB i p≤1099511627776:=by
 have h1:=h.a1;have h2:=h.a2;unfold gB
 omega
theorem OX (h:yP n p) i j:0≤gS i j p∧gS i j p≤1099511627776:=by
 have h1:=h.a1;have h2:=h.a2
 unfold gS
 omega
theorem IJ (h:yP n p) i:0≤gR i p∧gR i p≤1099511627776:=by
 have h1:=h.a1;have h2:=h.a2
 unfold gR
 omega
end
def wF (n:Nat)(l:List zC):Prop:=(∀p∈l,yP n p)∧l.length≤64
theorem OY {n l}(h:wF n l) i:-70368744177664≤zL (gB i) l∧zL (gB i) l≤70368744177664:=by
 have h1:=uB (g:=gB i) (A:=1099511627776) fun p hp=>yV5 (h.1 p hp) i
 have h2:=h.2
 omega
theorem py {n l}(h:wF n l) i j:0≤zL (gS i j) l∧zL (gS i j) l≤70368744177664:=by
 have h1:=uB (g:=gS i j) (A:=1099511627776) fun p hp=>by have:=OX (h.1 p hp) i j;omega
 have h0:=rU (g:=gS i j) fun p hp=>(OX (h.1 p hp) i j).1
 have h2:=h.2
 omega
theorem zx {n l}(h:wF n l) i:0≤zL (gR i) l∧zL (gR i) l≤70368744177664:=by
 have h1:=uB (g:=gR i) (A:=1099511627776) fun p hp=>by have:=IJ (h.1 p hp) i;omega
 have h0:=rU (g:=gR i) fun p hp=>(IJ (h.1 p hp) i).1
 have h2:=h.2
 omega
theorem wF.take {n l}(h:wF n l) i:wF n (l.take i):=⟨fun p hp=>h.1 p (by grind),by rw[List.length_take];have:=h.2;omega⟩
structure pz (n:Nat) (a:List qT) (p:EQ) (l:List zC) (a':List qT) (p':EQ):Prop where
 al:a'.length=n
 acct:∀i,i<n→a'.getD i ad=((a.getD i ad).1+zL (gB i) l,(a.getD i ad).2.1,wI (a.getD i ad).2.2 (zL (gR i) l))
 pl:p'.length=n
 pr:∀i,i<n→(p'.getD i []).length=n
 cell:∀i,i<n→∀j,j<n→cell p' i j=cell p i j+zL (gS i j) l-zL (gS j i) l
theorem vIz {n p q}(hp:p.length=n)(hq:q.length=n)(mq:∀i,i<n→(p.getD i []).length=n)(hqr:∀i,i<n→(q.getD i []).length=n)(h:∀i,i<n→∀j,j<n→cell p i j=cell q i j):p=q:=
 Ic [] (by omega) fun i hi=>Ic 0 (by simp_all) fun j hj=>h i (by omega) j (by simp_all)
theorem pz.same {n a a1 a2 p p1 p2 l}(x:pz n a p l a1 p1)(y:pz n a p l a2 p2):a1=a2∧p1=p2:=
 ⟨Ic ad (by rw[x.al,y.al]) fun i hi=>by have:=x.al;rw[x.acct i (by omega),y.acct i (by omega)],
  vIz x.pl y.pl x.pr y.pr fun i hi j hj=>by rw[x.cell i hi j hj,y.cell i hi j hj]⟩
structure IK (n:Nat) (a:List qT) (p:EQ):Prop where
 al:a.length=n
 pl:p.length=n
 pr:∀i,i<n→(p.getD i []).length=n
 bal:∀i,i<n→-4611686018427387904<(a.getD i ad).1∧(a.getD i ad).1<4611686018427387904
 res:∀i,i<n→0≤(a.getD i ad).2.2∧(a.getD i ad).2.2≤2305843009213693952
 net:∀i,i<n→∀j,j<n→-72057594037927936<cell p i j∧cell p i j<72057594037927936
theorem wP.nums {a b m p}(h:wP a b m p):IK a.length a p where
 al:=rfl
 pl:=h.pl
 pr:=h.pr
 bal:=fun i hi=>by
  have:=h.acct i hi
  show-4611686018427387904<(a.getD i (0,0,0)).1∧(a.getD i (0,0,0)).1<4611686018427387904
  simp only[dq,bI,bD] at this
  omega
 res:=fun i hi=>by
  have:=h.acct i hi
  show 0≤(a.getD i (0,0,0)).2.2∧(a.getD i (0,0,0)).2.2≤2305843009213693952
  simp only[dq,bI,bD] at this
  omega
 net:=fun i hi j hj=>by
  have:=h.net i hi j hj
  simp[dL] at this
  omega
theorem OZ {m f t i j x}(hf:f<m.length)(ht:t<(m.getD f []).length):cell (m.set f ((m.getD f []).set t x)) i j=if i=f∧j=t then x else cell m i j:=by
 unfold cell
 grind
theorem IL {n}{m:EQ}{f t x}(hm:m.length=n)(hr:∀i,i<n→(m.getD i []).length=n)(hf:f<n):∀i,i<n→((m.set f ((m.getD f []).set t x)).getD i []).length=n:=by
 grind
def zy (p:zC)(r:List qT):List qT:=
 let y0:=r.set p.2.1.toNat (zA ((r.getD p.2.1.toNat ad).1-p.2.2.2.1),(r.getD p.2.1.toNat ad).2)
 let y1:=y0.set p.2.2.1.toNat (zA ((y0.getD p.2.2.1.toNat ad).1+p.2.2.2.1),(y0.getD p.2.2.1.toNat ad).2)
 bif !decide (p.2.2.2.2.1=3) then y1.set p.2.1.toNat ((y1.getD p.2.1.toNat ad).1,((y1.getD p.2.1.toNat ad).2.1,vV false (zA ((y1.getD p.2.1.toNat ad).2.2-p.2.2.2.1)) 0)) else y1
def si (p:zC)(m:EQ):EQ:=
 let y3:=m.set p.2.1.toNat ((m.getD p.2.1.toNat []).set p.2.2.1.toNat (zA ((m.getD p.2.1.toNat []).getD p.2.2.1.toNat 0+p.2.2.2.1)))
 y3.set p.2.2.1.toNat ((y3.getD p.2.2.1.toNat []).set p.2.1.toNat (zA ((y3.getD p.2.2.1.toNat []).getD p.2.1.toNat 0-p.2.2.2.1)))
theorem vBm p r:(zy p r).length=r.length:=by
 unfold zy
 grind
theorem yZ2 {n p}(h:yP n p){r}(hr:r.length=n){i}(hi:i<n)(hb:∀i,i<n→-4611826755915743232<(r.getD i ad).1∧(r.getD i ad).1<4611826755915743232)
  (hz:∀i,i<n→0≤(r.getD i ad).2.2∧(r.getD i ad).2.2≤2305843009213693952):(zy p r).getD i ad=((r.getD i ad).1+gB i p,(r.getD i ad).2.1,wI (r.getD i ad).2.2 (gR i p)):=by
 obtain⟨f0,f1,t0,t1,ne,a1,a2,c1,c3⟩:=h
 obtain⟨f,hf⟩:∃f:Nat,p.2.1=f:=⟨p.2.1.toNat,by omega⟩
 obtain⟨t,ht⟩:∃t:Nat,p.2.2.1=t:=⟨p.2.2.1.toNat,by omega⟩
 have IM:f≠t:=by omega
 have eV:f<n:=by omega
 have ef:t<n:=by omega
 have bf:=hb f eV
 have bt:=hb t ef
 have zf:=hz f eV
 have e1:(r.set f (zA ((r.getD f ad).1-p.2.2.2.1),(r.getD f ad).2)).getD t ad=r.getD t ad:=by rw[jG,if_neg (fun e=>IM e.1)]
 have key:∀j,j<n→((r.set f (zA ((r.getD f ad).1-p.2.2.2.1),(r.getD f ad).2)).set t (zA ((r.getD t ad).1+p.2.2.2.1),(r.getD t ad).2)).getD j ad=((r.getD j ad).1+gB j p,(r.getD j ad).2):=by
  intro j hj
  unfold gB
  rw[hf,ht,jG]
  by_cases hjt:t=j
  ·subst hjt
   rw[if_pos (by grind),if_pos rfl,if_neg (by omega),qH (by omega) (by omega)]
   simp
  ·rw[if_neg (fun e=>hjt e.1),if_neg (by omega),jG]
   by_cases hjf:f=j
   ·subst hjf
    rw[if_pos ⟨rfl,by omega⟩,if_pos rfl,qH (by omega) (by omega)]
    simp only[Int.zero_sub];rfl
   ·rw[if_neg (fun e=>hjf e.1),if_neg (by omega)]
    simp
 unfold zy
 simp only[hf,ht,aF,e1]
 unfold gR
 cases hc:decide (p.2.2.2.2.1=3) with
 |true=>
  have eJ:p.2.2.2.2.1=3:=by simpa using hc
  simp only[aU,ao]
  rw[key i hi,if_neg (fun e=>e.2 eJ),OW (hz i hi).1]
 |false=>
  have eJ:p.2.2.2.2.1≠3:=by simpa using hc
  simp only[dZ,an]
  rw[jG]
  by_cases hif:f=i
  ·subst hif
   rw[if_pos (by grind),key f eV,if_pos ⟨hf,eJ⟩]
   have:vV false (zA ((r.getD f ad).2.2-p.2.2.2.1)) 0=wI (r.getD f ad).2.2 p.2.2.2.1:=by
    rw[qH (by omega) (by omega)]
    unfold vV wI
    grind
   rw[this]
  ·rw[if_neg (fun e=>hif e.1),key i hi,if_neg (by omega),OW (hz i hi).1]
theorem yMw {n:Nat}{p:zC}(h:yP n p){m:EQ}(hm:m.length=n)(hr:∀i,i<n→(m.getD i []).length=n)(hb:∀i,i<n→∀j,j<n→-72128000000000000<cell m i j∧cell m i j<72128000000000000):
  (si p m).length=n∧(∀i,i<n→((si p m).getD i []).length=n)∧∀i,i<n→∀j,j<n→cell (si p m) i j=cell m i j+gS i j p-gS j i p:=by
 obtain⟨f0,f1,t0,t1,ne,a1,a2,c1,c3⟩:=h
 obtain⟨f,hf⟩:∃f:Nat,p.2.1=f:=⟨p.2.1.toNat,by omega⟩
 obtain⟨t,ht⟩:∃t:Nat,p.2.2.1=t:=⟨p.2.2.1.toNat,by omega⟩
 have IM:f≠t:=by omega
 have eV:f<n:=by omega
 have ef:t<n:=by omega
 unfold si
 simp only[hf,ht,aF]
 have r1:=IL (x:=zA ((m.getD f []).getD t 0+p.2.2.2.1)) (t:=t) hm hr eV
 have c1:∀i j,cell (m.set f ((m.getD f []).set t (zA ((m.getD f []).getD t 0+p.2.2.2.1)))) i j=if i=f∧j=t then zA (cell m f t+p.2.2.2.1) else cell m i j:=fun i j=>OZ (by omega) (by rw[hr f eV];omega)
 refine⟨by simp only[List.length_set];exact hm,by grind,fun i hi j hj=>?_⟩
 rw[OZ (by rw[List.length_set];omega) (by rw[r1 t ef];omega)]
 have e2:((m.set f ((m.getD f []).set t (zA ((m.getD f []).getD t 0+p.2.2.2.1)))).getD t []).getD f 0=cell m t f:=by
  show cell _ t f=_
  simp_all
 rw[e2,c1]
 unfold gS
 rw[hf,ht]
 have b1:=hb f eV t ef
 have b2:=hb t ef f eV
 by_cases h1:i=t∧j=f
 ·obtain⟨rfl,rfl⟩:=h1
  rw[if_pos ⟨rfl,rfl⟩,if_neg (by omega),if_pos ⟨rfl,rfl⟩,qH (by omega) (by omega)]
  omega
 ·rw[if_neg h1]
  by_cases h2:i=f∧j=t
  ·obtain⟨rfl,rfl⟩:=h2
   rw[if_pos ⟨rfl,rfl⟩,if_pos ⟨rfl,rfl⟩,if_neg (by omega),qH (by omega) (by omega)]
   omega
  omega
theorem yQd {k n a b m p l}(hk:l.length<k)(hx:IK n a p)(hl:wF n l)(b0:List qT) b1 b2 b3:
  ∃a' p',zz k k l l.length 0 b0 b1 b2 b3 a b m p=some (b0,b1,b2,b3,a',b,m,p')∧pz n a p l a' p':=by
 have := vU (L := fun c i (s : List qT × EQ) => zz k c l l.length i b0 b1 b2 b3 s.1 b m s.2) (N := l.length) (fun s => (b0, b1, b2, b3, s.1, b, m, s.2)) (fun i s => pz n a p (l.take i) s.1 s.2) (fun c s hs=>by
   show z8 k _ l l.length l.length b0 b1 b2 b3 s.1 b m s.2=_
   unfold z8
   simp) (fun c i s hi hs=>by
   refine⟨(zy (l.getD i pd) s.1,si (l.getD i pd) s.2),?_,?_⟩
   ·show z8 k _ l l.length i b0 b1 b2 b3 s.1 b m s.2=_
    have bB:yP n (l.getD i pd):=hl.1 _ (jR hi)
    unfold z8 zy si
    have kK:=hl.2
    simp only[qL,qM hi (by grind),qJ,aF,ah hi,an]
    obtain⟨f0,f1,t0,t1,ne,a1,a2,c1,c3⟩:=bB
    obtain⟨f,hf⟩:∃f:Nat,(l.getD i pd).2.1=f:=⟨(l.getD i pd).2.1.toNat,by omega⟩
    obtain⟨t,ht⟩:∃t:Nat,(l.getD i pd).2.2.1=t:=⟨(l.getD i pd).2.2.1.toNat,by omega⟩
    have eV:f<n:=by omega
    have ef:t<n:=by omega
    have r1:=IL (x:=zA ((s.2.getD f []).getD t 0+(l.getD i pd).2.2.2.1)) (t:=t) hs.pl hs.pr eV
    simp only[hf,ht,aF,qL,hs.al,hs.pl,List.length_set,hs.pr f eV,r1 t ef,ah eV,ah ef,an,sj,aj]
    grind
   ·have bB:yP n (l.getD i pd):=hl.1 _ (jR hi)
    have aC:=hl.take i
    have hp := yMw bB hs.pl hs.pr (fun i' aY j' gi=>by
     rw[hs.cell i' aY j' gi]
     have h1:=hx.net i' aY j' gi
     have h2:=py aC i' j'
     have h3:=py aC j' i'
     omega)
    refine⟨by rw[vBm];exact hs.al,fun i' aY=>?_,hp.1,hp.2.1,fun i' aY j' gi=>?_⟩
    ·rw [yZ2 bB hs.al aY (fun j hj=>by
       rw[hs.acct j hj]
       have h1:=hx.bal j hj
       have h2:=OY aC j
       dsimp only
       omega) (fun j hj=>by
       rw[hs.acct j hj]
       have h1:=hx.res j hj
       have h2:=zx aC j
       dsimp only
       exact⟨yXv,Int.le_trans (vAq h1.1 h2.1) h1.2⟩),hs.acct i' aY,←jM l i pd hi,ee,ee]
     dsimp only[zL]
     rw[vH1 (zx aC i').1 (IJ bB i').1,Int.add_zero,Int.add_zero,Int.add_assoc]
    ·rw[hp.2.2 i' aY j' gi,hs.cell i' aY j' gi,←jM l i pd hi,ee,ee]
     dsimp only[zL]
     omega) (s:=(a,p)) hk ⟨hx.al,fun i hi=>by
      rw[List.take_zero]
      show a.getD i ad=((a.getD i ad).1+0,(a.getD i ad).2.1,wI (a.getD i ad).2.2 0)
      rw[OW (hx.res i hi).1,Int.add_zero],hx.pl,hx.pr,fun i hi j hj=>by
      rw[List.take_zero]
      show cell p i j=cell p i j+0-0
      omega⟩
 simp_all
theorem qT3 {k n l}(hk:l.length<k)(hl:wF n l)(i j:Nat):IN k l i j=some (zL (gS i j) l):=by
 have kK:=hl.2
 obtain ⟨s, h1, h2⟩ := vU (L := fun c x (s : Int) => O0 k c l i j s x) (N := l.length) (fun s => s) (fun x s => s = zL (gS i j) (l.take x)) (fun c s hs=>by
   show EK k _ l i j s l.length=_
   unfold EK
   simp) (fun c x s hx hs=>by
   refine⟨zL (gS i j) (l.take (x+1)),?_,rfl⟩
   show EK k _ l i j s x=_
   have hb:=py (hl.take x) i j
   have hm:yP n (l.getD x pd):=hl.1 _ (by grind)
   have e:zL (gS i j) (l.take (x+1))=s+gS i j (l.getD x pd):=by
    rw[←jM l x pd hx,ee,hs]
    show _+(_+0)=_
    omega
   have w:=qH (x:=s+(l.getD x pd).2.2.2.1) (by have:=hm.a1;omega) (by have:=hm.a2;omega)
   unfold EK
   simp[qL,qM hx (by grind)]
   rw[e]
   unfold gS
   grind) (s:=0) hk rfl
 unfold IN
 simp_all
theorem yQl {k n l}(hk:l.length<k)(hl:wF n l)(i j:Nat):O1 k l i j=some (zL (gS i j) l-zL (gS j i) l):=by
 unfold O1
 rw[qT3 hk hl i j,qT3 hk hl j i]
 have h1:=py hl i j
 have h2:=py hl j i
 simp
 rw[qH (by omega) (by omega)]
def gN (i:Nat)(p:zC):Int:=if p.2.1=i∧p.2.2.2.2.1=3 then p.2.2.2.1 else 0
theorem IP {n p}(h:yP n p) i:0≤gN i p∧gN i p≤1099511627776:=by
 have h1:=h.a1;have h2:=h.a2
 unfold gN
 omega
theorem vJj {n l}(h:wF n l) i:0≤zL (gN i) l∧zL (gN i) l≤70368744177664:=by
 have h1:=uB (g:=gN i) (A:=1099511627776) fun p hp=>by have:=IP (h.1 p hp) i;omega
 have h0:=rU (g:=gN i) fun p hp=>(IP (h.1 p hp) i).1
 have h2:=h.2
 omega
theorem vGh {k n:Nat}{l}(hk:l.length<k)(hl:wF n l)(i:Nat):O2 k l i=some (zL (gN i) l,zL (gR i) l):=by
 have kK:=hl.2
 obtain ⟨s, h1, h2⟩ := vU (L := fun c x (s : Int × Int) => O3 k c l i s.1 s.2 x) (N := l.length) (fun s => s) (fun x s => s = (zL (gN i) (l.take x), zL (gR i) (l.take x))) (fun c s hs=>by
   show EL k _ l i s.1 s.2 l.length=_
   unfold EL
   simp) (fun c x s hx hs=>by
   refine⟨(zL (gN i) (l.take (x+1)),zL (gR i) (l.take (x+1))),?_,rfl⟩
   show EL k _ l i s.1 s.2 x=_
   have hb:=vJj (hl.take x) i
   have bo:=zx (hl.take x) i
   have hm:yP n (l.getD x pd):=hl.1 _ (by grind)
   have e:zL (gN i) (l.take (x+1))=s.1+gN i (l.getD x pd):=by
    rw[←jM l x pd hx,ee,hs]
    show _+(_+0)=_
    omega
   have e':zL (gR i) (l.take (x+1))=s.2+gR i (l.getD x pd):=by
    rw[←jM l x pd hx,ee,hs]
    show _+(_+0)=_
    omega
   have w:=qH (x:=s.1+(l.getD x pd).2.2.2.1) (by have:=hm.a1;grind) (by have:=hm.a2;grind)
   have w':=qH (x:=s.2+(l.getD x pd).2.2.2.1) (by have:=hm.a1;rw[hs];omega) (by have:=hm.a2;grind)
   unfold EL
   simp only[qL,qM hx (by grind),qJ,an]
   rw[e,e']
   unfold gN gR
   grind) (s:=(0,0)) hk rfl
 unfold O2
 simp_all
theorem vEg {k n l}(hk:l.length<k)(hl:wF n l)(i:Nat):O4 k l i=some (zL (gR i) l):=by
 unfold O4
 rw[vGh hk hl i]
 rfl
theorem yZt k b c r s (h:-9223372036854775808≤r-s)(h':r<9223372036854775808)(hs:0≤s):O5 k b c r s=some (wI r s):=by
 unfold O5 wI
 by_cases e:s≥r
 ·simp_all
 ·rw[ak e,if_neg e,qH h (by omega)];rfl
theorem qXw {n l}(hl:∀p∈l,yP n p) i (hi:i<n):zW (fun j=>zL (gS i j) l-zL (gS j i) l) n= -zL (gB i) l:=by
 have e1:zW (fun j=>zL (gS i j) l-zL (gS j i) l) n=zW (fun j=>zL (fun p=>gS i j p-gS j i p) l) n:=jy fun j _=>(Oh _ _ l).symm
 rw[e1,Ib (fun j p=>gS i j p-gS j i p)]
 have e2:∀p∈l,zW (fun j=>gS i j p-gS j i p) n=0-gB i p:=by
  intro p hp
  obtain⟨f0,f1,t0,t1,ne,a1,a2,c1,c3⟩:=hl p hp
  obtain⟨f,hf⟩:∃f:Nat,p.2.1=f:=⟨p.2.1.toNat,by omega⟩
  obtain⟨t,ht⟩:∃t:Nat,p.2.2.1=t:=⟨p.2.2.1.toNat,by omega⟩
  have g1:∀j,gS i j p-gS j i p=(if j=t then(if f=i then p.2.2.2.1 else 0) else 0)+(if j=f then(if t=i then-p.2.2.2.1 else 0) else 0):=by
   unfold gS
   omega
  rw[jy fun j _=>g1 j,uC,uD,uD]
  unfold gB
  omega
 rw[H9 e2,Oh]
 have:zL (fun _:zC=>(0:Int)) l=0:=by
  clear e1 e2 hl
  induction l with
  |nil=>rfl
  |cons p l ih=>show 0+zL _ l=0;omega
 omega
structure yQt (n:Nat) (a:List qT) (p:EQ) (l:List zC) (i:Nat) (a':List qT) (p':EQ):Prop where
 al:a'.length=n
 done:∀x,x<n→x<i→a'.getD x ad=((a.getD x ad).1+zL (gB x) l,(a.getD x ad).2.1,wI (a.getD x ad).2.2 (zL (gR x) l))
 rest:∀x,x<n→¬x<i→a'.getD x ad=a.getD x ad
 pl:p'.length=n
 pr:∀x,x<n→(p'.getD x []).length=n
 cell:∀x,x<n→∀y,y<n→cell p' x y=if x<i then cell p x y+zL (gS x y) l-zL (gS y x) l else cell p x y
structure O6 (n:Nat) (a:List qT) (p:EQ) (l:List zC) (i j:Nat) (a':List qT) (p':EQ):Prop where
 al:a'.length=n
 done:∀x,x<n→x<i→a'.getD x ad=((a.getD x ad).1+zL (gB x) l,(a.getD x ad).2.1,wI (a.getD x ad).2.2 (zL (gR x) l))
 here:a'.getD i ad=((a.getD i ad).1-zW (fun j=>zL (gS i j) l-zL (gS j i) l) j,(a.getD i ad).2.1,wI (a.getD i ad).2.2 (zL (gR i) l))
 rest:∀x,x<n→i<x→a'.getD x ad=a.getD x ad
 pl:p'.length=n
 pr:∀x,x<n→(p'.getD x []).length=n
 cell:∀x,x<n→∀y,y<n→cell p' x y=if x<i∨(x=i∧y<j) then cell p x y+zL (gS x y) l-zL (gS y x) l else cell p x y
theorem yNx {k n a p l}(hk:n<k)(cn:l.length<k)(hn:n≤1000)(hx:IK n a p)(hl:wF n l){i}(hi:i<n)(b0:List qT) b1 b2 b3 b m
  {a0 p0} (h0:O6 n a p l i 0 a0 p0):∃a' p',IQ k k l i 0 b0 b1 b2 b3 a0 b m p0=some (l,(i:Int),b0,b1,b2,b3,a',b,m,p')∧O6 n a p l i n a' p':=by
 obtain ⟨s, h1, h2⟩ := vU (L := fun c j (s : List qT × EQ) => IQ k c l i j b0 b1 b2 b3 s.1 b m s.2) (N := n) (fun s => (l, (i : Int), b0, b1, b2, b3, s.1, b, m, s.2)) (fun j s => O6 n a p l i j s.1 s.2) (fun c s hs=>by
   show EM k _ l i n b0 b1 b2 b3 s.1 b m s.2=_
   unfold EM
   simp only [qJ, hs.al, ak (Nat.lt_irrefl _), ao]) (fun c j s hj hs=>by
   refine⟨(s.1.set i (zA ((s.1.getD i ad).1-(zL (gS i j) l-zL (gS j i) l)),(s.1.getD i ad).2),s.2.set i ((s.2.getD i []).set j (zA ((s.2.getD i []).getD j 0+(zL (gS i j) l-zL (gS j i) l))))),?_,?_⟩
   ·show EM k _ l i j b0 b1 b2 b3 s.1 b m s.2=_
    unfold EM
    simp only[qL,qM hj (by grind),qJ,aF,hs.al,hs.pl,hs.pr i hi,ah hi,ah hj,an,yQl cn hl,aj]
   ·have hb:=hx.bal i hi
    have hg:∀j,-70368744177664≤zL (gS i j) l-zL (gS j i) l∧zL (gS i j) l-zL (gS j i) l≤70368744177664:=fun j=>by
     have h1:=py hl i j
     have h2:=py hl j i
     omega
    have Dh:=Ej hg j
    have D7:=hg j
    have EN:=hx.net i hi j hj
    have hc:=hs.cell i hi j hj
    rw[if_neg (by omega)] at hc
    refine⟨by simp only[List.length_set];exact hs.al,fun x fS sk=>?_,?_,fun x fS sk=>?_,by simp only[List.length_set];exact hs.pl,IL hs.pl hs.pr hi,fun x fS y EO=>?_⟩
    ·rw[jG,if_neg (by grind)]
     exact hs.done x fS sk
    ·rw[jG,if_pos ⟨rfl,by rw[hs.al];exact hi⟩,hs.here]
     dsimp only
     rw[qH (by omega) (by omega)]
     show(_,_)=((a.getD i ad).1-(zW _ j+_),_)
     grind
    ·rw[jG,if_neg (by grind)]
     exact hs.rest x fS sk
    ·have e:(s.2.getD i []).getD j 0=cell p i j:=hc
     rw[OZ (by rw[hs.pl];exact hi) (by rw[hs.pr i hi];exact hj),e]
     by_cases IS:x=i∧y=j
     ·obtain⟨rfl,rfl⟩:=IS
      rw[if_pos ⟨rfl,rfl⟩,if_pos (by omega),qH (by omega) (by omega)]
      omega
     ·rw[if_neg IS,hs.cell x fS y EO]
      omega) (s:=(a0,p0)) hk h0
 grind
theorem vHc {k n a b m p l}(hk:n<k)(cn:l.length<k)(hn:n≤1000)(hx:IK n a p)(hl:wF n l)(b0:List qT) b1 b2 b3:
  ∃a' p',IT k k l 0 b0 b1 b2 b3 a b m p=some (b0,b1,b2,b3,a',b,m,p')∧pz n a p l a' p':=by
 obtain ⟨s, h1, h2⟩ := vU (L := fun c i (s : List qT × EQ) => IT k c l i b0 b1 b2 b3 s.1 b m s.2) (N := n) (fun s => (b0, b1, b2, b3, s.1, b, m, s.2)) (fun i s => yQt n a p l i s.1 s.2) (fun c s hs=>by
   show EP k _ l n b0 b1 b2 b3 s.1 b m s.2=_
   unfold EP
   simp only [qJ, hs.al, ak (Nat.lt_irrefl _), ao]) (fun c i s hi hs=>by
   have hai:=hs.rest i hi (by simp)
   have hr:=hx.res i hi
   have hsp:=zx hl i
   obtain⟨a',p',h1,h2⟩:=yNx (a0:=s.1.set i ((s.1.getD i ad).1,((s.1.getD i ad).2.1,wI (s.1.getD i ad).2.2 (zL (gR i) l)))) (p0:=s.2) hk cn hn hx hl hi b0 b1 b2 b3 b m ⟨by rw[List.length_set];exact hs.al,fun x fS sk=>by
     rw[jG,if_neg (by grind)];exact hs.done x fS sk,by
     rw[jG,if_pos ⟨rfl,by rw[hs.al];exact hi⟩,hai]
     show _=((a.getD i ad).1-0,_,_)
     simp,fun x fS sk=>by
     rw[jG,if_neg (by grind)];exact hs.rest x fS (by omega),hs.pl,hs.pr,fun x fS y EO=>by
     rw[hs.cell x fS y EO]
     omega⟩
   refine⟨(a',p'),?_,?_⟩
   ·show EP k _ l i b0 b1 b2 b3 s.1 b m s.2=_
    unfold EP
    have hK:=yZt k (s.1.getD i ad).1 (s.1.getD i ad).2.1 (s.1.getD i ad).2.2 (zL (gR i) l) (by grind) (by grind) hsp.1
    simp only[qL,qJ,aF,hs.al,ah hi,an,vEg cn hl,aj]
    rw[hK]
    simp only[aj]
    rw[h1]
    simp only[aj,qM hi (by grind)]
   ·refine⟨h2.al,fun x fS sk=>?_,fun x fS sk=>h2.rest x fS (by omega),h2.pl,h2.pr,fun x fS y EO=>?_⟩
    ·by_cases h:x<i
     ·exact h2.done x fS h
     ·have:x=i:=by omega
      subst this
      rw[h2.here,qXw hl.1 x fS]
      simp
    ·rw[h2.cell x fS y EO]
     omega) (s:=(a,p)) hk ⟨hx.al,by simp,by simp,hx.pl,hx.pr,by simp⟩
 exact⟨s.1,s.2,h1,h2.al,fun i hi=>h2.done i hi hi,h2.pl,h2.pr,fun i hi j hj=>by rw[h2.cell i hi j hj,if_pos hi]⟩
def nO (a:List qT)(b:EQ)(m:AC)(p:EQ)(l:List zC)(r:List qT×EQ×AC×EQ×Int):Prop:=
 (wF a.length l→∃a' p',pz a.length a p l a' p'∧r=(bif j3 a' b m p' then(a',b,m,p',0) else(a,b,m,p,8)))∧(¬wF a.length l→r=(a,b,m,p,1))
theorem IU {k}(hk:100<k){a b m p}{l:List zC}(h:wP a b m p)(hl:l.length≤80):∃r,mw k a b m p l=some r∧nO a b m p l r:=by
 unfold mw nO
 have e:decide (((l.length:Nat):Int)>64)=decide (¬l.length≤64):=by
  grind
 rw[e]
 by_cases cy:l.length≤64
 case neg=>
  rw[ah cy]
  exact⟨_,rfl,fun e=>absurd e.2 cy,by simp⟩
 rw[ak (by omega),yVj (by omega) (by omega)]
 cases hm:lA a.length l with
 |false=>
  refine⟨_,rfl,fun e=>?_,by simp⟩
  rw[zv.2 e.1] at hm
  cases hm
 |true=>
  have aC:wF a.length l:=⟨zv.1 hm,cy⟩
  simp only[EH (show 10<k by omega) h.toSized,aj]
  obtain⟨a',p',h1,h2⟩:=yQd (b:=b) (m:=m) (show l.length<k by omega) h.nums aC a b m p
  rw[h1]
  simp only[aj,yBk (show 10<k by omega)]
  cases hB:j3 a' b m p' with
  |true=>exact⟨_,rfl,by grind,by grind⟩
  |false=>exact⟨_,rfl,by grind,by grind⟩
theorem vK0 {k}(hk:100<k){a b m p}{l:List zC}(h:wP a b m p)(hl:l.length≤80):∃r,O7 k a b m p l=some r∧nO a b m p l r:=by
 unfold O7 nO
 rw[yT3 (by omega) (by omega)]
 cases hm:lA a.length l with
 |false=>
  refine⟨_,rfl,fun e=>?_,by simp⟩
  rw[zv.2 e.1] at hm
  cases hm
 |true=>
  by_cases cy:l.length≤64
  case neg=>
   rw[ak cy]
   exact⟨_,rfl,fun e=>absurd e.2 cy,by simp⟩
  have aC:wF a.length l:=⟨zv.1 hm,cy⟩
  have h6:=h.n6
  rw[ah cy]
  simp only[yWa (show 10<k by omega) h.toSized,aj]
  obtain⟨a',p',h1,h2⟩:=vHc (b:=b) (m:=m) (show a.length<k by omega) (by grind) (by omega) h.nums aC a b m p
  rw[h1]
  simp only[aj,vK8 (show 10<k by omega)]
  cases hB:j3 a' b m p' with
  |true=>exact⟨_,rfl,by grind,by grind⟩
  |false=>exact⟨_,rfl,by grind,by grind⟩
theorem nO.same {a b m p l r r'}(h:nO a b m p l r)(h':nO a b m p l r'):r=r':=by
 by_cases c:wF a.length l
 ·obtain⟨a1,p1,x,rfl⟩:=h.1 c
  obtain⟨a2,p2,y,rfl⟩:=h'.1 c
  obtain⟨rfl,rfl⟩:=x.same y
  rfl
 ·rw[h.2 c,h'.2 c]
theorem yEb {a b m p}(hb:wP a b m p){i}(hi:i<a.length) j:-72057594037927936≤cell p i j∧cell p i j≤72057594037927936:=by
 by_cases hj:j<a.length
 ·have:=hb.net i hi j hj
  simp[dL] at this
  omega
 ·have:cell p i j=0:=by
   unfold cell
   rw[List.getD_eq_getElem?_getD,List.getElem?_eq_none]
   ·rfl
   ·rw[hb.pr i hi];omega
  omega
theorem qYb {S X:Type}{L:Nat→Int→S→Option X}{N:Nat}(ok:Nat→Bool)(e:S→X)(b:X)(inv:Nat→S→Prop)(bh:∀n s,inv N s→L (n+1) (N:Int) s=some (e s))
  (ax:∀n i s,i<N→inv i s→(ok i=true→∃s',L (n+1) (i:Int) s=L n ((i+1:Nat):Int) s'∧inv (i+1) s')∧(ok i=false→L (n+1) (i:Int) s=some b)):
  ∀c i n s,i+c=N→c<n→inv i s→(qD ok c i=true∧∃s',L n (i:Int) s=some (e s')∧inv N s')∨(qD ok c i=false∧L n (i:Int) s=some b)
 |0,i,n,s,h,hn,hs=>by
  obtain⟨n,rfl⟩:∃m,n=m+1:=⟨n-1,by omega⟩
  have:i=N:=by omega
  subst this
  exact .inl ⟨rfl,s,bh n s hs,hs⟩
 |c+1,i,n,s,h,hn,hs=>by
  obtain⟨n,rfl⟩:∃m,n=m+1:=⟨n-1,by omega⟩
  obtain⟨h1,h2⟩:=ax n i s (by omega) hs
  unfold qD
  cases ho:ok i with
  |true=>
   obtain⟨s',h3,h4⟩:=h1 ho
   rw[h3]
   simp only[Bool.true_and]
   exact qYb ok e b inv bh ax c (i+1) n s' (by omega) (by omega) h4
  |false=>exact .inr ⟨rfl,h2 ho⟩
def dS (l:List zC)(i j:Nat):Int:=zL (gS i j) l-zL (gS j i) l
def IV (b p:EQ)(l:List zC)(i j:Nat):Bool:= !(decide (zL (gS i j) l>0)&&(!decide (cell b i j= -1)&&decide (cell p i j+dS l i j>cell b i j)))
def j4 (a:List qT)(b:EQ)(m:AC)(p:EQ)(l:List zC)(i:Nat):Bool:=
 !decide (zL (gN i) l + zL (gR i) l = 0) && (!qD (IV b p l i) a.length 0 || (decide ((a.getD i ad).1+(a.getD i ad).2.1+zL (gB i) l<0)||
  ((decide (zL (gN i) l>0)&&decide ((a.getD i ad).1+(a.getD i ad).2.1+zL (gB i) l<wI (a.getD i ad).2.2 (zL (gR i) l)))||
   (!decide (m.getD i 0= -1)&&decide (zW (cell p i) a.length-zL (gB i) l>m.getD i 0)))))
theorem IW {n:Nat}{l:List zC}(hl:wF n l)(i j:Nat):-70368744177664≤dS l i j∧dS l i j≤70368744177664:=by
 have h1:=py hl i j
 have h2:=py hl j i
 unfold dS
 omega
theorem vKi {n:Nat}{l:List zC}(hl:∀p∈l,yP n p)(i:Nat)(hi:i<n):zW (dS l i) n= -zL (gB i) l:=qXw hl i hi
def z9 (a:List qT)(b:EQ)(m:AC)(p:EQ)(l:List zC):Bool:=(lA a.length l&&decide (l.length≤64))&&qD (fun i=> !j4 a b m p l i) a.length 0
theorem vJo {k n i p}(hk:n<k)(hn:n≤100)(hi:i<n)(hp:p.length=n)(hr:(p.getD i []).length=n)(hb:∀j,-72057594037927936≤cell p i j∧cell p i j≤72057594037927936)(a:List qT) b m:
  IX k a b m p i=some (zW (cell p i) n):=by
 obtain ⟨s, h1, h2⟩ := vU (L := fun c j (s : Int) => Au k c s (p.getD i []) n j) (N := n) (fun s => s) (fun j s => s = zW (cell p i) j) (fun c s hs=>by
   show Av k _ s (p.getD i []) n n=_
   unfold Av
   simp) (fun c j s hj hs=>by
   refine⟨zW (cell p i) (j+1),?_,rfl⟩
   show Av k _ s (p.getD i []) n j=_
   have h1:=Ej hb j
   have h2:=hb j
   unfold Av
   simp only[qL,qM hj (by grind),qJ,hr,ah hj]
   show Au k c (zA (s+cell p i j)) _ _ _=_
   rw[hs,qH (by omega) (by omega)]
   rfl) (s:=0) hk rfl
 unfold IX
 simp[qL]
 simp_all
theorem yAx k {n:Nat}(hn:n≤6):ER k n=some true:=by
 unfold ER
 grind
theorem qRm {α:Type}(v z:α) n i (hi:i<n):(List.replicate i v++List.replicate (n-i) z).set i v=List.replicate (i+1) v++List.replicate (n-(i+1)) z:=by
 have e:List.replicate (n-i) z=z::List.replicate (n-(i+1)) z:=by
  rw[show n-i=(n-(i+1))+1 by omega];rfl
 rw[List.set_append_right _ _ (by simp),List.length_replicate,Nat.sub_self,e]
 simp[List.replicate_succ']
theorem yAq {k n}(hk:n<k)(hn:n≤6) v:uN k n v=some (List.replicate n v):=by
 unfold uN
 rw[yAx k hn]
 obtain ⟨s, h1, h2⟩ := vU (L := fun c i (s : AC) => ES k c v n i s) (N := n) (fun s => s) (fun i s => s = List.replicate i v ++ List.replicate (n - i) 0) (fun c s hs=>by
   show Aw k _ v n n s=_
   unfold Aw
   simp) (fun c i s hi hs=>by
   refine⟨_,?_,rfl⟩
   show Aw k _ v n i s=_
   have hl:s.length=n:=by grind
   unfold Aw
   simp[qL,qM hi (by grind),ah hi,hl]
   rw[hs,qRm v 0 n i hi]) (s:=List.replicate n 0) hk (by simp)
 grind
theorem vLd {k n}(hk:n<k)(hn:n≤6) v:Ax k n v=some (List.replicate n (List.replicate n v)):=by
 unfold Ax
 rw[yAx k hn]
 obtain ⟨s, h1, h2⟩ := vU (L := fun c i (s : EQ) => ET k c n v n i s) (N := n) (fun s => s) (fun i s => s = List.replicate i (List.replicate n v) ++ List.replicate (n - i) []) (fun c s hs=>by
   show Ay k _ n v n n s=_
   unfold Ay
   simp) (fun c i s hi hs=>by
   refine⟨_,?_,rfl⟩
   show Ay k _ n v n i s=_
   have hl:s.length=n:=by grind
   unfold Ay
   simp[qL,qM hi (by grind),ah hi,hl,yAq hk hn]
   rw[hs,qRm (List.replicate n v) [] n i hi]) (s:=List.replicate n []) hk (by simp)
 grind
def uO (a:List qT)(b:EQ)(m:AC)(p:EQ)(l:List zC):AC:=((List.range a.length).filter fun i=>j4 a b m p l i).map fun(i:Nat)=>(i:Int)
structure IY (n:Nat) (l:List zC) (r2 r3:AC) (m4:EQ):Prop where
 l2:r2.length=n
 l3:r3.length=n
 l4:m4.length=n
 r4:∀i,i<n→(m4.getD i []).length=n
 more:∀i,i<n→r2.getD i 0=zL (gB i) l
 spent:∀i,i<n→r3.getD i 0=zL (gR i) l
 sent:∀i,i<n→∀j,j<n→cell m4 i j=dS l i j
def EU (p:zC)(r:AC):AC:=
 let y0:=r.set p.2.1.toNat (zA (r.getD p.2.1.toNat 0-p.2.2.2.1))
 y0.set p.2.2.1.toNat (zA (y0.getD p.2.2.1.toNat 0+p.2.2.2.1))
def EV (p:zC)(r:AC):AC:=bif !decide (p.2.2.2.2.1=3) then r.set p.2.1.toNat (zA (r.getD p.2.1.toNat 0+p.2.2.2.1)) else r
theorem yRt {n p}(h:yP n p){r}(hr:r.length=n){i}(hi:i<n)(hb:∀i,i<n→-4611826755915743232<r.getD i 0∧r.getD i 0<4611826755915743232):(EU p r).getD i 0=r.getD i 0+gB i p:=by
 obtain⟨f0,f1,t0,t1,ne,a1,a2,c1,c3⟩:=h
 obtain⟨f,hf⟩:∃f:Nat,p.2.1=f:=⟨p.2.1.toNat,by omega⟩
 obtain⟨t,ht⟩:∃t:Nat,p.2.2.1=t:=⟨p.2.2.1.toNat,by omega⟩
 have IM:f≠t:=by omega
 have eV:f<n:=by omega
 have ef:t<n:=by omega
 unfold EU gB
 simp only[hf,ht,aF]
 have b1:=hb f eV
 have b2:=hb t ef
 have key:∀x,(r.set f (zA (r.getD f 0-p.2.2.2.1))).getD x 0=if f=x then zA (r.getD f 0-p.2.2.2.1) else r.getD x 0:=by grind
 rw[jG,List.length_set,key t,if_neg IM,key i]
 by_cases h1:t=i
 ·subst h1
  rw[if_pos (by grind),if_pos rfl,if_neg (by omega),qH (by omega) (by omega)]
  omega
 ·rw[if_neg (by grind),if_neg (c:=((t:Int)=i)) (by omega)]
  by_cases h2:f=i
  ·subst h2
   rw[if_pos rfl,if_pos rfl,qH (by omega) (by omega)]
   omega
  omega
theorem yXj {n p}(h:yP n p){r}(hr:r.length=n){i}(hi:i<n)(hb:∀i,i<n→-4611826755915743232<r.getD i 0∧r.getD i 0<4611826755915743232):(EV p r).getD i 0=r.getD i 0+gR i p:=by
 obtain⟨f0,f1,t0,t1,ne,a1,a2,c1,c3⟩:=h
 obtain⟨f,hf⟩:∃f:Nat,p.2.1=f:=⟨p.2.1.toNat,by omega⟩
 have eV:f<n:=by omega
 have b1:=hb f eV
 unfold EV gR
 simp only[hf,aF]
 by_cases hc:p.2.2.2.2.1=3
 ·simp_all
 ·rw[ak hc]
  simp only[dZ,an]
  rw[jG]
  by_cases h2:f=i
  ·subst h2
   rw[if_pos (by grind),if_pos (by grind),qH (by omega) (by omega)]
  omega
theorem yWp l p i j:dS (l++[p]) i j=dS l i j+gS i j p-gS j i p:=by
 unfold dS
 rw[ee,ee]
 dsimp only[zL]
 omega
theorem IZ {α:Type} n i (v d:α)(h:i<n):(List.replicate n v).getD i d=v:=by
 simp_all
theorem vDf {k n l}(hk:100<k)(hn:n≤6)(hl:wF n l):∃r2 r3 m4,I1 k n l=some (r2,r3,m4)∧IY n l r2 r3 m4:=by
 have kK:=hl.2
 have := vU (L := fun c i (s : AC × AC × EQ) => EW k c l l.length i s.1 s.2.1 s.2.2) (N := l.length) (fun s => s) (fun i s => IY n (l.take i) s.1 s.2.1 s.2.2) (fun c s hs=>by
   show Az k _ l l.length l.length s.1 s.2.1 s.2.2=_
   unfold Az
   simp) (fun c i s hi hs=>by
   have bB:yP n (l.getD i pd):=hl.1 _ (jR hi)
   refine⟨(EU (l.getD i pd) s.1,EV (l.getD i pd) s.2.1,si (l.getD i pd) s.2.2),?_,?_⟩
   ·show Az k _ l l.length i s.1 s.2.1 s.2.2=_
    unfold Az EU EV si
    simp only[qL,qM hi (by grind),qJ,aF,ah hi,an]
    obtain⟨f0,f1,t0,t1,ne,a1,a2,c1,c3⟩:=bB
    obtain⟨f,hf⟩:∃f:Nat,(l.getD i pd).2.1=f:=⟨(l.getD i pd).2.1.toNat,by omega⟩
    obtain⟨t,ht⟩:∃t:Nat,(l.getD i pd).2.2.1=t:=⟨(l.getD i pd).2.2.1.toNat,by omega⟩
    have eV:f<n:=by omega
    have ef:t<n:=by omega
    have r1:=IL (x:=zA ((s.2.2.getD f []).getD t 0+(l.getD i pd).2.2.2.1)) (t:=t) hs.l4 hs.r4 eV
    simp only[hf,ht,aF,qL,hs.l2,hs.l3,hs.l4,List.length_set,hs.r4 f eV,r1 t ef,ah eV,ah ef,an]
    grind
   ·have aC:=hl.take i
    have hp := yMw bB hs.l4 hs.r4 (fun i' aY j' gi=>by
     rw[hs.sent i' aY j' gi]
     have:=IW aC i' j'
     omega)
    have hbM:∀i',i'<n→-4611826755915743232<s.1.getD i' 0∧s.1.getD i' 0<4611826755915743232:=fun i' aY=>by
     rw[hs.more i' aY];have:=OY aC i';omega
    have hbS:∀i',i'<n→-4611826755915743232<s.2.1.getD i' 0∧s.2.1.getD i' 0<4611826755915743232:=fun i' aY=>by
     rw[hs.spent i' aY];have:=zx aC i';omega
    refine⟨by unfold EU;simp[hs.l2],by unfold EV;cases decide ((l.getD i pd).2.2.2.2.1=3)<;>simp[hs.l3],hp.1,hp.2.1,fun i' aY=>?_,fun i' aY=>?_,fun i' aY j' gi=>?_⟩
    ·rw[yRt bB hs.l2 aY hbM,hs.more i' aY,←jM l i pd hi,ee]
     dsimp only[zL]
     omega
    ·rw[yXj bB hs.l3 aY hbS,hs.spent i' aY,←jM l i pd hi,ee]
     dsimp only[zL]
     omega
    ·rw[hp.2.2 i' aY j' gi,hs.sent i' aY j' gi,←jM l i pd hi,yWp]) (n:=k) (s:=(List.replicate n 0,List.replicate n 0,List.replicate n (List.replicate n 0))) (by omega) ⟨by simp,by simp,by simp,by grind,fun i hi=>by rw[IZ n i _ _ hi];rfl,fun i hi=>by rw[IZ n i _ _ hi];rfl,fun i hi j hj=>by
    unfold cell
    rw[IZ n i _ _ hi,IZ n j _ _ hj]
    rfl⟩
 obtain⟨s,h1,h2⟩:=this
 rw[List.take_of_length_le (Nat.le_refl _)] at h2
 refine⟨s.1,s.2.1,s.2.2,?_,h2⟩
 unfold I1
 rw[yAq (by omega) hn,vLd (by omega) hn]
 simp_all
theorem yQc {k}{l:List zC}(hk:l.length<k)(hl:l.length<9223372036854775808) i:I2 k l i=some (!qD (fun x=> !decide ((l.getD x pd).2.1=i)) l.length 0):=by
 obtain ⟨x, h1, h2⟩ := pq (L := fun c x => EX k c l l.length x i) (N := l.length) (fun x => decide ((l.getD x pd).2.1 = i)) (fun c=>by
   show AA k _ l l.length l.length i=_
   unfold AA
   simp) (fun c x hx=>by
   show AA k _ l l.length x i=_
   unfold AA O8
   simp[qL,qM hx hl,ah hx]) hk
 unfold I2 O9
 grind
theorem yH1 {n:Nat}{l:List zC}(hl:∀p∈l,yP n p)(i:Nat):qD (fun x=> !decide ((l.getD x pd).2.1=i)) l.length 0=decide (zL (gN i) l+zL (gR i) l=0):=by
 have hN:=rU (g:=gN i) (l:=l) fun p hp=>(IP (hl p hp) i).1
 have hR:=rU (g:=gR i) (l:=l) fun p hp=>(IJ (hl p hp) i).1
 have e:zL (gN i) l+zL (gR i) l=zL (fun p:zC=>if p.2.1=(i:Int) then p.2.2.2.1 else 0) l:=by
  rw[←yJf]
  refine H9 fun p hp=>?_
  unfold gN gR
  omega
 rw[e]
 have h:∀(l:List zC),(∀p∈l,yP n p)→((∀p∈l,¬p.2.1=i)↔zL (fun p:zC=>if p.2.1=(i:Int) then p.2.2.2.1 else 0) l=0):=by
  intro l
  induction l with
  |nil=>intro _;simp[zL]
  |cons q l ih=>
   intro hm
   have ih:=ih (by grind)
   have hq:=hm q (by simp)
   have h0:0≤zL (fun p:zC=>if p.2.1=i then p.2.2.2.1 else 0) l:=rU fun p hp=>by
    have:=(hm p (by grind)).a1
    omega
   unfold zL
   by_cases c:q.2.1=i
   ·rw[if_pos c]
    have:=hq.a1
    grind
   simp_all
 have aM:(∀p∈l,¬p.2.1=i)↔qD (fun x=> !decide ((l.getD x pd).2.1=i)) l.length 0=true:=by
  rw[dI]
  constructor
  ·intro h j hj
   simpa using h _ (jR hj)
  ·intro h p hp
   obtain⟨j,hj,rfl⟩:=List.getElem_of_mem hp
   have:=h j hj
   simpa[List.getD,hj] using this
 simp_all
def AB (n EY:Int):Bool:= !decide (EY= -1)&&decide (n>EY)
theorem yEe k n EY:AE k n EY=some (AB n EY):=by
 unfold AE AB
 grind
theorem yPp k b c r s (h:-9223372036854775808≤r-s)(h':r<9223372036854775808)(hs:0≤s):sj k b c r s=some (wI r s):=by
 unfold sj wI vV
 rw[qH h (by omega),ao]
 grind
def uP (b p:EQ)(l:List zC)(i:Nat)(short:Bool)(q:zC):Bool:=
 decide (q.2.1=i)&&((decide (q.2.2.2.2.1=3)&&short)||AB (cell p i q.2.2.1.toNat+dS l i q.2.2.1.toNat) (cell b i q.2.2.1.toNat))
theorem vIq {k a b m p l}(hk:100<k)(hb:wP a b m p)(hl:wF a.length l){r2 r3 m4}(hm:IY a.length l r2 r3 m4){i}(hi:i<a.length) bal cr res n0 (iC:0≤res∧res≤2305843009213693952):
  I3 k l i bal cr res r2 r3 m4 n0 a b m p=some (!qD (fun x=> !uP b p l i (decide (n0<wI res (zL (gR i) l))) (l.getD x pd)) l.length 0):=by
 have kK:=hl.2
 have hR:=zx hl i
 obtain ⟨x, h1, h2⟩ := pq (L := fun c x => EZ k c l l.length x i bal cr res r2 r3 m4 n0 a b m p) (N := l.length) (fun x => uP b p l i (decide (n0 < wI res (zL (gR i) l))) (l.getD x pd)) (fun c=>by
   show AF k _ l l.length l.length i bal cr res r2 r3 m4 n0 a b m p=_
   unfold AF
   simp) (fun c x hx=>by
   show AF k _ l l.length x i bal cr res r2 r3 m4 n0 a b m p=_
   have bB:yP a.length (l.getD x pd):=hl.1 _ (by grind)
   unfold AF
   simp only[qL,qM hx (by grind),qJ,aF,ah hx]
   generalize l.getD x (0,(0,(0,(0,(0,(0,0))))))=q at bB⊢
   obtain⟨id,f,t,am,cl,st,ti⟩:=q
   obtain⟨f0,f1,t0,t1,ne,a1,a2,c1,c3⟩:=bB
   dsimp only at f0 f1 t0 t1 ne a1 a2 c1 c3⊢
   obtain⟨t,rfl⟩:∃y:Nat,t=y:=⟨t.toNat,by omega⟩
   have ef:t<a.length:=by omega
   unfold Pb uP
   cases hf:decide (f=(i:Int)) with
   |false=>simp
   |true=>
    have e1:(r3.getD i 0)=zL (gR i) l:=hm.spent i hi
    have e2:(m4.getD i []).getD t 0=dS l i t:=hm.sent i hi t ef
    have EN:=hb.nums.net i hi t ef
    have hd:=IW hl i t
    have e3:zA ((p.getD i []).getD t 0+dS l i t)=cell p i t+dS l i t:=qH (by show _≤cell p i t+dS l i t;omega) (by show cell p i t+dS l i t<_;omega)
    simp only[qL,hm.l3,hm.l4,hm.r4 i hi,hb.pl,hb.pr i hi,hb.bl,hb.br i hi,ah hi,ah ef,aF,e1,e2,e3,yPp k bal cr res (zL (gR i) l) (by omega) (by omega) hR.1,aj,yEe]
    cases decide (cl=3)<;>cases decide (n0<wI res (zL (gR i) l))<;>rfl) (n:=k) (by omega)
 unfold I3 Pc
 grind
theorem Pd {α g}:∀{l:List α},(∀p∈l,0≤g p)→(0<zL g l↔∃p∈l,0<g p)
 |[],_=>by simp[zL]
 |q::l,h=>by
  have ih:=Pd (g:=g) (l:=l) (by grind)
  have h0:=rU (g:=g) (l:=l) (by grind)
  unfold zL
  grind
theorem I4 {N p}:qD p N 0=false↔∃j,j<N∧p j=false:=by
 constructor
 ·apply Classical.byContradiction
  intro hn
  have:qD p N 0=true:=dI.2 (by grind)
  simp_all
 ·rintro⟨j,hj,hp⟩
  cases h:qD p N 0 with
  |false=>rfl
  |true=>rw[dI.1 h j hj] at hp;cases hp
theorem vCn {a:List qT}{b p l}(hl:wF a.length l){i}(hi:i<a.length) short:
  (!qD (fun x=> !uP b p l i short (l.getD x pd)) l.length 0)=(!qD (IV b p l i) a.length 0||(decide (zL (gN i) l>0)&&short)):=by
 have hN:=Pd (g:=gN i) (l:=l) fun p hp=>(IP (hl.1 p hp) i).1
 have hS:=fun j=>Pd (g:=gS i j) (l:=l) fun p hp=>(OX (hl.1 p hp) i j).1
 rw[Bool.eq_iff_iff]
 simp only[Bool.not_eq_true',Bool.or_eq_true,bI,bD]
 rw[I4,I4]
 constructor
 ·rintro⟨x,hx,hb⟩
  have bB:=hl.1 _ (jR (d:=pd) hx)
  have bx:=jR (d:=pd) hx
  generalize l.getD x pd=q at hb bB bx
  simp only[uP,Bool.not_eq_false',bI,Bool.or_eq_true,bD] at hb
  obtain⟨hf,hb⟩:=hb
  rcases hb with⟨hc,hs⟩|ho
  ·refine .inr ⟨hN.2 ⟨q,bx,?_⟩,hs⟩
   unfold gN
   rw[if_pos ⟨hf,hc⟩]
   have:=bB.a1;omega
  ·have h1:=bB.t0;have h2:=bB.t1
   refine .inl ⟨q.2.2.1.toNat,by omega,?_⟩
   unfold IV
   have pt:zL (gS i q.2.2.1.toNat) l>0:=(hS _).2 ⟨q,bx,by
    unfold gS
    rw[if_pos (by grind)]
    have:=bB.a1;omega⟩
   rw[ah pt]
   unfold AB at ho
   simp_all
 ·rintro(⟨j,hj,hb⟩|⟨hp,hs⟩)
  ·simp only[IV,Bool.not_eq_false',bI,bD] at hb
   obtain⟨pt,ho⟩:=hb
   obtain⟨q,hq,hg⟩:=(hS j).1 pt
   obtain⟨x,hx,rfl⟩:=List.getElem_of_mem hq
   refine⟨x,hx,?_⟩
   have e:l.getD x pd=l[x]:=by simp[List.getD,hx]
   rw[e]
   unfold gS at hg
   by_cases c:l[x].2.1=(i:Int)∧l[x].2.2.1=(j:Int)
   ·unfold uP AB
    simp_all
   ·rw[if_neg c] at hg;omega
  ·obtain⟨q,hq,hg⟩:=hN.1 hp
   obtain⟨x,hx,rfl⟩:=List.getElem_of_mem hq
   refine⟨x,hx,?_⟩
   have e:l.getD x pd=l[x]:=by simp[List.getD,hx]
   rw[e]
   unfold gN at hg
   by_cases c:l[x].2.1=(i:Int)∧l[x].2.2.2.2.1=3
   ·unfold uP
    simp_all
   ·rw[if_neg c] at hg;omega
theorem vC8 {k a b m p l}(hk:100<k)(hb:wP a b m p)(hl:wF a.length l){r2 r3 m4}(hm:IY a.length l r2 r3 m4){i}(hi:i<a.length)(hs:decide (zL (gN i) l+zL (gR i) l=0)=false):
  I5 k r2 r3 m4 a b m p i l=some (j4 a b m p l i):=by
 have h6:=hb.n6
 have kK:=hl.2
 have hB:=OY hl i
 have hx:=hb.acct i hi
 simp only[dq,bI,bD] at hx
 have E0:-4611686018427387904<(a.getD i ad).1∧(a.getD i ad).1<4611686018427387904∧0≤(a.getD i ad).2.1∧(a.getD i ad).2.1≤2305843009213693952∧0≤(a.getD i ad).2.2∧(a.getD i ad).2.2≤2305843009213693952:=by grind
 have EN:=Ej (yEb hb hi) a.length
 have e1:r2.getD i 0=zL (gB i) l:=hm.more i hi
 unfold I5
 simp only[qL,ah hi,an,aF,hm.l2,hm.l4,e1,hm.r4 i hi]
 rw[vJo (by omega) (by omega) hi hb.pl (hb.pr i hi) (yEb hb hi)]
 rw[qH (x:=(a.getD i ad).1+(a.getD i ad).2.1) (by omega) (by omega),qH (x:=(a.getD i ad).1+(a.getD i ad).2.1+zL (gB i) l) (by omega) (by omega)]
 unfold j4
 rw[hs]
 cases hn:decide ((a.getD i ad).1+(a.getD i ad).2.1+zL (gB i) l<0) with
 |true=>simp
 |false=>
  obtain ⟨s, q1, q2⟩ := vU (L := fun c j (s : Int) => uQ k c l s (m4.getD i []) a.length j r2 r3 m4 a b m p i (a.getD i ad).1 (a.getD i ad).2.1 (a.getD i ad).2.2 ((a.getD i ad).1 + (a.getD i ad).2.1 + zL (gB i) l)) (N := a.length) (fun s => (l, s, r2, r3, m4, a, b, m, p, (i : Int), (a.getD i ad).1, (a.getD i ad).2.1, (a.getD i ad).2.2, (a.getD i ad).1 + (a.getD i ad).2.1 + zL (gB i) l)) (fun j s => s = zW (cell p i) a.length + zW (dS l i) j) (fun c s hs=>by
    show AG k _ l s (m4.getD i []) a.length a.length r2 r3 m4 a b m p i (a.getD i ad).1 (a.getD i ad).2.1 (a.getD i ad).2.2 ((a.getD i ad).1+(a.getD i ad).2.1+zL (gB i) l)=_
    unfold AG
    simp) (fun c j s hj hs=>by
    refine⟨zW (cell p i) a.length+zW (dS l i) (j+1),?_,rfl⟩
    show AG k _ l s (m4.getD i []) a.length j r2 r3 m4 a b m p i (a.getD i ad).1 (a.getD i ad).2.1 (a.getD i ad).2.2 ((a.getD i ad).1+(a.getD i ad).2.1+zL (gB i) l)=_
    have e2:(m4.getD i []).getD j 0=dS l i j:=hm.sent i hi j hj
    have Dh:=Ej (fun j=>IW hl i j) j
    have D7:=IW hl i j
    unfold AG
    simp only[qL,qM hj (by grind),qJ,aF,hm.r4 i hi,ah hj,an,e2]
    rw[hs,qH (x:=zW (cell p i) a.length+zW (dS l i) j+dS l i j) (by omega) (by omega),Int.add_assoc]
    rfl) (n:=k) (s:=zW (cell p i) a.length) (by omega) (by show _=_+0;omega)
  have q1':uQ k k l (zW (cell p i) a.length) (m4.getD i []) a.length 0 r2 r3 m4 a b m p i (a.getD i ad).1 (a.getD i ad).2.1 (a.getD i ad).2.2 ((a.getD i ad).1+(a.getD i ad).2.1+zL (gB i) l)=_:=q1
  simp only[ao,aj]
  rw[show uQ k k l (zW (cell p i) a.length) (m4.getD i []) a.length 0 r2 r3 m4 a b m p i (a.getD i (0,(0,0))).1 (a.getD i (0,(0,0))).2.1 (a.getD i (0,(0,0))).2.2 ((a.getD i ad).1+(a.getD i ad).2.1+zL (gB i) l)=_ from q1']
  simp only[aj,qL,hb.ml,ah hi,an,aF,yEe]
  rw[vIq hk hb hl hm hi _ _ _ _ (by grind),vCn hl hi,q2,vKi hl.1 i hi]
  have en:zW (cell p i) a.length+-zL (gB i) l=zW (cell p i) a.length-zL (gB i) l:=by omega
  rw[en]
  unfold AB
  grind
theorem yWh f i:((List.range (i+1)).filter f).map (fun(x:Nat)=>(x:Int))=(((List.range i).filter f).map fun(x:Nat)=>(x:Int))++(bif f i then[(i:Int)] else[]):=by
 rw[List.range_succ,List.filter_append,List.map_append]
 grind
theorem Pe {k a b m p l}(hk:100<k)(hb:wP a b m p)(hl:wF a.length l):uR k a b m p l=some (uO a b m p l):=by
 have h6:=hb.n6
 have kK:=hl.2
 obtain⟨r2,r3,m4,g1,hm⟩:=vDf hk h6 hl
 obtain ⟨r, h1, h2⟩ := vU (L := fun c i (r : AC) => AH k c l a.length i a b m p r2 r3 m4 r) (N := a.length) (fun r => r) (fun i r => r = ((List.range i).filter fun i => j4 a b m p l i).map fun (x : Nat) => (x : Int)) (fun c r hr=>by
   show AI k _ l a.length a.length a b m p r2 r3 m4 r=_
   unfold AI
   simp) (fun c i r hi hr=>by
   have hle:r.length≤i:=by
    grind
   have az:zU (r.length+1) 8=true:=qY (by omega) (by omega)
   refine⟨_,?_,rfl⟩
   show AI k _ l a.length i a b m p r2 r3 m4 r=_
   unfold AI
   simp only[qM hi (by grind),yQc (show l.length<k by omega) (by omega)]
   rw[yH1 hl.1,yWh,←hr]
   cases hz:decide (zL (gN i) l+zL (gR i) l=0) with
   |true=>
    have:j4 a b m p l i=false:=by unfold j4;simp_all
    simp_all
   |false=>
    rw[vC8 hk hb hl hm hi hz]
    grind) (n:=k) (s:=[]) (by omega) rfl
 unfold uR
 rw[g1]
 simp
 have fH:AH k k l a.length 0 a b m p r2 r3 m4 []=some r:=h1
 rw[fH,h2]
 rfl
theorem vBt {a b m p l}:decide (((uO a b m p l).length:Int)=0)=qD (fun i=> !j4 a b m p l i) a.length 0:=by
 unfold uO
 cases h:qD (fun i=> !j4 a b m p l i) a.length 0 with
 |true=>
  rw[dI] at h
  simp_all
 |false=>
  apply ak
  intro h0
  obtain⟨j,hj,hs⟩:=I4.1 h
  simp_all
theorem yR9 {k}{l:List zC}(hk:l.length<k)(hl:l.length<9223372036854775808)(a:List qT) b m p:I6 k l a b m p=some (!lA a.length l):=by
 obtain ⟨x, h1, h2⟩ := pq (L := fun c i => E1 k c l l.length i a b m p) (N := l.length) (fun i => !mv a.length (l.getD i pd)) (fun c=>by
  show AJ k _ l l.length l.length a b m p=_
  unfold AJ
  simp) (fun c i hi=>by
  show AJ k _ l l.length i a b m p=_
  unfold AJ Pf
  simp[qL,qM hi hl,ah hi,IH]) hk
 unfold I6 Pg
 unfold lA
 grind
theorem vBg {k a b m p}{l:List zC}(hk:100<k)(hb:wP a b m p)(hl:l.length≤80):uS k a b m p l=some (z9 a b m p l):=by
 unfold uS z9
 have e:decide ((l.length:Int)≤64)=decide (l.length≤64):=by
  grind
 rw[e,yR9 (by omega) (by omega)]
 cases cy:decide (l.length≤64) with
 |false=>simp
 |true=>
  cases hm:lA a.length l with
  |false=>rfl
  |true=>
   have hr:wF a.length l:=⟨zv.1 hm,by grind⟩
   simp only[an,aj,aU,dZ,Pe hk hb hr,vBt,Bool.true_and]
def qS (l:List zC):Prop:=List.Pairwise (fun p q=>p.1≠q.1) l
theorem qS.filter {l:List zC}(h:qS l)(f:zC→Bool):qS (l.filter f):=List.Pairwise.filter f h
theorem E2 {α:Type}(f:α→Bool)(l:List α)(i:Nat)(d:α)(h:i<l.length):(l.take (i+1)).filter f=(l.take i).filter f++(bif f (l.getD i d) then[l.getD i d] else[]):=by
 rw[←jM l i d h,List.filter_append]
 congr 1
theorem yH4 {α X:Type}(d:α){l:List α}{L:Nat→Int→List α→Option X}(f:α→Bool)(e:List α→X)(bh:∀n s,L (n+1) (l.length:Int) s=some (e s))
  (ax:∀n i s,i<l.length→s.length≤i→L (n+1) (i:Int) s=L n ((i+1:Nat):Int) (bif f (l.getD i d) then s++[l.getD i d] else s)) {n:Nat} (hn:l.length<n):
  L n 0 []=some (e (l.filter f)):=by
 obtain ⟨s', h1, h2⟩ := vU (L := L) (N := l.length) e (fun i s => s = (l.take i).filter f) (fun n s _ => bh n s) (fun n i s hi hs=>by
  refine⟨_,ax n i s hi ?_,?_⟩
  ·subst hs
   have:=List.length_filter_le f (l.take i)
   rw[List.length_take] at this
   omega
  ·subst hs
   rw[E2 f l i d hi]
   cases f (l.getD i d)<;>simp) (s:=[]) hn (by simp)
 rw[h1,h2,List.take_length]
def yZ (l:List zC):Prop:=l.length≤1000
theorem sm {n:Nat}(h:n≤1000):zU (n+1) 56=true:=qY (by omega) (by omega)
def my (t:Int)(p:zC):Bool:=bif decide (t≥p.2.2.2.2.2.1) then decide (t≤p.2.2.2.2.2.2) else false
theorem Ph {k:Nat}{l:List zC}(hk:l.length<k)(hl:yZ l)(t:Int):AK k l t=some (l.filter (my t)):=by
 unfold AK Pj
 have := yH4 pd (L := fun n i s => E3 k n l l.length i t s) (my t) id (fun n s=>by
  show AL k _ l l.length l.length t s=_
  unfold AL
  simp only [qJ, ak (Nat.lt_irrefl _), ao]; rfl) (fun n i s hi hs=>by
  show AL k _ l l.length i t s=_
  unfold AL Pk Pl
  unfold yZ at hl
  simp only[qL,qM hi (show l.length<9223372036854775808 by omega),qJ,aF,ah hi,an,sm (show s.length≤1000 by omega)]
  unfold my
  cases h1:decide (t≥(l.getD i pd).2.2.2.2.2.1) with
  |false=>rfl
  |true=>
   cases h2:decide (t≤(l.getD i pd).2.2.2.2.2.2)<;>rfl) hk
 rw[this]
 rfl
def jD (f:Int)(p:zC):Bool:=decide (p.2.1=f)
def Pm (r:List zC)(p:zC):Bool:=qD (fun x=>decide (((r.filter (jD p.2.1)).getD x pd).2.2.2.2.1=3)) (r.filter (jD p.2.1)).length 0
def Pn (r:List zC)(p:zC):Bool:=decide ((r.filter (jD p.2.1)).getD 0 pd=p)
def sn (r:List zC)(p:zC):Bool:=Pn r p||Pm r p
def wN (l:List zC)(t:Int):List zC:=(l.filter (my t)).filter (sn (l.filter (my t)))
def uT (f:Int)(q:zC):Bool:=decide (q.2.1=f)&& !decide (q.2.2.2.2.1=3)
theorem yTb {k:Nat}{l:List zC}(hk:l.length<k)(hl:l.length<9223372036854775808)(i f t a c s e:Int):
  I7 k l i f t a c s e=some (!qD (fun x=> !uT f (l.getD x pd)) l.length 0):=by
 obtain ⟨x, h1, h2⟩ := pq (L := fun n i' => AM k n l l.length i' i f t a c s e) (N := l.length) (fun x => uT f (l.getD x pd)) (fun n=>by
  show AN k _ l l.length l.length i f t a c s e=_
  unfold AN
  simp only [qJ, ak (Nat.lt_irrefl _), ao]) (fun n j hj=>by
  show AN k _ l l.length j i f t a c s e=_
  unfold AN Po
  simp only[qL,qM hj hl,qJ,aF,ah hj,an]
  unfold uT
  cases h1:decide ((l.getD j pd).2.1=f) with
  |false=>rfl
  |true=>cases h2:decide ((l.getD j pd).2.2.2.2.1=3)<;>rfl) hk
 unfold I7 Pp
 have fH:AM k k l l.length 0 i f t a c s e=some x:=h1
 rw[fH]
 rw[←h2]
 cases x<;>rfl
theorem yYq (r:List zC)(p:zC):Pm r p=true↔∀q∈r,q.2.1=p.2.1→q.2.2.2.2.1=3:=by
 unfold Pm
 rw[dI]
 constructor
 ·intro h q hq he
  have hm:q∈r.filter (jD p.2.1):=List.mem_filter.2 ⟨hq,by simp[jD,he]⟩
  obtain⟨i,hi,e⟩:=List.getElem_of_mem hm
  have:=h i hi
  rw[List.getD_eq_getElem?_getD,List.getElem?_eq_getElem hi,e] at this
  simpa using this
 ·intro h j hj
  have hm:=jR (d:=pd) hj
  rw[List.mem_filter] at hm
  have:=h _ hm.1 (by simpa[jD] using hm.2)
  simpa using this
theorem vA1 (r:List zC)(f:Int):qD (fun x=> !uT f (r.getD x pd)) r.length 0=true↔∀q∈r,q.2.1=f→q.2.2.2.2.1=3:=by
 rw[dI]
 constructor
 ·intro h q hq he
  obtain⟨i,hi,e⟩:=List.getElem_of_mem hq
  have:=h i hi
  rw[List.getD_eq_getElem?_getD,List.getElem?_eq_getElem hi,e] at this
  simpa[uT,he] using this
 ·intro h j hj
  have:=h _ (jR (d:=pd) hj)
  simp only[uT,Bool.not_eq_true',Bool.and_eq_false_iff,Bool.not_eq_false',bD,decide_eq_false_iff_not]
  by_cases c:(r.getD j pd).2.1=f
  ·exact .inr (this c)
  ·exact .inl c
theorem qS.split {r:List zC}(h:qS r){i:Nat}(hi:i<r.length):∀q∈r.take i,q.1≠(r.getD i pd).1:=by
 intro q hq
 have e:r.take (i+1)=r.take i++[r.getD i pd]:=(jM r i pd hi).symm
 have hs:qS (r.take (i+1)):=List.Pairwise.sublist (List.take_sublist _ _) h
 rw[e] at hs
 exact(List.pairwise_append.1 hs).2.2 q hq _ (List.mem_singleton.2 rfl)
theorem E4 {α:Type}(r:List α)(i:Nat)(d:α)(hi:i<r.length):r=r.take i++r.getD i d::r.drop (i+1):=by
 conv=>lhs;rw[←List.take_append_drop i r]
 congr 1
 rw[List.drop_eq_getElem_cons hi]
 congr 1
 rw[List.getD_eq_getElem?_getD,List.getElem?_eq_getElem hi];rfl
theorem vI3 {r:List zC}(h:qS r){i:Nat}(hi:i<r.length):Pn r (r.getD i pd)= !(r.take i).any (jD (r.getD i pd).2.1):=by
 unfold Pn
 have e:∀f,jD f (r.getD i pd)=true→r.filter (jD f)=(r.take i).filter (jD f)++r.getD i pd::(r.drop (i+1)).filter (jD f):=by
  intro f hf
  have:=congrArg (List.filter (jD f)) (E4 r i pd hi)
  rwa [List.filter_append,List.filter_cons_of_pos hf] at this
 have e:=e (r.getD i pd).2.1 (by simp[jD])
 rw[e]
 cases ha:(r.take i).any (jD (r.getD i pd).2.1) with
 |false=>
  have:(r.take i).filter (jD (r.getD i pd).2.1)=[]:=by
   rw[List.filter_eq_nil_iff]
   intro q hq hf
   rw[List.any_eq_false] at ha
   exact ha q hq hf
  rw[this]
  simp
 |true=>
  cases hf:(r.take i).filter (jD (r.getD i pd).2.1) with
  |nil=>
   rw[List.filter_eq_nil_iff] at hf
   rw[List.any_eq_true] at ha
   obtain⟨q,h1,h2⟩:=ha
   exact absurd h2 (hf q h1)
  |cons q l=>
   have hq:q∈r.take i:=(List.mem_filter.1 (hf▸List.mem_cons_self ..:q∈(r.take i).filter _)).1
   have:=h.split hi q hq
   have e2:(q::l++r.getD i pd::(r.drop (i+1)).filter (jD (r.getD i pd).2.1)).getD 0 pd=q:=rfl
   rw[e2]
   simp only[aU,decide_eq_false_iff_not]
   intro c
   exact this (by rw[c])
theorem ySn {r:List zC}(h:qS r){i:Nat}(hi:i<r.length):
  sn r (r.getD i pd)=(!(r.take i).any (jD (r.getD i pd).2.1)||(decide ((r.getD i pd).2.2.2.2.1=3)&&qD (fun x=> !uT (r.getD i pd).2.1 (r.getD x pd)) r.length 0)):=by
 unfold sn
 rw[vI3 h hi]
 congr 1
 rw[Bool.eq_iff_iff,yYq,bI,vA1,bD]
 exact⟨fun g=>⟨g _ (jR hi) rfl,g⟩,fun g=>g.2⟩
theorem lookup_cons (f g:Int)(l:List (Int×Bool)):(List.lookup f ((g,true)::l)).getD false=(decide (f=g)||(List.lookup f l).getD false):=by
 rw[List.lookup_cons]
 by_cases c:f=g
 ·subst c;simp
 ·have:(f==g)=false:=by simpa using c
  rw[this]
  simp[c]
theorem qQ7 {k:Nat}{l:List zC}(hk:l.length<k)(hl:yZ l)(hd:qS l)(t:Int):E5 k l t=some (wN l t):=by
 unfold E5
 rw[Ph hk hl]
 simp only[aj]
 unfold wN
 have fl:(l.filter (my t)).length≤l.length:=List.length_filter_le _ _
 have rr:=hd.filter (my t)
 generalize l.filter (my t)=r at fl rr
 unfold yZ at hl
 unfold Pq
 obtain ⟨s', h1, h2, h3⟩ := vU (L := fun n i (s : List (Int × Bool) × List zC) => AO k n r r.length i s.1 r s.2) (N := r.length) (fun s => (s.1, r, s.2)) (fun i s => (∀ f, (List.lookup f s.1).getD false = (r.take i).any (jD f)) ∧ s.2 = (r.take i).filter (sn r)) (fun n s _=>by
  show AP k _ r r.length r.length s.1 r s.2=_
  unfold AP
  simp only [qJ, ak (Nat.lt_irrefl _), ao]) (fun n i s hi hs=>by
  refine⟨(((r.getD i pd).2.1,true)::s.1,bif sn r (r.getD i pd) then s.2++[r.getD i pd] else s.2),?_,?_,?_⟩
  ·show AP k _ r r.length i s.1 r s.2=_
   unfold AP Pr
   have hlen:s.2.length≤i:=by
    rw[hs.2]
    have:=List.length_filter_le (sn r) (r.take i)
    rw[List.length_take] at this
    omega
   have hc:=yTb (k:=k) (l:=r) (by omega) (by omega) (r.getD i pd).1 (r.getD i pd).2.1 (r.getD i pd).2.2.1 (r.getD i pd).2.2.2.1 (r.getD i pd).2.2.2.2.1 (r.getD i pd).2.2.2.2.2.1 (r.getD i pd).2.2.2.2.2.2
   have pb:=hs.1 (r.getD i pd).2.1
   have hp:=ySn rr hi
   simp only[pd] at hc pb hp⊢
   simp only[qL,qM hi (show r.length<9223372036854775808 by omega),qJ,aF,ah hi,an,sm (show s.2.length≤1000 by omega)]
   rw[hc,pb,hp]
   generalize (r.take i).any _=x
   generalize qD _ _ 0=y
   generalize decide ((r.getD i (0,(0,(0,(0,(0,(0,0))))))).2.2.2.2.1=3)=z
   cases x<;>cases y<;>cases z<;>rfl
  ·intro f
   rw[lookup_cons,hs.1 f,←jM r i pd hi,List.any_append,Bool.or_comm]
   congr 1
   simp only[List.any_cons,List.any_nil,Bool.or_false,jD]
   rw[Bool.eq_iff_iff]
   simp only[bD]
   exact eq_comm
  ·show(bif sn r (r.getD i pd) then s.2++[r.getD i pd] else s.2)=_
   rw[hs.2,E2 _ _ _ pd hi]
   cases sn r (r.getD i pd)<;>simp) (s:=([],[])) (show r.length<k by omega) ⟨fun f=>by simp,by simp⟩
 have fH:AO k k r r.length 0 [] r []=some (s'.1,r,s'.2):=h1
 rw[fH,h3,List.take_length]
 rfl
def so (p:Nat→Bool):Nat→Nat→Option Nat
 |0,_=>none
 |c+1,i=>bif p i then some i else so p c (i+1)
def qWb:Option Nat→Unit⊕Int
 |some x=>.inr (x:Int)
 |none=>.inl ()
theorem yF4 {L:Nat→Int→Option (Unit⊕Int)}{N:Nat} bad (bh:∀n,L (n+1) (N:Int)=some (.inl ()))
  (ax:∀n i,i<N→L (n+1) (i:Int)=bif bad i then some (.inr (i:Int)) else L n ((i+1:Nat):Int)):
  ∀c i n,i+c=N→c<n→L n (i:Int)=some (qWb (so bad c i))
 |0,i,n,h,hn=>by
  obtain⟨n,rfl⟩:∃m,n=m+1:=⟨n-1,by omega⟩
  have:i=N:=by omega
  subst this
  exact bh n
 |c+1,i,n,h,hn=>by
  obtain⟨n,rfl⟩:∃m,n=m+1:=⟨n-1,by omega⟩
  rw[ax n i (by omega)]
  unfold so
  cases hb:bad i with
  |true=>rfl
  |false=>
   exact yF4 bad bh ax c (i+1) n (by omega) (by omega)
theorem qZ9 {p}:∀{c i x},so p c i=some x→i≤x∧x<i+c∧p x=true∧∀j,i≤j→j<x→p j=false
 |c+1,i,x,h=>by
  unfold so at h
  cases hp:p i with
  |true=>
   grind
  |false=>
   rw[hp] at h
   obtain⟨h1,h2,h3,h4⟩:=qZ9 h
   grind
theorem yLy {p}:∀{c i},so p c i=none→∀j,i≤j→j<i+c→p j=false
 |0,_,_=>by grind
 |c+1,i,h=>by
  unfold so at h
  cases hp:p i with
  |true=>
   simp_all
  |false=>
   rw[hp] at h
   intro j j1 j2
   by_cases e:j=i
   ·simp_all
   ·exact yLy h j (by omega) (by omega)
def wV (l:List zC)(id:Int):Option Nat:=so (fun x=>decide ((l.getD x pd).1=id)) l.length 0
def pA (l:List zC)(id:Int):Int:=match wV l id with|some x=>(x:Int)|none=>-1
theorem lB {l id x}(h:wV l id=some x):x<l.length∧(l.getD x pd).1=id:=by
 obtain⟨_,h2,h3,_⟩:=qZ9 h
 simp_all
theorem yRe {l id}(h:wV l id=none):∀p∈l,p.1≠id:=by
 intro p hp e
 obtain⟨i,hi,e'⟩:=List.getElem_of_mem hp
 have:=yLy h i (by omega) (by omega)
 simp_all
theorem I8 {l p}(h:p∈l):∃x,wV l p.1=some x:=by
 cases e:wV l p.1 with
 |some x=>simp
 |none=>exact absurd rfl (yRe e p h)
theorem AQ {k}{l:List zC}(hk:l.length<k)(hl:l.length<9223372036854775808) id:lC k l id=some (pA l id):=by
 have := yF4 (L := fun n i => AR k n l l.length i id) (N := l.length) (fun x => decide ((l.getD x pd).1 = id)) (fun n=>by
  show AT k _ l l.length l.length id=_
  unfold AT
  simp) (fun n j hj=>by
  show AT k _ l l.length j id=_
  unfold AT Ps
  simp only[qL,qM hj hl,qJ,ah hj]
  rfl) l.length 0 k (by omega) hk
 have h1:AR k k l l.length 0 id=some (qWb (wV l id)):=this
 unfold lC Pt pA
 rw[h1]
 cases wV l id<;>rfl
def vE (l:List zC)(x:Nat):List zC:=l.take x++l.drop (x+1)
theorem nP {l x}(h:x<l.length):(vE l x).length=l.length-1:=by
 unfold vE
 grind
theorem pB l x:List.Sublist (vE l x) l:=by
 unfold vE
 conv=>rhs;rw[←List.take_append_drop x l]
 grind
theorem qS.cut {l}(h:qS l) x:qS (vE l x):=List.Pairwise.sublist (pB l x) h
theorem yK7 k {l}{x:Nat}(hx:x<l.length)(hl:yZ l):E6 k l x ((x+1:Nat):Int)=some (vE l x):=by
 unfold E6
 have c1:(decide ((0:Int)≤(x:Int)))=true:=by simp
 have c2:decide ((x:Int)≤((x+1:Nat):Int))=true:=ah (by omega)
 have c3:decide (((x+1:Nat):Int)≤(l.length:Int))=true:=ah (by omega)
 have c4:decide ((l.length:Int)≤(l.length:Int))=true:=by simp
 have c5:decide ((x:Int)=((x+1:Nat):Int))=false:=ak (by omega)
 have c6:decide ((x:Int)≤(l.length:Int))=true:=ah (by omega)
 have c7:decide ((0:Int)≤((x+1:Nat):Int))=true:=ah (by omega)
 have c8:Nat.ble (x-0) (0+(x+1))=true:=by simp
 simp only[aF,c1,c2,c3,c4,c5,c6,c7,c8,ao]
 have e0:x-0+(l.length-(x+1))=l.length-1:=by omega
 have e1:List.take (x-0) l++qW l (0+(x+1)) (l.length-(x+1))=vE l x:=by
  unfold qW vE
  rw[Nat.sub_zero,Nat.zero_add]
  congr 1
  rw[List.take_of_length_le]
  rw[List.length_drop]
  exact Nat.le_refl _
 have e2:(qW (vE l x++List.drop (l.length-1) l) 0 (l.length-1))=vE l x:=by
  unfold qW
  rw[List.drop_zero,List.take_append_of_le_length (by rw[nP hx];exact Nat.le_refl _),List.take_of_length_le (by rw[nP hx];exact Nat.le_refl _)]
 have e3:(vE l x++List.drop (l.length-1) l).length=l.length:=by
  rw[List.length_append,List.length_drop,nP hx];omega
 have c9:decide ((0:Int)≤((vE l x).length:Int))=true:=by simp
 have c10:decide (((vE l x).length:Int)≤(l.length:Int))=true:=by grind
 have c11:decide ((l.length:Int)≤((l.length-0:Nat):Int))=true:=by simp
 have e4:List.take (0+(vE l x).length) (vE l x++List.drop (l.length-1) l)=vE l x:=by
  rw[Nat.zero_add,List.take_append_of_le_length (Nat.le_refl _),List.take_of_length_le (Nat.le_refl _)]
 simp only[e0,e1,e2,e3,c9,c10,c11,e4,Bool.and_true,an]
 rw[List.append_assoc,List.take_append_of_le_length (by rw[nP hx];exact Nat.le_refl _),List.take_of_length_le (by rw[nP hx];exact Nat.le_refl _)]
def mz (l:List zC)(id:Int):List zC×Int×Int×Int×Int×Int×Int×Int×Int:=match wV l id with
 |some x=>(vE l x,(l.getD x pd).1,(l.getD x pd).2.1,(l.getD x pd).2.2.1,(l.getD x pd).2.2.2.1,(l.getD x pd).2.2.2.2.1,(l.getD x pd).2.2.2.2.2.1,(l.getD x pd).2.2.2.2.2.2,0)
 |none=>(l,0,0,0,0,0,0,0,4)
theorem uU {k l}(hk:l.length<k)(hl:yZ l) id:mA k l id=some (mz l id):=by
 unfold yZ at hl
 unfold mA
 rw[AQ hk (by omega)]
 unfold pA mz
 cases hp:wV l id with
 |none=>rfl
 |some x=>
  have hx:=(lB hp).1
  have e1:decide ((x:Int)<0)=false:=by simp
  have e2:sr k l=some l:=by
   unfold sr
   rw[qY (by omega) (by omega)]
   rfl
  simp only[aj,e1,ao,e2,qM hx (by grind),yK7 k hx hl,qL,ah hx,an,aF]
def eg (q p:zC):Bool:=decide (q.2.1<p.2.1)||(decide (q.2.1=p.2.1)&&decide (q.2.2.2.2.1≤p.2.2.2.2.1))
def kL (q p:zC):Bool:=decide (q.2.1<p.2.1)||(decide (q.2.1=p.2.1)&&decide (q.2.2.2.2.1<p.2.2.2.2.1))
theorem vE2 (n:Nat)(x y:Int):I9 (n+3) [x,y]=some (if x=0 then y else x):=by
 have key:∀n:Nat,AU (n+3) (n+3) 0 [x,y] 2 0=bif !decide (x=0) then some (.inr x) else bif !decide (y=0) then some (.inr y) else some (.inl 0):=fun n=>rfl
 unfold I9
 show(AU (n+3) (n+3) 0 [x,y] 2 0).bind _=_
 rw[key]
 by_cases h:x=0
 ·rw[ah h,if_pos h]
  by_cases h2:y=0
  ·rw[ah h2,h2];rfl
  ·rw[ak h2];rfl
 ·rw[ak h,if_neg h];rfl
theorem yYv (k:Nat)(a b:Int):E7 k a b=some (if a<b then-1 else if a>b then 1 else 0):=by
 unfold E7 Ja
 have e:∀x:Int,decide (x=x)=true:=fun x=>ah rfl
 simp only[e,aU,aj,ao]
 by_cases h:a<b
 ·rw[ah h,if_pos h];rfl
 ·rw[ak h,if_neg h]
  by_cases h2:a>b
  ·rw[ah h2,if_pos h2];rfl
  ·rw[ak h2,if_neg h2];rfl
theorem Pu {k:Nat}(hk:3≤k)(q p:zC):∃x,AV k q.1 q.2.1 q.2.2.1 q.2.2.2.1 q.2.2.2.2.1 q.2.2.2.2.2.1 q.2.2.2.2.2.2 p.1 p.2.1 p.2.2.1 p.2.2.2.1 p.2.2.2.2.1 p.2.2.2.2.2.1 p.2.2.2.2.2.2=some x∧decide (x≤0)=eg q p∧decide (x<0)=kL q p:=by
 obtain⟨n,rfl⟩:∃n,k=n+3:=⟨k-3,by omega⟩
 unfold AV
 simp only[yYv,aj,vE2]
 refine⟨_,rfl,?_,?_⟩
 ·unfold eg
  rcases Int.lt_trichotomy q.2.1 p.2.1 with h|h|h
  ·simp[h]
  ·rcases Int.lt_trichotomy q.2.2.2.2.1 p.2.2.2.2.1 with g|g|g
   ·simp[h,g,Int.le_of_lt g]
   ·simp[h,g]
   ·have g1:¬q.2.2.2.2.1<p.2.2.2.2.1:=by omega
    have g2:¬q.2.2.2.2.1≤p.2.2.2.2.1:=by omega
    simp[h,g1,g2,g]
  ·have h1:¬q.2.1<p.2.1:=by omega
   have h2:¬q.2.1=p.2.1:=by omega
   simp[h1,h2,h]
 ·unfold kL
  rcases Int.lt_trichotomy q.2.1 p.2.1 with h|h|h
  ·simp[h]
  ·rcases Int.lt_trichotomy q.2.2.2.2.1 p.2.2.2.2.1 with g|g|g
   ·simp[h,g]
   ·simp[h,g]
   ·have g1:¬q.2.2.2.2.1<p.2.2.2.2.1:=by omega
    simp[h,g1,g]
  ·have h1:¬q.2.1<p.2.1:=by omega
   have h2:¬q.2.1=p.2.1:=by omega
   simp[h1,h2,h]
def E8 (ok:Nat→Bool):Nat→Nat→Nat
 |0,i=>i
 |c+1,i=>bif ok i then E8 ok c (i+1) else i
theorem Pv {X:Type}{L:Nat→Int→Option X}{N:Nat}(ok:Nat→Bool)(e:Nat→X)(bh:∀n,L (n+1) (N:Int)=some (e N))
  (ax:∀n i,i<N→L (n+1) (i:Int)=bif ok i then L n ((i+1:Nat):Int) else some (e i)):∀c i n,i+c=N→c<n→L n (i:Int)=some (e (E8 ok c i))
 |0,i,n,h,hn=>by
  obtain⟨n,rfl⟩:∃m,n=m+1:=⟨n-1,by omega⟩
  have:i=N:=by omega
  subst this
  exact bh n
 |c+1,i,n,h,hn=>by
  obtain⟨n,rfl⟩:∃m,n=m+1:=⟨n-1,by omega⟩
  rw[ax n i (by omega)]
  unfold E8
  cases ok i with
  |false=>rfl
  |true=>exact Pv ok e bh ax c (i+1) n (by omega) (by omega)
theorem Pw {α:Type}(f:α→Bool)(l:List α)(d:α):∀c i,i+c=l.length→E8 (fun x=>f (l.getD x d)) c i=i+((l.drop i).takeWhile f).length
 |0,i,h=>by
  rw[List.drop_eq_nil_of_le (by omega)]
  rfl
 |c+1,i,h=>by
  rw[List.drop_eq_getElem_cons (show i<l.length by omega)]
  unfold E8
  have e:l.getD i d=l[i]:=by rw[List.getD_eq_getElem?_getD,List.getElem?_eq_getElem (by omega)];rfl
  rw[e]
  cases hf:f l[i] with
  |false=>rw[List.takeWhile_cons_of_neg (by simp[hf])];rfl
  |true=>
   rw[List.takeWhile_cons_of_pos hf,an,Pw f l d c (i+1) (by omega),List.length_cons]
   omega
theorem Jb {α:Type}(f:α→Bool)(l:List α):l.take (l.takeWhile f).length=l.takeWhile f∧l.drop (l.takeWhile f).length=l.dropWhile f:=by
 have e:=List.takeWhile_append_dropWhile (p:=f) (l:=l)
 have h1:(l.takeWhile f++l.dropWhile f).take (l.takeWhile f).length=l.takeWhile f:=List.take_left
 have h2:(l.takeWhile f++l.dropWhile f).drop (l.takeWhile f).length=l.dropWhile f:=List.drop_left
 rw[e] at h1 h2
 exact⟨h1,h2⟩
theorem qYx {α:Type}(f:α→Bool)(l:List α):(l.takeWhile f).length≤l.length:=(List.takeWhile_sublist f).length_le
theorem Px {α:Type}{b:Nat}(f:α→Bool)(l:List α)(p:α)(hl:l.length≤1000)(hb:b≤1000):ins b l (((l.takeWhile f).length:Nat):Int) [p]=some (l.takeWhile f++(p::l.dropWhile f)):=by
 unfold ins
 have h:=qYx f l
 have hm:(l.length+1)*b≤1001*1000:=Nat.mul_le_mul (by omega) hb
 rw[ah (show(0:Int)≤((l.takeWhile f).length:Int) by omega),ah (show((l.takeWhile f).length:Int)≤(l.length:Int) by omega),qY (show(l.length+1)*b≤140737488355328 by omega) (by omega),aF,(Jb f l).1,(Jb f l).2]
 rfl
def pC (l:List zC)(p:zC):List zC:=l.takeWhile (fun q=>eg q p)++(p::l.dropWhile (fun q=>eg q p))
def Jc (l:List zC)(p:zC):List zC:=l.takeWhile (fun q=>kL q p)++(p::l.dropWhile (fun q=>kL q p))
theorem yCy {k:Nat}{l:List zC}(hl:yZ l):sr k l=some l:=by
 unfold yZ at hl
 unfold sr
 rw[qY (by omega) (by omega)]
 rfl
theorem vFx {k:Nat}(hk:3≤k)(l:List zC)(hl:yZ l)(cn:l.length<k)(p:zC):AW k k l 0 p=some (l,(((l.takeWhile (fun q=>eg q p)).length:Nat):Int),p):=by
 unfold yZ at hl
 have := Pv (L := fun n i => AW k n l i p) (N := l.length) (fun x => eg (l.getD x pd) p) (fun i => (l, (i : Int), p)) (fun n=>by
  show AY k _ l l.length p=_
  unfold AY
  simp only [qJ, ak (Nat.lt_irrefl _), ao]) (fun n i hi=>by
  show AY k _ l i p=_
  unfold AY
  obtain⟨x,h1,h2,_⟩:=Pu hk (l.getD i pd) p
  simp only[pd] at h1
  simp only[qL,qJ,aF,ah hi,an,h1,aj,h2,qM hi (show l.length<9223372036854775808 by omega)]
  cases eg (l.getD i pd) p<;>rfl) l.length 0 k (by omega) cn
 have e:((0:Nat):Int)=0:=rfl
 rw[e] at this
 show AW k k l 0 p=_
 rw[this,Pw (fun q=>eg q p) l pd l.length 0 (by omega),List.drop_zero,Nat.zero_add]
theorem Py {k:Nat}{l:List zC}(hk:3≤k)(cn:l.length<k)(hl:yZ l)(p:zC):
  ss k l p=some (bif (wV l p.1).isSome then(l,6) else bif decide (40≤l.length) then(l,3) else(pC l p,0)):=by
 have fl:=hl
 unfold yZ at hl
 unfold ss
 rw[AQ cn (by omega)]
 unfold pA
 cases hp:wV l p.1 with
 |some x=>
  have e1:decide ((x:Int)≥0)=true:=ah (by omega)
  simp only[aj,e1,an,Option.isSome_some]
 |none=>
  have e1:decide ((-1:Int)≥0)=false:=rfl
  simp only[aj,e1,ao,Option.isSome_none]
  by_cases h:40≤l.length
  ·rw[ah h,ah (show(l.length:Int)≥40 by omega)];rfl
  ·rw[ak h,ak (show¬(l.length:Int)≥40 by omega)]
   simp only[ao,vFx hk l fl cn,aj,yCy fl,Jd]
   rw[Px _ l p hl (by decide)]
   rfl
theorem Pz {l:List zC}{x:Nat}(h:yZ l):yZ (vE l x):=by
 unfold yZ at*
 have:=(pB l x).length_le
 omega
def E9 (l:List zC)(id:Int):List zC:=match wV l id with|some x=>vE l x|none=>l
theorem yBa {l:List zC}{id:Int}(hd:qS l):wV (E9 l id) id=none:=by
 cases h:wV (E9 l id) id with
 |none=>rfl
 |some y=>
  exfalso
  obtain⟨h1,h2⟩:=lB h
  unfold E9 at h h1 h2
  cases hp:wV l id with
  |none=>
   rw[hp] at h
   rw[hp] at h;cases h
  |some x=>
   rw[hp] at h1 h2
   obtain⟨h3,h4⟩:=lB hp
   have hm:=jR (d:=pd) h1
   have e:=E4 l x pd h3
   unfold qS at hd
   rw[e] at hd
   have Fa:=List.pairwise_append.1 hd
   have PA:=List.pairwise_cons.1 Fa.2.1
   simp only at h1 h2 hm
   unfold vE at hm
   rcases List.mem_append.1 hm with hm|hm
   ·exact Fa.2.2 _ hm _ (List.mem_cons_self ..) (h2.trans h4.symm)
   ·exact PA.1 _ hm (h4.trans h2.symm)
theorem yU5 {k:Nat}{l:List zC}(hk:3≤k)(cn:l.length<k)(hl:yZ l)(hd:qS l)(h40:l.length≤40){id:Int}{x:Nat}(hx:wV l id=some x)(c:Int):
  AZ k l id c=some (pC (vE l x) ((l.getD x pd).1,(l.getD x pd).2.1,(l.getD x pd).2.2.1,(l.getD x pd).2.2.2.1,c,(l.getD x pd).2.2.2.2.2.1,(l.getD x pd).2.2.2.2.2.2),0):=by
 have eM:=lB hx
 have hw:=yBa (id:=id) hd
 unfold E9 at hw
 rw[hx] at hw
 have hlen:=nP eM.1
 unfold AZ
 rw[uU cn hl]
 unfold mz
 rw[hx]
 simp only[aj,decide_true,aU,ao]
 rw[Py hk (by omega) (Pz hl)]
 simp only[eM.2,hw,Option.isSome_none,ao,ak (show¬40≤(vE l x).length by omega),aj]
theorem vFl {k:Nat}{l:List zC}(hk:3≤k)(cn:l.length<k)(hl:yZ l)(hd:qS l)(h40:l.length≤40){id:Int}{x:Nat}(hx:wV l id=some x):
  A0 k l id=some (pC (vE l x) (l.getD x pd),0):=by
 have eM:=lB hx
 have hw:=yBa (id:=id) hd
 unfold E9 at hw
 rw[hx] at hw
 have hlen:=nP eM.1
 unfold A0
 rw[uU cn hl]
 unfold mz
 rw[hx]
 simp only[aj,decide_true,aU,ao]
 rw[Py hk (by omega) (Pz hl)]
 simp only[eM.2,hw,Option.isSome_none,ao,ak (show¬40≤(vE l x).length by omega),aj]
 simp only[Fc]
 rw[←eM.2]
theorem yXn {k:Nat}(hk:3≤k)(l:List zC)(hl:yZ l)(cn:l.length<k)(p:zC):A2 k k 0 l p=some ((((l.takeWhile (fun q=>kL q p)).length:Nat):Int),l,p):=by
 unfold yZ at hl
 have := Pv (L := fun n i => A2 k n i l p) (N := l.length) (fun x => kL (l.getD x pd) p) (fun i => ((i : Int), l, p)) (fun n=>by
  show A3 k _ l.length l p=_
  unfold A3
  simp only [qJ, ak (Nat.lt_irrefl _), ao]) (fun n i hi=>by
  show A3 k _ i l p=_
  unfold A3
  obtain⟨x,h1,_,h2⟩:=Pu hk (l.getD i pd) p
  simp only[pd] at h1
  simp only[qL,qJ,aF,ah hi,an,h1,aj,h2,qM hi (show l.length<9223372036854775808 by omega)]
  cases kL (l.getD i pd) p<;>rfl) l.length 0 k (by omega) cn
 have e:((0:Nat):Int)=0:=rfl
 rw[e] at this
 show A2 k k 0 l p=_
 rw[this,Pw (fun q=>kL q p) l pd l.length 0 (by omega),List.drop_zero,Nat.zero_add]
theorem yQm {k:Nat}{l:List zC}(hk:3≤k)(cn:l.length<k)(hl:yZ l){id:Int}{x:Nat}(hx:wV l id=some x):
  A4 k l id=some (Jc (vE l x) (l.getD x pd),0):=by
 have fl:=hl
 unfold yZ at hl
 have eM:=lB hx
 have hlen:=nP eM.1
 have e1:decide ((x:Int)<0)=false:=ak (by omega)
 unfold A4 PB
 rw[AQ cn (by omega)]
 unfold pA
 rw[hx]
 simp only[aj,e1,ao,yCy fl,qM eM.1 (show l.length<9223372036854775808 by omega),yK7 k eM.1 fl,qL,ah eM.1,an,aF]
 have e0:decide ((0:Int)=0)=true:=rfl
 simp only[j5,Fc,e0,aU,ao]
 rw[yXn hk (vE l x) (Pz fl) (by omega)]
 simp only[aj,Jd]
 rw[Px _ (vE l x) _ (by omega) (by decide)]
 rfl
def wR (l:AC)(id:Int):Nat:=(l.takeWhile (fun x=>decide (x<id))).length
theorem vAf {x:Int}(h0:0≤x)(h1:x<9223372036854775808):zA (shr .u64 (IntKind.wrap .u64 (zA x)) 1)=x/2:=by
 have e1:zA x=x:=qH (by omega) h1
 have e2:IntKind.wrap .u64 x=x:=by
  unfold IntKind.wrap
  simp only[IntKind.bits,IntKind.signed,Bool.false_and,Bool.false_eq_true,if_false]
  omega
 rw[e1,e2]
 have e3:shr .u64 x 1=x/2:=by
  unfold shr
  have:(2:Int)^(min (1:Int).toNat (IntKind.bits .u64))=2:=by decide
  rw[this,Int.fdiv_eq_ediv_of_nonneg _ (by omega)]
 rw[e3]
 exact qH (by omega) (by omega)
theorem vKv (k:Nat)(a b:Int):Je k a b=some (decide (a<b)):=by
 unfold Je Jf
 simp only[decide_true,aU,aj,ao]
theorem PD {k:Nat}{l:AC}{id:Int}(hl:l.length≤1000){c:Nat}(hc:c≤l.length)(h1:∀x,x<c→l.getD x 0<id)(h2:∀x,c≤x→x<l.length→id≤l.getD x 0)(s6:Int):
  ∀(n i j:Nat),i≤c→c≤j→j≤l.length→j-i<n→Fe k n l id s6 i j=some (l,id,s6,(c:Int))
 |0,_,_,_,_,_,h=>absurd h (Nat.not_lt_zero _)
 |n+1,i,j,hi,hj,nu,hn=>by
  show Jg k (Fe k n) l id s6 i j=_
  unfold Jg
  rw[qJ]
  by_cases kt:i<j
  ·have hh:zA (shr .u64 (IntKind.wrap .u64 (zA ((i:Int)+(j:Int)))) 1)=(((i+j)/2:Nat):Int):=by
    rw[vAf (by omega) (by omega)];omega
   have hm:(i+j)/2<l.length:=by omega
   rw[ah kt,an,hh,qL,ah hm,an,vKv]
   simp only[aj,aF]
   by_cases aX:(i+j)/2<c
   ·rw[ah (h1 _ aX),an,qM hm (by omega)]
    exact PD hl hc h1 h2 s6 n _ j (by omega) hj nu (by omega)
   ·have:=h2 _ (Nat.not_lt.1 aX) hm
    rw[ak (show¬l.getD ((i+j)/2) 0<id by omega),ao]
    exact PD hl hc h1 h2 s6 n i _ hi (by omega) (by omega) (by omega)
  ·rw[ak kt,ao]
   have:i=c:=by omega
   rw[this]
theorem yP7 {k:Nat}{l:AC}{id:Int}(cn:l.length<k)(hl:l.length≤1000){c:Nat}(hc:c≤l.length)(h1:∀x,x<c→l.getD x 0<id)(h2:∀x,c≤x→x<l.length→id≤l.getD x 0):
  A5 k l id=some ((c:Int),decide (c<l.length)&&decide (l.getD c 0=id)):=by
 unfold A5
 have:=PD (k:=k) hl hc h1 h2 (l.length:Int) k 0 l.length (by omega) hc (Nat.le_refl _) (by omega)
 rw[show((0:Nat):Int)=0 from rfl] at this
 rw[this]
 simp only[aj,qJ,qL,aF]
 by_cases h:c<l.length
 ·simp only[ah h,an,Bool.true_and]
  by_cases h3:l.getD c 0=id
  ·rw[ah h3];rfl
  ·rw[ak h3]
   unfold Jh
   simp only[decide_true,ao,aj,aU]
 ·simp only[ak h,ao,Bool.false_and]
def pD (l:AC):Prop:=List.Pairwise (fun a b=>a<b) l
theorem yHf {l:AC}{id:Int}:∀x,x<wR l id→l.getD x 0<id:=by
 intro x hx
 unfold wR at hx
 have h:=Jb (fun x=>decide (x<id)) l
 have e:l.getD x 0=(l.takeWhile (fun x=>decide (x<id))).getD x 0:=by
  rw[←h.1,List.getD_eq_getElem?_getD,List.getD_eq_getElem?_getD,List.getElem?_take,if_pos hx]
 rw[e]
 have hm:=jR (d:=(0:Int)) hx
 have:=List.all_eq_true.1 (List.all_takeWhile (p:=fun x=>decide (x<id)) (l:=l)) _ hm
 simpa using this
theorem yFe {l:AC}(ha:pD l){id:Int}:∀x,wR l id≤x→x<l.length→id≤l.getD x 0:=by
 intro x hx hl
 have hi:wR l id<l.length:=by omega
 have h:=Jb (fun x=>decide (x<id)) l
 have h0:¬l.getD (wR l id) 0<id:=by
  have hd:l.drop (wR l id)=l[wR l id]::l.drop (wR l id+1):=List.drop_eq_getElem_cons hi
  have h2:=h.2
  unfold wR at hd
  rw[h2] at hd
  have aS:l.dropWhile (fun x=>decide (x<id))≠[]:=by rw[hd];simp
  have:=List.head_dropWhile_not (fun x=>decide (x<id)) aS
  have e:(l.dropWhile (fun x=>decide (x<id))).head aS=l[wR l id]:=by
   unfold wR
   simp only[hd,List.head_cons]
  rw[e] at this
  rw[List.getD_eq_getElem?_getD,List.getElem?_eq_getElem hi]
  simpa using this
 by_cases e:x=wR l id
 ·rw[e];omega
 ·have:=List.pairwise_iff_getElem.1 ha (wR l id) x hi hl (by omega)
  rw[List.getD_eq_getElem?_getD,List.getElem?_eq_getElem hl]
  rw[List.getD_eq_getElem?_getD,List.getElem?_eq_getElem hi] at h0
  simp only[Option.getD_some] at h0⊢
  omega
theorem vHb {l:AC}(ha:pD l)(id:Int):(decide (wR l id<l.length)&&decide (l.getD (wR l id) 0=id))=decide (id∈l):=by
 by_cases hm:id∈l
 ·obtain⟨x,hx,e⟩:=List.getElem_of_mem hm
  have e':l.getD x 0=id:=by rw[List.getD_eq_getElem?_getD,List.getElem?_eq_getElem hx];exact e
  have h1:¬x<wR l id:=fun h=>by have:=yHf x h;omega
  have h3:wR l id<l.length:=by omega
  have h4:¬wR l id<x:=fun h=>by
   have g1:=yFe ha (id:=id) (wR l id) (Nat.le_refl _) h3
   have g2:=List.pairwise_iff_getElem.1 ha (wR l id) x h3 hx h
   rw[List.getD_eq_getElem?_getD,List.getElem?_eq_getElem h3] at g1
   simp only[Option.getD_some] at g1
   omega
  have h5:wR l id=x:=by omega
  rw[ah hm,ah h3,h5,ah e'];rfl
 ·rw[ak hm]
  by_cases h:wR l id<l.length
  ·rw[ak (show¬l.getD (wR l id) 0=id from fun e=>hm (e▸jR h)),Bool.and_false]
  ·rw[ak h];rfl
def pE (l:AC)(id:Int):AC:=l.takeWhile (fun x=>decide (x<id))++(id::l.dropWhile (fun x=>decide (x<id)))
theorem qUb {k:Nat}{l:AC}(cn:l.length<k)(hl:l.length≤1000)(ha:pD l)(id:Int):A5 k l id=some ((wR l id:Int),decide (id∈l)):=by
 rw[yP7 cn hl (qYx _ l) yHf (yFe ha)]
 show some ((wR l id:Int),decide (wR l id<l.length)&&decide (l.getD (wR l id) 0=id))=_
 rw[vHb ha]
theorem yZ9 {k:Nat}{l:AC}(cn:l.length<k)(hl:l.length≤1000)(ha:pD l)(id:Int):Ji k l id=some (decide (id∈l)):=by
 unfold Ji
 rw[qUb cn hl ha]
 rfl
theorem yN4 {k:Nat}{l:AC}(cn:l.length<k)(hl:l.length≤1000)(ha:pD l)(id:Int):
  A6 k l id=some (bif decide (id∈l) then(l,6) else bif decide (200≤l.length) then(l,3) else(pE l id,0)):=by
 unfold A6
 rw[qUb cn hl ha]
 simp only[aj]
 by_cases hm:id∈l
 ·rw[ah hm];rfl
 ·rw[ak hm]
  simp only[ao]
  by_cases h:200≤l.length
  ·rw[ah h,ah (show(l.length:Int)≥200 by omega)];rfl
  ·rw[ak h,ak (show¬(l.length:Int)≥200 by omega)]
   have e2:mr k l=some l:=by
    unfold mr
    rw[qY (by omega) (by omega)]
    rfl
   simp only[ao,e2,aj,yMg]
   unfold wR
   rw[Px _ l id hl (by decide)]
   rfl
theorem PE {x:Int}(h:0≤x):jO .u64 x 4294967295=x%4294967296:=by
 obtain⟨n,rfl⟩:=Int.eq_ofNat_of_zero_le h
 unfold jO ql
 rw[mi]
 have e1:(BitVec.ofInt IntKind.u64.bits (n:Int)&&&BitVec.ofInt IntKind.u64.bits 4294967295).toNat=n%4294967296:=by
  rw[BitVec.toNat_and,BitVec.toNat_ofInt,BitVec.toNat_ofInt]
  have e2:((4294967295:Int)%((2^IntKind.u64.bits:Nat):Int)).toNat=2^32-1:=by decide
  rw[e2,Nat.and_two_pow_sub_one_eq_mod]
  have e3:((n:Int)%((2^IntKind.u64.bits:Nat):Int)).toNat=n%18446744073709551616:=by
   show((n:Int)%((18446744073709551616:Nat):Int)).toNat=_
   omega
  rw[e3]
  show n%18446744073709551616%4294967296=_
  omega
 rw[e1]
 omega
theorem vJw (x:Int):shr .u64 x 32=x/4294967296:=by
 show x.fdiv (2^(min 32 64))=_
 rw[Int.fdiv_eq_ediv_of_nonneg _ (by decide)]
 rfl
theorem vJx {a1 a0 b1 b0:Int}:(a1*4294967296+a0)*(b1*4294967296+b0)=a1*b1*18446744073709551616+(a1*b0+a0*b1)*4294967296+a0*b0:=by
 rw[Int.add_mul,Int.mul_add,Int.mul_add]
 have e1:a1*4294967296*(b1*4294967296)=a1*b1*18446744073709551616:=by
  rw[Int.mul_assoc,←Int.mul_assoc 4294967296 b1,Int.mul_comm 4294967296 b1,Int.mul_assoc b1,←Int.mul_assoc];rfl
 have e2:a1*4294967296*b0=a1*b0*4294967296:=by rw[Int.mul_assoc,Int.mul_comm 4294967296 b0,←Int.mul_assoc]
 have e3:a0*(b1*4294967296)=a0*b1*4294967296:=by rw[←Int.mul_assoc]
 rw[e1,e2,e3]
 omega
theorem pF {a b A B:Int}(h0:0≤a)(h1:a≤A)(g0:0≤b)(g1:b≤B):0≤a*b∧a*b≤A*B:=
 ⟨Int.mul_nonneg h0 g0,Int.mul_le_mul h1 g1 g0 (by omega)⟩
theorem yHa (k:Nat){x y:Int}(hx:0≤x∧x<18446744073709551616)(hy:0≤y∧y<18446744073709551616):Ff k x y=some (x*y/18446744073709551616,x*y%18446744073709551616):=by
 unfold Ff
 simp only[vJw,PE hx.1,PE hy.1,mi]
 obtain⟨a1,h1⟩:∃a,x/4294967296=a:=⟨_,rfl⟩
 obtain⟨a0,h0⟩:∃a,x%4294967296=a:=⟨_,rfl⟩
 obtain⟨b1,g1⟩:∃a,y/4294967296=a:=⟨_,rfl⟩
 obtain⟨b0,g0⟩:∃a,y%4294967296=a:=⟨_,rfl⟩
 have hxe:x=a1*4294967296+a0:=by omega
 have hye:y=b1*4294967296+b0:=by omega
 rw[h1,h0,g1,g0]
 have uV:0≤a1∧a1≤4294967295:=by omega
 have ky:0≤a0∧a0≤4294967295:=by omega
 have eN:0≤b1∧b1≤4294967295:=by omega
 have A7:0≤b0∧b0≤4294967295:=by omega
 have p11:=pF uV.1 uV.2 eN.1 eN.2
 have pc:=pF uV.1 uV.2 A7.1 A7.2
 have p01:=pF ky.1 ky.2 eN.1 eN.2
 have p00:=pF ky.1 ky.2 A7.1 A7.2
 have IS:x*y=a1*b1*18446744073709551616+(a1*b0+a0*b1)*4294967296+a0*b0:=by rw[hxe,hye,vJx]
 rw[IS]
 generalize a1*b1=u at*
 generalize a1*b0=v at*
 generalize a0*b1=s at*
 generalize a0*b0=t at*
 have c1:(t%18446744073709551616)=t:=by omega
 have c2:(v%18446744073709551616+t/4294967296)%18446744073709551616=v+t/4294967296:=by omega
 rw[c1,c2]
 have Fg:jO .u64 (v+t/4294967296) 4294967295=(v+t/4294967296)%4294967296:=PE (by omega)
 rw[Fg]
 refine congrArg some (Prod.ext ?_ ?_)
 ·show _%_=_/_
  omega
 ·rfl
theorem yO3 (k:Nat){x:Int}(hx:0≤x∧x<18446744073709551616):Jj k 0 x 10000=some (x/10000,x%10000):=by
 unfold Jj
 have e1:decide ((10000:Int)=0)=false:=rfl
 have e2:decide ((10000:Int)≤0)=false:=rfl
 simp only[e1,e2,decide_true,ao,an,dZ,mi]
 rw[Int.tdiv_eq_ediv_of_nonneg hx.1,Int.tmod_eq_emod_of_nonneg hx.1]
 have:x/10000%18446744073709551616=x/10000:=by omega
 rw[this]
def A8 (price many cut:Int):Int:=price*many*(10000-cut)/10000
theorem vGn {p m c:Int}(hp:0≤p∧p≤1048576)(hm:0≤m∧m≤1099511627776)(hc:0≤c∧c≤10000):0≤A8 p m c∧A8 p m c≤1152921504606846976:=by
 have h1:=pF hp.1 hp.2 hm.1 hm.2
 have h2:=pF h1.1 h1.2 (show 0≤10000-c by omega) (show 10000-c≤10000 by omega)
 unfold A8
 generalize p*m*(10000-c)=z at*
 omega
theorem vLe (k:Nat){p m c:Int}(hp:0≤p∧p≤1048576)(hm:0≤m∧m≤1099511627776)(hc:0≤c∧c≤10000):Jk k p m c=some (A8 p m c,true):=by
 unfold Jk PF
 have w1:zA (10000-c)=10000-c:=qH (by omega) (by omega)
 have e1:decide (p<0)=false:=ak (by omega)
 have e2:decide (m<0)=false:=ak (by omega)
 have e3:decide (c≥0)=true:=ah (by omega)
 have e4:decide (c≤10000)=true:=ah (by omega)
 have u1:p%18446744073709551616=p:=by omega
 have u2:m%18446744073709551616=m:=by omega
 have u3:(10000-c)%18446744073709551616=10000-c:=by omega
 have h1:=pF hp.1 hp.2 hm.1 hm.2
 have hP:p*m/18446744073709551616=0:=by omega
 have hP2:p*m%18446744073709551616=p*m:=by omega
 have t0:Int.tmod 0 10000=0:=by simp
 have t1:Int.tdiv 0 10000=0:=by simp
 rw[e1,e2,e3,e4,ao,ao,an,aj,aU,ao,mi p,mi m,u1,u2,yHa k (show 0≤p∧p<18446744073709551616 by omega) (show 0≤m∧m<18446744073709551616 by omega),aj,hP,hP2]
 dsimp only
 rw[t0,t1,yO3 k (show 0≤p*m∧p*m<18446744073709551616 by omega),aj]
 dsimp only
 rw[w1,mi (10000-c),u3]
 unfold A8
 obtain⟨l,hl⟩:∃l,10000-c=l:=⟨_,rfl⟩
 rw[hl]
 obtain⟨P,hPe⟩:∃P,p*m=P:=⟨_,rfl⟩
 rw[hPe] at h1⊢
 have fl:0≤l∧l≤10000:=by omega
 rw[yHa k (show 0≤P/10000∧P/10000<18446744073709551616 by omega) (show 0≤l∧l<18446744073709551616 by omega)]
 have hq:=pF (show 0≤P/10000 by omega) (show P/10000≤115292150460684 by omega) fl.1 fl.2
 have hr:=pF (show 0≤P%10000 by omega) (show P%10000≤9999 by omega) fl.1 fl.2
 have uW:P*l=P/10000*l*10000+P%10000*l:=by
  have:P=P/10000*10000+P%10000:=by omega
  have e:P/10000*l*10000=P/10000*10000*l:=by rw[Int.mul_assoc,Int.mul_comm l,←Int.mul_assoc]
  rw[e,←Int.add_mul,←this]
 rw[uW]
 generalize P/10000*l=a at*
 generalize P%10000*l=b at*
 have v1:a/18446744073709551616=0:=by omega
 have v2:a%18446744073709551616=a:=by omega
 have v3:b%18446744073709551616=b:=by omega
 have v4:Int.tdiv b 10000=b/10000:=Int.tdiv_eq_ediv_of_nonneg hr.1
 have v5:b/10000%18446744073709551616=b/10000:=by omega
 have ha:yl k a (b/10000) 0=some (a+b/10000,0):=by
  have n1:(Int.ofNat ((a.toNat+(b/10000).toNat+0)%18446744073709551616))=a+b/10000:=by rw[Int.ofNat_eq_natCast];omega
  have n2:(Int.ofNat ((a.toNat+(b/10000).toNat+0)/18446744073709551616))=0:=by rw[Int.ofNat_eq_natCast];omega
  unfold yl
  rw[ah rfl,an,n1,n2]
 rw[aj]
 dsimp only
 rw[v1,v2,mi b,v3,v4,mi (b/10000),v5,ha,aj]
 dsimp only
 have z1:IntKind.wrap .u64 0=0:=by rw[mi];omega
 have z2:IntKind.wrap .u64 (0+0)=0:=by rw[mi];omega
 have z3:decide ((0:Int)>0)=false:=ak (by omega)
 have z4:decide (a+b/10000>9223372036854775807)=false:=ak (by omega)
 have z5:zA (a+b/10000)=a+b/10000:=qH (by omega) (by omega)
 rw[z1,z2,z3,z4,z5,ao,ao,ao]
 have:(a*10000+b)/10000=a+b/10000:=by omega
 rw[this]
abbrev gZ:=Int×Int
abbrev uX:gZ:=(0,0)
def mB (sa:List gZ)(pr h:AC)(i:Nat):Int:=A8 (pr.getD i 0) (h.getD i 0) (sa.getD i uX).2
def g9 (sa:List gZ)(pr h:AC):Int:=zW (mB sa pr h) sa.length
structure hY (sa:List gZ) (pr h:AC):Prop where
 n3:sa.length≤3
 pl:pr.length=sa.length
 hl:h.length=sa.length
 cut:∀i,i<sa.length→0≤(sa.getD i uX).2∧(sa.getD i uX).2≤10000
 price:∀i,i<sa.length→0≤pr.getD i 0∧pr.getD i 0≤1048576
 hold:∀i,i<sa.length→0≤h.getD i 0∧h.getD i 0≤1099511627776
theorem PG {sa:List gZ}{pr h:AC}(L:hY sa pr h){i:Nat}(hi:i<sa.length):0≤mB sa pr h i∧mB sa pr h i≤1152921504606846976:=vGn (L.price i hi) (L.hold i hi) (L.cut i hi)
theorem PH (g:Nat→Int):∀n,jL ((List.range n).map g)=zW g n
 |0=>rfl
 |n+1=>by
  rw[List.range_succ,List.map_append]
  unfold jL
  rw[ee]
  have:=PH g n
  unfold jL at this
  rw[this]
  show zW g n+(g n+0)=zW g n+g n
  omega
theorem PI {g:Nat→Int}{A:Int}:∀{n:Nat},(∀j,j<n→0≤g j∧g j≤A)→0≤zW g n∧zW g n≤n*A
 |0,_=>by simp[zW]
 |n+1,h=>by
  have h1:=PI (n:=n) (fun j hj=>h j (by omega))
  have h2:=h n (by omega)
  have h3:((n+1:Nat):Int)*A=n*A+A:=by rw[Int.natCast_add,Int.add_mul];simp
  rw[h3]
  show 0≤zW g n+g n∧zW g n+g n≤_
  omega
theorem yZi {k:Nat}{sa:List gZ}{pr h:AC}(L:hY sa pr h)(hk:10≤k):A9 k k pr h sa sa.length 0 []=some (.inl ((List.range sa.length).map (mB sa pr h))):=by
 have hn:=L.n3
 obtain ⟨s', h1, h2⟩ := vU (L := fun n i (s : AC) => A9 k n pr h sa sa.length i s) (N := sa.length) (fun s => .inl s) (fun i s => s = (List.range i).map (mB sa pr h)) (fun n s _=>by
  show Ba k _ pr h sa sa.length sa.length s=_
  unfold Ba
  simp only [qJ, ak (Nat.lt_irrefl _), ao]) (fun n i s hi hs=>by
  refine⟨s++[mB sa pr h i],?_,?_⟩
  ·show Ba k _ pr h sa sa.length i s=_
   unfold Ba
   have fO:s.length≤3:=by rw[hs,List.length_map,List.length_range];omega
   have hw:=vLe k (L.price i hi) (L.hold i hi) (L.cut i hi)
   simp only[qJ,qL,aF,ah hi,ah (show i<pr.length by rw[L.pl];exact hi),ah (show i<h.length by rw[L.hl];exact hi),an,qM hi (show sa.length<9223372036854775808 by omega)]
   rw[hw]
   simp only[aj,aU,ao,qY (show(s.length+1)*8≤140737488355328 by omega) (show s.length+1≤140737488355328 by omega),an]
   rfl
  ·rw[hs,List.range_succ,List.map_append];rfl) (s:=[]) (show sa.length<k by omega) rfl
 have fH:A9 k k pr h sa sa.length 0 []=_:=h1
 rw[fH,h2]
theorem PJ {k:Nat}{sa:List gZ}{pr h:AC}(L:hY sa pr h)(hk:10≤k):nQ k sa pr h=some (g9 sa pr h,true):=by
 have hn:=L.n3
 have hb:=PI (g:=mB sa pr h) (n:=sa.length) (fun j hj=>PG L hj)
 have hm:(sa.length:Int)*1152921504606846976≤3*1152921504606846976:=Int.mul_le_mul_of_nonneg_right (by omega) (by decide)
 unfold nQ
 have e1:decide ((pr.length:Int)=(sa.length:Int))=true:=ah (by rw[L.pl])
 have e2:decide ((h.length:Int)=(sa.length:Int))=true:=ah (by rw[L.hl])
 simp only[e1,e2,aU,ao]
 rw[yZi L hk]
 simp only[aj]
 rw [Oi (by rw [List.length_map, List.length_range]; omega) (by rw [List.length_map, List.length_range]; omega) (fun i hi=>by
  rw[List.length_map,List.length_range] at hi
  have:=PG L hi
  have e:((List.range sa.length).map (mB sa pr h)).getD i 0=mB sa pr h i:=by
   rw[List.getD_eq_getElem?_getD,List.getElem?_map,List.getElem?_range hi];rfl
  rw[e];omega)]
 rw[PH]
 have e3:rV (zW (mB sa pr h) sa.length)=true:=by
  unfold rV
  rw[ah (by omega),ah (by omega)];rfl
 rw[e3]
 rfl
theorem Jl {sa:List gZ}{pr h:AC}(L:hY sa pr h):0≤g9 sa pr h:=(PI (g:=mB sa pr h) (n:=sa.length) (fun j hj=>PG L hj)).1
theorem yHq {k:Nat}{l:AC}(hl:l.length≤1000){i:Int}(h0:0≤i)(h1:i<l.length)(v:Int):mC k l i v=some (l.set i.toNat v):=by
 unfold mC
 have e2:mr k l=some l:=by
  unfold mr
  rw[qY (by omega) (by omega)]
  rfl
 simp only[e2,aj,ah (show i≥0 by omega),ah h1,an,jQ h0 h1]
theorem Jm {a b m p l r}(hb:wP a b m p)(h:nO a b m p l r):
  zW (fun i=>(r.1.getD i ad).1) a.length=zW (fun i=>(a.getD i ad).1) a.length∧wP r.1 r.2.1 r.2.2.1 r.2.2.2.1∧(r.2.2.2.2=0∨(r.1=a∧r.2.1=b∧r.2.2.1=m∧r.2.2.2.1=p)):=by
 by_cases c:wF a.length l
 ·obtain⟨a',p',x,e⟩:=h.1 c
  cases hi:j3 a' b m p' with
  |false=>
   simp_all
  |true=>
   rw[hi] at e
   subst e
   refine⟨?_,IG.1 hi,.inl rfl⟩
   have e1:zW (fun i=>(a'.getD i ad).1) a.length=zW (fun i=>(a.getD i ad).1+zL (gB i) l) a.length:=jy fun j hj=>by rw[x.acct j hj]
   show zW (fun i=>(a'.getD i ad).1) a.length=_
   rw[e1,uC,Ib]
   have e2:zL (fun p=>zW (fun j=>gB j p) a.length) l=zL (fun _=>(0:Int)) l:=H9 fun p hp=>by
    obtain⟨f0,f1,t0,t1,ne,a1,a2,c1,c3⟩:=c.1 p hp
    obtain⟨f,hf⟩:∃f:Nat,p.2.1=f:=⟨p.2.1.toNat,by omega⟩
    obtain⟨t,ht⟩:∃t:Nat,p.2.2.1=t:=⟨p.2.2.1.toNat,by omega⟩
    have g1:∀j,gB j p=(if j=t then p.2.2.2.1 else 0)+(if j=f then-p.2.2.2.1 else 0):=by
     unfold gB
     omega
    rw[jy fun j _=>g1 j,uC,uD,uD,if_pos (by omega),if_pos (by omega)]
    omega
   have e3:∀l:List zC,zL (fun _:zC=>(0:Int)) l=0:=by
    intro l
    induction l with
    |nil=>rfl
    |cons p l ih=>show 0+zL _ l=0;omega
   simp_all
 ·have e:=h.2 c
  simp_all
abbrev BT:=List qT×EQ×AC×EQ
def yB (B:BT):Prop:=wP B.1 B.2.1 B.2.2.1 B.2.2.2
theorem Jn {k}(hk:100<k){B}(h:yB B){l:List zC}(hl:l.length≤80):
  ∃r,mw k B.1 B.2.1 B.2.2.1 B.2.2.2 l=some r∧O7 k B.1 B.2.1 B.2.2.1 B.2.2.2 l=some r∧nO B.1 B.2.1 B.2.2.1 B.2.2.2 l r:=by
 obtain⟨r,h1,h2⟩:=IU hk h hl
 obtain⟨r',h3,h4⟩:=vK0 hk h hl
 have:=h2.same h4
 simp_all
def uY (B:BT)(l:List zC):Bool:=z9 B.1 B.2.1 B.2.2.1 B.2.2.2 l
def gE (k:Nat)(B:BT)(l:List zC):Option BT:=match mw k B.1 B.2.1 B.2.2.1 B.2.2.2 l with
 |some r=>bif decide (r.2.2.2.2=0)&&uY B l then some (r.1,r.2.1,r.2.2.1,r.2.2.2.1) else none
 |none=>none
theorem su {k}(hk:100<k){B C}(h:yB B){l}(hl:l.length≤80)(hg:gE k B l=some C):yB C∧C.1.length=B.1.length:=by
 obtain⟨r,h1,h2,h3⟩:=Jn hk h hl
 unfold gE at hg
 rw[h1] at hg
 simp only at hg
 cases hc:decide (r.2.2.2.2=0)&&uY B l with
 |false=>
  simp_all
 |true=>
  rw[hc] at hg
  simp  at hg
  subst hg
  refine⟨(Jm h h3).2.1,?_⟩
  by_cases c:wF B.1.length l
  ·obtain⟨a',p',x,e⟩:=h3.1 c
   cases hi:j3 a' B.2.1 B.2.2.1 p' with
   |false=>simp_all
   |true=>rw[hi] at e;subst e;exact x.al
  ·rw[h3.2 c]
def dr (k:Nat)(B:BT):List zC→Option (zC×BT)
 |[]=>none
 |p::l=>match gE k B [p] with
  |some C=>some (p,C)
  |none=>dr k B l
theorem Bb {k B C p}:∀{l},dr k B l=some (p,C)→p∈l∧gE k B [p]=some C
 |q::l,h=>by
  unfold dr at h
  cases hg:gE k B [q] with
  |some D=>
   simp_all
  |none=>
   rw[hg] at h
   have:=Bb h
   simp_all
theorem yUr k B {m:List zC}{i}(hi:i<m.length):dr k B (m.drop i)=match gE k B [m.getD i pd] with
  |some C=>some (m.getD i pd,C)
  |none=>dr k B (m.drop (i+1)):=by
 rw[List.drop_eq_getElem_cons hi]
 have e:m.getD i pd=m[i]:=by simp_all
 rw[e]
 rfl
theorem qUg l t:(wN l t).length≤l.length:=Nat.le_trans (List.length_filter_le _ _) (by grind)
def jY (l:List zC)(id:Int):List zC:=(mz l id).1
theorem uZ {l p}(h:p∈l):(jY l p.1).length+1=l.length∧List.Sublist (jY l p.1) l:=by
 obtain⟨x,hx⟩:=I8 h
 unfold jY mz
 rw[hx]
 have:=(lB hx).1
 refine⟨?_,pB l x⟩
 rw[nP this]
 omega
theorem Fh {l t p}(h:p∈wN l t):p∈l:=(List.mem_filter.1 (List.mem_filter.1 h).1).1
inductive ft (k:Nat) (t:Int):BT→List zC→List zC→BT→List zC→Prop
 |stop {B:BT} {l:List zC} (h:dr k B (wN l t)=none):ft k t B l [] B l
 |step {B C D:BT} {l m done:List zC} {p:zC} (h:dr k B (wN l t)=some (p,C)) (h':ft k t C (jY l p.1) done D m):ft k t B l (p::done) D m
theorem yJg {k}(hk:100<k){B}(h:yB B){l:List zC}(hl:l.length≤80):uS k B.1 B.2.1 B.2.2.1 B.2.2.2 l=some (uY B l):=vBg hk h hl
theorem yJi {k}(hk:100<k){B}(h:yB B)(m:List zC)(hm:m.length≤1000):∀c i n,i+c=m.length→c<n→
  Fi k n m.length i B.1 B.2.1 B.2.2.1 B.2.2.2 0 0 0 0 0 0 0 m = some (match dr k B (m.drop i) with
   |some (p,C)=>.inr (true,p.1,p.2.1,p.2.2.1,p.2.2.2.1,p.2.2.2.2.1,p.2.2.2.2.2.1,p.2.2.2.2.2.2,C.1,C.2.1,C.2.2.1,C.2.2.2)
   |none=>.inl (B.1,B.2.1,B.2.2.1,B.2.2.2,0,0,0,0,0,0,0))
 |0,i,n,e,hn=>by
  obtain⟨n,rfl⟩:∃x,n=x+1:=⟨n-1,by omega⟩
  have:i=m.length:=by omega
  subst this
  show Bc k _ m.length m.length B.1 B.2.1 B.2.2.1 B.2.2.2 0 0 0 0 0 0 0 m=_
  unfold Bc
  simp
  rfl
 |c+1,i,n,e,hn=>by
  obtain⟨n,rfl⟩:∃x,n=x+1:=⟨n-1,by omega⟩
  have hi:i<m.length:=by omega
  have ih:=yJi hk h m hm c (i+1) n (by omega) (by omega)
  show Bc k _ m.length i B.1 B.2.1 B.2.2.1 B.2.2.2 0 0 0 0 0 0 0 m=_
  unfold Bc
  obtain⟨r,h1,h2,h3⟩:=Jn hk h (l:=[m.getD i pd]) (by simp)
  have hf:=yJg hk h (l:=[m.getD i pd]) (by simp)
  simp[qL,qM hi (by grind)]
  rw[yUr k B hi]
  unfold gE
  grind
def yI1 (B:BT)(x:Option (zC×BT)):Int×Int×Int×Int×Int×Int×Int×(List (Int×Int×Int))×EQ×AC×EQ×Bool:=match x with
 |some (p,C)=>(p.1,p.2.1,p.2.2.1,p.2.2.2.1,p.2.2.2.2.1,p.2.2.2.2.2.1,p.2.2.2.2.2.2,C.1,C.2.1,C.2.2.1,C.2.2.2,true)
 |none=>(0,0,0,0,0,0,0,B.1,B.2.1,B.2.2.1,B.2.2.2,false)
theorem vGy {k}(hk:100<k){B}(h:yB B){l}(cn:l.length<k)(hl:yZ l)(hd:qS l) t:Jo k B.1 B.2.1 B.2.2.1 B.2.2.2 l t=some (yI1 B (dr k B (wN l t))):=by
 unfold Jo
 rw[qQ7 cn hl hd]
 have Jp:=qUg l t
 unfold yZ at hl
 have:=yJi hk h (wN l t) (by omega) (wN l t).length 0 k (by omega) (by omega)
 have e:((0:Nat):Int)=0:=rfl
 rw[e,List.drop_zero] at this
 simp
 rw[this]
 cases dr k B (wN l t) with
 |none=>rfl
 |some x=>rfl
theorem qTu {k}(hk:100<k) t:∀n B (l r:List zC),yB B→qS l→l.length≤100→l.length<n→r.length+l.length≤1000→
  ∃(C:BT) (m done:List zC),Fj k n t l B.1 B.2.1 B.2.2.1 B.2.2.2 r=some (m,C.1,C.2.1,C.2.2.1,C.2.2.2,r++done)∧ft k t B l done C m∧yB C∧C.1.length=B.1.length∧List.Sublist m l
 |n+1,B,l,r,hb,hd,hl,hn,hr=>by
  have h1:=vGy hk hb (l:=l) (by omega) (by show l.length≤1000;omega) hd t
  cases hx:dr k B (wN l t) with
  |none=>
   rw[hx] at h1
   refine⟨B,l,[],?_,.stop hx,hb,rfl,by simp⟩
   show Bd k _ t l B.1 B.2.1 B.2.2.1 B.2.2.2 r=_
   unfold Bd
   rw[h1]
   simp only[aj,yI1,dZ,an,List.append_nil]
  |some x=>
   obtain⟨p,C⟩:=x
   rw[hx] at h1
   obtain⟨hp,hg⟩:=Bb hx
   have xL:=Fh hp
   obtain⟨xF,nk⟩:=uZ xL
   obtain⟨ux,bU⟩:=su hk hb (by simp) hg
   obtain⟨D,m,done,g1,g3,g4,g5,g6⟩:=qTu hk t n C (jY l p.1) (r++[p]) ux (List.Pairwise.sublist nk hd) (by omega) (by omega) (by grind)
   refine⟨D,m,p::done,?_,.step hx g3,g4,by grind,g6.trans nk⟩
   show Bd k _ t l B.1 B.2.1 B.2.2.1 B.2.2.2 r=_
   unfold Bd
   rw[h1]
   simp[uU (show l.length<k by omega) (show yZ l by show l.length≤1000;omega),sm (show r.length≤1000 by omega)]
   rw[List.append_cons r p done,←g1]
   rfl
theorem yOs {k}(hk:200≤k){B}(hb:yB B){l}(hd:qS l)(hl:l.length≤100) t:
  ∃(C:BT) (m done:List zC),Jq k B.1 B.2.1 B.2.2.1 B.2.2.2 l t=some (C.1,C.2.1,C.2.2.1,C.2.2.2,m,done)∧ft k t B l done C m∧yB C∧C.1.length=B.1.length∧List.Sublist m l:=by
 obtain⟨C,m,done,h1,h3⟩:=qTu (show 100<k by omega) t k B l [] hb hd hl (by omega) (by grind)
 refine⟨C,m,done,?_,h3⟩
 unfold Jq
 simp_all
def nR (p q:zC):Bool:=decide (q.2.1=p.2.2.1)&&(decide (q.2.2.1=p.2.1)&& !decide (p.2.1≥q.2.1))
def nS (k:Nat)(B:BT)(p:zC):List zC→Option (zC×BT)
 |[]=>none
 |q::l=>match(bif nR p q then gE k B [p,q] else none) with
  |some C=>some (q,C)
  |none=>nS k B p l
def sv (k:Nat)(B:BT)(m:List zC):List zC→Option (zC×zC×BT)
 |[]=>none
 |p::l=>match nS k B p m with
  |some (q,C)=>some (p,q,C)
  |none=>sv k B m l
theorem PK {k B C p q}:∀{l},nS k B p l=some (q,C)→q∈l∧nR p q=true∧gE k B [p,q]=some C
 |r::l,h=>by
  unfold nS at h
  cases hd:nR p r with
  |false=>
   rw[hd] at h
   have:=PK (l:=l) h
   simp_all
  |true=>
   rw[hd] at h
   cases hg:gE k B [p,r] with
   |some D=>
    simp_all
   |none=>
    rw[hg] at h
    have:=PK (l:=l) h
    simp_all
theorem Jr {k B C p q m}:∀{l},sv k B m l=some (p,q,C)→p∈l∧q∈m∧nR p q=true∧gE k B [p,q]=some C
 |r::l,h=>by
  unfold sv at h
  cases hq:nS k B r m with
  |some x=>
   rw[hq] at h
   cases h
   exact⟨by simp,PK hq⟩
  |none=>
   rw[hq] at h
   have:=Jr (l:=l) h
   simp_all
theorem qSy {α:Type}{l:List α}{i} h d:l.getD i d=l[i]:=by
 simp_all
theorem yZh k B p {m:List zC}{i}(hi:i<m.length):nS k B p (m.drop i)=match(bif nR p (m.getD i pd) then gE k B [p,m.getD i pd] else none) with
  |some C=>some (m.getD i pd,C)
  |none=>nS k B p (m.drop (i+1)):=by
 rw[List.drop_eq_getElem_cons hi,qSy hi]
 rfl
theorem yPm k B r {m:List zC}{i}(hi:i<m.length):sv k B r (m.drop i)=match nS k B (m.getD i pd) r with
  |some (q,C)=>some (m.getD i pd,q,C)
  |none=>sv k B r (m.drop (i+1)):=by
 rw[List.drop_eq_getElem_cons hi,qSy hi]
 rfl
def eE (k:Nat)(B:BT)(l:List zC)(t:Int):Option (zC×zC×BT):=sv k B (wN l t) (wN l t)
theorem vAu {l x q}(hx:x<l.length)(h:q∈l)(aS:q≠l.getD x pd):q∈vE l x:=by
 unfold vE
 have e:=E4 l x pd hx
 grind
theorem qS.eq_of {l}(h:qS l){p q}(hp:p∈l)(hq:q∈l)(e:p.1=q.1):p=q:=by
 obtain⟨i,hi,ei⟩:=List.getElem_of_mem hp
 obtain⟨j,hj,ej⟩:=List.getElem_of_mem hq
 have hl:=List.pairwise_iff_getElem.1 h
 grind
theorem PM {l p q}(hp:p∈l)(hq:q∈l)(aS:q.1≠p.1):q∈jY l p.1:=by
 obtain⟨x,hx⟩:=I8 hp
 unfold jY mz
 rw[hx]
 have:=lB hx
 exact vAu this.1 hq (by grind)
def u6 (l:List zC)(p q:zC):List zC:=jY (jY l p.1) q.1
theorem Fk {k B C l t p q}(h:eE k B l t=some (p,q,C)):p∈l∧q∈l∧nR p q=true∧gE k B [p,q]=some C:=by
 obtain⟨h1,h2,h3⟩:=Jr h
 exact⟨Fh h1,Fh h2,h3⟩
theorem yEc {l}(hd:qS l){p q}(hp:p∈l)(hq:q∈l)(h:nR p q=true):q.1≠p.1:=by
 intro e
 have:=hd.eq_of hq hp e
 subst this
 unfold nR at h
 simp at h
theorem Fl {l}(hd:qS l){p q}(hp:p∈l)(hq:q∈l)(h:nR p q=true):(u6 l p q).length+2=l.length∧List.Sublist (u6 l p q) l:=by
 obtain⟨h1,h2⟩:=uZ hp
 obtain⟨h3,h4⟩:=uZ (PM hp hq (yEc hd hp hq h))
 unfold u6
 exact⟨by omega,h4.trans h2⟩
inductive jW (k:Nat) (t:Int):BT→List zC→List zC→BT→List zC→Prop
 |stop {B:BT} {l:List zC} (h:eE k B l t=none):jW k t B l [] B l
 |step {B C D:BT} {l m done:List zC} {p q:zC} (h:eE k B l t=some (p,q,C)) (h':jW k t C (u6 l p q) done D m):jW k t B l (p::q::done) D m
theorem jW.length {k t B C l done m}(h:jW k t B l done C m)(hd:qS l):done.length+m.length=l.length∧done.length%2=0:=by
 induction h with
 |stop _=>simp
 |step h _ ih=>
  obtain⟨hp,hq,nT,_⟩:=Fk h
  obtain⟨h1,h2⟩:=Fl hd hp hq nT
  have:=ih (List.Pairwise.sublist h2 hd)
  grind
theorem jW.sub {k t B C l done m}(h:jW k t B l done C m)(hd:qS l):List.Sublist m l:=by
 induction h with
 |stop _=>simp
 |step h _ ih=>
  obtain⟨hp,hq,nT,_⟩:=Fk h
  obtain⟨h1,h2⟩:=Fl hd hp hq nT
  exact(ih (List.Pairwise.sublist h2 hd)).trans h2
theorem qY0 {k}(hk:100<k){B}(h:yB B)(m:List zC)(hm:m.length≤1000) p bF bW:∀c i n,i+c=m.length→c<n→
  Fm k n bF bW m.length i B.1 B.2.1 B.2.2.1 B.2.2.2 0 0 0 0 0 0 0 0 0 0 0 0 0 0 m p.1 p.2.1 p.2.2.1 p.2.2.2.1 p.2.2.2.2.1 p.2.2.2.2.2.1 p.2.2.2.2.2.2 = some (match nS k B p (m.drop i) with
   |some (q,C)=>.inr (true,p.1,p.2.1,p.2.2.1,p.2.2.2.1,p.2.2.2.2.1,p.2.2.2.2.2.1,p.2.2.2.2.2.2,q.1,q.2.1,q.2.2.1,q.2.2.2.1,q.2.2.2.2.1,q.2.2.2.2.2.1,q.2.2.2.2.2.2,C.1,C.2.1,C.2.2.1,C.2.2.2)
   |none=>.inl (bF,bW,B.1,B.2.1,B.2.2.1,B.2.2.2,0,0,0,0,0,0,0,0,0,0,0,0,0,0,m))
 |0,i,n,e,hn=>by
  obtain⟨n,rfl⟩:∃x,n=x+1:=⟨n-1,by omega⟩
  have:i=m.length:=by omega
  subst this
  show Be k _ bF bW m.length m.length B.1 B.2.1 B.2.2.1 B.2.2.2 0 0 0 0 0 0 0 0 0 0 0 0 0 0 m p.1 p.2.1 p.2.2.1 p.2.2.2.1 p.2.2.2.2.1 p.2.2.2.2.2.1 p.2.2.2.2.2.2=_
  unfold Be
  simp
  rfl
 |c+1,i,n,e,hn=>by
  obtain⟨n,rfl⟩:∃x,n=x+1:=⟨n-1,by omega⟩
  have hi:i<m.length:=by omega
  have ih:=qY0 hk h m hm p bF bW c (i+1) n (by omega) (by omega)
  show Be k _ bF bW m.length i B.1 B.2.1 B.2.2.1 B.2.2.2 0 0 0 0 0 0 0 0 0 0 0 0 0 0 m p.1 p.2.1 p.2.2.1 p.2.2.2.1 p.2.2.2.2.1 p.2.2.2.2.2.1 p.2.2.2.2.2.2=_
  unfold Be
  obtain⟨r,h1,h2,h3⟩:=Jn hk h (l:=[p,m.getD i pd]) (by simp)
  have hf:=yJg hk h (l:=[p,m.getD i pd]) (by simp)
  have fH:mw k B.1 B.2.1 B.2.2.1 B.2.2.2 [(p.1,p.2.1,p.2.2.1,p.2.2.2.1,p.2.2.2.2.1,p.2.2.2.2.2.1,p.2.2.2.2.2.2),m.getD i (0,(0,(0,(0,(0,(0,0))))))]=some r:=h1
  have cR:uS k B.1 B.2.1 B.2.2.1 B.2.2.2 [(p.1,p.2.1,p.2.2.1,p.2.2.2.1,p.2.2.2.2.1,p.2.2.2.2.2.1,p.2.2.2.2.2.2),m.getD i (0,(0,(0,(0,(0,(0,0))))))]=some (uY B [p,m.getD i pd]):=hf
  simp only[qL,qM hi (by grind),qJ,aF,ah hi]
  rw[yZh k B p hi]
  unfold nR
  cases decide ((m.getD i pd).2.1=p.2.2.1) with
  |false=>exact ih
  |true=>
   cases decide ((m.getD i pd).2.2.1=p.2.1) with
   |false=>exact ih
   |true=>
    cases decide (p.2.1≥(m.getD i pd).2.1) with
    |true=>exact ih
    |false=>
     unfold gE
     grind
theorem qZz {k}(hk:100<k){B}(h:yB B)(m:List zC)(hm:m.length≤1000)(hmk:m.length<k):∀c i n,i+c=m.length→c<n→
  Fo k n m.length i B.1 B.2.1 B.2.2.1 B.2.2.2 0 0 0 0 0 0 0 0 0 0 0 0 0 0 m = some (match sv k B m (m.drop i) with
   |some (p,q,C)=>.inr (true,p.1,p.2.1,p.2.2.1,p.2.2.2.1,p.2.2.2.2.1,p.2.2.2.2.2.1,p.2.2.2.2.2.2,q.1,q.2.1,q.2.2.1,q.2.2.2.1,q.2.2.2.2.1,q.2.2.2.2.2.1,q.2.2.2.2.2.2,C.1,C.2.1,C.2.2.1,C.2.2.2)
   |none=>.inl (0,0,0,0,0,0,0,0,0,0,0,0,0,0))
 |0,i,n,e,hn=>by
  obtain⟨n,rfl⟩:∃x,n=x+1:=⟨n-1,by omega⟩
  have:i=m.length:=by omega
  subst this
  show Bf k _ m.length m.length B.1 B.2.1 B.2.2.1 B.2.2.2 0 0 0 0 0 0 0 0 0 0 0 0 0 0 m=_
  unfold Bf
  simp
  rfl
 |c+1,i,n,e,hn=>by
  obtain⟨n,rfl⟩:∃x,n=x+1:=⟨n-1,by omega⟩
  have hi:i<m.length:=by omega
  have ih:=qZz hk h m hm hmk c (i+1) n (by omega) (by omega)
  show Bf k _ m.length i B.1 B.2.1 B.2.2.1 B.2.2.2 0 0 0 0 0 0 0 0 0 0 0 0 0 0 m=_
  unfold Bf
  have eK:=qY0 hk h m hm (m.getD i pd) m.length i m.length 0 k (by omega) hmk
  have e0:((0:Nat):Int)=0:=rfl
  rw[e0,List.drop_zero] at eK
  simp only[qL,qJ,aF,ah hi]
  rw[eK]
  rw[yPm k B m hi]
  cases nS k B (m.getD i (0,(0,(0,(0,(0,(0,0))))))) m with
  |none=>
   simp[qM hi (by grind)]
   exact ih
  |some x=>rfl
def PN (x:Option (zC×zC×BT)):Int×Int×Int×Int×Int×Int×Int×Int×Int×Int×Int×Int×Int×Int×(List (Int×Int×Int))×EQ×AC×EQ×Bool:=match x with
 |some (p,q,C)=>(p.1,p.2.1,p.2.2.1,p.2.2.2.1,p.2.2.2.2.1,p.2.2.2.2.2.1,p.2.2.2.2.2.2,q.1,q.2.1,q.2.2.1,q.2.2.2.1,q.2.2.2.2.1,q.2.2.2.2.2.1,q.2.2.2.2.2.2,C.1,C.2.1,C.2.2.1,C.2.2.2,true)
 |none=>(0,0,0,0,0,0,0,0,0,0,0,0,0,0,[],[],[],[],false)
theorem vE9 {k}(hk:100<k){B}(h:yB B){l}(cn:l.length<k)(hl:yZ l)(hd:qS l) t:Js k B.1 B.2.1 B.2.2.1 B.2.2.2 l t=some (PN (eE k B l t)):=by
 unfold Js eE
 rw[qQ7 cn hl hd]
 have Jp:=qUg l t
 unfold yZ at hl
 have:=qZz hk h (wN l t) (by omega) (by omega) (wN l t).length 0 k (by omega) (by omega)
 have e:((0:Nat):Int)=0:=rfl
 rw[e,List.drop_zero] at this
 simp
 rw[this]
 cases sv k B (wN l t) (wN l t) with
 |none=>rfl
 |some x=>rfl
theorem yZ3 {k}(hk:3≤k) t (l:List zC)(hl:l.length≤1000)(pb:l.length<k)(C:BT)(r:List zC)(hr:r.length≤900)(p q:zC):
  sw k k t l 2 0 C.1 C.2.1 C.2.2.1 C.2.2.2 r [p,q]=some (t,u6 l p q,C.1,C.2.1,C.2.2.1,C.2.2.2,r++[p,q]):=by
 obtain⟨n,rfl⟩:∃n,k=n+3:=⟨k-3,by omega⟩
 have h1:=uU pb (show yZ l from hl) p.1
 have xF:(jY l p.1).length≤l.length:=by
  unfold jY mz
  cases hp:wV l p.1 with
  |none=>simp
  |some x=>exact List.Sublist.length_le (pB l x)
 have h2:=uU (k:=n+3) (l:=jY l p.1) (by omega) (show(jY l p.1).length≤1000 by omega) q.1
 have e1:zU (r.length+1) 56=true:=sm (by omega)
 have e2:zU ((r++[p]).length+1) 56=true:=sm (by grind)
 show sA (n+3) (sw (n+3) (n+2)) t l 2 0 C.1 C.2.1 C.2.2.1 C.2.2.2 r [p,q]=_
 unfold sA
 have g0:[p,q].getD (Int.toNat 0) (0,(0,(0,(0,(0,(0,0))))))=p:=rfl
 have b0:zD 0 [p,q].length=true:=rfl
 have d0:decide ((0:Int)<2)=true:=rfl
 have w0:zA (0+1)=1:=by decide
 rw[d0,b0,g0,h1]
 simp[e1]
 show sA (n+3) (sw (n+3) (n+1)) t (jY l p.1) 2 1 C.1 C.2.1 C.2.2.1 C.2.2.2 (r++[p]) [p,q]=_
 unfold sA
 have g1:[p,q].getD (Int.toNat 1) (0,(0,(0,(0,(0,(0,0))))))=q:=rfl
 have b1:zD 1 [p,q].length=true:=rfl
 have d1:decide ((1:Int)<2)=true:=rfl
 have w1:zA (1+1)=2:=by decide
 rw[d1,b1,g1,h2]
 simp only[e2]
 show sA (n+3) (sw (n+3) n) t (u6 l p q) 2 2 C.1 C.2.1 C.2.2.1 C.2.2.2 (r++[p]++[q]) [p,q]=_
 unfold sA
 simp
theorem qS2 {k}(hk:100<k) t:∀n B (l r:List zC),yB B→qS l→l.length≤100→l.length<n→r.length+l.length≤900→
  ∃(C:BT) (m done:List zC),Fp k n t l B.1 B.2.1 B.2.2.1 B.2.2.2 r=some (m,C.1,C.2.1,C.2.2.1,C.2.2.2,r++done)∧jW k t B l done C m∧yB C∧C.1.length=B.1.length∧List.Sublist m l
 |n+1,B,l,r,hb,hd,hl,hn,hr=>by
  have h1:=vE9 hk hb (l:=l) (by omega) (by show l.length≤1000;omega) hd t
  cases hx:eE k B l t with
  |none=>
   rw[hx] at h1
   refine⟨B,l,[],?_,.stop hx,hb,rfl,by simp⟩
   show Bg k _ t l B.1 B.2.1 B.2.2.1 B.2.2.2 r=_
   unfold Bg
   rw[h1]
   simp only[aj,PN,dZ,an,List.append_nil]
  |some x=>
   obtain⟨p,q,C⟩:=x
   obtain⟨hp,hq,nT,hg⟩:=Fk hx
   obtain⟨xF,nk⟩:=Fl hd hp hq nT
   obtain⟨ux,bU⟩:=su hk hb (by simp) hg
   obtain⟨D,m,done,g1,g3,g4,g5,g6⟩:=qS2 hk t n C (u6 l p q) (r++[p,q]) ux (List.Pairwise.sublist nk hd) (by omega) (by omega) (by grind)
   refine⟨D,m,p::q::done,?_,.step hx g3,g4,by grind,g6.trans nk⟩
   show Bg k _ t l B.1 B.2.1 B.2.2.1 B.2.2.2 r=_
   unfold Bg
   rw[h1]
   have hL:=yZ3 (k:=k) (by omega) t l (by omega) (by omega) C r (by omega) p q
   simp only[PN,ao]
   simp_all
theorem yV9 {k}(hk:200≤k){B}(hb:yB B){l}(hd:qS l)(hl:l.length≤100) t:
  ∃(C:BT) (m done:List zC),Jt k B.1 B.2.1 B.2.2.1 B.2.2.2 l t=some (C.1,C.2.1,C.2.2.1,C.2.2.2,m,done)∧jW k t B l done C m∧yB C∧C.1.length=B.1.length∧List.Sublist m l:=by
 obtain⟨C,m,done,h1,h3⟩:=qS2 (show 100<k by omega) t k B l [] hb hd hl (by omega) (by grind)
 refine⟨C,m,done,?_,h3⟩
 unfold Jt
 simp_all
def jJ (l:List zC)(f:Int):Nat:=(l.filter (jD f)).length
def sB (l:List zC)(many:AC)(i:Nat):Bool:=
 (decide ((l.getD i pd).2.1≥0)&&decide ((l.getD i pd).2.1<(many.length:Int)))&&decide (((jJ (l.take i) (l.getD i pd).2.1:Nat):Int)<many.getD (l.getD i pd).2.1.toNat 0)
def lD (l:List zC)(many:AC):Nat→List zC
 |0=>[]
 |i+1=>lD l many i++(bif sB l many i then[l.getD i pd] else[])
def wC (l:List zC)(many:AC):List zC:=lD l many l.length
theorem yA7 l many:∀N,N≤l.length→List.Sublist (lD l many N) (l.take N)
 |0,_=>by simp[lD]
 |N+1,h=>by
  rw[←jM l N pd h]
  apply List.Sublist.append (yA7 l many N (by omega))
  grind
theorem Bh l many:List.Sublist (wC l many) l:=by
 have:=yA7 l many l.length (by simp)
 rwa [List.take_length] at this
def pG (v w:AC):Prop:=v.length=w.length∧∀i,i<w.length→v.getD i 0≤w.getD i 0
def eW (B:BT)(l:List zC):AC:=uO B.1 B.2.1 B.2.2.1 B.2.2.2 l
def dt (s:AC)(m:AC):AC:=s.foldl (fun m i=>m.set i.toNat (m.getD i.toNat 0-1)) m
theorem u9:∀s m,(dt s m).length=m.length
 |[],_=>rfl
 |i::s,m=>by
  show(dt s (m.set i.toNat (m.getD i.toNat 0-1))).length=_
  rw[u9 s,List.length_set]
theorem yCo:∀(s:List Nat) m,s.Nodup→(∀i∈s,i<m.length)→∀j,(dt (s.map fun(x:Nat)=>(x:Int)) m).getD j 0=m.getD j 0-(if j∈s then 1 else 0)
 |[],m,_,_,j=>by simp[dt]
 |i::s,m,hs,hi,j=>by
  show(dt (s.map fun(x:Nat)=>(x:Int)) (m.set ((i:Int)).toNat (m.getD ((i:Int)).toNat 0-1))).getD j 0=_
  rw[aF,yCo s _ (by grind) (by grind),jG]
  grind
def pH (B:BT)(l:List zC)(i:Nat):Bool:=j4 B.1 B.2.1 B.2.2.1 B.2.2.2 l i
theorem yHg B l {m}(hm:m.length=B.1.length) j:(dt (eW B l) m).getD j 0=m.getD j 0-(if j<B.1.length∧pH B l j=true then 1 else 0):=by
 have:=yCo ((List.range B.1.length).filter fun i=>pH B l i) m (List.Nodup.sublist List.filter_sublist (by grind)) (by grind) j
 unfold eW uO
 rw[show(fun i=>j4 B.1 B.2.1 B.2.2.1 B.2.2.2 l i)=fun i=>pH B l i from rfl,this]
 simp
theorem ySb {B l}:eW B l=[]↔∀j,j<B.1.length→pH B l j=false:=by
 unfold eW uO
 rw[List.map_eq_nil_iff,List.filter_eq_nil_iff]
 constructor
 ·intro h j hj
  have:=h j (by grind)
  simpa[pH] using this
 ·intro h i hi
  have:=h i (by grind)
  simpa[pH] using this
theorem yMp {l many p}:∀{N},p∈lD l many N→∃i,i<N∧l.getD i pd=p∧sB l many i=true
 |N+1,h=>by
  unfold lD at h
  rw[List.mem_append] at h
  rcases h with h|h
  ·obtain⟨i,h1,h2⟩:=yMp h
   grind
  grind
theorem yW3 {B l}(hl:∀q∈l,yP B.1.length q){m j}(h:pH B (wC l m) j=true):1≤m.getD j 0:=by
 unfold pH j4 at h
 rw[bI,Bool.not_eq_true'] at h
 have hn:=yH1 (n:=B.1.length) (l:=wC l m) (fun q hq=>hl q ((Bh l m).subset hq)) j
 rw[h.1] at hn
 obtain⟨x,hx,he⟩:=I4.1 hn
 obtain⟨i,h1,h2,h3⟩:=yMp (jR (d:=pd) hx)
 unfold sB at h3
 have h2':(l.getD i pd)=(wC l m).getD x pd:=h2
 grind
inductive j6 (B:BT) (l:List zC):AC→AC→Nat→Prop
 |stop {m:AC} (h:eW B (wC l m)=[]):j6 B l m m 0
 |step {m f:AC} {n:Nat} (h:eW B (wC l m)≠[]) (h':j6 B l (dt (eW B (wC l m)) m) f n):j6 B l m f (n+1)
theorem yQz {B l m}(hm:m.length=B.1.length):pG (dt (eW B l) m) m:=by
 refine⟨u9 _ _,fun i hi=>?_⟩
 rw[yHg B l hm]
 omega
theorem pG.trans {u v w}(h:pG u v)(h':pG v w):pG u w:=⟨h.1.trans h'.1,fun i hi=>Int.le_trans (h.2 i (by have:=h'.1;omega)) (h'.2 i hi)⟩
theorem pG.refl v:pG v v:=⟨rfl,by simp⟩
theorem j6.le {B l m f n}(h:j6 B l m f n)(hm:m.length=B.1.length):pG f m:=by
 induction h with
 |stop _=>exact pG.refl _
 |step _ _ ih=>exact(ih ((u9 _ _).trans hm)).trans (yQz hm)
theorem j6.final {B l m f n}(h:j6 B l m f n):eW B (wC l f)=[]:=by
 induction h with
 |stop h=>exact h
 |step _ _ ih=>exact ih
def nU (m:AC):Prop:=∀i,0≤m.getD i 0
theorem PO {B l}(hl:∀q∈l,yP B.1.length q){m}(hm:m.length=B.1.length)(h0:nU m):nU (dt (eW B (wC l m)) m):=by
 intro i
 rw[yHg B _ hm]
 have:=h0 i
 split
 ·rename_i c
  have:=yW3 hl c.2
  omega
 ·omega
theorem j6.nonneg {B l}(hl:∀q∈l,yP B.1.length q){m f n}(h:j6 B l m f n)(hm:m.length=B.1.length)(h0:nU m):nU f:=by
 induction h with
 |stop _=>exact h0
 |step _ _ ih=>exact ih ((u9 _ _).trans hm) (PO hl hm h0)
def j7 (m:AC):Int:=zL (fun x=>x) m
theorem yAi:∀m i x,i<m.length→j7 (m.set i x)=j7 m-m.getD i 0+x
 |y::m,0,x,_=>by
  show x+j7 m=y+j7 m-y+x
  omega
 |y::m,i+1,x,h=>by
  show y+j7 (m.set i x)=y+j7 m-m.getD i 0+x
  rw[yAi m i x (by simp_all)]
  omega
theorem yKc:∀s m,(∀i∈s,0≤i∧i<(m.length:Int))→j7 (dt s m)=j7 m-s.length
 |[],m,_=>by simp[dt]
 |i::s,m,h=>by
  have hi:=h i (by simp)
  show j7 (dt s (m.set i.toNat (m.getD i.toNat 0-1)))=_
  rw[yKc s _ (by grind),yAi _ _ _ (by omega)]
  grind
theorem qSv {B l}:∀i∈eW B l,0≤i∧i<(B.1.length:Int):=by
 intro i hi
 obtain⟨x,hx,rfl⟩:=List.mem_map.1 hi
 simp_all
theorem yC2:∀{m},nU m→0≤j7 m
 |[],_=>Int.le_refl 0
 |x::m,h=>by
  have h1:0≤x:=h 0
  have h2:=yC2 (m:=m) (fun i=>h (i+1))
  show 0≤x+j7 m
  omega
theorem yAw {B l}(hl:∀q∈l,yP B.1.length q):∀(N:Nat) m,m.length=B.1.length→nU m→j7 m≤N→∃f n,j6 B l m f n∧n≤N
 |N,m,hm,h0,hN=>by
  by_cases c:eW B (wC l m)=[]
  ·exact⟨m,0,.stop c,by simp⟩
  ·have ht:=yKc (eW B (wC l m)) m (by rw[hm];exact qSv)
   have hp:0<(eW B (wC l m)).length:=by grind
   have h1:=PO hl hm h0
   have h2:=yC2 h1
   obtain⟨N,rfl⟩:∃x,N=x+1:=⟨N-1,by omega⟩
   obtain⟨f,n,h3,h4⟩:=yAw hl N _ ((u9 _ _).trans hm) h1 (by omega)
   exact⟨f,n+1,.step c h3,by omega⟩
theorem qYu l many:∀N,(lD l many N).length≤N
 |0=>Nat.le_refl _
 |N+1=>by
  unfold lD
  have:=qYu l many N
  grind
theorem vFw (l:List zC) i (hi:i<l.length) f:jJ (l.take (i+1)) f=jJ (l.take i) f+(if(l.getD i pd).2.1=f then 1 else 0):=by
 unfold jJ
 rw[E2 _ _ _ pd hi,List.length_append]
 unfold jD
 grind
def gF (l:List zC)(n:Nat):AC:=(List.range n).map fun(i:Nat)=>((jJ l i:Nat):Int)
theorem vCy l i:gF l (i+1)=gF l i++[((jJ l i:Nat):Int)]:=by
 unfold gF
 rw[List.range_succ,List.map_append];rfl
theorem Bi l n:(gF l n).length=n:=by
 unfold gF;simp
theorem PQ:∀s m i,m.getD i 0-s.length≤(dt s m).getD i 0∧(dt s m).getD i 0≤m.getD i 0
 |[],m,i=>by simp[dt]
 |x::s,m,i=>by
  have h:=PQ s (m.set x.toNat (m.getD x.toNat 0-1)) i
  rw[jG] at h
  have e:dt (x::s) m=dt s (m.set x.toNat (m.getD x.toNat 0-1)):=rfl
  rw[e,List.length_cons]
  by_cases c:x.toNat=i∧x.toNat<m.length
  ·grind
  omega
theorem vKq (s m:AC) i (hi:i<s.length):dt (s.take (i+1)) m=(dt (s.take i) m).set (s.getD i 0).toNat ((dt (s.take i) m).getD (s.getD i 0).toNat 0-1):=by
 unfold dt
 rw[←jM s i 0 hi,List.foldl_append]
 rfl
theorem qZj g:∀n,zL (fun x=>x) ((List.range n).map g)=zW g n
 |0=>rfl
 |n+1=>by
  rw[List.range_succ,List.map_append,ee,qZj g n]
  show zW g n+(g n+0)=zW g n+g n
  omega
theorem vEz l f:((jJ l f:Nat):Int)=zL (fun p:zC=>if p.2.1=f then 1 else 0) l:=by
 induction l with
 |nil=>rfl
 |cons p l ih=>
  unfold jJ jD at*
  show _=(if p.2.1=f then(1:Int) else 0)+zL _ l
  grind
theorem yTa l n:j7 (gF l n)≤l.length:=by
 unfold j7 gF
 rw[qZj (fun i:Nat=>((jJ l i:Nat):Int)) n,jy (h:=fun j=>zL (fun p:zC=>if p.2.1=(j:Int) then 1 else 0) l) (fun j _=>vEz l j),Ib]
 have := (uB (A := 1) (l := l) (g := fun p : zC => zW (fun j => if p.2.1 = (j : Int) then 1 else 0) n) (fun p _=>by
  by_cases c:0≤p.2.1
  ·obtain⟨f,hf⟩:∃f:Nat,p.2.1=f:=⟨p.2.1.toNat,by omega⟩
   have e:zW (fun j=>if p.2.1=(j:Int) then(1:Int) else 0) n=zW (fun j=>if j=f then 1 else 0) n:=by grind
   rw[e,uD]
   omega
  ·have e:zW (fun j=>if p.2.1=(j:Int) then(1:Int) else 0) n=zW (fun _=>0) n:=by grind
   rw[e,Ia]
   omega)).2
 omega
theorem yCx l n i:(gF l n).getD i 0=if i<n then((jJ l i:Nat):Int) else 0:=by
 unfold gF
 grind
theorem vHo l f:jJ l f≤l.length:=List.length_filter_le _ _
theorem PR {l}(hl:l.length≤1000) n:nU (gF l n)∧∀i,(gF l n).getD i 0≤1000:=by
 refine⟨fun i=>?_,fun i=>?_⟩
 ·rw[yCx];omega
 ·rw[yCx]
  have:=vHo l i
  omega
theorem PT {B:BT}{l}(hl:∀q∈l,yP B.1.length q)(cy:l.length≤64) m:wF B.1.length (wC l m):=
 ⟨fun p hp=>hl p ((Bh l m).subset hp),by have:=(Bh l m).length_le;omega⟩
def wG (l:List zC)(t:Int):List zC:=l.filter (my t)
theorem Ju {n l t}(h:∀q∈l,yP n q):∀q∈wG l t,yP n q:=fun q hq=>h q (List.mem_filter.1 hq).1
theorem Fq l t:(wG l t).length≤l.length:=List.length_filter_le _ _
theorem qYl {B}(hb:yB B){l}(hl:∀q∈l,yP B.1.length q)(cy:l.length≤64) t:
  ∃f n,j6 B (wG l t) (gF (wG l t) B.1.length) f n∧n≤(wG l t).length:=by
 have h1:=PR (l:=wG l t) (by have:=Fq l t;omega) B.1.length
 have h2:=yTa (wG l t) B.1.length
 exact yAw (Ju hl) (wG l t).length _ (Bi _ _) h1.1 (by omega)
def nV (l:List zC)(hs:List zC):List zC:=hs.foldl (fun l p=>jY l p.1) l
theorem vH9 l id:(jY l id).length≤l.length∧List.Sublist (jY l id) l:=by
 unfold jY mz
 cases wV l id with
 |none=>simp
 |some x=>exact⟨(pB l x).length_le,pB l x⟩
theorem PU:∀hs l,(nV l hs).length≤l.length∧List.Sublist (nV l hs) l
 |[],l=>⟨Nat.le_refl _,List.Sublist.refl _⟩
 |p::hs,l=>by
  obtain⟨h1,h2⟩:=PU hs (jY l p.1)
  obtain⟨h3,h4⟩:=vH9 l p.1
  exact⟨Nat.le_trans h1 h3,h2.trans h4⟩
theorem yWe (l hs:List zC) i (hi:i<hs.length):nV l (hs.take (i+1))=jY (nV l (hs.take i)) (hs.getD i pd).1:=by
 unfold nV
 rw[←jM hs i pd hi,List.foldl_append]
 rfl
def Jv (B:BT)(l hs:List zC)(r:List qT×EQ×AC×EQ×Int):(List (Int×Int×Int))×EQ×AC×EQ×(List zC)×(List zC):=
 bif !(decide (r.2.2.2.2=0)) then(B.1,B.2.1,B.2.2.1,B.2.2.2,l,[]) else(r.1,r.2.1,r.2.2.1,r.2.2.2.1,nV l hs,hs)
theorem PV {k:Nat}{l:List zC}(hk:l.length<k)(hl:yZ l){many:AC}(h0:nU many)(hm:∀i,many.getD i 0≤1000)(Jp:many.length≤1000):Bj k l many=some (wC l many):=by
 unfold yZ at hl
 unfold Bj PW PX
 rw[qY (by omega) (by omega)]
 simp only[an,aj]
 obtain ⟨s', h1, h2, h3, h4⟩ := vU (L := fun n i (s : AC × List zC) => Bk k n l l.length i s.1 s.2) (N := l.length) (fun s => s) (fun i s => s.1.length = many.length ∧ (∀ f : Nat, f < many.length → s.1.getD f 0 = if many.getD f 0 ≤ (jJ (l.take i) f : Nat) then 0 else many.getD f 0 - (jJ (l.take i) f : Nat)) ∧ s.2 = lD l many i) (fun n s _=>by
  show Bl k _ l l.length l.length s.1 s.2=_
  unfold Bl
  simp only [qJ, ak (Nat.lt_irrefl _), ao]) (fun n i s hi hs=>by
  obtain⟨s1,s2,s3⟩:=hs
  have fO:s.2.length≤i:=by rw[s3];exact qYu l many i
  show∃s',Bl k _ l l.length i s.1 s.2=_∧_
  unfold Bl PY
  simp only[qL,qM hi (show l.length<9223372036854775808 by omega),qJ,aF,ah hi,an,sm (show s.2.length≤1000 by omega)]
  have kE:=fun f=>vFw l i hi f
  have DJ:∀f:Nat,f<many.length→(l.getD i pd).2.1≠(f:Int)→(if many.getD f 0≤(jJ (l.take (i+1)) f:Nat) then(0:Int) else many.getD f 0-(jJ (l.take (i+1)) f:Nat))=if many.getD f 0≤(jJ (l.take i) f:Nat) then 0 else many.getD f 0-(jJ (l.take i) f:Nat):=by
   intro f hf aS
   rw[kE f,if_neg aS,Nat.add_zero]
  have skip:sB l many i=false→(∀f:Nat,f<many.length→(l.getD i pd).2.1=(f:Int)→many.getD f 0≤(jJ (l.take i) f:Nat))→(s.1.length=many.length∧(∀f:Nat,f<many.length→s.1.getD f 0=if many.getD f 0≤(jJ (l.take (i+1)) f:Nat) then 0 else many.getD f 0-(jJ (l.take (i+1)) f:Nat))∧s.2=lD l many (i+1)):=by
   intro hh hz
   refine⟨s1,fun f hf=>?_,?_⟩
   ·by_cases c:(l.getD i pd).2.1=(f:Int)
    ·have:=hz f hf c
     rw[s2 f hf,if_pos this,kE f,if_pos c,if_pos (by omega)]
    ·rw[DJ f hf c,s2 f hf]
   ·show _=lD l many i++_
    rw[hh,s3];simp
  cases e1:decide ((l.getD i pd).2.1<0) with
  |true=>
   refine⟨s,rfl,skip ?_ ?_⟩
   ·unfold sB
    rw[bD] at e1
    rw[ak (show¬(l.getD i pd).2.1≥0 by omega)];rfl
   ·intro f hf c
    rw[bD] at e1
    omega
  |false=>
   cases e2:decide ((l.getD i pd).2.1≥((s.1.length:Nat):Int)) with
   |true=>
    refine⟨s,rfl,skip ?_ ?_⟩
    ·unfold sB
     rw[bD] at e2
     rw[ak (show¬(l.getD i pd).2.1<(many.length:Int) by omega),Bool.and_false];rfl
    ·intro f hf c
     rw[bD] at e2
     omega
   |false=>
    rw[decide_eq_false_iff_not] at e1 e2
    obtain⟨f,hf⟩:∃f:Nat,(l.getD i pd).2.1=f:=⟨(l.getD i pd).2.1.toNat,by omega⟩
    have rj:f<many.length:=by omega
    have cR:(l.getD i (0,(0,(0,(0,(0,(0,0))))))).2.1=f:=hf
    simp only[ao,cR,qL,aF,s1,ah rj,an]
    have tS:sB l many i=decide (((jJ (l.take i) f:Nat):Int)<many.getD f 0):=by
     unfold sB
     rw[hf,ah (show(f:Int)≥0 by omega),ah (show(f:Int)<(many.length:Int) by omega),aF]
     rfl
    have iP:=s2 f rj
    cases e3:decide (s.1.getD f 0<1) with
    |true=>
     rw[bD,iP] at e3
     have hle:many.getD f 0≤(jJ (l.take i) f:Nat):=by
      by_cases c:many.getD f 0≤(jJ (l.take i) f:Nat)
      ·exact c
      ·rw[if_neg c] at e3;omega
     refine⟨s,rfl,skip (by rw[tS];exact ak (by omega)) ?_⟩
     intro g hg c
     have:g=f:=by omega
     subst this
     exact hle
    |false=>
     rw[decide_eq_false_iff_not] at e3
     have hgt:¬many.getD f 0≤(jJ (l.take i) f:Nat):=by
      intro c
      rw[iP,if_pos c] at e3
      omega
     rw[if_neg hgt] at iP
     have kI:=hm f
     have hw:zA (s.1.getD f 0-1)=s.1.getD f 0-1:=qH (by omega) (by omega)
     refine⟨(s.1.set f (s.1.getD f 0-1),s.2++[l.getD i pd]),?_,?_,?_,?_⟩
     ·simp only[ao,aj,an,hw]
     ·rw[List.length_set];exact s1
     ·intro g hg
      rw[jG]
      by_cases c:f=g
      ·subst c
       rw[if_pos ⟨rfl,by omega⟩,kE f,if_pos hf,iP]
       by_cases d:many.getD f 0≤((jJ (l.take i) f+1:Nat):Int)
       ·rw[if_pos d];omega
       ·rw[if_neg d];omega
      ·rw[if_neg (fun e=>c e.1),DJ g hg (by omega)]
       exact s2 g hg
     ·show s.2++[l.getD i pd]=lD l many i++_
      rw[tS,ah (by omega),s3];rfl) (s:=(many,[])) hk ⟨rfl,fun f hf=>by
   have:(jJ (l.take 0) f:Nat)=0:=rfl
   have h0f:=h0 f
   rw[this]
   by_cases c:many.getD f 0≤((0:Nat):Int)
   ·rw[if_pos c]
    show many.getD f 0=0
    omega
   ·rw[if_neg c]
    show many.getD f 0=_
    omega,rfl⟩
 have fH:Bk k k l l.length 0 many []=some s':=h1
 rw[fH]
 simp only[aj,h4]
 rfl
theorem qTn {k:Nat}{l:List zC}(hk:l.length<k)(hl:yZ l)(f:Int):Fs k l f=some (l.filter (jD f)):=by
 unfold Fs PZ
 have := yH4 pd (L := fun n i s => Ft k n l l.length i f s) (jD f) id (fun n s=>by
  show Bm k _ l l.length l.length f s=_
  unfold Bm
  simp only [qJ, ak (Nat.lt_irrefl _), ao]; rfl) (fun n i s hi hs=>by
  show Bm k _ l l.length i f s=_
  unfold Bm P0
  unfold yZ at hl
  simp only[qL,qM hi (show l.length<9223372036854775808 by omega),qJ,aF,ah hi,an,sm (show s.length≤1000 by omega)]
  unfold jD
  cases h1:decide ((l.getD i pd).2.1=f)<;>rfl) hk
 rw[this]
 rfl
theorem vB6 {k:Nat}{B:BT}{l:List zC}(hk:l.length<k)(hl:yZ l)(hn:B.1.length<k)(hn':B.1.length≤1000)(s7:Int):
  vd k k s7 B.1.length 0 B.1 B.2.1 B.2.2.1 B.2.2.2 [] l=some (s7,B.1,B.2.1,B.2.2.1,B.2.2.2,gF l B.1.length,l):=by
 obtain ⟨s', h1, h2⟩ := vU (L := fun n i (s : AC) => vd k n s7 B.1.length i B.1 B.2.1 B.2.2.1 B.2.2.2 s l) (N := B.1.length) (fun s => (s7, B.1, B.2.1, B.2.2.1, B.2.2.2, s, l)) (fun i s => s = gF l i) (fun n s _=>by
  show Bn k _ s7 B.1.length B.1.length B.1 B.2.1 B.2.2.1 B.2.2.2 s l=_
  unfold Bn
  simp only [qJ, ak (Nat.lt_irrefl _), ao]) (fun n i s hi hs=>by
  refine⟨_,?_,(vCy l i).symm⟩
  show Bn k _ s7 B.1.length i B.1 B.2.1 B.2.2.1 B.2.2.2 s l=_
  unfold Bn
  have hr:zU (s.length+1) 8=true:=by rw[hs,Bi];exact qY (by omega) (by omega)
  simp only[qJ,ah hi,an,qTn hk hl,aj,hr,qM hi (show B.1.length<9223372036854775808 by omega)]
  rw[hs]
  rfl) (s:=[]) hn rfl
 exact h1.trans (by rw[h2])
theorem yVd {k:Nat}{B:BT}{l:List zC}{s m:AC}(hk:s.length<k)(hs:s.length≤1000)(eK:∀x∈s,0≤x∧x<(m.length:Int))(h0:nU m)(hm:∀i,m.getD i 0≤1000)(s7:Int):
  Bo k k s7 s.length 0 B.1 B.2.1 B.2.2.1 B.2.2.2 m l s=some (s7,B.1,B.2.1,B.2.2.1,B.2.2.2,dt s m,l):=by
 obtain ⟨s', h1, h2⟩ := vU (L := fun n i (r : AC) => Bo k n s7 s.length i B.1 B.2.1 B.2.2.1 B.2.2.2 r l s) (N := s.length) (fun r => (s7, B.1, B.2.1, B.2.2.1, B.2.2.2, r, l)) (fun i r => r = dt (s.take i) m) (fun n r _=>by
  show Bp k _ s7 s.length s.length B.1 B.2.1 B.2.2.1 B.2.2.2 r l s=_
  unfold Bp
  simp only [qJ, ak (Nat.lt_irrefl _), ao]) (fun n i r hi hr=>by
  refine⟨_,?_,(vKq s m i hi).symm⟩
  show Bp k _ s7 s.length i B.1 B.2.1 B.2.2.1 B.2.2.2 r l s=_
  unfold Bp
  obtain⟨b1,b2⟩:=eK _ (jR (d:=0) hi)
  have Jw:r.length=m.length:=by rw[hr,u9]
  have hb:zD (s.getD i 0) r.length=true:=jQ b1 (by omega)
  have Z2:=PQ (s.take i) m (s.getD i 0).toNat
  have HE:=h0 (s.getD i 0).toNat
  have kI:=hm (s.getD i 0).toNat
  have aX:(s.take i).length≤s.length:=List.length_take_le' _ _
  have hw:zA (r.getD (s.getD i 0).toNat 0-1)=r.getD (s.getD i 0).toNat 0-1:=by
   rw[hr]
   exact qH (by omega) (by omega)
  simp only[qJ,qL,aF,ah hi,an,hb,hw,qM hi (show s.length<9223372036854775808 by omega)]
  rw[hr]) (s:=m) hk rfl
 have:=h1.trans (by rw[h2,List.take_length])
 exact this
theorem vLi {k:Nat}(hk:100<k){B:BT}(hb:yB B){l:List zC}(hl:∀q∈l,yP B.1.length q)(cy:l.length≤64){m f:AC}{n:Nat}(h:j6 B l m f n):
  ∀(N:Nat) (s7:Int),m.length=B.1.length→nU m→(∀i,m.getD i 0≤1000)→n<N→0≤s7→s7+n<1000000→
  Fu k N s7 B.1 B.2.1 B.2.2.1 B.2.2.2 m l=some (s7+n+1,f):=by
 induction h with
 |@stop m h=>
  intro N s7 hm h0 h1 hn hs xS
  obtain⟨N,rfl⟩:∃x,N=x+1:=⟨N-1,by omega⟩
  have j8:=hb.n6
  show Bq k _ s7 B.1 B.2.1 B.2.2.1 B.2.2.2 m l=_
  unfold Bq
  have hS:=Pe hk hb (PT hl cy m)
  have lZ:uR k B.1 B.2.1 B.2.2.1 B.2.2.2 (wC l m)=some (eW B (wC l m)):=hS
  rw[PV (by omega) (show yZ l by show l.length≤1000;omega) h0 h1 (by omega)]
  simp only[aj]
  rw[lZ,h]
  simp only[aj]
  have w:zA (s7+1)=s7+1:=qH (by omega) (by omega)
  rw[w]
  simp
 |@step m f n h h' ih=>
  intro N s7 hm h0 h1 hn hs xS
  obtain⟨N,rfl⟩:∃x,N=x+1:=⟨N-1,by omega⟩
  have j8:=hb.n6
  show Bq k _ s7 B.1 B.2.1 B.2.2.1 B.2.2.2 m l=_
  unfold Bq
  have hS:=Pe hk hb (PT hl cy m)
  have lZ:uR k B.1 B.2.1 B.2.2.1 B.2.2.2 (wC l m)=some (eW B (wC l m)):=hS
  rw[PV (by omega) (show yZ l by show l.length≤1000;omega) h0 h1 (by omega)]
  simp only[aj]
  rw[lZ]
  simp only[aj]
  have w:zA (s7+1)=s7+1:=qH (by omega) (by omega)
  have aS : decide ((((eW B (wC l m)).length : Nat) : Int) = 0) = false := ak (by
   have:=List.length_pos_iff.2 h
   omega)
  have fO:(eW B (wC l m)).length≤B.1.length:=by
   unfold eW uO
   rw[List.length_map]
   have:=List.length_filter_le (fun i=>j4 B.1 B.2.1 B.2.2.1 B.2.2.2 (wC l m) i) (List.range B.1.length)
   rwa [List.length_range] at this
  rw[aS,w]
  simp only[ao]
  rw[yVd (by omega) (by omega) (by rw[hm];exact qSv) h0 h1]
  simp only[aj]
  have hd0:=PO hl hm h0
  have:=ih N (s7+1) ((u9 _ _).trans hm) hd0 (fun i=>by have:=(PQ (eW B (wC l m)) m i).2;have:=h1 i;omega) (by omega) (by omega) (by omega)
  rw[this]
  congr 2
  omega
theorem yRg {k:Nat}(hk:100<k){B:BT}(hb:yB B){l:List zC}(hl:∀q∈l,yP B.1.length q)(cy:l.length≤64)(t:Int){f:AC}{n:Nat}(hn:n≤l.length)(h:j6 B (wG l t) (gF (wG l t) B.1.length) f n):
  Jx k B.1 B.2.1 B.2.2.1 B.2.2.2 l t=some (f,((n+1:Nat):Int)):=by
 have j8:=hb.n6
 have hr:=Fq l t
 have h1:=PR (l:=wG l t) (by omega) B.1.length
 unfold Jx
 rw[Ph (by omega) (by show l.length≤1000;omega)]
 simp only[aj]
 have e:vd k k 0 B.1.length 0 B.1 B.2.1 B.2.2.1 B.2.2.2 [] (l.filter (my t))=_:=vB6 (k:=k) (B:=B) (l:=wG l t) (by omega) (by show(wG l t).length≤1000;omega) (by omega) (by omega) 0
 rw[e]
 simp only[aj]
 rw[vLi hk hb (Ju hl) (by omega) h k 0 (Bi _ _) h1.1 h1.2 (by omega) (by omega) (by omega)]
 simp
theorem vI8 {k:Nat}{C:BT}{l hs:List zC}(hl:l.length<k)(fl:l.length≤1000)(hk:hs.length<k)(hh:hs.length≤1000):
  vf k k l hs.length 0 C.1 C.2.1 C.2.2.1 C.2.2.2 hs=some (nV l hs,C.1,C.2.1,C.2.2.1,C.2.2.2,hs):=by
 obtain ⟨s', h1, h2⟩ := vU (L := fun n i (s : List zC) => vf k n s hs.length i C.1 C.2.1 C.2.2.1 C.2.2.2 hs) (N := hs.length) (fun s => (s, C.1, C.2.1, C.2.2.1, C.2.2.2, hs)) (fun i s => s = nV l (hs.take i)) (fun n s _=>by
  show Br k _ s hs.length hs.length C.1 C.2.1 C.2.2.1 C.2.2.2 hs=_
  unfold Br
  simp only [qJ, ak (Nat.lt_irrefl _), ao]) (fun n i s hi hr=>by
  refine⟨_,?_,(yWe l hs i hi).symm⟩
  show Br k _ s hs.length i C.1 C.2.1 C.2.2.1 C.2.2.2 hs=_
  unfold Br
  have fO:=(PU (hs.take i) l).1
  rw[←hr] at fO⊢
  simp only[qJ,qL,aF,ah hi,an,uU (show s.length<k by omega) (show yZ s by show s.length≤1000;omega),aj,qM hi (show hs.length<9223372036854775808 by omega)]
  rfl) (s:=l) hk rfl
 have:=h1.trans (by rw[h2,List.take_length])
 exact this
theorem yHo {k:Nat}(hk:100<k){B:BT}(hb:yB B){l:List zC}(hl:∀q∈l,yP B.1.length q)(cy:l.length≤64)(t:Int){f:AC}{n:Nat}(hn:n≤l.length)(h:j6 B (wG l t) (gF (wG l t) B.1.length) f n)
  {r:List qT×EQ×AC×EQ×Int} (hr:mw k B.1 B.2.1 B.2.2.1 B.2.2.2 (wC (wG l t) f)=some r):Bt k B.1 B.2.1 B.2.2.1 B.2.2.2 l t=some (Jv B l (wC (wG l t) f) r):=by
 have j8:=hb.n6
 have Jw:=Fq l t
 have h1:=PR (l:=wG l t) (by omega) B.1.length
 have hle:=h.le (Bi _ _)
 have h0:=h.nonneg (Ju hl) (Bi _ _) h1.1
 have rj:f.length=B.1.length:=hle.1.trans (Bi _ _)
 have hf:∀i,f.getD i 0≤1000:=fun i=>by
  by_cases c:i<(gF (wG l t) B.1.length).length
  ·have:=hle.2 i c
   have:=h1.2 i
   omega
  ·rw[List.getD_eq_getElem?_getD,List.getElem?_eq_none (by have:=hle.1;omega)]
   show(0:Int)≤1000
   omega
 have hhl:=(Bh (wG l t) f).length_le
 unfold Bt
 rw[yRg hk hb hl cy t hn h,Ph (by omega) (by show l.length≤1000;omega)]
 simp only[aj]
 have e:Bj k (l.filter (my t)) f=_:=PV (k:=k) (l:=wG l t) (by omega) (by show(wG l t).length≤1000;omega) h0 hf (by omega)
 rw[e]
 simp only[aj]
 rw[hr]
 simp only[aj]
 unfold Jv
 cases decide (r.2.2.2.2=0) with
 |false=>rfl
 |true=>
  simp only[aU,ao]
  have e2:vf k k l ((List.length (wC (wG l t) f):Nat):Int) 0 r.1 r.2.1 r.2.2.1 r.2.2.2.1 (wC (wG l t) f)=_:=vI8 (C:=(r.1,r.2.1,r.2.2.1,r.2.2.2.1)) (by omega) (by omega) (by omega) (by omega)
  rw[e2]
  rfl
theorem vAr {l:List zC}{x:Nat}(hx:x<l.length):List.Perm (l.getD x pd::vE l x) l:=by
 unfold vE
 have h:List.Perm (l.getD x pd::(l.take x++l.drop (x+1))) (l.take x++l.getD x pd::l.drop (x+1)):=List.perm_middle.symm
 have e:=E4 l x pd hx
 rw[←e] at h
 exact h
theorem Jy {l:List zC}(hd:qS l){p:zC}(hp:p∈l):List.Perm (p::jY l p.1) l:=by
 obtain⟨x,hx⟩:=I8 hp
 have h:=lB hx
 have e:l.getD x pd=p:=hd.eq_of (jR h.1) hp h.2
 unfold jY mz
 rw[hx]
 have:=vAr h.1
 rw[e] at this
 exact this
theorem ft.perm {k:Nat}{t:Int}{B C:BT}{l done m:List zC}(h:ft k t B l done C m)(hd:qS l):List.Perm (done++m) l:=by
 induction h with
 |stop _=>exact List.Perm.refl _
 |step h _ ih=>
  have hp:=Fh (Bb h).1
  exact((ih (List.Pairwise.sublist (uZ hp).2 hd)).cons _).trans (Jy hd hp)
theorem jW.perm {k:Nat}{t:Int}{B C:BT}{l done m:List zC}(h:jW k t B l done C m)(hd:qS l):List.Perm (done++m) l:=by
 induction h with
 |stop _=>exact List.Perm.refl _
 |step h _ ih=>
  obtain⟨hp,hq,nT,_⟩:=Fk h
  obtain⟨h1,h2⟩:=Fl hd hp hq nT
  have rr:qS (jY _ _):=List.Pairwise.sublist (uZ hp).2 hd
  have lq:=PM hp hq (yEc hd hp hq nT)
  exact(((ih (List.Pairwise.sublist h2 hd)).cons _).cons _).trans (((Jy rr lq).cons _).trans (Jy hd hp))
theorem ft.final {k:Nat}{t:Int}{B C:BT}{l done m:List zC}(h:ft k t B l done C m):dr k C (wN m t)=none:=by
 induction h with
 |stop h=>exact h
 |step _ _ ih=>exact ih
theorem jW.final {k:Nat}{t:Int}{B C:BT}{l done m:List zC}(h:jW k t B l done C m):eE k C m t=none:=by
 induction h with
 |stop h=>exact h
 |step _ _ ih=>exact ih
theorem qS.perm {l m:List zC}(h:qS l)(hp:List.Perm m l):qS m:=(List.Perm.pairwise_iff (R:=fun p q:zC=>p.1≠q.1) (fun G5=>Ne.symm G5) hp.symm).1 h
inductive kM (k:Nat) (t:Int):BT→List zC→List zC→BT→List zC→Prop
 |stop {B C:BT} {l m d:List zC} (h1:ft k t B l d C m) (h2:eE k C m t=none):kM k t B l d C m
 |step {B C D E:BT} {l m n o d e f:List zC} (h1:ft k t B l d C m) (h2:jW k t C m e D n) (ne:e≠[]) (h':kM k t D n f E o):kM k t B l (d++e++f) E o
theorem kM.perm {k:Nat}{t:Int}{B C:BT}{l done m:List zC}(h:kM k t B l done C m)(hd:qS l):List.Perm (done++m) l:=by
 induction h with
 |stop h1 _=>exact h1.perm hd
 |@step B C D E l m n o d e f h1 h2 ne h' ih=>
  have p1:=h1.perm hd
  have hd1:=hd.perm p1
  have hm:qS m:=(List.pairwise_append.1 hd1).2.1
  have p2:=h2.perm hm
  have hn:qS n:=(List.pairwise_append.1 (hm.perm p2)).2.1
  have p3:=ih hn
  have e1:d++e++f++o=d++(e++(f++o)):=by simp
  rw[e1]
  exact((p3.append_left e).append_left d).trans ((p2.append_left d).trans p1)
theorem kM.final {k:Nat}{t:Int}{B C:BT}{l done m:List zC}(h:kM k t B l done C m):dr k C (wN m t)=none∧eE k C m t=none:=by
 induction h with
 |stop h1 h2=>exact⟨h1.final,h2⟩
 |step _ _ _ _ ih=>exact ih
theorem ft.none {k:Nat}{t:Int}{B C:BT}{l done m:List zC}(h:ft k t B l done C m)(hn:dr k B (wN l t)=none):done=[]∧C=B∧m=l:=by
 cases h with
 |stop _=>exact⟨rfl,rfl,rfl⟩
 |step h _=>rw[hn] at h;cases h
theorem jW.none {k:Nat}{t:Int}{B C:BT}{l done m:List zC}(h:jW k t B l done C m)(hn:eE k B l t=none):done=[]∧C=B∧m=l:=by
 cases h with
 |stop _=>exact⟨rfl,rfl,rfl⟩
 |step h _=>rw[hn] at h;cases h
theorem jW.nil {k:Nat}{t:Int}{B C:BT}{l m:List zC}(h:jW k t B l [] C m):eE k B l t=Option.none∧C=B∧m=l:=by
 cases h with
 |stop h=>exact⟨h,rfl,rfl⟩
theorem kM.none {k:Nat}{t:Int}{B C:BT}{l done m:List zC}(h:kM k t B l done C m)(h1:dr k B (wN l t)=Option.none)(h2:eE k B l t=Option.none):done=[]∧C=B∧m=l:=by
 cases h with
 |stop g1 _=>exact g1.none h1
 |step g1 g2 ne _=>
  obtain⟨rfl,rfl,rfl⟩:=g1.none h1
  obtain⟨rfl,_,_⟩:=g2.none h2
  exact absurd rfl ne
theorem yIp {k:Nat}(hk:200≤k)(t:Int):∀(n:Nat) (B:BT) (l r:List zC),yB B→qS l→l.length≤100→l.length<n→r.length+l.length≤900→
  ∃(C:BT) (m done:List zC),Fv k n t l B.1 B.2.1 B.2.2.1 B.2.2.2 r=some (m,C.1,C.2.1,C.2.2.1,C.2.2.2,r++done)∧kM k t B l done C m∧yB C∧C.1.length=B.1.length∧List.Sublist m l
 |0,_,_,_,_,_,_,h,_=>absurd h (Nat.not_lt_zero _)
 |n+1,B,l,r,hb,hd,hl,hn,hr=>by
  obtain⟨C,m,d,f1,f2,f3,f4,f5⟩:=yOs hk hb hd hl t
  have p1:=f2.perm hd
  have l1:=p1.length_eq
  rw[List.length_append] at l1
  have hm:qS m:=List.Pairwise.sublist f5 hd
  obtain⟨D,o,e,g1,g2,g3,g4,g5⟩:=yV9 hk f3 hm (by omega) t
  have p2:=g2.perm hm
  have l2:=p2.length_eq
  rw[List.length_append] at l2
  have r1:zU (r.length+d.length) 56=true:=qY (by omega) (by omega)
  have r2:zU ((r++d).length+e.length) 56=true:=qY (by rw[List.length_append];omega) (by rw[List.length_append];omega)
  show∃C' m' aab,Jz k _ t l B.1 B.2.1 B.2.2.1 B.2.2.2 r=_∧_
  unfold Jz
  rw[f1]
  simp only[aj]
  rw[g1]
  simp only[aj,r1,r2,an]
  cases e with
  |nil=>
   obtain⟨h1,h2,h3⟩:=g2.nil
   subst h2;subst h3
   refine⟨D,o,d,?_,.stop f2 h1,f3,f4,f5⟩
   simp
  |cons p e=>
   have aX:o.length+(e.length+1)=m.length:=by simp at l2;omega
   obtain⟨E,q,f,k1,k2,k3,k4,k5⟩:=yIp hk t n D o (r++d++(p::e)) g3 (List.Pairwise.sublist g5 hm) (by omega) (by omega) (by simp;omega)
   refine⟨E,q,d++(p::e)++f,?_,.step f2 g2 (by simp) k2,k3,k4.trans (g4.trans f4),k5.trans (g5.trans f5)⟩
   have e1:decide ((((p::e).length:Nat):Int)=0)=false:=ak (by simp;omega)
   rw[e1]
   simp only[ao]
   rw[k1]
   simp
theorem JA {k:Nat}(hk:200≤k){B:BT}(hb:yB B){l:List zC}(hd:qS l)(hl:l.length≤100)(t:Int):
  ∃(C:BT) (m done:List zC),Fw k B.1 B.2.1 B.2.2.1 B.2.2.2 l t=some (C.1,C.2.1,C.2.2.1,C.2.2.2,m,done)∧kM k t B l done C m∧yB C∧C.1.length=B.1.length∧List.Sublist m l:=by
 obtain⟨C,m,done,h1,h3⟩:=yIp hk t k B l [] hb hd hl (by omega) (by simp;omega)
 refine⟨C,m,done,?_,h3⟩
 unfold Fw
 rw[h1]
 rfl
theorem qY1:∀(hs l:List zC),qS l→qS hs→(∀q∈hs,q∈l)→List.Perm (hs++nV l hs) l
 |[],l,_,_,_=>List.Perm.refl _
 |p::hs,l,hd,hh,eK=>by
  have hp:=eK p (List.mem_cons_self ..)
  obtain⟨h1,h2⟩:=uZ hp
  have hc:=List.pairwise_cons.1 hh
  have:=qY1 hs (jY l p.1) (List.Pairwise.sublist h2 hd) hc.2 (fun q hq=>PM hp (eK q (List.mem_cons_of_mem _ hq)) (fun e=>hc.1 q hq e.symm))
  exact(this.cons p).trans (Jy hd hp)
theorem yVc {k:Nat}(hk:100<k){B:BT}(hb:yB B):mw k B.1 B.2.1 B.2.2.1 B.2.2.2 []=some (B.1,B.2.1,B.2.2.1,B.2.2.2,0):=by
  obtain⟨r,h1,h3⟩:=IU hk hb (l:=[]) (by simp)
  have aC:wF B.1.length []:=⟨fun p hp=>(by cases hp),by simp⟩
  obtain⟨a',p',h4,h5⟩:=h3.1 aC
  have af:pz B.1.length B.1 B.2.2.2 [] B.1 B.2.2.2:={
    al:=rfl
    acct:=fun i hi=>by
      have hc:=hb.acct i hi
      have hr:0≤(B.1.getD i ad).2.2:=by
        have:=hb.nums.res i hi
        exact this.1
      show B.1.getD i ad=((B.1.getD i ad).1+0,(B.1.getD i ad).2.1,wI (B.1.getD i ad).2.2 0)
      have e:wI (B.1.getD i ad).2.2 0=(B.1.getD i ad).2.2:=by
        unfold wI
        split<;>omega
      rw[e,Int.add_zero]
    pl:=hb.pl
    pr:=hb.pr
    cell:=fun i hi j hj=>by show _=_+0-0;omega}
  obtain⟨e1,e2⟩:=h4.same af
  subst e1;subst e2
  rw[IG.2 hb] at h5
  rw[h1,h5]
  rfl
theorem qRg {k:Nat}(hk:200≤k){B:BT}(hb:yB B){l:List zC}(hd:qS l)(hl:∀q∈l,yP B.1.length q)(cy:l.length≤64)(t:Int):
  ∃(C:BT) (m done:List zC),Bt k B.1 B.2.1 B.2.2.1 B.2.2.2 l t=some (C.1,C.2.1,C.2.2.1,C.2.2.2,m,done)∧yB C∧C.1.length=B.1.length∧List.Sublist m l∧List.Perm (done++m) l∧(done=[]→C=B∧m=l):=by
 obtain⟨f,n,h,hn⟩:=qYl hb hl cy t
 have Jw:=Fq l t
 have cQ:=Bh (wG l t) f
 have hhl:=cQ.length_le
 obtain⟨r,h1,h2,h3⟩:=Jn (k:=k) (by omega) hb (l:=wC (wG l t) f) (by omega)
 have hs:=Jm hb h3
 have g1:=yHo (k:=k) (by omega) hb hl cy t (by omega) h h1
 unfold Jv at g1
 cases c:decide (r.2.2.2.2=0) with
 |false=>
  rw[c] at g1
  exact⟨B,l,[],g1,hb,rfl,List.Sublist.refl _,List.Perm.refl _,fun _=>⟨rfl,rfl⟩⟩
 |true=>
  rw[c] at g1
  have fO:List.Sublist (wC (wG l t) f) l:=cQ.trans List.filter_sublist
  have hal:r.1.length=B.1.length:=by
   by_cases c':wF B.1.length (wC (wG l t) f)
   ·obtain⟨a',p',x,e⟩:=h3.1 c'
    cases hi:j3 a' B.2.1 B.2.2.1 p' with
    |false=>rw[hi] at e;subst e;rfl
    |true=>rw[hi] at e;subst e;exact x.al
   ·rw[h3.2 c']
  refine⟨(r.1,r.2.1,r.2.2.1,r.2.2.2.1),nV l (wC (wG l t) f),wC (wG l t) f,g1,hs.2.1,hal,(PU _ _).2,qY1 _ _ hd (List.Pairwise.sublist fO hd) (fun q hq=>fO.subset hq),fun e=>?_⟩
  rw[e] at h1⊢
  rw[yVc (by omega) hb] at h1
  cases h1
  exact⟨rfl,rfl⟩
theorem yC7 {k:Nat}(hk:200≤k){B:BT}(hb:yB B){l:List zC}(hd:qS l)(hl:∀q∈l,yP B.1.length q)(cy:l.length≤64)(t:Int)(all:Bool):
  ∃(C:BT) (m done:List zC),vg k B.1 B.2.1 B.2.2.1 B.2.2.2 l t all=some (C.1,C.2.1,C.2.2.1,C.2.2.2,m,done)∧yB C∧C.1.length=B.1.length∧List.Sublist m l∧List.Perm (done++m) l∧dr k C (wN m t)=none∧eE k C m t=none:=by
 obtain⟨C,m,d,f1,f2,f3,f4,f5⟩:=JA hk hb hd (by omega) t
 have p1:=f2.perm hd
 have l1:=p1.length_eq
 rw[List.length_append] at l1
 unfold vg
 rw[f1]
 simp only[aj]
 cases all with
 |false=>exact⟨C,m,d,rfl,f3,f4,f5,p1,f2.final⟩
 |true=>
  simp only[aU,ao]
  have hm:qS m:=List.Pairwise.sublist f5 hd
  obtain⟨D,n,x,g1,g2,g3,g4,g5,g6⟩:=qRg hk f3 hm (fun q hq=>by rw[f4];exact hl q (f5.subset hq)) (by omega) t
  have l2:=g5.length_eq
  rw[List.length_append] at l2
  rw[g1]
  simp only[aj]
  cases x with
  |nil=>
   obtain⟨rfl,rfl⟩:=g6 rfl
   exact⟨D,n,d,rfl,f3,f4,f5,p1,f2.final⟩
  |cons p x=>
   have e1:decide ((((p::x).length:Nat):Int)=0)=false:=ak (by simp;omega)
   rw[e1]
   simp only[ao]
   have hn:qS n:=List.Pairwise.sublist g4 hm
   obtain⟨E,o,y,k1,k2,k3,k4,k5⟩:=JA hk g2 hn (by omega) t
   have p3:=k2.perm hn
   have l3:=p3.length_eq
   rw[List.length_append] at l3
   have r1:zU (d.length+(p::x).length) 56=true:=qY (by simp at l2⊢;omega) (by simp at l2⊢;omega)
   have r2:zU ((d++(p::x)).length+y.length) 56=true:=qY (by simp at l2⊢;omega) (by simp at l2⊢;omega)
   rw[k1]
   simp only[aj,r1,r2,an]
   refine⟨E,o,d++(p::x)++y,rfl,k3,k4.trans (g3.trans f4),k5.trans (g4.trans f5),?_,k2.final⟩
   have e2:d++(p::x)++y++o=d++((p::x)++(y++o)):=by simp
   rw[e2]
   exact((p3.append_left (p::x)).append_left d).trans ((g5.append_left d).trans p1)
abbrev yT:=Int×Int×Int×Int×Int×Int×Int×Int
instance vh:DecidableEq yT:=@instDecidableEqProd Int (Int×Int×Int×Int×Int×Int×Int) inferInstance (@instDecidableEqProd Int (Int×Int×Int×Int×Int×Int) inferInstance inferInstance)
def jX (to:Int)(p:zC):yT:=(to,18,p.1,p.2.1,p.2.2.1,p.2.2.2.1,0,0)
def nW (p:zC):List yT:=[jX p.2.1 p,jX p.2.2.1 p]
def wO:List zC→List yT
 |[]=>[]
 |p::l=>nW p++wO l
theorem qUx:∀l m,wO (l++m)=wO l++wO m
 |[],_=>rfl
 |p::l,m=>by
  show nW p++wO (l++m)=nW p++wO l++wO m
  rw[qUx l m,List.append_assoc]
theorem JB:∀l,(wO l).length=2*l.length
 |[]=>rfl
 |p::l=>by
  show(nW p++wO l).length=_
  rw[List.length_append,JB l]
  simp[nW]
  omega
theorem yNh (l:List zC) i (hi:i<l.length):wO (l.take (i+1))=wO (l.take i)++nW (l.getD i pd):=by
 rw[←jM l i pd hi,qUx]
 rfl
theorem Fx {n}(h:n≤1000):zU (n+1) 64=true:=qY (by omega) (by omega)
theorem vBc {k}(hk:3≤k)(s8:List zC) s9 av (r:List yT)(hr:r.length≤900) p:
  sC k k s8 s9 av 2 0 r p.1 p.2.1 p.2.2.1 p.2.2.2.1 p.2.2.2.2.1 p.2.2.2.2.2.1 p.2.2.2.2.2.2 [p.2.1,p.2.2.1]=some (s8,s9,av,r++nW p):=by
 obtain⟨n,rfl⟩:∃n,k=n+3:=⟨k-3,by omega⟩
 have e1:zU (r.length+1) 64=true:=Fx (by omega)
 have e2:zU ((r++[jX p.2.1 p]).length+1) 64=true:=Fx (by grind)
 have h1:mD (n+3) p.2.1 18 [p.1,p.2.1,p.2.2.1,p.2.2.2.1]=some (jX p.2.1 p):=rfl
 have h2:mD (n+3) p.2.2.1 18 [p.1,p.2.1,p.2.2.1,p.2.2.2.1]=some (jX p.2.2.1 p):=rfl
 have w0:zA (0+1)=1:=by decide
 have w1:zA (1+1)=2:=by decide
 show sD (n+3) (sC (n+3) (n+2)) s8 s9 av 2 0 r p.1 p.2.1 p.2.2.1 p.2.2.2.1 p.2.2.2.2.1 p.2.2.2.2.2.1 p.2.2.2.2.2.2 [p.2.1,p.2.2.1]=_
 unfold sD
 have g0:[p.2.1,p.2.2.1].getD (Int.toNat 0) 0=p.2.1:=rfl
 have b0:zD 0 [p.2.1,p.2.2.1].length=true:=rfl
 have d0:decide ((0:Int)<2)=true:=rfl
 simp[e1]
 show sD (n+3) (sC (n+3) (n+1)) s8 s9 av 2 1 (r++[jX p.2.1 p]) p.1 p.2.1 p.2.2.1 p.2.2.2.1 p.2.2.2.2.1 p.2.2.2.2.2.1 p.2.2.2.2.2.2 [p.2.1,p.2.2.1]=_
 unfold sD
 have g1:[p.2.1,p.2.2.1].getD (Int.toNat 1) 0=p.2.2.1:=rfl
 have b1:zD 1 [p.2.1,p.2.2.1].length=true:=rfl
 have d1:decide ((1:Int)<2)=true:=rfl
 simp only[an,aj,e2]
 show sD (n+3) (sC (n+3) n) s8 s9 av 2 2 (r++[jX p.2.1 p]++[jX p.2.2.1 p]) p.1 p.2.1 p.2.2.1 p.2.2.2.1 p.2.2.2.2.1 p.2.2.2.2.2.1 p.2.2.2.2.2.2 [p.2.1,p.2.2.1]=_
 unfold sD
 have d2:decide ((2:Int)<2)=false:=rfl
 rw[d2,List.append_assoc]
 rfl
theorem qUc {k}{l:List zC}(hk:l.length+3≤k)(hl:l.length≤400):JC k l=some (wO l):=by
 unfold JC
 obtain ⟨s', h1, h2⟩ := vU (L := fun n i (s : List yT) => Fy k n l l.length i s) (N := l.length) (fun s => s) (fun i s => s = wO (l.take i)) (fun n s _=>by
  show Bu k _ l l.length l.length s=_
  unfold Bu
  simp) (fun n i s hi hs=>by
  refine⟨_,?_,(yNh l i hi).symm⟩
  show Bu k _ l l.length i s=_
  unfold Bu
  have fO:s.length≤900:=by
   rw[hs,JB,List.length_take];omega
  have h2:=vBc (k:=k) (by omega) l l.length i s fO (l.getD i pd)
  simp only[qL,qJ,aF,ah hi,an]
  rw[h2]
  simp[qM hi (by grind)]
  rw[hs]) (s:=[]) (show l.length<k by omega) rfl
 simp_all
end Go.Ab.Gi
